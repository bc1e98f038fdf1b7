/- A part of the proof: a small program logic, plain laws and contracts of functions, each proved by a walk through its operations. No condition but those that stand in each theorem. -/
import Derived.Test.YtohdobhnbhcjhaaA4
set_option linter.unusedSimpArgs false
set_option linter.unusedVariables false
set_option maxRecDepth 20000
namespace Go.X
open Go.Proofs
theorem badSet_ref {c : MCase} {set : List Int} {i : Nat} {n : Nat} (hn : n = c.nodes.length) : (¬ inF (set.getD i default) 0 ((n : Int) - 1) = true ∨ (0 : Int) < i ∧ set.getD i default ≤ set.getD ((i : Int) - 1).toNat default) ↔ badAt c set i := by
  unfold badAt
  rw [inF_iff, inA_one, hn]; exact Iff.rfl
theorem take_snocI {l : List Int} {i : Nat} (hi : i < l.length) : l.take (i + 1) = l.take i ++ [l.getD i default] := by
  rw [List.take_add_one, List.getElem?_eq_getElem hi, List.getD_eq_getElem?_getD, List.getElem?_eq_getElem hi]; rfl
theorem RListed_spec (c : MCase) (vn vv : Value) (hn hv : PHeap) [jn : Arr vn encNode 3 hn c.nodes] [jv : Arr vv encI 1 hv c.vals] (set : List Int) (vs : Value) (hs_ : PHeap) [js : Arr vs encI 1 hs_ set] : Spec Try.prog 99 #[.agg #[vn, vv], vs] [] [hn, hv, hs_] (fun v hs => ∃ v1 k1 B, v = .tuple #[v1, .int .i64 (listedG c set)] ∧ hs = [k1] ∧ OArr v1 encB 1 4 k1 B ∧ (listedG c set = 0 → FreeIs c set B)) := by
  have ln := jn.le
  refine Spec.intro (fn := Try.f99) (N := 56) Try.func99 rfl Try.ntmps99 rfl fun B => ?_
  refine XK.seq ?_
  refine XK.region rfl ?_
  refine XO.box rfl fun b2 => ?_
  refine XO.q (Q.assign rfl) ?_
  refine XO.q (Q.assign rfl) ?_
  refine XO.done ?_
  refine XK.seq ?_
  refine XK.seq ?_
  refine XK.region rfl ?_
  refine XO.q (Q.ldA [_, _] rfl rfl rfl) ?_
  refine XO.call Try.call76 rfl rfl rfl (RCheck_spec c vn vv hn hv) fun v10 s10 R10 => ?_
  obtain ⟨rfl, rfl⟩ := R10
  dsimp only [List.cons_append, List.nil_append]
  refine XO.q (Q.assign rfl) ?_
  refine XO.done ?_
  refine XK.seq ?_
  refine XK.region rfl ?_
  refine XO.q (Q.move rfl) ?_
  refine XO.q (Q.neq rfl rfl) ?_
  refine XO.done ?_
  refine XK.if rfl (fun c0 => ?_) (fun c0 => ?_)
  · have _t0 := True.intro
    refine XK.seq ?_
    refine XK.region rfl ?_
    refine XO.q (Q.move rfl) ?_
    refine XO.q (Q.assign rfl) ?_
    refine XO.q (Q.assign rfl) ?_
    refine XO.done ?_
    refine XK.rt [emp] Try.func99 Try.results99 (.t rfl (.t rfl .n)) ?_
    have hz : listedG c set = mcheck c := by rw [listedG, if_pos c0]
    exact ⟨.slice none 0 0, emp, [], by rw [hz], rfl, OArr.nil (fun _ => rfl), fun h => absurd (hz ▸ h) c0⟩
  · have _t0 := True.intro
    have ok := mcheck_ok (Decidable.of_not_not c0)
    have n1 := ok.n1
    have n2 := ok.n2
    refine XK.skip ?_
    refine XK.seq ?_
    refine XK.region rfl ?_
    refine XO.q (Q.fieldAddr rfl) ?_
    refine XO.q (Q.ld rfl rfl) ?_
    refine XO.len rfl fun l16 => ?_
    refine XO.make encB (false) rfl rfl rfl (by omega) (by omega) (fun _ => rfl) rfl rfl rfl (by dsimp only [encB]; infer_instance) fun v17 h17 O17 => ?_
    refine XO.q (Q.assign rfl) ?_
    refine XO.done ?_
    refine XK.seq ?_
    refine XK.seq ?_
    refine XK.region rfl ?_
    refine XO.q (Q.assign rfl) ?_
    refine XO.done ?_
    refine XK.block ?_
    refine XK.while (X := Nat × PHeap × List Bool) [4, 5, 8, 18, 19, 20, 21, 22, 23, 24, 25, 26, 27, 28, 29, 30, 31, 32, 33, 34, 35, 36, 37, 38, 39, 40, 41, 42, 43, 44, 45, 46, 47, 48, 49, 50, 51, 52, 53, 54] (fun ⟨i, kb, B⟩ => [(8, some (.int .i64 (i : Nat)))]) (fun ⟨i, kb, B⟩ => [kb]) (fun ⟨i, kb, B⟩ => i ≤ set.length ∧ OArr v17 encB 1 4 kb B ∧ B.length = c.nodes.length ∧ listedP c set i = true ∧ ∀ k, k < c.nodes.length → (B.getD k default = true ↔ (k : Int) ∈ set.take i)) (fun ⟨i, kb, B⟩ => set.length - i) (0, h17, _) [h17] rfl ⟨by omega, O17, by simp, rfl, fun k hk => by rw [List.getD_eq_getElem?_getD, List.getElem?_replicate]; split <;> simp⟩ (.c rfl (.base 0 rfl rfl)) ?_
    rintro ⟨i, kb, B⟩ ⟨hi, OB, hbl, hall, hB⟩ ih0
    dsimp only [List.cons_append, List.nil_append] at ih0 ⊢
    refine XK.seq ?_
    refine XK.seq ?_
    refine XK.region rfl ?_
    refine XO.q (Q.move rfl) ?_
    refine XO.q (Q.move rfl) ?_
    refine XO.len rfl fun l20 => ?_
    refine XO.q (Q.lss rfl rfl) ?_
    refine XO.done ?_
    refine XK.if rfl (fun c1 => ?_) (fun c1 => ?_)
    · have _t1 := True.intro
      refine XK.skip ?_
      refine XK.seq ?_
      refine XK.block ?_
      refine XK.seq ?_
      refine XK.seq ?_
      refine XK.drawn [0, 1, 2, 3, 4, 5, 6, 8, 9, 10, 11, 12, 13, 14, 15, 16, 17, 18, 19, 20, 21, 22, 23, 24] [] [] (.q 0 (.q 1 (.q 2 (.q 3 (.q 4 (.q 5 (.q 6 (.br 7 true (.q 8 (.q 9 (.q 10 (.q 11 (.q 12 (.q 13 (.q 14 (.q 15 (.q 16 (.q 17 (.q 18 (.q 19 (.q 20 (.q 21 (.q 22 (.q 23 (.q 24 .done))))))))))))))))) .stop)))))))) Try.mixed rfl (by kernel_rfl) ?_
      refine XT.q rfl rfl (Q.move rfl) ?_
      refine XT.q rfl rfl (Q.move rfl) ?_
      refine XT.ix rfl rfl rfl rfl (by omega) (by omega) fun i26 => ?_
      refine XT.q rfl rfl (Q.ldE rfl (by first | assumption | omega) rfl) ?_
      refine XT.q rfl rfl (Q.move rfl) ?_
      refine XT.q rfl rfl (Q.len rfl) ?_
      refine XT.q rfl rfl (Q.sub rfl rfl ⟨by omega, by omega⟩) ?_
      refine XT.call rfl rfl Try.call95 rfl rfl rfl (in11 _ _ _) (fun v31 s31 R31 => ?_) XT.stop
      obtain ⟨rfl, rfl⟩ := R31
      dsimp only [List.cons_append, List.nil_append]
      refine ⟨inferInstance, ?_⟩
      refine XT.q rfl rfl (Q.not rfl) ?_
      refine XT.q rfl rfl (Q.move rfl) ?_
      refine XT.q rfl rfl (Quiet.guardF rfl rfl fun g34 p34 => Q.move rfl) ?_
      refine XT.q rfl rfl (Quiet.guardF rfl rfl fun g35 p35 => Q.gtr (lzv g35 rfl) rfl) ?_
      refine XT.q rfl rfl (Quiet.guardF rfl rfl fun g36 p36 => Q.move (lzv g36 rfl)) ?_
      refine XT.q rfl rfl (Quiet.guard2 rfl rfl fun g37a g37b => have p37a := bpF g37a; have p37b := bpT g37b; Q.move rfl) ?_
      refine XT.q rfl rfl (Quiet.guard2 rfl rfl fun g38a g38b => have p38a := bpF g38a; have p38b := bpT g38b; Q.move rfl) ?_
      refine XT.q rfl rfl (Quiet.guard2 rfl rfl fun g39a g39b => have p39a := bpF g39a; have p39b := bpT g39b; Q.ix (lzv g39b (lzv g39a rfl)) (lzv g39b (lzv g39a rfl)) (by omega) (by omega)) ?_
      refine XT.q rfl rfl (Quiet.guard2 rfl rfl fun g40a g40b => have p40a := bpF g40a; have p40b := bpT g40b; Q.ldE (lzv g40b (lzv g40a rfl)) (by first | assumption | omega) rfl) ?_
      refine XT.q rfl rfl (Quiet.guard2 rfl rfl fun g41a g41b => have p41a := bpF g41a; have p41b := bpT g41b; Q.move rfl) ?_
      refine XT.q rfl rfl (Quiet.guard2 rfl rfl fun g42a g42b => have p42a := bpF g42a; have p42b := bpT g42b; Q.move rfl) ?_
      refine XT.q rfl rfl (Quiet.guard2 rfl rfl fun g43a g43b => have p43a := bpF g43a; have p43b := bpT g43b; Q.sub (lzv g43b (lzv g43a rfl)) rfl ⟨by omega, by omega⟩) ?_
      refine XT.q rfl rfl (Quiet.guard2 rfl rfl fun g44a g44b => have p44a := bpF g44a; have p44b := bpT g44b; Q.ix (lzv g44b (lzv g44a rfl)) (lzv g44b (lzv g44a rfl)) (by omega) (by omega)) ?_
      refine XT.q rfl rfl (Quiet.guard2 rfl rfl fun g45a g45b => have p45a := bpF g45a; have p45b := bpT g45b; Q.ldE (lzv g45b (lzv g45a rfl)) (by first | assumption | omega) rfl) ?_
      refine XT.q rfl rfl (Quiet.guard2 rfl rfl fun g46a g46b => have p46a := bpF g46a; have p46b := bpT g46b; Q.leq (lzv g46b (lzv g46a rfl)) (lzv g46b (lzv g46a rfl))) ?_
      refine XT.q rfl rfl (Quiet.guardF rfl rfl fun g47 p47 => Q.and (lzv g47 rfl) (fun hp => (lzv hp (lzv g47 rfl)))) ?_
      refine XT.q rfl rfl (Q.or rfl (fun hp => lzv hp rfl)) ?_
      refine XT.done ?_
      refine XK.if rfl (fun c2 => ?_) (fun c2 => ?_)
      · have _t2 := True.intro
        have hbad := (badSet_ref hbl).1 c2
        refine XK.seq ?_
        refine XK.region rfl ?_
        refine XO.q (Q.assign rfl) ?_
        refine XO.q (Q.assign rfl) ?_
        refine XO.done ?_
        refine XK.rt [emp] Try.func99 Try.results99 (.t rfl (.t rfl .n)) ?_
        have hz : listedG c set = 1 := by rw [listedG, if_neg c0, if_neg (by rw [listedP, allTo_false (s := i) (by omega) (by rw [Bool.not_eq_false', decide_eq_true_eq]; exact hbad)]; decide)]
        exact ⟨.slice none 0 0, emp, [], by rw [hz], rfl, OArr.nil (fun _ => rfl), fun h => by rw [hz] at h; cases h⟩
      · have _t2 := True.intro
        have hgood : ¬ badAt c set i := fun h => c2 ((badSet_ref hbl).2 h)
        have hin := inF_iff.1 (Decidable.of_not_not fun h => c2 (.inl h))
        refine XK.skip ?_
        refine XK.region rfl ?_
        refine XO.q (Q.move rfl) ?_
        refine XO.q (Q.move rfl) ?_
        refine XO.q (Q.move rfl) ?_
        refine XO.ix rfl rfl (by omega) (by omega) fun i52 => ?_
        refine XO.q (Q.ldE rfl (by first | assumption | omega) rfl) ?_
        refine XO.ix rfl rfl (by omega) (by omega) fun i54 => ?_
        refine XO.stE true rfl rfl rfl (by assumption) rfl rfl fun h10_6 O10_6 => ?_
        refine XO.done ?_
        refine XK.inBlock ?_
        refine XK.region rfl ?_
        refine XO.q (Q.move rfl) ?_
        refine XO.q (Q.add rfl rfl ⟨by omega, by omega⟩) ?_
        refine XO.q (Q.assign rfl) ?_
        refine XO.done ?_
        exact ih0 (i + 1, h10_6, _) _ _ ⟨by dsimp only; omega, O10_6, by dsimp only; rw [List.length_set]; exact hbl, by dsimp only; rw [listedP, allTo_succ]; rw [listedP] at hall; rw [hall, Bool.true_and, Bool.not_eq_true', decide_eq_false_iff_not]; exact hgood, fun k hk => by
          dsimp only
          rw [take_snocI (by omega), List.mem_append, List.mem_singleton, bset2 (by omega), ← hB k hk]
          by_cases he : (set.getD i default).toNat = k
          · rw [if_pos he]; exact ⟨fun _ => .inr (by omega), fun _ => rfl⟩
          · rw [if_neg he]; exact ⟨.inl, fun h => h.elim id (fun h2 => absurd (by omega) he)⟩⟩ (by first | omega | (dsimp only; omega)) (.c rfl (.base 79 rfl rfl)) inferInstance
    · have _t1 := True.intro
      refine XK.exit rfl ?_
      refine XK.seq ?_
      refine XK.region rfl ?_
      refine XO.q (Q.move rfl) ?_
      refine XO.q (Q.assign rfl) ?_
      refine XO.q (Q.assign rfl) ?_
      refine XO.done ?_
      refine XK.rt [kb] Try.func99 Try.results99 (.t rfl (.t rfl .n)) ?_
      have hin : i = set.length := by omega
      subst hin
      have hz : listedG c set = 0 := by rw [listedG, if_neg c0, if_pos hall]
      exact ⟨v17, kb, B, by rw [hz], rfl, OB, fun _ => ⟨hbl, fun k hk => by rw [hB k hk, List.take_length]⟩⟩
theorem RExplains_spec (c : MCase) (vn vv : Value) (hn hv : PHeap) [jn : Arr vn encNode 3 hn c.nodes] [jv : Arr vv encI 1 hv c.vals] (set : List Int) (vs : Value) (hs_ : PHeap) [js : Arr vs encI 1 hs_ set] : Spec Try.prog 78 #[.agg #[vn, vv], vs] [] [hn, hv, hs_] (fun v hs => v = .tuple #[.bool (explainsG c set).1, .int .i64 (explainsG c set).2] ∧ hs = []) := by
  refine Spec.intro (fn := Try.f78) (N := 28) Try.func78 rfl Try.ntmps78 rfl fun B => ?_
  refine XK.seq ?_
  refine XK.region rfl ?_
  refine XO.box rfl fun b2 => ?_
  refine XO.q (Q.assign rfl) ?_
  refine XO.q (Q.assign rfl) ?_
  refine XO.done ?_
  refine XK.seq ?_
  refine XK.region rfl ?_
  refine XO.q (Q.ldA [_, _] rfl rfl rfl) ?_
  refine XO.q (Q.move rfl) ?_
  refine XO.call Try.call99 rfl rfl rfl (RListed_spec c vn vv hn hv set vs hs_) fun v14 s14 R14 => ?_
  obtain ⟨vb, kb, B, rfl, rfl, OB, fr⟩ := R14
  dsimp only [List.cons_append, List.nil_append]
  refine XO.q (Q.move rfl) ?_
  refine XO.q (Q.extract rfl rfl) ?_
  refine XO.q (Q.extract rfl rfl) ?_
  refine XO.q (Q.assign rfl) ?_
  refine XO.q (Q.assign rfl) ?_
  refine XO.done ?_
  refine XK.seq ?_
  refine XK.seq ?_
  refine XK.region rfl ?_
  refine XO.q (Q.move rfl) ?_
  refine XO.q (Q.neq rfl rfl) ?_
  refine XO.done ?_
  refine XK.if rfl (fun c0 => ?_) (fun c0 => ?_)
  · have _t0 := True.intro
    refine XK.seq ?_
    refine XK.region rfl ?_
    refine XO.q (Q.move rfl) ?_
    refine XO.q (Q.assign rfl) ?_
    refine XO.q (Q.assign rfl) ?_
    refine XO.done ?_
    refine XK.rt [] Try.func78 Try.results78 (.t rfl (.t rfl .n)) ?_
    exact ⟨by rw [explainsG, if_pos c0], rfl⟩
  · have _t0 := True.intro
    have z0 := Decidable.of_not_not c0
    have ok := mcheck_ok (listed_check z0)
    replace fr := fr z0
    refine XK.skip ?_
    refine XK.seq ?_
    refine XK.region rfl ?_
    refine XO.q (Q.ldA [_, _] rfl rfl rfl) ?_
    refine XO.q (Q.move rfl) ?_
    refine XO.call Try.call100 rfl rfl rfl (RMay_spec c vn vv hn hv ok set B vb kb fr) fun v23 s23 R23 => ?_
    obtain ⟨vf, vl, kf, kl, LF, LL, rfl, rfl, OF, OL, hmay⟩ := R23
    dsimp only [List.cons_append, List.nil_append]
    refine XO.q (Q.move rfl) ?_
    refine XO.q (Q.extract rfl rfl) ?_
    refine XO.q (Q.extract rfl rfl) ?_
    refine XO.q (Q.extract rfl rfl) ?_
    refine XO.q (Q.assign rfl) ?_
    refine XO.q (Q.assign rfl) ?_
    refine XO.q (Q.assign rfl) ?_
    refine XO.done ?_
    refine XK.seq ?_
    refine XK.region rfl ?_
    refine XO.q (Q.move rfl) ?_
    refine XO.q (Q.assign rfl) ?_
    refine XO.q (Q.assign rfl) ?_
    refine XO.done ?_
    refine XK.rt [] Try.func78 Try.results78 (.t rfl (.t rfl .n)) ?_
    exact ⟨by rw [explainsG, if_neg c0], rfl⟩
theorem greatest_spec (c : MCase) (vn vv : Value) (hn hv : PHeap) [jn : Arr vn encNode 3 hn c.nodes] [jv : Arr vv encI 1 hv c.vals] (ok : MOk c) (Bf : List Bool) (vb : Value) (hb : PHeap) [jb : Arr vb encB 1 hb Bf] (bl : Bf.length = c.nodes.length) : ∀ (m i : Nat), i < c.nodes.length → c.nodes.length - i ≤ m → Spec Try.prog 119 #[.agg #[vn, vv], vb, .int .i64 (i : Nat)] [] [hn, hv, hb] (fun v hs => v = .int .i64 (grI c Bf i) ∧ hs = []) := by
  intro m
  induction m with
  | zero => intro i hi hm; omega
  | succ m ih =>
    intro i hi hm
    have n2 := ok.n2
    have vl := ok.vl
    have nd := ok.node i hi
    have ge := gr_eq ok Bf hi
    have hr : ∀ j, j ≤ c.nodes.length → 0 ≤ hangF c (grI c Bf) (i : Nat) j ∧ hangF c (grI c Bf) (i : Nat) j ≤ j * 1000000000 := fun j hj => hangF_rng fun k hk _ => gr_rng ok Bf _ k (by omega) (Nat.le_refl _)
    refine Spec.intro (fn := Try.f119) (N := 54) Try.func119 rfl Try.ntmps119 rfl fun B => ?_
    refine XK.seq ?_
    refine XK.region rfl ?_
    refine XO.box rfl fun b3 => ?_
    refine XO.q (Q.assign rfl) ?_
    refine XO.done ?_
    refine XK.seq ?_
    refine XK.seq ?_
    refine XK.region rfl ?_
    refine XO.q (Q.move rfl) ?_
    refine XO.q (Q.move rfl) ?_
    refine XO.ix rfl rfl (by omega) (by omega) fun i12 => ?_
    refine XO.q (Q.ldE rfl (by first | assumption | omega) rfl) ?_
    refine XO.q (Q.not rfl) ?_
    refine XO.done ?_
    refine XK.if rfl (fun c0 => ?_) (fun c0 => ?_)
    · have _t0 := True.intro
      refine XK.seq ?_
      refine XK.region rfl ?_
      refine XO.q (Q.fieldAddr rfl) ?_
      refine XO.q (Q.ld rfl rfl) ?_
      refine XO.q (Q.move rfl) ?_
      refine XO.ix rfl rfl (by omega) (by omega) fun i18 => ?_
      refine XO.q (Q.ldE rfl (by first | assumption | omega) rfl) ?_
      refine XO.q (Q.assign rfl) ?_
      refine XO.done ?_
      refine XK.rt [] Try.func119 Try.results119 (.t rfl .n) ?_
      exact ⟨by rw [ge, if_pos c0]; rfl, rfl⟩
    · have _t0 := True.intro
      refine XK.skip ?_
      refine XK.seq ?_
      refine XK.region rfl ?_
      refine XO.q (Q.assign rfl) ?_
      refine XO.q (Q.assign rfl) ?_
      refine XO.done ?_
      refine XK.seq ?_
      refine XK.seq ?_
      refine XK.region rfl ?_
      refine XO.q (Q.assign rfl) ?_
      refine XO.done ?_
      refine XK.block ?_
      refine XK.while (X := Nat) [7, 8, 9, 20, 21, 22, 23, 24, 25, 26, 27, 28, 29, 30, 31, 32, 33, 34, 35, 36, 37, 38, 39, 40, 41, 42] (fun j => [(9, some (.int .i64 (j : Nat))), (7, some (.int .i64 (hangF c (grI c Bf) (i : Nat) j))), (8, some (.int .i64 (((sonsTo c (i : Nat) j).length : Nat) : Int)))]) (fun j => []) (fun j => j ≤ c.nodes.length) (fun j => c.nodes.length - j) (0) [] rfl (by omega) (.c rfl (.c rfl (.c rfl (.base 0 rfl rfl)))) ?_
      rintro j hj ih0
      dsimp only [List.cons_append, List.nil_append] at ih0 ⊢
      refine XK.seq ?_
      refine XK.seq ?_
      refine XK.region rfl ?_
      refine XO.q (Q.move rfl) ?_
      refine XO.q (Q.fieldAddr rfl) ?_
      refine XO.q (Q.ld rfl rfl) ?_
      refine XO.len rfl fun l23 => ?_
      refine XO.q (Q.lss rfl rfl) ?_
      refine XO.done ?_
      refine XK.if rfl (fun c1 => ?_) (fun c1 => ?_)
      · have _t1 := True.intro
        have r1 := hr j (by omega)
        have gj := gr_rng ok Bf _ j (by omega) (Nat.le_refl _)
        have sl := sonsTo_len (c := c) (i := (i : Int)) (n := j)
        have hij1 : j < c.nodes.length := by omega
        refine XK.skip ?_
        refine XK.seq ?_
        refine XK.block ?_
        refine XK.seq ?_
        refine XK.region rfl ?_
        refine XO.q (Q.fieldAddr rfl) ?_
        refine XO.q (Q.ld rfl rfl) ?_
        refine XO.q (Q.move rfl) ?_
        refine XO.ix rfl rfl (by omega) (by omega) fun i30 => ?_
        refine XO.q (Q.fieldQ rfl (by first | assumption | omega)) ?_
        refine XO.q (Q.ldE rfl (by first | assumption | omega) rfl) ?_
        refine XO.q (Q.move rfl) ?_
        refine XO.q (Q.eql rfl rfl) ?_
        refine XO.done ?_
        refine XK.if rfl (fun c2 => ?_) (fun c2 => ?_)
        · have _t2 := True.intro
          have hij : ¬ j ≤ i := fun hki => up_low ok hij1 hki c2
          have e1 : (hangF c (grI c Bf) (i : Nat) j) + grI c Bf j = (hangF c (grI c Bf) (i : Nat) (j + 1)) := (hangF_yes c2).symm
          have e2 : (((sonsTo c (i : Nat) j).length : Nat) : Int) + 1 = (((sonsTo c (i : Nat) (j + 1)).length : Nat) : Int) := by rw [sons_yes c2]; rfl
          refine XK.seq ?_
          refine XK.region rfl ?_
          refine XO.q (Q.move rfl) ?_
          refine XO.q (Q.ldA [_, _] rfl rfl rfl) ?_
          refine XO.q (Q.move rfl) ?_
          refine XO.q (Q.move rfl) ?_
          refine XO.call Try.call119 rfl rfl rfl (ih j hij1 (by omega)) fun v39 s39 R39 => ?_
          obtain ⟨rfl, rfl⟩ := R39
          dsimp only [List.cons_append, List.nil_append]
          refine XO.q (Q.add rfl rfl ⟨by omega, by omega⟩) ?_
          refine XO.q (Q.assign rfl) ?_
          refine XO.done ?_
          refine XK.region rfl ?_
          refine XO.q (Q.move rfl) ?_
          refine XO.q (Q.add rfl rfl ⟨by omega, by omega⟩) ?_
          refine XO.q (Q.assign rfl) ?_
          refine XO.done ?_
          refine XK.inBlock ?_
          refine XK.region rfl ?_
          refine XO.q (Q.move rfl) ?_
          refine XO.q (Q.add rfl rfl ⟨by omega, by omega⟩) ?_
          refine XO.q (Q.assign rfl) ?_
          refine XO.done ?_
          rw [e1, e2]
          exact ih0 (j + 1) _ _ (by omega) (by first | omega | (dsimp only; omega)) (.c rfl (.c rfl (.c rfl (.base 55 rfl rfl)))) inferInstance
        · have _t2 := True.intro
          have e1 : (hangF c (grI c Bf) (i : Nat) j) = (hangF c (grI c Bf) (i : Nat) (j + 1)) := (hangF_no c2).symm
          have e2 : (((sonsTo c (i : Nat) j).length : Nat) : Int) = (((sonsTo c (i : Nat) (j + 1)).length : Nat) : Int) := by rw [sons_no c2]
          refine XK.skip ?_
          refine XK.inBlock ?_
          refine XK.region rfl ?_
          refine XO.q (Q.move rfl) ?_
          refine XO.q (Q.add rfl rfl ⟨by omega, by omega⟩) ?_
          refine XO.q (Q.assign rfl) ?_
          refine XO.done ?_
          rw [e1, e2]
          exact ih0 (j + 1) _ _ (by omega) (by first | omega | (dsimp only; omega)) (.c rfl (.c rfl (.c rfl (.base 45 rfl rfl)))) inferInstance
      · have _t1 := True.intro
        have hjn : j = c.nodes.length := by omega
        subst hjn
        have r1 := hr c.nodes.length (Nat.le_refl _)
        clear ih0
        refine XK.exit rfl ?_
        refine XK.seq ?_
        refine XK.seq ?_
        refine XK.region rfl ?_
        refine XO.q (Q.move rfl) ?_
        refine XO.q (Q.eql rfl rfl) ?_
        refine XO.done ?_
        refine XK.if rfl (fun c3 => ?_) (fun c3 => ?_)
        · have _t3 := True.intro
          refine XK.seq ?_
          refine XK.region rfl ?_
          refine XO.q (Q.assign rfl) ?_
          refine XO.done ?_
          refine XK.rt [] Try.func119 Try.results119 (.t rfl .n) ?_
          exact ⟨by rw [ge, if_neg c0, if_pos (show (sonsN c i).length = 0 by change (((sonsN c i).length : Nat) : Int) = 0 at c3; omega)], rfl⟩
        · have _t3 := True.intro
          refine XK.skip ?_
          refine XK.seq ?_
          refine XK.region rfl ?_
          refine XO.q (Q.move rfl) ?_
          refine XO.q (Q.fieldAddr rfl) ?_
          refine XO.q (Q.ld rfl rfl) ?_
          refine XO.q (Q.move rfl) ?_
          refine XO.ix rfl rfl (by omega) (by omega) fun i49 => ?_
          refine XO.q (Q.fieldQ rfl (by first | assumption | omega)) ?_
          refine XO.q (Q.ldE rfl (by first | assumption | omega) rfl) ?_
          refine XO.q (Q.add rfl rfl ⟨by omega, by omega⟩) ?_
          refine XO.q (Q.min rfl rfl) ?_
          refine XO.q (Q.assign rfl) ?_
          refine XO.done ?_
          refine XK.rt [] Try.func119 Try.results119 (.t rfl .n) ?_
          exact ⟨by rw [ge, if_neg c0, if_neg (show ¬ (sonsN c i).length = 0 from fun h => c3 (by show (((sonsN c i).length : Nat) : Int) = 0; omega))], rfl⟩
theorem sh_rng {c : MCase} (ok : MOk c) (Bf : List Bool) {k : Nat} (hk : k < c.nodes.length) : 0 ≤ shF c Bf k ∧ shF c Bf k ≤ 1000000000 := by
  unfold shF
  split
  · exact (ok.node k hk).2.1
  · exact gr_rng ok Bf _ k hk (Nat.le_refl _)
theorem short_spec (c : MCase) (vn vv : Value) (hn hv : PHeap) [jn : Arr vn encNode 3 hn c.nodes] [jv : Arr vv encI 1 hv c.vals] (ok : MOk c) (Bf : List Bool) (vb : Value) (hb : PHeap) [jb : Arr vb encB 1 hb Bf] (bl : Bf.length = c.nodes.length) (i : Nat) (hi : i < c.nodes.length) : Spec Try.prog 101 #[.agg #[vn, vv], vb, .int .i64 (i : Nat)] [] [hn, hv, hb] (fun v hs => v = .bool (shortB c Bf i) ∧ hs = []) := by
  have n2 := ok.n2
  have vl := ok.vl
  refine Spec.intro (fn := Try.f101) (N := 64) Try.func101 rfl Try.ntmps101 rfl fun B => ?_
  refine XK.seq ?_
  refine XK.region rfl ?_
  refine XO.box rfl fun b3 => ?_
  refine XO.q (Q.assign rfl) ?_
  refine XO.done ?_
  refine XK.seq ?_
  refine XK.region rfl ?_
  refine XO.q (Q.fieldAddr rfl) ?_
  refine XO.q (Q.ld rfl rfl) ?_
  refine XO.q (Q.move rfl) ?_
  refine XO.ix rfl rfl (by omega) (by omega) fun i13 => ?_
  refine XO.q (Q.fieldQ rfl (by first | assumption | omega)) ?_
  refine XO.q (Q.ldE rfl (by first | assumption | omega) rfl) ?_
  refine XO.q (Q.assign rfl) ?_
  refine XO.done ?_
  refine XK.seq ?_
  refine XK.seq ?_
  refine XK.region rfl ?_
  refine XO.q (Q.move rfl) ?_
  refine XO.q (Q.lss rfl rfl) ?_
  refine XO.done ?_
  refine XK.if rfl (fun c0 => ?_) (fun c0 => ?_)
  · have _t0 := True.intro
    refine XK.seq ?_
    refine XK.region rfl ?_
    refine XO.q (Q.assign rfl) ?_
    refine XO.done ?_
    refine XK.rt [] Try.func101 Try.results101 (.t rfl .n) ?_
    exact ⟨by rw [shortB, if_pos c0], rfl⟩
  · have _t0 := True.intro
    have hi0 : 0 < i := by
      rcases Nat.eq_zero_or_pos i with hz | hp
      · have := (ok.node i hi).2.2.2.1 hz; omega
      · exact hp
    have hui := (ok.node i hi).2.2.2.2 hi0
    obtain ⟨u, hu⟩ := Int.eq_ofNat_of_zero_le hui.1
    rw [hu] at hui
    rw [hu]
    have huv := (ok.node u (by omega)).2.1
    have hr : ∀ j, j ≤ c.nodes.length → 0 ≤ hangF c (shF c Bf) (u : Nat) j ∧ hangF c (shF c Bf) (u : Nat) j ≤ j * 1000000000 := fun j hj => hangF_rng fun k hk _ => sh_rng ok Bf (by omega)
    refine XK.skip ?_
    refine XK.seq ?_
    refine XK.region rfl ?_
    refine XO.q (Q.fieldAddr rfl) ?_
    refine XO.q (Q.ld rfl rfl) ?_
    refine XO.q (Q.move rfl) ?_
    refine XO.ix rfl rfl (by omega) (by omega) fun i21 => ?_
    refine XO.q (Q.ldE rfl (by first | assumption | omega) rfl) ?_
    rw [show c.vals.getD u default = c.vals.getD u 0 - hangF c (shF c Bf) (u : Nat) 0 by rw [show hangF c (shF c Bf) (u : Nat) 0 = 0 from rfl, Int.sub_zero]; rfl]
    refine XO.q (Q.assign rfl) ?_
    refine XO.done ?_
    refine XK.seq ?_
    refine XK.seq ?_
    refine XK.region rfl ?_
    refine XO.q (Q.assign rfl) ?_
    refine XO.done ?_
    refine XK.block ?_
    refine XK.while (X := Nat) [8, 9, 23, 24, 25, 26, 27, 28, 29, 30, 31, 32, 33, 34, 35, 36, 37, 38, 39, 40, 41, 42, 43, 44, 45, 46, 47, 48, 49, 50, 51, 52, 53, 54, 55] (fun j => [(9, some (.int .i64 (j : Nat))), (8, some (.int .i64 (c.vals.getD u 0 - (hangF c (shF c Bf) (u : Nat) j))))]) (fun j => []) (fun j => j ≤ c.nodes.length) (fun j => c.nodes.length - j) (0) [] rfl (by omega) (.c rfl (.c rfl (.base 0 rfl rfl))) ?_
    rintro j hj ih0
    dsimp only [List.cons_append, List.nil_append] at ih0 ⊢
    refine XK.seq ?_
    refine XK.seq ?_
    refine XK.region rfl ?_
    refine XO.q (Q.move rfl) ?_
    refine XO.q (Q.fieldAddr rfl) ?_
    refine XO.q (Q.ld rfl rfl) ?_
    refine XO.len rfl fun l26 => ?_
    refine XO.q (Q.lss rfl rfl) ?_
    refine XO.done ?_
    refine XK.if rfl (fun c1 => ?_) (fun c1 => ?_)
    · have _t1 := True.intro
      have r1 := hr j (by omega)
      have hj1 : j < c.nodes.length := by omega
      have sj := sh_rng ok Bf hj1
      refine XK.skip ?_
      refine XK.seq ?_
      refine XK.block ?_
      refine XK.seq ?_
      refine XK.seq ?_
      refine XK.region rfl ?_
      refine XO.q (Q.fieldAddr rfl) ?_
      refine XO.q (Q.ld rfl rfl) ?_
      refine XO.q (Q.move rfl) ?_
      refine XO.ix rfl rfl (by omega) (by omega) fun i33 => ?_
      refine XO.q (Q.fieldQ rfl (by first | assumption | omega)) ?_
      refine XO.q (Q.ldE rfl (by first | assumption | omega) rfl) ?_
      refine XO.q (Q.move rfl) ?_
      refine XO.q (Q.neq rfl rfl) ?_
      refine XO.done ?_
      refine XK.if rfl (fun c2 => ?_) (fun c2 => ?_)
      · have _t2 := True.intro
        have e1 : (hangF c (shF c Bf) (u : Nat) j) = (hangF c (shF c Bf) (u : Nat) (j + 1)) := (hangF_no c2).symm
        refine XK.exit rfl ?_
        refine XK.region rfl ?_
        refine XO.q (Q.move rfl) ?_
        refine XO.q (Q.add rfl rfl ⟨by omega, by omega⟩) ?_
        refine XO.q (Q.assign rfl) ?_
        refine XO.done ?_
        rw [e1]
        exact ih0 (j + 1) _ _ (by omega) (by first | omega | (dsimp only; omega)) (.c rfl (.c rfl (.base 53 rfl rfl))) inferInstance
      · have _t2 := True.intro
        have e1 : c.vals.getD u 0 - (hangF c (shF c Bf) (u : Nat) j) - shF c Bf j = c.vals.getD u 0 - (hangF c (shF c Bf) (u : Nat) (j + 1)) := by rw [hangF_yes (Decidable.of_not_not c2)]; omega
        refine XK.skip ?_
        refine XK.seq ?_
        refine XK.seq ?_
        refine XK.region rfl ?_
        refine XO.q (Q.move rfl) ?_
        refine XO.q (Q.move rfl) ?_
        refine XO.ix rfl rfl (by omega) (by omega) fun i40 => ?_
        refine XO.q (Q.ldE rfl (by first | assumption | omega) rfl) ?_
        refine XO.q (Q.not rfl) ?_
        refine XO.done ?_
        refine XK.if rfl (fun c3 => ?_) (fun c3 => ?_)
        · have _t3 := True.intro
          have e2 : shF c Bf j = c.vals.getD j default := by rw [shF, if_pos c3]; rfl
          rw [e2] at e1 sj
          refine XK.seq ?_
          refine XK.region rfl ?_
          refine XO.q (Q.move rfl) ?_
          refine XO.q (Q.fieldAddr rfl) ?_
          refine XO.q (Q.ld rfl rfl) ?_
          refine XO.q (Q.move rfl) ?_
          refine XO.ix rfl rfl (by omega) (by omega) fun i47 => ?_
          refine XO.q (Q.ldE rfl (by first | assumption | omega) rfl) ?_
          refine XO.q (Q.sub rfl rfl ⟨by omega, by omega⟩) ?_
          refine XO.q (Q.assign rfl) ?_
          refine XO.done ?_
          refine XK.exit rfl ?_
          refine XK.region rfl ?_
          refine XO.q (Q.move rfl) ?_
          refine XO.q (Q.add rfl rfl ⟨by omega, by omega⟩) ?_
          refine XO.q (Q.assign rfl) ?_
          refine XO.done ?_
          rw [e1]
          exact ih0 (j + 1) _ _ (by omega) (by first | omega | (dsimp only; omega)) (.c rfl (.c rfl (.base 66 rfl rfl))) inferInstance
        · have _t3 := True.intro
          have e2 : shF c Bf j = grI c Bf j := by rw [shF, if_neg c3]
          rw [e2] at e1 sj
          refine XK.skip ?_
          refine XK.region rfl ?_
          refine XO.q (Q.move rfl) ?_
          refine XO.q (Q.ldA [_, _] rfl rfl rfl) ?_
          refine XO.q (Q.move rfl) ?_
          refine XO.q (Q.move rfl) ?_
          refine XO.call Try.call119 rfl rfl rfl (greatest_spec c vn vv hn hv ok Bf vb hb bl _ j hj1 (Nat.le_refl _)) fun v54 s54 R54 => ?_
          obtain ⟨rfl, rfl⟩ := R54
          dsimp only [List.cons_append, List.nil_append]
          refine XO.q (Q.sub rfl rfl ⟨by omega, by omega⟩) ?_
          refine XO.q (Q.assign rfl) ?_
          refine XO.done ?_
          refine XK.inBlock ?_
          refine XK.region rfl ?_
          refine XO.q (Q.move rfl) ?_
          refine XO.q (Q.add rfl rfl ⟨by omega, by omega⟩) ?_
          refine XO.q (Q.assign rfl) ?_
          refine XO.done ?_
          rw [e1]
          exact ih0 (j + 1) _ _ (by omega) (by first | omega | (dsimp only; omega)) (.c rfl (.c rfl (.base 65 rfl rfl))) inferInstance
    · have _t1 := True.intro
      have hjn : j = c.nodes.length := by omega
      subst hjn
      refine XK.exit rfl ?_
      refine XK.seq ?_
      refine XK.region rfl ?_
      refine XO.q (Q.move rfl) ?_
      refine XO.q (Q.fieldAddr rfl) ?_
      refine XO.q (Q.ld rfl rfl) ?_
      refine XO.q (Q.move rfl) ?_
      refine XO.ix rfl rfl (by omega) (by omega) fun i60 => ?_
      refine XO.q (Q.fieldQ rfl (by first | assumption | omega)) ?_
      refine XO.q (Q.ldE rfl (by first | assumption | omega) rfl) ?_
      refine XO.q (Q.gtr rfl rfl) ?_
      refine XO.q (Q.assign rfl) ?_
      refine XO.done ?_
      refine XK.rt [] Try.func101 Try.results101 (.t rfl .n) ?_
      exact ⟨by rw [shortB, if_neg c0, hu]; rfl, rfl⟩
end Go.X

set_option linter.unusedSimpArgs false
set_option linter.unusedVariables false
set_option maxRecDepth 20000
namespace Go.X
open Go.Proofs
theorem half_start {c : MCase} {set : List Int} {Bf : List Bool} (vl : c.vals.length = c.nodes.length) (fr : FreeIs c set Bf) : Half c set 0 c.vals Bf := ⟨vl, fr.len, fun k hk => absurd hk (Nat.not_lt_zero k), fun k _ hk => ⟨rfl, fr.val k hk⟩⟩
theorem Half.mid {c : MCase} (ok : MOk c) {set : List Int} (hd : ∀ i, i < c.nodes.length → okN c set i = true) {i : Nat} {V : List Int} {Bf : List Bool} (h : Half c set i V Bf) (hi : i < c.nodes.length) {x : Int} (h0 : 0 ≤ x) (h1 : x ≤ 1000000000) : MOk ⟨c.nodes, V.set i x⟩ := ok.with (by rw [List.length_set]; exact h.vl) fun k hk => by
  rw [set_getD0 (by rw [h.vl]; exact hi)]
  split
  · omega
  · exact h.rng ok hd k hk
set_option maxHeartbeats 2000000 in
theorem RRepair_spec (c : MCase) (vn vv : Value) (hn hv : PHeap) [jn : Arr vn encNode 3 hn c.nodes] [jv : Arr vv encI 1 hv c.vals] (set : List Int) (vs : Value) (hs_ : PHeap) [js : Arr vs encI 1 hs_ set] : Spec Try.prog 79 #[.agg #[vn, vv], vs] [] [hn, hv, hs_] (fun v hs => ∃ v1 k1, v = .tuple #[v1, .int .i64 (repairG c set).2] ∧ hs = [k1] ∧ OArr v1 encI 1 3 k1 (repairG c set).1) := by
  have hnil : OArr (.slice none 0 0) encI 1 3 emp ([] : List Int) := OArr.nil (fun _ => rfl)
  refine Spec.intro (fn := Try.f79) (N := 98) Try.func79 rfl Try.ntmps79 rfl fun B => ?_
  refine XK.seq ?_
  refine XK.region rfl ?_
  refine XO.box rfl fun b2 => ?_
  refine XO.q (Q.assign rfl) ?_
  refine XO.q (Q.assign rfl) ?_
  refine XO.done ?_
  refine XK.seq ?_
  refine XK.region rfl ?_
  refine XO.q (Q.ldA [_, _] rfl rfl rfl) ?_
  refine XO.q (Q.move rfl) ?_
  refine XO.call Try.call99 rfl rfl rfl (RListed_spec c vn vv hn hv set vs hs_) fun v18 s18 R18 => ?_
  obtain ⟨vb, kb, Bf, rfl, rfl, OB, fr⟩ := R18
  dsimp only [List.cons_append, List.nil_append]
  refine XO.q (Q.move rfl) ?_
  refine XO.q (Q.extract rfl rfl) ?_
  refine XO.q (Q.extract rfl rfl) ?_
  refine XO.q (Q.assign rfl) ?_
  refine XO.q (Q.assign rfl) ?_
  refine XO.done ?_
  refine XK.seq ?_
  refine XK.seq ?_
  refine XK.region rfl ?_
  refine XO.q (Q.move rfl) ?_
  refine XO.q (Q.neq rfl rfl) ?_
  refine XO.done ?_
  refine XK.if rfl (fun c0 => ?_) (fun c0 => ?_)
  · have _t0 := True.intro
    refine XK.seq ?_
    refine XK.region rfl ?_
    refine XO.q (Q.move rfl) ?_
    refine XO.q (Q.assign rfl) ?_
    refine XO.q (Q.assign rfl) ?_
    refine XO.done ?_
    refine XK.rt [emp] Try.func79 Try.results79 (.t rfl (.t rfl .n)) ?_
    have hw0 : repairG c set = ([], listedG c set) := by rw [repairG, if_pos c0]
    rw [hw0]
    exact ⟨.slice none 0 0, emp, rfl, rfl, OArr.nil (fun _ => rfl)⟩
  · have _t0 := True.intro
    have z0 := Decidable.of_not_not c0
    have ok := mcheck_ok (listed_check z0)
    replace fr := fr z0
    have n2 := ok.n2
    have vl := ok.vl
    refine XK.skip ?_
    refine XK.seq ?_
    refine XK.region rfl ?_
    refine XO.q (Q.fieldAddr rfl) ?_
    refine XO.q (Q.ld rfl rfl) ?_
    refine XO.q (Q.build [_, _] (.c 0 1 rfl rfl rfl (.n _))) ?_
    refine XO.alloc fun b8 => ?_
    refine XO.st rfl rfl rfl ?_
    refine XO.done ?_
    refine XK.seq ?_
    refine XK.region rfl ?_
    refine XO.q (Q.fieldAddr rfl) ?_
    refine XO.q (Q.ld rfl rfl) ?_
    refine XO.q (Q.fieldAddr rfl) ?_
    refine XO.q (Q.ld rfl rfl) ?_
    refine XO.drop (o' := [emp, blk b8 [vn, .slice none 0 0] 165, kb, blk b2 [vn, vv] 165]) ?_
    refine XO.append rfl rfl rfl rfl (by simp only [List.length_nil]; omega) fun v31 h31 O31 => ?_
    refine XO.q (Q.fieldAddr rfl) ?_
    refine XO.st rfl rfl rfl ?_
    refine XO.done ?_
    refine XK.seq ?_
    refine XK.region rfl ?_
    refine XO.q (Q.ldA [_, _] rfl rfl rfl) ?_
    refine XO.q (Q.move rfl) ?_
    refine XO.call Try.call100 rfl rfl rfl (RMay_spec c vn v31 hn h31 ok set Bf vb kb fr) fun v36 s36 R36 => ?_
    obtain ⟨vf, vl_, kf, kl, LF, LL, rfl, rfl, OF, OL, hmay⟩ := R36
    dsimp only [List.cons_append, List.nil_append]
    refine XO.q (Q.move rfl) ?_
    refine XO.q (Q.extract rfl rfl) ?_
    refine XO.q (Q.extract rfl rfl) ?_
    refine XO.q (Q.extract rfl rfl) ?_
    refine XO.q (Q.assign rfl) ?_
    refine XO.q (Q.assign rfl) ?_
    refine XO.q (Q.assign rfl) ?_
    refine XO.done ?_
    refine XK.seq ?_
    refine XK.seq ?_
    refine XK.region rfl ?_
    refine XO.q (Q.move rfl) ?_
    refine XO.q (Q.not rfl) ?_
    refine XO.done ?_
    refine XK.if rfl (fun c1 => ?_) (fun c1 => ?_)
    · have _t1 := True.intro
      refine XK.seq ?_
      refine XK.region rfl ?_
      refine XO.q (Q.assign rfl) ?_
      refine XO.q (Q.assign rfl) ?_
      refine XO.done ?_
      refine XK.rt [emp] Try.func79 Try.results79 (.t rfl (.t rfl .n)) ?_
      have hw0 : repairG c set = ([], 4) := by rw [repairG, if_neg c0, if_pos c1]
      rw [hw0]
      exact ⟨.slice none 0 0, emp, rfl, rfl, OArr.nil (fun _ => rfl)⟩
    · have _t1 := True.intro
      have ok0 : okN c set 0 = true := Decidable.of_not_not c1
      have hd := ok_all ok ok0
      have mi := hmay ok0
      have fl := mi.fl
      have ll := mi.ll
      refine XK.skip ?_
      refine XK.seq ?_
      refine XK.seq ?_
      refine XK.region rfl ?_
      refine XO.q (Q.assign rfl) ?_
      refine XO.done ?_
      refine XK.block ?_
      refine XK.while (X := Nat × PHeap × PHeap × List Int × List Bool) [12, 13, 14, 42, 43, 44, 45, 46, 47, 48, 49, 50, 51, 52, 53, 54, 55, 56, 57, 58, 59, 60, 61, 62, 63, 64, 65, 66, 67, 68, 69, 70, 71, 72, 73, 74, 75, 76, 77, 78, 79, 80, 81, 82, 83, 84, 85, 86, 87, 88, 89, 90, 91, 92, 93, 94, 95] (fun ⟨i, kb2, kv, V, Bf2⟩ => [(12, some (.int .i64 (i : Nat)))]) (fun ⟨i, kb2, kv, V, Bf2⟩ => [kb2, kv]) (fun ⟨i, kb2, kv, V, Bf2⟩ => i ≤ c.nodes.length ∧ OArr vb encB 1 4 kb2 Bf2 ∧ OArr v31 encI 1 3 kv V ∧ Half c set i V Bf2) (fun ⟨i, kb2, kv, V, Bf2⟩ => c.nodes.length - i) (0, kb, h31, c.vals, Bf) [kb, h31] rfl ⟨by omega, OB, by simpa using O31, half_start vl fr⟩ (.c rfl (.base 0 rfl rfl)) ?_
      rintro ⟨i, kb2, kv, V, Bf2⟩ ⟨hi, OB2, OV, hh_⟩ ih0
      dsimp only [List.cons_append, List.nil_append] at ih0 ⊢
      refine XK.seq ?_
      refine XK.seq ?_
      refine XK.region rfl ?_
      refine XO.q (Q.move rfl) ?_
      refine XO.q (Q.fieldAddr rfl) ?_
      refine XO.q (Q.ld rfl rfl) ?_
      refine XO.len rfl fun l45 => ?_
      refine XO.q (Q.lss rfl rfl) ?_
      refine XO.done ?_
      refine XK.if rfl (fun c2 => ?_) (fun c2 => ?_)
      · have _t2 := True.intro
        have hi0 : i < c.nodes.length := by omega
        have bl2 := hh_.bl
        have vl2 := hh_.vl
        have mr := may_rng ok set hi0 (hd i hi0)
        have ri := rep_in ok hd i hi0
        refine XK.skip ?_
        refine XK.seq ?_
        refine XK.block ?_
        refine XK.seq ?_
        refine XK.seq ?_
        refine XK.region rfl ?_
        refine XO.q (Q.move rfl) ?_
        refine XO.q (Q.move rfl) ?_
        refine XO.ix rfl rfl (by omega) (by omega) fun i51 => ?_
        refine XO.q (Q.ldE rfl (by first | assumption | omega) rfl) ?_
        refine XO.q (Q.not rfl) ?_
        refine XO.done ?_
        refine XK.if rfl (fun c3 => ?_) (fun c3 => ?_)
        · have _t3 := True.intro
          refine XK.exit rfl ?_
          refine XK.region rfl ?_
          refine XO.q (Q.move rfl) ?_
          refine XO.q (Q.add rfl rfl ⟨by omega, by omega⟩) ?_
          refine XO.q (Q.assign rfl) ?_
          refine XO.done ?_
          exact ih0 (i + 1, kb2, kv, V, Bf2) _ _ ⟨by dsimp only; omega, OB2, OV, hh_.skip ok hd hi0 c3⟩ (by first | omega | (dsimp only; omega)) (.c rfl (.base 71 rfl rfl)) inferInstance
        · have _t3 := True.intro
          refine XK.skip ?_
          refine XK.seq ?_
          refine XK.region rfl ?_
          refine XO.q (Q.move rfl) ?_
          refine XO.q (Q.move rfl) ?_
          refine XO.ix rfl rfl (by omega) (by omega) fun i56 => ?_
          refine XO.stE false rfl rfl rfl (by assumption) rfl rfl fun h13_3 O13_3 => ?_
          refine XO.done ?_
          refine XK.seq ?_
          refine XK.drawn [0, 1, 2, 3, 4, 5, 6, 7, 8, 9] [] [kf, kl] (.q 0 (.q 1 (.q 2 (.q 3 (.q 4 (.q 5 (.q 6 (.q 7 (.q 8 (.q 9 .done)))))))))) Try.mixed rfl (by kernel_rfl) ?_
          refine XT.q rfl rfl (Q.move rfl) ?_
          refine XT.q rfl rfl (Q.move rfl) ?_
          refine XT.ix rfl rfl rfl rfl (by omega) (by omega) fun i59 => ?_
          refine XT.q rfl rfl (Q.ldE rfl (by first | assumption | omega) rfl) ?_
          rw [show LF.getD i default = (mayI c set i).first from (mi.val i hi0).1]
          refine XT.q rfl rfl (Q.move rfl) ?_
          refine XT.q rfl rfl (Q.move rfl) ?_
          refine XT.ix rfl rfl rfl rfl (by omega) (by omega) fun i63 => ?_
          refine XT.q rfl rfl (Q.ldE rfl (by first | assumption | omega) rfl) ?_
          rw [show LL.getD i default = (mayI c set i).last from (mi.val i hi0).2]
          refine XT.q rfl rfl (Q.assign rfl) ?_
          refine XT.q rfl rfl (Q.assign rfl) ?_
          refine XT.done ?_
          refine XK.seq ?_
          refine XK.block ?_
          refine XK.while (X := Int × Int × PHeap × List Int) [13, 14, 65, 66, 67, 68, 69, 70, 71, 72, 73, 74, 75, 76, 77, 78, 79, 80, 81, 82, 83, 84, 85, 86, 87, 88, 89, 90] (fun ⟨lo, hh, kv2, V2⟩ => [(13, some (.int .i64 lo)), (14, some (.int .i64 hh))]) (fun ⟨lo, hh, kv2, V2⟩ => [kv2]) (fun ⟨lo, hh, kv2, V2⟩ => (mayI c set i).first ≤ lo ∧ lo ≤ ((repairL c set).getD i 0) ∧ ((repairL c set).getD i 0) ≤ hh ∧ hh ≤ (mayI c set i).last ∧ OArr v31 encI 1 3 kv2 V2 ∧ V2.length = V.length ∧ ∀ x, V2.set i x = V.set i x) (fun ⟨lo, hh, kv2, V2⟩ => (hh - lo).toNat) (_, _, kv, V) [kv] rfl ⟨by omega, by omega, by omega, by omega, OV, rfl, fun _ => rfl⟩ (.c rfl (.c rfl (.base 0 rfl rfl))) ?_
          rintro ⟨lo, hh, kv2, V2⟩ ⟨hl1, hl2, hl3, hl4, OV2, lV2, hV2⟩ ih1
          dsimp only [List.cons_append, List.nil_append] at ih1 ⊢
          refine XK.seq ?_
          refine XK.seq ?_
          refine XK.region rfl ?_
          refine XO.q (Q.move rfl) ?_
          refine XO.q (Q.move rfl) ?_
          refine XO.q (Q.lss rfl rfl) ?_
          refine XO.done ?_
          refine XK.if rfl (fun c4 => ?_) (fun c4 => ?_)
          · have _t4 := True.intro
            have hgm : (V.set i ((lo + hh) / 2)).getD i default = ((lo + hh) / 2) := by rw [set_getDd (by omega), if_pos rfl]
            have sl2 : (V.set i ((lo + hh) / 2)).length = V.length := List.length_set
            refine XK.skip ?_
            refine XK.block ?_
            refine XK.seq ?_
            refine XK.region rfl ?_
            refine XO.q (Q.fieldAddr rfl) ?_
            refine XO.q (Q.ld rfl rfl) ?_
            refine XO.q (Q.move rfl) ?_
            refine XO.q (Q.move rfl) ?_
            refine XO.q (Q.move rfl) ?_
            refine XO.q (Q.add rfl rfl ⟨by omega, by omega⟩) ?_
            refine XO.q (Q.quoT rfl rfl (by omega)) ?_
            rw [Int.tdiv_eq_ediv_of_nonneg (by omega), wrap64_of ⟨by omega, by omega⟩]
            refine XO.ix rfl rfl (by omega) (by omega) fun i75 => ?_
            refine XO.stE _ rfl rfl rfl (by assumption) rfl rfl fun h16_8 O16_8 => ?_
            rw [hV2] at O16_8
            refine XO.done ?_
            refine XK.seq ?_
            refine XK.region rfl ?_
            refine XO.q (Q.ldA [_, _] rfl rfl rfl) ?_
            refine XO.q (Q.move rfl) ?_
            refine XO.q (Q.move rfl) ?_
            refine XO.call Try.call101 rfl rfl rfl (short_spec ⟨c.nodes, V.set i ((lo + hh) / 2)⟩ vn v31 hn h16_8 (hh_.mid ok hd hi0 (by omega) (by omega)) (Bf2.set i false) vb h13_3 (by rw [List.length_set]; exact hh_.bl) i hi0) fun v79 s79 R79 => ?_
            obtain ⟨rfl, rfl⟩ := R79
            dsimp only [List.cons_append, List.nil_append]
            rw [short_iff ok hd hh_ hi0 (x := ((lo + hh) / 2)) (by omega) (by omega)]
            refine XO.done ?_
            refine XK.if rfl (fun c5 => ?_) (fun c5 => ?_)
            · have _t5 := True.intro
              refine XK.region rfl ?_
              refine XO.q (Q.fieldAddr rfl) ?_
              refine XO.q (Q.ld rfl rfl) ?_
              refine XO.q (Q.move rfl) ?_
              refine XO.ix rfl rfl (by omega) (by omega) fun i83 => ?_
              refine XO.q (Q.ldE rfl (by first | assumption | omega) rfl) ?_
              rw [hgm]
              refine XO.q (Q.add rfl rfl ⟨by omega, by omega⟩) ?_
              refine XO.q (Q.assign rfl) ?_
              refine XO.done ?_
              refine XK.inBlock ?_
              exact ih1 (((lo + hh) / 2) + 1, hh, h16_8, _) _ _ ⟨by dsimp only; omega, by dsimp only; omega, by dsimp only; omega, by dsimp only; omega, O16_8, by dsimp only; exact sl2, fun x => by dsimp only; rw [List.set_set]⟩ (by first | omega | (dsimp only; omega)) (.c rfl (.c rfl (.base 52 rfl rfl))) inferInstance
            · have _t5 := True.intro
              refine XK.region rfl ?_
              refine XO.q (Q.fieldAddr rfl) ?_
              refine XO.q (Q.ld rfl rfl) ?_
              refine XO.q (Q.move rfl) ?_
              refine XO.ix rfl rfl (by omega) (by omega) fun i89 => ?_
              refine XO.q (Q.ldE rfl (by first | assumption | omega) rfl) ?_
              rw [hgm]
              refine XO.q (Q.assign rfl) ?_
              refine XO.done ?_
              refine XK.inBlock ?_
              exact ih1 (lo, ((lo + hh) / 2), h16_8, _) _ _ ⟨by dsimp only; omega, by dsimp only; omega, by dsimp only; omega, by dsimp only; omega, O16_8, by dsimp only; exact sl2, fun x => by dsimp only; rw [List.set_set]⟩ (by first | omega | (dsimp only; omega)) (.c rfl (.c rfl (.base 51 rfl rfl))) inferInstance
          · have _t4 := True.intro
            have hlo : lo = ((repairL c set).getD i 0) := by omega
            subst hlo
            refine XK.exit rfl ?_
            refine XK.region rfl ?_
            refine XO.q (Q.fieldAddr rfl) ?_
            refine XO.q (Q.ld rfl rfl) ?_
            refine XO.q (Q.move rfl) ?_
            refine XO.q (Q.move rfl) ?_
            refine XO.ix rfl rfl (by omega) (by omega) fun i95 => ?_
            refine XO.stE _ rfl rfl rfl (by assumption) rfl rfl fun h20_5 O20_5 => ?_
            rw [hV2] at O20_5
            refine XO.done ?_
            refine XK.inBlock ?_
            refine XK.region rfl ?_
            refine XO.q (Q.move rfl) ?_
            refine XO.q (Q.add rfl rfl ⟨by omega, by omega⟩) ?_
            refine XO.q (Q.assign rfl) ?_
            refine XO.done ?_
            exact ih0 (i + 1, h13_3, h20_5, _, _) _ _ ⟨by dsimp only; omega, O13_3, O20_5, hh_.next hi0⟩ (by first | omega | (dsimp only; omega)) (.c rfl (.base 122 rfl rfl)) inferInstance
      · have _t2 := True.intro
        refine XK.exit rfl ?_
        refine XK.seq ?_
        refine XK.region rfl ?_
        refine XO.q (Q.fieldAddr rfl) ?_
        refine XO.q (Q.ld rfl rfl) ?_
        refine XO.q (Q.assign rfl) ?_
        refine XO.q (Q.assign rfl) ?_
        refine XO.done ?_
        refine XK.rt [kv] Try.func79 Try.results79 (.t rfl (.t rfl .n)) ?_
        have hin : i = c.nodes.length := by omega
        subst hin
        rw [hh_.done] at OV
        have hw0 : repairG c set = (repairL c set, 0) := by rw [repairG, if_neg c0, if_neg c1]
        rw [hw0]
        exact ⟨v31, kv, rfl, rfl, OV⟩
end Go.X

set_option linter.unusedSimpArgs false
set_option linter.unusedVariables false
set_option maxRecDepth 20000
namespace Go.X
open Go.Proofs
theorem rows_append {us ws : List Value} {K : PHeap} {a b : List (List Int)} (r : RowsK us K a) (s : RowsK ws K b) : RowsK (us ++ ws) K (a ++ b) := ⟨by rw [List.length_append, List.length_append, r.1, s.1], fun i hi => by
  rw [List.length_append] at hi
  rw [List.getD_eq_getElem?_getD, List.getD_eq_getElem?_getD, List.getElem?_append, List.getElem?_append, ← r.1]
  split
  · rw [← List.getD_eq_getElem?_getD, ← List.getD_eq_getElem?_getD]; exact r.2 i ‹_›
  · rw [← List.getD_eq_getElem?_getD, ← List.getD_eq_getElem?_getD]; exact s.2 _ (by omega)⟩
theorem subs_len (c : MCase) (n2 : c.nodes.length ≤ 14) (l : List Nat) (b s : Nat) : (subsL c l b s).length ≤ 16384 := by
  unfold subsL
  refine Nat.le_trans (List.length_filter_le _ _) ?_
  rw [List.length_map]
  refine Nat.le_trans (combos_len2 _ _ _) ?_
  have := Nat.pow_le_pow_right (n := 2) (by decide) (show c.nodes.length - b ≤ 14 by omega)
  exact this
theorem from_int {l : List Nat} (h : 0 < l.length) : (ints l).getD (((ints l).length : Int) - 1).toNat default + 1 = ((fromOf l : Nat) : Int) := by
  rw [ints_len, show (((l.length : Nat) : Int) - 1).toNat = l.length - 1 by omega, ints_at (by omega), fromOf, if_pos h]; omega
theorem from_le {l : List Nat} {n : Nat} (h : ∀ x ∈ l, x < n) : fromOf l ≤ n := by
  unfold fromOf
  split
  · have := h _ (getD_mem0 (l := l) (j := l.length - 1) (by omega)); omega
  · exact Nat.zero_le _
set_option maxHeartbeats 2000000 in
theorem subsets_spec (c : MCase) (vn vv : Value) (hn hv : PHeap) [jn : Arr vn encNode 3 hn c.nodes] [jv : Arr vv encI 1 hv c.vals] (ok : MOk c) : ∀ (s : Nat) (l : List Nat) (vs : Value) (hs_ : PHeap) [js : OArr vs encI 1 3 hs_ (ints l)], Inc 0 l → (∀ x ∈ l, x < c.nodes.length) → s ≤ 20 → l.length ≤ 14 → Spec Try.prog 102 #[.agg #[vn, vv], vs, .int .i64 (s : Nat)] [hs_] [hn, hv]
    (fun v hs => ∃ k1 K us, hs = [k1, K] ∧ OArr v encV 1 24 k1 us ∧ RowsK us K ((subsL c l (fromOf l) s).map ints)) := by
  intro s
  induction s with
  | zero =>
    intro l vs hs_ js incl lt hs20 hl14
    have n2 := ok.n2
    refine Spec.intro (fn := Try.f102) (N := 57) Try.func102 rfl Try.ntmps102 rfl fun B => ?_
    refine XK.seq ?_
    refine XK.region rfl ?_
    refine XO.box rfl fun b3 => ?_
    refine XO.q (Q.assign rfl) ?_
    refine XO.done ?_
    refine XK.seq ?_
    refine XK.seq ?_
    refine XK.region rfl ?_
    refine XO.q (Q.move rfl) ?_
    refine XO.q (Q.eql rfl rfl) ?_
    refine XO.done ?_
    refine XK.if rfl (fun c0 => ?_) (fun c0 => ?_)
    · have _t0 := True.intro
      refine XK.seq ?_
      refine XK.seq ?_
      refine XK.region rfl ?_
      refine XO.q (Q.ldA [_, _] rfl rfl rfl) ?_
      refine XO.q (Q.move rfl) ?_
      refine XO.call Try.call78 rfl rfl rfl (RExplains_spec c vn vv hn hv (ints l) vs hs_) fun v18 s18 R18 => ?_
      obtain ⟨rfl, rfl⟩ := R18
      dsimp only [List.cons_append, List.nil_append]
      rw [explains_inc ok incl lt]
      dsimp only
      refine XO.q (Q.move rfl) ?_
      refine XO.q (Q.extract rfl rfl) ?_
      refine XO.q (Q.extract rfl rfl) ?_
      refine XO.q (Q.assign rfl) ?_
      refine XO.q (Q.assign rfl) ?_
      refine XO.done ?_
      refine XK.seq ?_
      refine XK.region rfl ?_
      refine XO.q (Q.move rfl) ?_
      refine XO.done ?_
      refine XK.if rfl (fun c1 => ?_) (fun c1 => ?_)
      · have _t1 := True.intro
        refine XK.seq ?_
        refine XK.region rfl ?_
        refine XO.q (Q.move rfl) ?_
        refine XO.lit [_] [_] [vs] encV (by rfl) (by rfl) rfl (by rfl) (by exact .c 0 1 rfl rfl rfl (.n _)) (fun _ => rfl) (by rfl) rfl (by infer_instance) rfl fun v23 h23 O23 => ?_
        refine XO.q (Q.assign rfl) ?_
        refine XO.done ?_
        refine XK.rt [h23, hs_] Try.func102 Try.results102 (.t rfl .n) ?_
        refine ⟨h23, hs_, [vs], rfl, O23, ?_⟩
        rw [subs_zero, if_pos (show expl c l = true from c1)]
        exact RowsK.nil.snoc (OArr.arr (s := js))
      · have _t1 := True.intro
        refine XK.skip ?_
        refine XK.seq ?_
        refine XK.region rfl ?_
        refine XO.q (Q.assign rfl) ?_
        refine XO.done ?_
        refine XK.rt [emp, hs_] Try.func102 Try.results102 (.t rfl .n) ?_
        refine ⟨emp, hs_, [], rfl, OArr.nil (fun _ => rfl), ?_⟩
        rw [subs_zero, if_neg (show ¬ expl c l = true from c1)]
        exact RowsK.nil
    · have _t0 := True.intro
      exact absurd rfl c0
  | succ s ih =>
    intro l vs hs_ js incl lt hs20 hl14
    have n2 := ok.n2
    have il := ints_len (l := l)
    have fl := from_le lt
    have hnil : OArr (.slice none 0 0) encV 1 24 emp ([] : List Value) := OArr.nil (fun _ => rfl)
    have hnilI : OArr (.slice none 0 0) encI 1 3 emp ([] : List Int) := OArr.nil (fun _ => rfl)
    refine Spec.intro (fn := Try.f102) (N := 57) Try.func102 rfl Try.ntmps102 rfl fun B => ?_
    refine XK.seq ?_
    refine XK.region rfl ?_
    refine XO.box rfl fun b3 => ?_
    refine XO.q (Q.assign rfl) ?_
    refine XO.done ?_
    refine XK.seq ?_
    refine XK.seq ?_
    refine XK.region rfl ?_
    refine XO.q (Q.move rfl) ?_
    refine XO.q (Q.eql rfl rfl) ?_
    refine XO.done ?_
    refine XK.if rfl (fun c0 => ?_) (fun c0 => ?_)
    · have _t0 := True.intro
      exact absurd c0 (by omega)
    · have _t0 := True.intro
      refine XK.skip ?_
      refine XK.seq ?_
      refine XK.region rfl ?_
      refine XO.q (Q.assign rfl) ?_
      refine XO.done ?_
      refine XK.seq ?_
      refine XK.seq ?_
      refine XK.region rfl ?_
      refine XO.q (Q.move rfl) ?_
      refine XO.len rfl fun l25 => ?_
      refine XO.q (Q.gtr rfl rfl) ?_
      refine XO.done ?_
      refine XK.meet (X := Unit) [9, 27, 28, 29, 30, 31, 32, 33] (fun ⟨⟩ => [(9, some (.int .i64 (((fromOf l) : Nat) : Int)))]) (fun ⟨⟩ => []) (fun ⟨⟩ => True) [] ?_ ?_
      · rintro ⟨⟩ _
        dsimp only [List.cons_append, List.nil_append]
        refine XK.seq ?_
        refine XK.region rfl ?_
        refine XO.q (Q.assign rfl) ?_
        refine XO.done ?_
        refine XK.seq ?_
        refine XK.seq ?_
        refine XK.region rfl ?_
        refine XO.q (Q.move rfl) ?_
        refine XO.q (Q.assign rfl) ?_
        refine XO.done ?_
        refine XK.block ?_
        refine XK.while (X := Nat × Value × PHeap × PHeap × List Value × List (List Nat)) [10, 11, 12, 35, 36, 37, 38, 39, 40, 41, 42, 43, 44, 45, 46, 47, 48, 49, 50, 51, 52, 53, 54, 55] (fun ⟨i, vo, ho, K, us, acc⟩ => [(11, some (.int .i64 (i : Nat))), (10, some (vo))]) (fun ⟨i, vo, ho, K, us, acc⟩ => [ho, K]) (fun ⟨i, vo, ho, K, us, acc⟩ => (fromOf l) ≤ i ∧ i ≤ c.nodes.length ∧ OArr vo encV 1 24 ho us ∧ RowsK us K (acc.map ints) ∧ acc ++ subsL c l i (s + 1) = subsL c l (fromOf l) (s + 1)) (fun ⟨i, vo, ho, K, us, acc⟩ => c.nodes.length - i) ((fromOf l), .slice none 0 0, emp, emp, [], []) [emp, emp] rfl ⟨Nat.le_refl _, fl, hnil, RowsK.nil, rfl⟩ (.c rfl (.c rfl (.base 0 rfl rfl))) ?_
        rintro ⟨i, vo, ho, K, us, acc⟩ ⟨hfi, hi, OO, rK, htot⟩ ih0
        dsimp only [List.cons_append, List.nil_append] at ih0 ⊢
        refine XK.seq ?_
        refine XK.seq ?_
        refine XK.region rfl ?_
        refine XO.q (Q.move rfl) ?_
        refine XO.q (Q.fieldAddr rfl) ?_
        refine XO.q (Q.ld rfl rfl) ?_
        refine XO.len rfl fun l38 => ?_
        refine XO.q (Q.lss rfl rfl) ?_
        refine XO.done ?_
        refine XK.if rfl (fun c2 => ?_) (fun c2 => ?_)
        · have _t2 := True.intro
          refine XK.skip ?_
          refine XK.seq ?_
          refine XK.block ?_
          refine XK.seq ?_
          refine XK.region rfl ?_
          refine XO.q (Q.assign rfl) ?_
          refine XO.done ?_
          refine XK.seq ?_
          refine XK.region rfl ?_
          refine XO.q (Q.move rfl) ?_
          refine XO.q (Q.move rfl) ?_
          refine XO.drop (o' := [emp, ho, K, blk b3 [vn, vv] 165, hs_]) ?_
          refine XO.append rfl rfl rfl rfl (by simp only [List.length_nil]; omega) fun v44 h44 O44 => ?_
          refine XO.q (Q.assign rfl) ?_
          refine XO.done ?_
          refine XK.seq ?_
          refine XK.region rfl ?_
          refine XO.q (Q.move rfl) ?_
          refine XO.q (Q.move rfl) ?_
          refine XO.lit [_] [_] [((i : Nat) : Int)] encI (by rfl) (by rfl) rfl (by rfl) (by exact .c 0 1 rfl rfl rfl (.n _)) (fun _ => rfl) (by rfl) rfl (by infer_instance) rfl fun v47 h47 O47 => ?_
          refine XO.append rfl rfl rfl rfl (by simp only [List.nil_append, List.length_cons, List.length_nil]; omega) fun v48 h48 O48 => ?_
          refine XO.q (Q.assign rfl) ?_
          refine XO.done ?_
          refine XK.region rfl ?_
          refine XO.q (Q.move rfl) ?_
          refine XO.q (Q.ldA [_, _] rfl rfl rfl) ?_
          refine XO.q (Q.move rfl) ?_
          refine XO.q (Q.move rfl) ?_
          refine XO.q (Q.sub rfl rfl ⟨by omega, by omega⟩) ?_
          rw [show (((s + 1 : Nat) : Int) - 1) = (s : Int) by omega]
          refine XO.call Try.call102 rfl rfl rfl (ih (l ++ [i]) v48 h48 (js := by have := O48; rw [List.nil_append, ← ints_snoc] at this; exact this) (inc_from incl hfi) (fun x hx => by rcases List.mem_append.1 hx with h | h; exact lt x h; rw [List.mem_singleton.1 h]; omega) (by omega) (by rw [List.length_append]; have := inc_len (inc_from incl hfi) (n := c.nodes.length) (fun x hx => by rcases List.mem_append.1 hx with h | h; exact lt x h; rw [List.mem_singleton.1 h]; omega); rw [List.length_append] at this; omega)) fun v54 s54 R54 => ?_
          obtain ⟨k54, K54, us54, rfl, O54, R54⟩ := R54
          dsimp only [List.cons_append, List.nil_append]
          refine XO.cat K K54 fun hle1 hle2 => ?_
          refine XO.append rfl rfl rfl rfl (by have h1 := rK.1; have h2 := R54.1; have h3 := subs_len c n2 (l ++ [i]) (fromOf (l ++ [i])) s; have h4 := subs_len c n2 l (fromOf l) (s + 1); rw [List.length_map] at h1 h2; rw [← htot, List.length_append] at h4; omega) fun v55 h55 O55 => ?_
          refine XO.q (Q.assign rfl) ?_
          refine XO.done ?_
          refine XK.inBlock ?_
          refine XK.region rfl ?_
          refine XO.q (Q.move rfl) ?_
          refine XO.q (Q.add rfl rfl ⟨by omega, by omega⟩) ?_
          refine XO.q (Q.assign rfl) ?_
          refine XO.done ?_
          exact ih0 (i + 1, v55, h55, cat K K54, us ++ us54, acc ++ subsL c (l ++ [i]) (i + 1) s) _ _ ⟨by dsimp only; omega, by dsimp only; omega, O55, by dsimp only; rw [List.map_append]; rw [from_snoc] at R54; exact rows_append (rK.mono hle1) (R54.mono hle2), by dsimp only; rw [List.append_assoc, ← subs_step c l (by omega)]; exact htot⟩ (by first | omega | (dsimp only; omega)) (.c rfl (.c rfl (.base 52 rfl rfl))) inferInstance
        · have _t2 := True.intro
          refine XK.exit rfl ?_
          refine XK.seq ?_
          refine XK.region rfl ?_
          refine XO.q (Q.move rfl) ?_
          refine XO.q (Q.assign rfl) ?_
          refine XO.done ?_
          refine XK.rt [ho, K] Try.func102 Try.results102 (.t rfl .n) ?_
          have hin : i = c.nodes.length := by omega
          subst hin
          rw [subs_end, List.append_nil] at htot
          rw [htot] at rK
          exact ⟨ho, K, us, rfl, OO, rK⟩
      · intro mt1
        dsimp only [List.cons_append, List.nil_append] at mt1
        refine XK.if rfl (fun c1 => ?_) (fun c1 => ?_)
        · have _t1 := True.intro
          have fi := from_int (l := l) (by omega)
          refine XK.region rfl ?_
          refine XO.q (Q.move rfl) ?_
          refine XO.q (Q.move rfl) ?_
          refine XO.len rfl fun l29 => ?_
          refine XO.q (Q.sub rfl rfl ⟨by omega, by omega⟩) ?_
          refine XO.ix rfl rfl (by omega) (by omega) fun i31 => ?_
          refine XO.q (Q.ldE rfl (by first | assumption | omega) rfl) ?_
          refine XO.q (Q.add rfl rfl ⟨by omega, by omega⟩) ?_
          rw [from_int (l := l) (by omega)]
          refine XO.q (Q.assign rfl) ?_
          refine XO.done ?_
          exact mt1 (()) _ _ trivial (.c rfl (.base 8 rfl rfl)) inferInstance
        · have _t1 := True.intro
          refine XK.skip ?_
          have e1 : (((fromOf l) : Nat) : Int) = 0 := by rw [fromOf, if_neg (by omega)]; rfl
          rw [e1] at mt1
          exact mt1 (()) _ _ trivial (.c rfl (.base 0 rfl rfl)) inferInstance
theorem RLeast_spec (c : MCase) (vn vv : Value) (hn hv : PHeap) [jn : Arr vn encNode 3 hn c.nodes] [jv : Arr vv encI 1 hv c.vals] : Spec Try.prog 80 #[.agg #[vn, vv]] [] [hn, hv]
    (fun v hs => ∃ v1 k1 K us, v = .tuple #[v1, .int .i64 (leastG c).2] ∧ hs = [k1, K] ∧ OArr v1 encV 1 24 k1 us ∧ RowsK us K ((leastG c).1.map ints)) := by
  have hnilI : OArr (.slice none 0 0) encI 1 3 emp (ints []) := OArr.nil (fun _ => rfl)
  refine Spec.intro (fn := Try.f80) (N := 28) Try.func80 rfl Try.ntmps80 rfl fun B => ?_
  refine XK.seq ?_
  refine XK.region rfl ?_
  refine XO.box rfl fun b1 => ?_
  refine XO.q (Q.assign rfl) ?_
  refine XO.q (Q.assign rfl) ?_
  refine XO.done ?_
  refine XK.seq ?_
  refine XK.seq ?_
  refine XK.region rfl ?_
  refine XO.q (Q.ldA [_, _] rfl rfl rfl) ?_
  refine XO.call Try.call76 rfl rfl rfl (RCheck_spec c vn vv hn hv) fun v9 s9 R9 => ?_
  obtain ⟨rfl, rfl⟩ := R9
  dsimp only [List.cons_append, List.nil_append]
  refine XO.q (Q.assign rfl) ?_
  refine XO.done ?_
  refine XK.seq ?_
  refine XK.region rfl ?_
  refine XO.q (Q.move rfl) ?_
  refine XO.q (Q.neq rfl rfl) ?_
  refine XO.done ?_
  refine XK.if rfl (fun c0 => ?_) (fun c0 => ?_)
  · have _t0 := True.intro
    refine XK.seq ?_
    refine XK.region rfl ?_
    refine XO.q (Q.move rfl) ?_
    refine XO.q (Q.assign rfl) ?_
    refine XO.q (Q.assign rfl) ?_
    refine XO.done ?_
    refine XK.rt [emp, emp] Try.func80 Try.results80 (.t rfl (.t rfl .n)) ?_
    have hw0 : leastG c = ([], mcheck c) := by rw [leastG, if_pos c0]
    rw [hw0]
    exact ⟨.slice none 0 0, emp, emp, [], rfl, rfl, OArr.nil (fun _ => rfl), RowsK.nil⟩
  · have _t0 := True.intro
    have ok0 := Decidable.of_not_not c0
    have ok := mcheck_ok ok0
    have n2 := ok.n2
    refine XK.skip ?_
    refine XK.seq ?_
    refine XK.region rfl ?_
    refine XO.q (Q.fieldAddr rfl) ?_
    refine XO.q (Q.ld rfl rfl) ?_
    refine XO.len rfl fun l15 => ?_
    refine XO.q (Q.assign rfl) ?_
    refine XO.done ?_
    refine XK.seq ?_
    refine XK.seq ?_
    refine XK.region rfl ?_
    refine XO.q (Q.assign rfl) ?_
    refine XO.done ?_
    refine XK.block ?_
    refine XK.while (X := Nat) [2, 3, 6, 7, 16, 17, 18, 19, 20, 21, 22, 23, 24, 25, 26, 27] (fun s => [(6, some (.int .i64 (s : Nat)))]) (fun s => []) (fun s => s ≤ c.nodes.length + 1 ∧ leastS c (c.nodes.length + 1) 0 = leastS c (c.nodes.length + 1 - s) s) (fun s => c.nodes.length + 1 - s) (0) [] rfl ⟨by omega, rfl⟩ (.c rfl (.base 0 rfl rfl)) ?_
    rintro s ⟨hs, hls⟩ ih0
    dsimp only [List.cons_append, List.nil_append] at ih0 ⊢
    refine XK.seq ?_
    refine XK.seq ?_
    refine XK.region rfl ?_
    refine XO.q (Q.move rfl) ?_
    refine XO.q (Q.move rfl) ?_
    refine XO.q (Q.leq rfl rfl) ?_
    refine XO.done ?_
    refine XK.if rfl (fun c1 => ?_) (fun c1 => ?_)
    · have _t1 := True.intro
      refine XK.skip ?_
      refine XK.seq ?_
      refine XK.block ?_
      refine XK.seq ?_
      refine XK.region rfl ?_
      refine XO.q (Q.ldA [_, _] rfl rfl rfl) ?_
      refine XO.q (Q.move rfl) ?_
      refine XO.drop (o' := [emp, blk b1 [vn, vv] 165]) ?_
      refine XO.call Try.call102 rfl rfl rfl (subsets_spec c vn vv hn hv ok s [] (.slice none 0 0) emp trivial (fun x hx => by cases hx) (by omega) (by simp)) fun v23 s23 R23 => ?_
      obtain ⟨k1, K, us, rfl, OO, rK⟩ := R23
      dsimp only [List.cons_append, List.nil_append]
      rw [show subsL c [] (fromOf []) s = leastAt c s from least_subs c s] at rK
      have hul := rK.1
      rw [List.length_map] at hul
      refine XO.q (Q.assign rfl) ?_
      refine XO.done ?_
      refine XK.seq ?_
      refine XK.region rfl ?_
      refine XO.q (Q.move rfl) ?_
      refine XO.len rfl fun l25 => ?_
      refine XO.q (Q.gtr rfl rfl) ?_
      refine XO.done ?_
      refine XK.if rfl (fun c2 => ?_) (fun c2 => ?_)
      · have _t2 := True.intro
        refine XK.seq ?_
        refine XK.region rfl ?_
        refine XO.q (Q.move rfl) ?_
        refine XO.q (Q.assign rfl) ?_
        refine XO.q (Q.assign rfl) ?_
        refine XO.done ?_
        refine XK.rt [k1, K] Try.func80 Try.results80 (.t rfl (.t rfl .n)) ?_
        have e1 : leastS c (c.nodes.length + 1) 0 = leastAt c s := by rw [hls, show c.nodes.length + 1 - s = (c.nodes.length - s) + 1 by omega, leastS, if_pos (by omega)]
        have hw0 : leastG c = (leastAt c s, 0) := by rw [leastG, if_neg c0, e1, if_pos (by omega)]
        rw [hw0]
        exact ⟨_, k1, K, us, rfl, rfl, OO, rK⟩
      · have _t2 := True.intro
        refine XK.skip ?_
        refine XK.inBlock ?_
        refine XK.region rfl ?_
        refine XO.q (Q.move rfl) ?_
        refine XO.q (Q.add rfl rfl ⟨by omega, by omega⟩) ?_
        refine XO.q (Q.assign rfl) ?_
        refine XO.done ?_
        exact ih0 (s + 1) _ _ ⟨by omega, by rw [hls, show c.nodes.length + 1 - s = (c.nodes.length + 1 - (s + 1)) + 1 by omega, leastS, if_neg (by omega)]⟩ (by first | omega | (dsimp only; omega)) (.c rfl (.base 30 rfl rfl)) inferInstance
    · have _t1 := True.intro
      have hsn : s = c.nodes.length + 1 := by omega
      subst hsn
      refine XK.exit rfl ?_
      refine XK.seq ?_
      refine XK.region rfl ?_
      refine XO.q (Q.assign rfl) ?_
      refine XO.q (Q.assign rfl) ?_
      refine XO.done ?_
      refine XK.rt [emp, emp] Try.func80 Try.results80 (.t rfl (.t rfl .n)) ?_
      have hw0 : leastG c = ([], 4) := by rw [leastG, if_neg c0, hls, Nat.sub_self, leastS, if_neg (by decide)]
      rw [hw0]
      exact ⟨.slice none 0 0, emp, emp, [], rfl, rfl, OArr.nil (fun _ => rfl), RowsK.nil⟩
end Go.X

set_option linter.unusedSimpArgs false
set_option linter.unusedVariables false
set_option maxRecDepth 20000
namespace Go.X
open Go.Proofs
theorem node_ne (x y : MNode) : (!(decide (x.up = y.up) && (decide (x.low = y.low) && (decide (x.high = y.high) && true)))) = decide (¬ x = y) := by
  cases x; cases y
  rw [Bool.eq_iff_iff]
  simp
theorem equalN (v1 v2 : Value) (h1 h2 : PHeap) (xs ys : List MNode) [s1 : Arr v1 encNode 3 h1 xs] [s2 : Arr v2 encNode 3 h2 ys] :
    Spec Try.prog 81 #[v1, v2] [] [h1, h2] (fun v hs => v = .bool (decide (xs = ys)) ∧ hs = []) := by
  refine Spec.intro (fn := Try.f81) (N := 26) Try.func81 rfl Try.ntmps81 rfl fun B => ?_
  refine XK.seq ?_
  refine XK.region rfl ?_
  refine XO.q (Q.assign rfl) ?_
  refine XO.done ?_
  refine XK.seq ?_
  refine XK.seq ?_
  refine XK.region rfl ?_
  refine XO.q (Q.move rfl) ?_
  refine XO.len rfl fun l7 => ?_
  refine XO.q (Q.move rfl) ?_
  refine XO.len rfl fun l9 => ?_
  refine XO.q (Q.neq rfl rfl) ?_
  refine XO.done ?_
  refine XK.if rfl (fun c0 => ?_) (fun c0 => ?_)
  · have _t0 := True.intro
    refine XK.seq ?_
    refine XK.region rfl ?_
    refine XO.q (Q.assign rfl) ?_
    refine XO.done ?_
    refine XK.rt [] Try.func81 Try.results81 (.t rfl .n) ?_
    exact ⟨by rw [decide_eq_false (fun h => c0 (by rw [h]))], rfl⟩
  · have _t0 := True.intro
    refine XK.skip ?_
    refine XK.seq ?_
    refine XK.seq ?_
    refine XK.region rfl ?_
    refine XO.q (Q.move rfl) ?_
    refine XO.len rfl fun l12 => ?_
    refine XO.q (Q.move rfl) ?_
    refine XO.done ?_
    refine XK.block ?_
    refine XK.while (X := Nat) [4, 5, 13, 14, 15, 16, 17, 18, 19, 20, 21, 22, 23, 24, 25] (fun i => [(13, some (.int .i64 (i : Nat)))]) (fun i => []) (fun i => i ≤ xs.length ∧ xs.take i = ys.take i) (fun i => xs.length - i) (0) [] rfl ⟨by omega, rfl⟩ (.c rfl (.base 0 rfl rfl)) ?_
    rintro i ⟨hi, ht⟩ ih0
    dsimp only [List.cons_append, List.nil_append] at ih0 ⊢
    refine XK.seq ?_
    refine XK.region rfl ?_
    refine XO.q (Q.lss rfl rfl) ?_
    refine XO.done ?_
    refine XK.seq ?_
    refine XK.if rfl (fun c1 => ?_) (fun c1 => ?_)
    · have _t1 := True.intro
      refine XK.skip ?_
      refine XK.seq ?_
      refine XK.block ?_
      refine XK.seq ?_
      refine XK.region rfl ?_
      refine XO.q (Q.move rfl) ?_
      refine XO.q (Q.assign rfl) ?_
      refine XO.done ?_
      refine XK.seq ?_
      refine XK.drawn [0, 1, 2, 3, 4, 5, 6, 7, 8] [] [] (.q 0 (.q 1 (.q 2 (.q 3 (.q 4 (.q 5 (.q 6 (.q 7 (.q 8 .done))))))))) Try.mixed rfl (by kernel_rfl) ?_
      refine XT.q rfl rfl (Q.move rfl) ?_
      refine XT.q rfl rfl (Q.move rfl) ?_
      refine XT.ix rfl rfl rfl rfl (by omega) (by omega) fun i18 => ?_
      refine XT.q rfl rfl (Q.ldEA [_, _, _] rfl (by first | assumption | omega) rfl rfl) ?_
      refine XT.q rfl rfl (Q.move rfl) ?_
      refine XT.q rfl rfl (Q.move rfl) ?_
      refine XT.ix rfl rfl rfl rfl (by omega) (by omega) fun i22 => ?_
      refine XT.q rfl rfl (Q.ldEA [_, _, _] rfl (by first | assumption | omega) rfl rfl) ?_
      refine XT.q rfl rfl (Q.neqS (us := [_, _, _]) (vs := [_, _, _]) rfl rfl inferInstance (by kernel_rfl) (by kernel_rfl) (.c rfl inferInstance inferInstance rfl rfl (.c rfl inferInstance inferInstance rfl rfl (.c rfl inferInstance inferInstance rfl rfl .n)))) ?_
      rw [node_ne]
      refine XT.done ?_
      refine XK.if rfl (fun c2 => ?_) (fun c2 => ?_)
      · have _t2 := True.intro
        refine XK.seq ?_
        refine XK.region rfl ?_
        refine XO.q (Q.assign rfl) ?_
        refine XO.done ?_
        refine XK.rt [] Try.func81 Try.results81 (.t rfl .n) ?_
        exact ⟨by rw [decide_eq_false (fun h => c2 (by rw [h]))], rfl⟩
      · have _t2 := True.intro
        refine XK.skip ?_
        refine XK.inBlock ?_
        refine XK.region rfl ?_
        refine XO.q (Q.add rfl rfl ⟨by omega, by omega⟩) ?_
        refine XO.q (Q.move rfl) ?_
        refine XO.done ?_
        exact ih0 (i + 1) _ _ ⟨by omega, take_step ht (by omega) (by omega) (Decidable.of_not_not c2)⟩ (by first | omega | (dsimp only; omega)) (.c rfl (.base 30 rfl rfl)) inferInstance
    · have _t1 := True.intro
      refine XK.exit rfl ?_
      refine XK.seq ?_
      refine XK.region rfl ?_
      refine XO.q (Q.assign rfl) ?_
      refine XO.done ?_
      refine XK.rt [] Try.func81 Try.results81 (.t rfl .n) ?_
      exact ⟨by rw [decide_eq_true (take_all ht c1 (by omega))], rfl⟩
theorem cloneN (v : Value) (h : PHeap) (xs : List MNode) [s : Arr v encNode 3 h xs] (hl : xs.length ≤ 68719476736) :
    Spec Try.prog 75 #[v] [] [h] (fun v' hs => ∃ h', hs = [h'] ∧ OArr v' encNode 3 97 h' xs) := by
  refine Spec.intro (fn := Try.f75) (N := 8) Try.func75 rfl Try.ntmps75 rfl fun B => ?_
  refine XK.seq ?_
  refine XK.region rfl ?_
  refine XO.q (Q.assign rfl) ?_
  refine XO.done ?_
  refine XK.seq ?_
  refine XK.seq ?_
  refine XK.region rfl ?_
  refine XO.q (Q.move rfl) ?_
  refine XO.eqNil rfl fun z4 hz4 => ?_
  refine XO.done ?_
  refine XK.if rfl (fun c0 => ?_) (fun c0 => ?_)
  · have _t0 := True.intro
    refine XK.seq ?_
    refine XK.region rfl ?_
    refine XO.q (Q.assign rfl) ?_
    refine XO.done ?_
    refine XK.rt [emp] Try.func75 Try.results75 (.t rfl .n) ?_
    exact ⟨emp, rfl, by rw [(hz4 c0).1]; exact OArr.nil (fun _ => rfl)⟩
  · have _t0 := True.intro
    refine XK.skip ?_
    refine XK.seq ?_
    refine XK.region rfl ?_
    refine XO.lit [] [] [] encNode (by rfl) (by rfl) rfl (by rfl) (by exact .n _) (fun _ => rfl) (by rfl) rfl (by infer_instance) rfl fun v5 h5 O5 => ?_
    refine XO.q (Q.move rfl) ?_
    refine XO.append rfl rfl rfl rfl (by first | omega | (simp; omega)) fun v7 h7 O7 => ?_
    refine XO.q (Q.assign rfl) ?_
    refine XO.done ?_
    refine XK.rt [h7] Try.func75 Try.results75 (.t rfl .n) ?_
    exact ⟨h7, rfl, O7⟩
theorem take_snocN {l : List MNode} {i : Nat} (hi : i < l.length) : l.take (i + 1) = l.take i ++ [l.getD i default] := by
  rw [List.take_add_one, List.getElem?_eq_getElem hi, List.getD_eq_getElem?_getD, List.getElem?_eq_getElem hi]; rfl
set_option maxHeartbeats 4000000 in
set_option synthInstance.maxSize 1000 in
theorem cases11 (c : MCase) (vn vv : Value) (hn hv : PHeap) [jn : Arr vn encNode 3 hn c.nodes] [jv : Arr vv encI 1 hv c.vals] (set : List Int) (vs : Value) (hs_ : PHeap) [js : Arr vs encI 1 hs_ set] (nl : c.nodes.length ≤ 1000) (vl0 : c.vals.length ≤ 1000) (sl : set.length ≤ 1000) : Spec Try.prog 37 #[.agg #[vn, vv], vs] [] [hn, hv, hs_] (fun v hs => v = .bool true ∧ hs = []) := by
  have nN : OArr (.slice none 0 0) encNode 3 166 emp ([] : List MNode) := OArr.nil (fun _ => rfl)
  refine Spec.intro (fn := Try.f37) (N := 158) Try.func37 rfl Try.ntmps37 rfl fun B => ?_
  refine XK.seq ?_
  refine XK.region rfl ?_
  refine XO.box rfl fun b2 => ?_
  refine XO.q (Q.assign rfl) ?_
  refine XO.done ?_
  refine XK.seq ?_
  refine XK.meet (X := Nat × Value × Value × PHeap × PHeap) [5, 20, 21, 22, 23, 24, 25, 26] (fun ⟨b5, va, vw, ka, kw⟩ => [(5, some (ptr b5 0))]) (fun ⟨b5, va, vw, ka, kw⟩ => [blk b5 [va, vw] 50, ka, kw]) (fun ⟨b5, va, vw, ka, kw⟩ => OArr va encNode 3 97 ka c.nodes ∧ OArr vw encI 1 3 kw c.vals) [] ?_ ?_
  · rintro ⟨b5, va, vw, ka, kw⟩ ⟨OA, OW⟩
    dsimp only [List.cons_append, List.nil_append]
    refine XK.seq ?_
    refine XK.region rfl ?_
    refine XO.q (Q.fieldAddr rfl) ?_
    refine XO.q (Q.ld rfl rfl) ?_
    refine XO.call Try.call20 rfl rfl rfl (cloneI vv hv c.vals (by omega)) fun v29 s29 R29 => ?_
    obtain ⟨k28, rfl, O28⟩ := R29
    dsimp only [List.cons_append, List.nil_append]
    refine XO.q (Q.build [_, _] (.c 1 1 rfl rfl rfl (.n _))) ?_
    refine XO.alloc fun b6 => ?_
    refine XO.st rfl rfl rfl ?_
    refine XO.done ?_
    refine XK.seq ?_
    refine XK.seq ?_
    refine XK.region rfl ?_
    refine XO.q (Q.fieldAddr rfl) ?_
    refine XO.q (Q.ld rfl rfl) ?_
    refine XO.len rfl fun l33 => ?_
    refine XO.q (Q.move rfl) ?_
    refine XO.done ?_
    refine XK.block ?_
    refine XK.while (X := Nat × Value × PHeap) [8, 34, 35, 36, 37, 38, 39, 40, 41, 42, 43, 44] (fun ⟨j, vr, kr⟩ => [(34, some (.int .i64 (j : Nat)))]) (fun ⟨j, vr, kr⟩ => [blk b6 [vr, v29] 165, kr]) (fun ⟨j, vr, kr⟩ => j ≤ c.nodes.length ∧ OArr vr encNode 3 166 kr (c.nodes.take j)) (fun ⟨j, vr, kr⟩ => c.nodes.length - j) (0, .slice none 0 0, emp) [blk b6 [.slice none 0 0, v29] 165, emp] rfl ⟨by omega, nN⟩ (.c rfl (.base 0 rfl rfl)) ?_
    rintro ⟨j, vr, kr⟩ ⟨hj, OR⟩ ih0
    dsimp only [List.cons_append, List.nil_append] at ih0 ⊢
    have el : (c.nodes.take j).length = j := by rw [List.length_take]; omega
    refine XK.seq ?_
    refine XK.region rfl ?_
    refine XO.q (Q.lss rfl rfl) ?_
    refine XO.done ?_
    refine XK.seq ?_
    refine XK.if rfl (fun c0 => ?_) (fun c0 => ?_)
    · have _t0 := True.intro
      refine XK.skip ?_
      refine XK.seq ?_
      refine XK.block ?_
      refine XK.seq ?_
      refine XK.region rfl ?_
      refine XO.ix rfl rfl (by omega) (by omega) fun i36 => ?_
      refine XO.q (Q.ldEA [_, _, _] rfl (by first | assumption | omega) rfl rfl) ?_
      refine XO.alloc fun b8 => ?_
      refine XO.st rfl rfl rfl ?_
      refine XO.done ?_
      refine XK.region rfl ?_
      refine XO.q (Q.fieldAddr rfl) ?_
      refine XO.q (Q.ld rfl rfl) ?_
      refine XO.q (Q.ldA [_, _, _] rfl rfl rfl) ?_
      refine XO.lit [_, _, _] [_, _, _] [c.nodes.getD j default] encNode (by rfl) (by rfl) rfl (by rfl) (by exact .c 0 3 rfl rfl rfl (.n _)) (fun _ => rfl) (by rfl) rfl (by infer_instance) rfl fun v41 h41 O41 => ?_
      refine XO.append rfl rfl rfl rfl (by first | omega | (simp; omega)) fun v42 h42 O42 => ?_
      refine XO.q (Q.fieldAddr rfl) ?_
      refine XO.st rfl rfl rfl ?_
      refine XO.done ?_
      refine XK.inBlock ?_
      refine XK.region rfl ?_
      refine XO.q (Q.add rfl rfl ⟨by omega, by omega⟩) ?_
      refine XO.q (Q.move rfl) ?_
      refine XO.done ?_
      exact ih0 (j + 1, v42, h42) _ _ ⟨by dsimp only; omega, by dsimp only; rw [take_snocN (by omega)]; exact O42⟩ (by first | omega | (dsimp only; omega)) (.c rfl (.base 25 rfl rfl)) inferInstance
    · have _t0 := True.intro
      have hjn : j = c.nodes.length := by omega
      subst hjn
      rw [List.take_length] at OR
      clear ih0
      refine XK.exit rfl ?_
      refine XK.seq ?_
      refine XK.region rfl ?_
      refine XO.q (Q.move rfl) ?_
      refine XO.call Try.call20 rfl rfl rfl (cloneI vs hs_ set (by omega)) fun v46 s46 R46 => ?_
      obtain ⟨k46, rfl, O46⟩ := R46
      dsimp only [List.cons_append, List.nil_append]
      refine XO.q (Q.assign rfl) ?_
      refine XO.done ?_
      refine XK.seq ?_
      refine XK.seq ?_
      refine XK.drawn [0, 2, 4] [b5, b6] [] (.q 0 (.q 2 (.br 1 true (.br 3 true (.q 4 .done) .stop) .stop))) Try.mixed rfl (by kernel_rfl) ?_
      refine XT.q rfl rfl (Q.ldA [_, _] rfl rfl rfl) ?_
      refine XT.q rfl rfl (Q.ldA [_, _] rfl rfl rfl) ?_
      refine XT.call rfl rfl Try.call54 rfl rfl rfl (Check_spec11 c va vw ka kw) (fun v48 s48 R48 => ?_) XT.stop
      obtain ⟨rfl, rfl⟩ := R48
      dsimp only [List.cons_append, List.nil_append]
      refine ⟨inferInstance, ?_⟩
      refine XT.call rfl rfl Try.call76 rfl rfl rfl (RCheck_spec c vr v29 kr k28) (fun v50 s50 R50 => ?_) XT.stop
      obtain ⟨rfl, rfl⟩ := R50
      dsimp only [List.cons_append, List.nil_append]
      refine ⟨inferInstance, ?_⟩
      refine XT.q rfl rfl (Q.neq rfl rfl) ?_
      refine XT.done ?_
      refine XK.if rfl (fun c1 => ?_) (fun c1 => ?_)
      · have _t1 := True.intro
        simp at c1
      · have _t1 := True.intro
        refine XK.skip ?_
        refine XK.seq ?_
        refine XK.region rfl ?_
        refine XO.q (Q.ldA [_, _] rfl rfl rfl) ?_
        refine XO.call Try.call18 rfl rfl rfl (Broken_spec c va vw ka kw) fun v54 s54 R54 => ?_
        obtain ⟨w54, q54, rfl, rfl, OO54⟩ := R54
        dsimp only [List.cons_append, List.nil_append]
        refine XO.q (Q.move rfl) ?_
        refine XO.q (Q.extract rfl rfl) ?_
        refine XO.q (Q.extract rfl rfl) ?_
        refine XO.q (Q.assign rfl) ?_
        refine XO.q (Q.assign rfl) ?_
        refine XO.done ?_
        refine XK.seq ?_
        refine XK.region rfl ?_
        refine XO.q (Q.ldA [_, _] rfl rfl rfl) ?_
        refine XO.call Try.call77 rfl rfl rfl (RBroken_spec c vr v29 kr k28) fun v59 s59 R59 => ?_
        obtain ⟨w59, q59, rfl, rfl, OO59⟩ := R59
        dsimp only [List.cons_append, List.nil_append]
        refine XO.q (Q.move rfl) ?_
        refine XO.q (Q.extract rfl rfl) ?_
        refine XO.q (Q.extract rfl rfl) ?_
        refine XO.q (Q.assign rfl) ?_
        refine XO.q (Q.assign rfl) ?_
        refine XO.done ?_
        refine XK.seq ?_
        refine XK.seq ?_
        refine XK.region rfl ?_
        refine XO.q (Q.move rfl) ?_
        refine XO.q (Q.move rfl) ?_
        refine XO.call Try.call51 rfl rfl rfl (equalI w54 w59 q54 q59 _ _) fun v64 s64 R64 => ?_
        obtain ⟨rfl, rfl⟩ := R64
        dsimp only [List.cons_append, List.nil_append]
        refine XO.q (Q.not rfl) ?_
        refine XO.q (Q.move rfl) ?_
        refine XO.q (Quiet.guardF rfl rfl fun g67 p67 => Q.move rfl) ?_
        refine XO.q (Quiet.guardF rfl rfl fun g68 p68 => Q.move rfl) ?_
        refine XO.q (Quiet.guardF rfl rfl fun g69 p69 => Q.neq (lzv g69 rfl) (lzv g69 rfl)) ?_
        refine XO.q (Q.or rfl (fun hp => lzv hp rfl)) ?_
        refine XO.done ?_
        refine XK.if rfl (fun c2 => ?_) (fun c2 => ?_)
        · have _t2 := True.intro
          simp at c2
        · have _t2 := True.intro
          refine XK.skip ?_
          refine XK.seq ?_
          refine XK.region rfl ?_
          refine XO.q (Q.ldA [_, _] rfl rfl rfl) ?_
          refine XO.q (Q.move rfl) ?_
          refine XO.call Try.call15 rfl rfl rfl (Explains_spec c va vw ka kw set v46 k46) fun v74 s74 R74 => ?_
          obtain ⟨rfl, rfl⟩ := R74
          dsimp only [List.cons_append, List.nil_append]
          refine XO.q (Q.move rfl) ?_
          refine XO.q (Q.extract rfl rfl) ?_
          refine XO.q (Q.extract rfl rfl) ?_
          refine XO.q (Q.assign rfl) ?_
          refine XO.q (Q.assign rfl) ?_
          refine XO.done ?_
          refine XK.seq ?_
          refine XK.region rfl ?_
          refine XO.q (Q.ldA [_, _] rfl rfl rfl) ?_
          refine XO.q (Q.move rfl) ?_
          refine XO.call Try.call78 rfl rfl rfl (RExplains_spec c vr v29 kr k28 set vs hs_) fun v80 s80 R80 => ?_
          obtain ⟨rfl, rfl⟩ := R80
          dsimp only [List.cons_append, List.nil_append]
          refine XO.q (Q.move rfl) ?_
          refine XO.q (Q.extract rfl rfl) ?_
          refine XO.q (Q.extract rfl rfl) ?_
          refine XO.q (Q.assign rfl) ?_
          refine XO.q (Q.assign rfl) ?_
          refine XO.done ?_
          refine XK.seq ?_
          refine XK.seq ?_
          refine XK.region rfl ?_
          refine XO.q (Q.move rfl) ?_
          refine XO.q (Q.move rfl) ?_
          refine XO.q (Q.neqB rfl rfl) ?_
          refine XO.q (Q.move rfl) ?_
          refine XO.q (Quiet.guardF rfl rfl fun g87 p87 => Q.move rfl) ?_
          refine XO.q (Quiet.guardF rfl rfl fun g88 p88 => Q.move rfl) ?_
          refine XO.q (Quiet.guardF rfl rfl fun g89 p89 => Q.neq (lzv g89 rfl) (lzv g89 rfl)) ?_
          refine XO.q (Q.or rfl (fun hp => lzv hp rfl)) ?_
          refine XO.done ?_
          refine XK.if rfl (fun c3 => ?_) (fun c3 => ?_)
          · have _t3 := True.intro
            simp at c3
          · have _t3 := True.intro
            refine XK.skip ?_
            refine XK.seq ?_
            refine XK.region rfl ?_
            refine XO.q (Q.ldA [_, _] rfl rfl rfl) ?_
            refine XO.q (Q.move rfl) ?_
            refine XO.call Try.call17 rfl rfl rfl (Repair_spec c va vw ka kw set v46 k46) fun v94 s94 R94 => ?_
            obtain ⟨w94, q94, rfl, rfl, OO94⟩ := R94
            dsimp only [List.cons_append, List.nil_append]
            refine XO.q (Q.move rfl) ?_
            refine XO.q (Q.extract rfl rfl) ?_
            refine XO.q (Q.extract rfl rfl) ?_
            refine XO.q (Q.assign rfl) ?_
            refine XO.q (Q.assign rfl) ?_
            refine XO.done ?_
            refine XK.seq ?_
            refine XK.region rfl ?_
            refine XO.q (Q.ldA [_, _] rfl rfl rfl) ?_
            refine XO.q (Q.move rfl) ?_
            refine XO.call Try.call79 rfl rfl rfl (RRepair_spec c vr v29 kr k28 set vs hs_) fun v100 s100 R100 => ?_
            obtain ⟨w100, q100, rfl, rfl, OO100⟩ := R100
            dsimp only [List.cons_append, List.nil_append]
            refine XO.q (Q.move rfl) ?_
            refine XO.q (Q.extract rfl rfl) ?_
            refine XO.q (Q.extract rfl rfl) ?_
            refine XO.q (Q.assign rfl) ?_
            refine XO.q (Q.assign rfl) ?_
            refine XO.done ?_
            refine XK.seq ?_
            refine XK.seq ?_
            refine XK.region rfl ?_
            refine XO.q (Q.move rfl) ?_
            refine XO.q (Q.move rfl) ?_
            refine XO.call Try.call51 rfl rfl rfl (equalI w94 w100 q94 q100 _ _) fun v105 s105 R105 => ?_
            obtain ⟨rfl, rfl⟩ := R105
            dsimp only [List.cons_append, List.nil_append]
            refine XO.q (Q.not rfl) ?_
            refine XO.q (Q.move rfl) ?_
            refine XO.q (Quiet.guardF rfl rfl fun g108 p108 => Q.move rfl) ?_
            refine XO.q (Quiet.guardF rfl rfl fun g109 p109 => Q.move rfl) ?_
            refine XO.q (Quiet.guardF rfl rfl fun g110 p110 => Q.neq (lzv g110 rfl) (lzv g110 rfl)) ?_
            refine XO.q (Q.or rfl (fun hp => lzv hp rfl)) ?_
            refine XO.done ?_
            refine XK.if rfl (fun c4 => ?_) (fun c4 => ?_)
            · have _t4 := True.intro
              simp at c4
            · have _t4 := True.intro
              refine XK.skip ?_
              refine XK.seq ?_
              refine XK.seq ?_
              refine XK.region rfl ?_
              refine XO.q (Q.fieldAddr rfl) ?_
              refine XO.q (Q.ld rfl rfl) ?_
              refine XO.len rfl fun l114 => ?_
              refine XO.q (Q.leq rfl rfl) ?_
              refine XO.q (Q.move rfl) ?_
              refine XO.q (Quiet.guardF rfl rfl fun g117 p117 => Q.fieldAddr rfl) ?_
              refine XO.q (Quiet.guardF rfl rfl fun g118 p118 => Q.ld (lzv g118 rfl) rfl) ?_
              refine XO.q (Quiet.guardF rfl rfl fun g119 p119 => Q.len (lzv g119 rfl)) ?_
              refine XO.q (Quiet.guardF rfl rfl fun g120 p120 => Q.gtr (lzv g120 rfl) rfl) ?_
              refine XO.q (Q.or rfl (fun hp => lzv hp rfl)) ?_
              refine XO.done ?_
              refine XK.if rfl (fun c5 => ?_) (fun c5 => ?_)
              · have _t5 := True.intro
                refine XK.seq ?_
                refine XK.region rfl ?_
                refine XO.q (Q.ldA [_, _] rfl rfl rfl) ?_
                refine XO.call Try.call16 rfl rfl rfl (Least_spec c va vw ka kw (fun _ s hs => combos_steps hs)) fun v124 s124 R124 => ?_
                obtain ⟨w124, q124, K124, us124, rfl, rfl, OO124, RR124⟩ := R124
                dsimp only [List.cons_append, List.nil_append]
                refine XO.q (Q.move rfl) ?_
                refine XO.q (Q.extract rfl rfl) ?_
                refine XO.q (Q.extract rfl rfl) ?_
                refine XO.q (Q.assign rfl) ?_
                refine XO.q (Q.assign rfl) ?_
                refine XO.done ?_
                refine XK.seq ?_
                refine XK.region rfl ?_
                refine XO.q (Q.ldA [_, _] rfl rfl rfl) ?_
                refine XO.call Try.call80 rfl rfl rfl (RLeast_spec c vr v29 kr k28) fun v129 s129 R129 => ?_
                obtain ⟨w129, q129, K129, us129, rfl, rfl, OO129, RR129⟩ := R129
                dsimp only [List.cons_append, List.nil_append]
                refine XO.q (Q.move rfl) ?_
                refine XO.q (Q.extract rfl rfl) ?_
                refine XO.q (Q.extract rfl rfl) ?_
                refine XO.q (Q.assign rfl) ?_
                refine XO.q (Q.assign rfl) ?_
                refine XO.done ?_
                refine XK.seq ?_
                refine XK.region rfl ?_
                refine XO.q (Q.move rfl) ?_
                refine XO.q (Q.move rfl) ?_
                refine XO.call Try.call50 rfl rfl rfl (sameLists w124 w129 q124 q129 K124 K129 us124 us129 _ _ RR124 RR129) fun v134 s134 R134 => ?_
                obtain ⟨rfl, rfl⟩ := R134
                dsimp only [List.cons_append, List.nil_append]
                refine XO.q (Q.not rfl) ?_
                refine XO.q (Q.move rfl) ?_
                refine XO.q (Quiet.guardF rfl rfl fun g137 p137 => Q.move rfl) ?_
                refine XO.q (Quiet.guardF rfl rfl fun g138 p138 => Q.move rfl) ?_
                refine XO.q (Quiet.guardF rfl rfl fun g139 p139 => Q.neq (lzv g139 rfl) (lzv g139 rfl)) ?_
                refine XO.q (Q.or rfl (fun hp => lzv hp rfl)) ?_
                refine XO.done ?_
                refine XK.if rfl (fun c6 => ?_) (fun c6 => ?_)
                · have _t6 := True.intro
                  simp at c6
                · have _t6 := True.intro
                  refine XK.skip ?_
                  refine XK.seq ?_
                  refine XK.region rfl ?_
                  refine XO.q (Q.fieldAddr rfl) ?_
                  refine XO.q (Q.ld rfl rfl) ?_
                  refine XO.q (Q.fieldAddr rfl) ?_
                  refine XO.q (Q.ld rfl rfl) ?_
                  refine XO.call Try.call81 rfl rfl rfl (equalN va vn ka hn c.nodes c.nodes) fun v145 s145 R145 => ?_
                  obtain ⟨rfl, rfl⟩ := R145
                  dsimp only [List.cons_append, List.nil_append]
                  refine XO.q (Q.move rfl) ?_
                  refine XO.q (Quiet.guardT rfl rfl fun g147 p147 => Q.fieldAddr rfl) ?_
                  refine XO.q (Quiet.guardT rfl rfl fun g148 p148 => Q.ld (lzv g148 rfl) rfl) ?_
                  refine XO.q (Quiet.guardT rfl rfl fun g149 p149 => Q.fieldAddr rfl) ?_
                  refine XO.q (Quiet.guardT rfl rfl fun g150 p150 => Q.ld (lzv g150 rfl) rfl) ?_
                  refine XO.gcallT rfl rfl Try.call51 rfl (fun g151 => .c (lzv g151 rfl) (.c (lzv g151 rfl) .n)) rfl (fun g151 p151 => equalI vw vv kw hv c.vals c.vals) ?_
                  refine XO.q (Q.and rfl (fun hp => lzv hp rfl)) ?_
                  refine XO.q (Q.move rfl) ?_
                  refine XO.q (Quiet.guardT rfl rfl fun g154 p154 => Q.move rfl) ?_
                  refine XO.q (Quiet.guardT rfl rfl fun g155 p155 => Q.move rfl) ?_
                  refine XO.gcallT rfl rfl Try.call51 rfl (fun g156 => .c (lzv g156 rfl) (.c (lzv g156 rfl) .n)) rfl (fun g156 p156 => equalI v46 vs k46 hs_ set set) ?_
                  refine XO.q (Q.and rfl (fun hp => lzv hp rfl)) ?_
                  refine XO.q (Q.assign rfl) ?_
                  refine XO.done ?_
                  refine XK.rt [] Try.func37 Try.results37 (.t rfl .n) ?_
                  exact ⟨by simp, rfl⟩
              · have _t5 := True.intro
                refine XK.skip ?_
                refine XK.seq ?_
                refine XK.region rfl ?_
                refine XO.q (Q.fieldAddr rfl) ?_
                refine XO.q (Q.ld rfl rfl) ?_
                refine XO.q (Q.fieldAddr rfl) ?_
                refine XO.q (Q.ld rfl rfl) ?_
                refine XO.call Try.call81 rfl rfl rfl (equalN va vn ka hn c.nodes c.nodes) fun v145 s145 R145 => ?_
                obtain ⟨rfl, rfl⟩ := R145
                dsimp only [List.cons_append, List.nil_append]
                refine XO.q (Q.move rfl) ?_
                refine XO.q (Quiet.guardT rfl rfl fun g147 p147 => Q.fieldAddr rfl) ?_
                refine XO.q (Quiet.guardT rfl rfl fun g148 p148 => Q.ld (lzv g148 rfl) rfl) ?_
                refine XO.q (Quiet.guardT rfl rfl fun g149 p149 => Q.fieldAddr rfl) ?_
                refine XO.q (Quiet.guardT rfl rfl fun g150 p150 => Q.ld (lzv g150 rfl) rfl) ?_
                refine XO.gcallT rfl rfl Try.call51 rfl (fun g151 => .c (lzv g151 rfl) (.c (lzv g151 rfl) .n)) rfl (fun g151 p151 => equalI vw vv kw hv c.vals c.vals) ?_
                refine XO.q (Q.and rfl (fun hp => lzv hp rfl)) ?_
                refine XO.q (Q.move rfl) ?_
                refine XO.q (Quiet.guardT rfl rfl fun g154 p154 => Q.move rfl) ?_
                refine XO.q (Quiet.guardT rfl rfl fun g155 p155 => Q.move rfl) ?_
                refine XO.gcallT rfl rfl Try.call51 rfl (fun g156 => .c (lzv g156 rfl) (.c (lzv g156 rfl) .n)) rfl (fun g156 p156 => equalI v46 vs k46 hs_ set set) ?_
                refine XO.q (Q.and rfl (fun hp => lzv hp rfl)) ?_
                refine XO.q (Q.assign rfl) ?_
                refine XO.done ?_
                refine XK.rt [] Try.func37 Try.results37 (.t rfl .n) ?_
                exact ⟨by simp, rfl⟩
  · intro mtr1
    dsimp only [List.cons_append, List.nil_append] at mtr1
    refine XK.drawn [0, 1, 3, 4, 6] [b2] [] (.q 0 (.q 1 (.q 3 (.q 4 (.br 2 true (.br 5 true (.q 6 (.br 7 true (.br 8 false .done .stop) .stop)) (.br 7 true (.br 5 true (.q 6 (.br 8 false .done .stop)) .stop) .stop)) (.br 7 true (.br 2 true (.br 5 true (.q 6 (.br 8 false .done .stop)) .stop) .stop) .stop)))))) Try.mixed rfl (by kernel_rfl) ?_
    refine XT.q rfl rfl (Q.fieldAddr rfl) ?_
    refine XT.q rfl rfl (Q.ld rfl rfl) ?_
    refine XT.q rfl rfl (Q.fieldAddr rfl) ?_
    refine XT.q rfl rfl (Q.ld rfl rfl) ?_
    refine XT.call rfl rfl Try.call75 rfl rfl rfl (cloneN vn hn c.nodes (by omega)) (fun v22 s22 R22 => ?_) ?_
    · skip
      obtain ⟨k22, rfl, O22⟩ := R22
      dsimp only [List.cons_append, List.nil_append]
      refine ⟨inferInstance, ?_⟩
      refine XT.call rfl rfl Try.call20 rfl rfl rfl (cloneI vv hv c.vals (by omega)) (fun v25 s25 R25 => ?_) ?_
      · skip
        obtain ⟨k25, rfl, O25⟩ := R25
        dsimp only [List.cons_append, List.nil_append]
        refine ⟨inferInstance, ?_⟩
        refine XT.q rfl rfl (Q.build [_, _] (.c 0 1 rfl rfl rfl (.c 1 1 rfl rfl rfl (.n _)))) ?_
        refine XT.alloc rfl rfl (fun b5 => ⟨inferInstance, ?_⟩) XT.stop
        refine XT.st rfl rfl rfl rfl rfl ⟨inferInstance, ?_⟩ XT.stop
        refine XT.done ?_
        exact mtr1 ((b5, v22, v25, k22, k25)) _ _ ⟨O22, O25⟩ (.c rfl (.base 8 rfl rfl)) inferInstance
      · skip
        refine XT.alloc rfl rfl (fun b5 => ⟨inferInstance, ?_⟩) XT.stop
        refine XT.call rfl rfl Try.call20 rfl rfl rfl (cloneI vv hv c.vals (by omega)) (fun v25 s25 R25 => ?_) XT.stop
        obtain ⟨k25, rfl, O25⟩ := R25
        dsimp only [List.cons_append, List.nil_append]
        refine ⟨inferInstance, ?_⟩
        refine XT.q rfl rfl (Q.build [_, _] (.c 0 1 rfl rfl rfl (.c 1 1 rfl rfl rfl (.n _)))) ?_
        refine XT.st rfl rfl rfl rfl rfl ⟨inferInstance, ?_⟩ XT.stop
        refine XT.done ?_
        exact mtr1 ((b5, v22, v25, k22, k25)) _ _ ⟨O22, O25⟩ (.c rfl (.base 8 rfl rfl)) inferInstance
    · skip
      refine XT.alloc rfl rfl (fun b5 => ⟨inferInstance, ?_⟩) XT.stop
      refine XT.call rfl rfl Try.call75 rfl rfl rfl (cloneN vn hn c.nodes (by omega)) (fun v22 s22 R22 => ?_) XT.stop
      obtain ⟨k22, rfl, O22⟩ := R22
      dsimp only [List.cons_append, List.nil_append]
      refine ⟨inferInstance, ?_⟩
      refine XT.call rfl rfl Try.call20 rfl rfl rfl (cloneI vv hv c.vals (by omega)) (fun v25 s25 R25 => ?_) XT.stop
      obtain ⟨k25, rfl, O25⟩ := R25
      dsimp only [List.cons_append, List.nil_append]
      refine ⟨inferInstance, ?_⟩
      refine XT.q rfl rfl (Q.build [_, _] (.c 0 1 rfl rfl rfl (.c 1 1 rfl rfl rfl (.n _)))) ?_
      refine XT.st rfl rfl rfl rfl rfl ⟨inferInstance, ?_⟩ XT.stop
      refine XT.done ?_
      exact mtr1 ((b5, v22, v25, k22, k25)) _ _ ⟨O22, O25⟩ (.c rfl (.base 8 rfl rfl)) inferInstance
end Go.X

set_option linter.unusedSimpArgs false
set_option linter.unusedVariables false
set_option maxRecDepth 20000
namespace Go.X
open Go.Proofs
def encRd (x : MRd) : List Value := [.int .i64 x.meter, .int .i64 x.hour, .int .i64 x.value]
def encLink (x : MLink) : List Value := [.int .i64 x.rd.meter, .int .i64 x.rd.hour, .int .i64 x.rd.value, .int .u64 x.sign]
def encU64 (x : Int) : List Value := [.int .u64 x]
instance : KeyT Try.prog 161 encK2 := KeyT.pair Try.underlying161 inferInstance inferInstance inferInstance inferInstance
instance : KeyT Try.prog 3 encK1 := KeyT.int Try.underlying3
theorem Mix_spec (x y : Int) : Spec Try.prog 29 #[.int .u64 x, .int .u64 y] [] [] (fun v hs => v = .int .u64 (mixP x y) ∧ hs = []) := by
  refine Spec.intro (fn := Try.f29) (N := 19) Try.func29 rfl Try.ntmps29 rfl fun B => ?_
  refine XK.seq ?_
  refine XK.region rfl ?_
  refine XO.q (Q.assign rfl) ?_
  refine XO.done ?_
  refine XK.seq ?_
  refine XK.region rfl ?_
  refine XO.q (Q.move rfl) ?_
  refine XO.q (Q.move rfl) ?_
  refine XO.q (Q.xorW rfl rfl) ?_
  refine XO.q (Q.mulW rfl rfl) ?_
  refine XO.q (Q.assign rfl) ?_
  refine XO.done ?_
  refine XK.seq ?_
  refine XK.region rfl ?_
  refine XO.q (Q.move rfl) ?_
  refine XO.q (Q.move rfl) ?_
  refine XO.q (Q.shrW rfl rfl (by omega)) ?_
  refine XO.q (Q.xorW rfl rfl) ?_
  refine XO.q (Q.mulW rfl rfl) ?_
  refine XO.q (Q.assign rfl) ?_
  refine XO.done ?_
  refine XK.seq ?_
  refine XK.region rfl ?_
  refine XO.q (Q.move rfl) ?_
  refine XO.q (Q.move rfl) ?_
  refine XO.q (Q.shrW rfl rfl (by omega)) ?_
  refine XO.q (Q.xorW rfl rfl) ?_
  refine XO.q (Q.assign rfl) ?_
  refine XO.done ?_
  refine XK.rt [] Try.func29 Try.results29 (.t rfl .n) ?_
  exact ⟨rfl, rfl⟩
theorem begin_spec (key : Int) : Spec Try.prog 67 #[.int .u64 key] [] [] (fun v hs => ∃ b m, v = ptr b 0 ∧ hs = [blk b [.int .u64 key, .int .u64 (mixP key 1), .map (some m)] 193, mapH m encK2 (seenL [])]) := by
  refine Spec.intro (fn := Try.f67) (N := 9) Try.func67 rfl Try.ntmps67 rfl fun B => ?_
  refine XK.seq ?_
  refine XK.region rfl ?_
  refine XO.q (Q.assign rfl) ?_
  refine XO.done ?_
  refine XK.seq ?_
  refine XK.region rfl ?_
  refine XO.q (Q.move rfl) ?_
  refine XO.q (Q.move rfl) ?_
  refine XO.call Try.call29 rfl rfl rfl (Mix_spec _ _) fun v5 s5 R5 => ?_
  obtain ⟨rfl, rfl⟩ := R5
  dsimp only [List.cons_append, List.nil_append]
  refine XO.map encK2 fun b6 => ?_
  refine XO.q (Q.build [_, _, _] (.c 0 1 rfl rfl rfl (.c 1 1 rfl rfl rfl (.c 2 1 rfl rfl rfl (.n _))))) ?_
  refine XO.box rfl fun b8 => ?_
  refine XO.q (Q.assign rfl) ?_
  refine XO.done ?_
  refine XK.rt [blk b8 [.int .u64 key, .int .u64 (mixP key 1), .map (some b6)] 193, mapH b6 encK2 []] Try.func67 Try.results67 (.t rfl .n) ?_
  exact ⟨b8, b6, rfl, rfl⟩
def partR (key : Int) (r : MRd) : List Int := [u64 r.meter, u64 r.hour, u64 r.value, key]
def mixTo (last key : Int) (r : MRd) : Nat → Int
  | 0 => last
  | j + 1 => mixP (mixTo last key r j) ((partR key r).getD j default)
theorem mixTo_all (last key : Int) (r : MRd) : mixTo last key r 4 = sigP key last r := rfl
theorem put_spec (b m : Nat) (key last : Int) (rs : List MRd) (r : MRd) : Spec Try.prog 68 #[ptr b 0, .agg #[.int .i64 r.meter, .int .i64 r.hour, .int .i64 r.value]] [blk b [.int .u64 key, .int .u64 last, .map (some m)] 193, mapH m encK2 (seenL rs)] []
    (fun v hs => v = .tuple #[.int .u64 (if errR rs r = 0 then sigP key last r else 0), .int .i64 (errR rs r)] ∧ hs = [blk b [.int .u64 key, .int .u64 (if errR rs r = 0 then sigP key last r else last), .map (some m)] 193, mapH m encK2 (seenL (if errR rs r = 0 then rs ++ [r] else rs))]) := by
  have pl : (partR key r).length = 4 := rfl
  refine Spec.intro (fn := Try.f68) (N := 72) Try.func68 rfl Try.ntmps68 rfl fun B => ?_
  refine XK.seq ?_
  refine XK.region rfl ?_
  refine XO.box rfl fun b3 => ?_
  refine XO.q (Q.assign rfl) ?_
  refine XO.q (Q.assign rfl) ?_
  refine XO.done ?_
  refine XK.seq ?_
  refine XK.seq ?_
  refine XK.region rfl ?_
  refine XO.q (Q.fieldAddr rfl) ?_
  refine XO.q (Q.ld rfl rfl) ?_
  refine XO.lit [_] [_] [r.meter] encI (by rfl) (by rfl) rfl (by rfl) (by exact .c 0 1 rfl rfl rfl (.n _)) (fun _ => rfl) (by rfl) rfl (by infer_instance) rfl fun v11 h11 O11 => ?_
  refine XO.call Try.call47 rfl rfl rfl (in_spec11 63 v11 h11 [r.meter]) fun v12 s12 R12 => ?_
  obtain ⟨rfl, rfl⟩ := R12
  dsimp only [List.cons_append, List.nil_append]
  refine XO.q (Q.not rfl) ?_
  refine XO.q (Q.move rfl) ?_
  refine XO.q (Quiet.guardF rfl rfl fun g15 p15 => Q.fieldAddr rfl) ?_
  refine XO.q (Quiet.guardF rfl rfl fun g16 p16 => Q.ld (lzv g16 rfl) rfl) ?_
  refine XO.q (Quiet.guardF rfl rfl fun g17 p17 => Q.fieldAddr rfl) ?_
  refine XO.q (Quiet.guardF rfl rfl fun g18 p18 => Q.ld (lzv g18 rfl) rfl) ?_
  refine XO.lit1 [_, _] [_, _] [r.hour, r.value] encI rfl rfl (by rfl) (by rfl) rfl (by rfl) (fun g19 => by exact .c 0 1 (lzv g19 rfl) rfl rfl (.c 1 1 (lzv g19 rfl) rfl rfl (.n _))) (fun _ => rfl) (by rfl) rfl (fun _ => by infer_instance) rfl (fun v19 h19 O19 => ?_)
  refine XO.gcallF rfl rfl Try.call47 rfl (fun g20 => .c rfl (.c (lzv g20 rfl) .n)) rfl (fun g20 p20 => by haveI := O19 g20; exact in_spec11 1000000000 v19 h19 [r.hour, r.value]) ?_
  refine XO.q (Quiet.guardF rfl rfl fun g21 p21 => Q.not (lzv g21 rfl)) ?_
  refine XO.q (Q.or rfl (fun hp => lzv hp rfl)) ?_
  refine XO.done ?_
  refine XK.if rfl (fun c0 => ?_) (fun c0 => ?_)
  · have _t0 := True.intro
    refine XK.seq ?_
    refine XK.region rfl ?_
    refine XO.q (Q.assign rfl) ?_
    refine XO.q (Q.assign rfl) ?_
    refine XO.done ?_
    refine XK.rt [blk b [.int .u64 key, .int .u64 last, .map (some m)] 193, mapH m encK2 (seenL rs)] Try.func68 Try.results68 (.t rfl (.t rfl .n)) ?_
    have e : errR rs r = 6 := by rw [errR, if_pos (show badRd r from c0)]
    rw [e]
    exact ⟨rfl, rfl⟩
  · have _t0 := True.intro
    refine XK.skip ?_
    refine XK.seq ?_
    refine XK.region rfl ?_
    refine XO.q (Q.fieldAddr rfl) ?_
    refine XO.q (Q.ld rfl rfl) ?_
    refine XO.q (Q.fieldAddr rfl) ?_
    refine XO.q (Q.ld rfl rfl) ?_
    refine XO.q (Q.build [_, _] (.c 0 1 rfl rfl rfl (.c 1 1 rfl rfl rfl (.n _)))) ?_
    refine XO.alloc fun b6 => ?_
    refine XO.st rfl rfl rfl ?_
    refine XO.done ?_
    refine XK.seq ?_
    refine XK.seq ?_
    refine XK.drawn [0, 1, 2, 3, 4] [b, b6] [] (.q 0 (.q 1 (.q 2 (.q 3 (.q 4 (.br 5 true .done .stop)))))) Try.mixed rfl (by kernel_rfl) ?_
    refine XT.q rfl rfl (Q.move rfl) ?_
    refine XT.q rfl rfl (Q.nilCheck rfl) ?_
    refine XT.q rfl rfl (Q.fieldAddr rfl) ?_
    refine XT.q rfl rfl (Q.ld rfl rfl) ?_
    refine XT.q rfl rfl (Q.ldA [_, _] rfl rfl rfl) ?_
    refine XT.qs rfl rfl (Q.lookup _ Try.zeroValue4 (keyR r) rfl rfl) ⟨inferInstance, ?_⟩ XT.stop
    rw [get_seen]
    refine XT.done ?_
    refine XK.if rfl (fun c1 => ?_) (fun c1 => ?_)
    · have _t1 := True.intro
      refine XK.seq ?_
      refine XK.region rfl ?_
      refine XO.q (Q.assign rfl) ?_
      refine XO.q (Q.assign rfl) ?_
      refine XO.done ?_
      refine XK.rt [blk b [.int .u64 key, .int .u64 last, .map (some m)] 193, mapH m encK2 (seenL rs)] Try.func68 Try.results68 (.t rfl (.t rfl .n)) ?_
      have e : errR rs r = 110 := by rw [errR, if_neg (show ¬ badRd r from c0), if_pos c1]
      rw [e]
      exact ⟨rfl, rfl⟩
    · have _t1 := True.intro
      refine XK.skip ?_
      refine XK.seq ?_
      refine XK.drawn [0, 1, 2, 3, 4] [b, b6] [] (.q 0 (.q 1 (.q 2 (.q 3 (.q 4 (.br 5 false .done .stop)))))) Try.mixed rfl (by kernel_rfl) ?_
      refine XT.q rfl rfl (Q.move rfl) ?_
      refine XT.q rfl rfl (Q.nilCheck rfl) ?_
      refine XT.q rfl rfl (Q.fieldAddr rfl) ?_
      refine XT.q rfl rfl (Q.ld rfl rfl) ?_
      refine XT.q rfl rfl (Q.ldA [_, _] rfl rfl rfl) ?_
      refine XT.mapUpdate rfl rfl (keyR r) rfl rfl rfl ⟨inferInstance, ?_⟩ XT.stop
      rw [put_seen (Bool.eq_false_iff.2 c1)]
      refine XT.done ?_
      refine XK.seq ?_
      refine XK.seq ?_
      refine XK.drawn [0, 1, 2, 3, 4, 5, 6, 7, 8, 9, 10, 11, 12, 15, 14] [b3, b] [] (.q 0 (.q 1 (.q 2 (.q 3 (.q 4 (.q 5 (.q 6 (.q 7 (.q 8 (.q 9 (.q 10 (.q 11 (.q 12 (.q 15 (.br 13 true (.q 14 .done) .stop))))))))))))))) Try.mixed rfl (by kernel_rfl) ?_
      refine XT.q rfl rfl (Q.fieldAddr rfl) ?_
      refine XT.q rfl rfl (Q.ld rfl rfl) ?_
      refine XT.q rfl rfl (Q.conv rfl) ?_
      refine XT.q rfl rfl (Q.fieldAddr rfl) ?_
      refine XT.q rfl rfl (Q.ld rfl rfl) ?_
      refine XT.q rfl rfl (Q.conv rfl) ?_
      refine XT.q rfl rfl (Q.fieldAddr rfl) ?_
      refine XT.q rfl rfl (Q.ld rfl rfl) ?_
      refine XT.q rfl rfl (Q.conv rfl) ?_
      refine XT.q rfl rfl (Q.move rfl) ?_
      refine XT.q rfl rfl (Q.nilCheck rfl) ?_
      refine XT.q rfl rfl (Q.fieldAddr rfl) ?_
      refine XT.q rfl rfl (Q.ld rfl rfl) ?_
      refine XT.q rfl rfl (Q.move rfl) ?_
      refine XT.lit [_, _, _, _] [_, _, _, _] (partR key r) encU64 rfl rfl (by rfl) (by rfl) rfl (by rfl) (by exact .c 0 1 rfl rfl rfl (.c 1 1 rfl rfl rfl (.c 2 1 rfl rfl rfl (.c 3 1 rfl rfl rfl (.n _))))) (fun _ => rfl) (by rfl) rfl (by infer_instance) rfl (fun v52 h52 O52 => ⟨inferInstance, ?_⟩) XT.stop
      refine XT.q rfl rfl (Q.len rfl) ?_
      refine XT.done ?_
      refine XK.block ?_
      refine XK.while (X := Nat) [8, 54, 55, 56, 57, 58, 59, 60, 61, 62, 63, 64, 65, 66, 67] (fun i => [(54, some (.int .i64 (i : Nat)))]) (fun i => [blk b [.int .u64 key, .int .u64 (mixTo last key r (i)), .map (some m)] 193]) (fun i => i ≤ 4) (fun i => 4 - i) (0) [blk b [.int .u64 key, .int .u64 last, .map (some m)] 193] rfl (by omega) (.c rfl (.base 0 rfl rfl)) ?_
      rintro i hi ih0
      dsimp only [List.cons_append, List.nil_append] at ih0 ⊢
      refine XK.seq ?_
      refine XK.region rfl ?_
      refine XO.q (Q.lss rfl rfl) ?_
      refine XO.done ?_
      refine XK.seq ?_
      refine XK.if rfl (fun c2 => ?_) (fun c2 => ?_)
      · have _t2 := True.intro
        refine XK.skip ?_
        refine XK.seq ?_
        refine XK.block ?_
        refine XK.seq ?_
        refine XK.region rfl ?_
        refine XO.ix rfl rfl (by omega) (by omega) fun i56 => ?_
        refine XO.q (Q.ldE rfl (by first | assumption | omega) rfl) ?_
        refine XO.q (Q.assign rfl) ?_
        refine XO.done ?_
        refine XK.region rfl ?_
        refine XO.q (Q.move rfl) ?_
        refine XO.q (Q.move rfl) ?_
        refine XO.q (Q.nilCheck rfl) ?_
        refine XO.q (Q.fieldAddr rfl) ?_
        refine XO.q (Q.ld rfl rfl) ?_
        refine XO.q (Q.move rfl) ?_
        refine XO.call Try.call29 rfl rfl rfl (Mix_spec _ _) fun v64 s64 R64 => ?_
        obtain ⟨rfl, rfl⟩ := R64
        dsimp only [List.cons_append, List.nil_append]
        rw [show mixP (mixTo last key r (i)) ((partR key r).getD i default) = (mixTo last key r (i + 1)) from rfl]
        refine XO.q (Q.nilCheck rfl) ?_
        refine XO.q (Q.fieldAddr rfl) ?_
        refine XO.st rfl rfl rfl ?_
        refine XO.done ?_
        refine XK.inBlock ?_
        refine XK.region rfl ?_
        refine XO.q (Q.add rfl rfl ⟨by omega, by omega⟩) ?_
        refine XO.q (Q.move rfl) ?_
        refine XO.done ?_
        exact ih0 (i + 1) _ _ (by omega) (by first | omega | (dsimp only; omega)) (.c rfl (.base 31 rfl rfl)) inferInstance
      · have _t2 := True.intro
        have hi4 : i = 4 := by omega
        subst hi4
        rw [mixTo_all]
        refine XK.exit rfl ?_
        refine XK.seq ?_
        refine XK.region rfl ?_
        refine XO.q (Q.move rfl) ?_
        refine XO.q (Q.nilCheck rfl) ?_
        refine XO.q (Q.fieldAddr rfl) ?_
        refine XO.q (Q.ld rfl rfl) ?_
        refine XO.q (Q.assign rfl) ?_
        refine XO.q (Q.assign rfl) ?_
        refine XO.done ?_
        refine XK.rt [blk b [.int .u64 key, .int .u64 (sigP key last r), .map (some m)] 193, mapH m encK2 (seenL (rs ++ [r]))] Try.func68 Try.results68 (.t rfl (.t rfl .n)) ?_
        have e : errR rs r = 0 := by rw [errR, if_neg (show ¬ badRd r from c0), if_neg c1]
        rw [e, if_pos rfl, if_pos rfl, if_pos rfl]
        exact ⟨rfl, rfl⟩
end Go.X

set_option linter.unusedSimpArgs false
set_option linter.unusedVariables false
set_option maxRecDepth 20000
namespace Go.X
open Go.Proofs
theorem lastS_succ (key : Int) (l : List MRd) (i : Nat) : lastS key l (i + 1) = sigP key (lastS key l i) (l.getD i default) := by rw [lastS]
theorem rds_len (ls : List MLink) : (rdsL ls).length = ls.length := by rw [rdsL, List.length_map]
theorem badRd_rng {r : MRd} (h : ¬ badRd r) : (0 ≤ r.meter ∧ r.meter ≤ 63) ∧ (0 ≤ r.hour ∧ r.hour ≤ 1000000000) ∧ 0 ≤ r.value ∧ r.value ≤ 1000000000 := by
  unfold badRd at h
  simp only [not_or, Classical.not_not] at h
  exact ⟨inA_one.1 h.1, inA_two.1 h.2⟩
theorem errAt_rng {l : List MRd} {i : Nat} (h : errAt l i = 0) : 0 ≤ (l.getD i default).value ∧ (l.getD i default).value ≤ 1000000000 := by
  unfold errAt errR at h
  split at h
  · cases h
  · rename_i h2
    exact (badRd_rng h2).2.2
theorem sumM_rng {rs : List MRd} {m : Int} {n : Nat} (h : ∀ j, j < n → 0 ≤ (rs.getD j default).value ∧ (rs.getD j default).value ≤ 1000000000) : 0 ≤ sumM rs m n ∧ sumM rs m n ≤ n * 1000000000 := by
  have h1 : ∀ j, j < n → 0 ≤ meterV rs m j ∧ meterV rs m j ≤ 1000000000 := fun j hj => by
    have := h j hj
    unfold meterV; split <;> omega
  exact ⟨sum_nonneg fun j hj => (h1 j hj).1, sum_le fun j hj => (h1 j hj).2⟩
theorem chk_err {key : Int} {ls : List MLink} {sg : Bool} {i : Nat} (h : chkF key ls sg i = 0) : errAt (rdsL ls) i = 0 := by
  unfold chkF at h
  split at h
  · rename_i h1; exact absurd h h1
  · rename_i h1; exact Decidable.of_not_not h1
theorem check_fine {key : Int} {ls : List MLink} {sg : Bool} (h : (checkG key ls sg).2 = 0) : ls.length ≤ 4096 ∧ ∀ j, j < ls.length → chkF key ls sg j = 0 := by
  unfold checkG at h
  split at h
  · cases h
  · rename_i h1
    split at h
    · rename_i i hi
      exfalso
      have key2 : ∀ {n : Nat}, scanTo (chkF key ls sg) n = some i → chkF key ls sg i ≠ 0 := by
        intro n
        induction n with
        | zero => intro h; cases h
        | succ n ih =>
          intro h
          rw [scanTo] at h
          split at h
          · rename_i j hj; cases h; exact ih hj
          · split at h
            · rename_i h3; cases h; exact h3
            · cases h
      exact key2 hi h
    · rename_i h2
      exact ⟨by omega, scan_none h2⟩
theorem Sign_spec (key : Int) (l : List MRd) (vl : Value) (hl : PHeap) [jl : Arr vl encRd 3 hl l] : Spec Try.prog 23 #[.int .u64 key, vl] [] [hl] (fun v hs => ∃ v1 k1, v = .tuple #[v1, .int .i64 (signG key l).2] ∧ hs = [k1] ∧ OArr v1 encLink 4 76 k1 (signG key l).1) := by
  have ll := jl.le
  have nL : OArr (.slice none 0 0) encLink 4 76 emp ([] : List MLink) := OArr.nil (fun _ => rfl)
  refine Spec.intro (fn := Try.f23) (N := 40) Try.func23 rfl Try.ntmps23 rfl fun B => ?_
  refine XK.seq ?_
  refine XK.region rfl ?_
  refine XO.q (Q.assign rfl) ?_
  refine XO.q (Q.assign rfl) ?_
  refine XO.done ?_
  refine XK.seq ?_
  refine XK.seq ?_
  refine XK.region rfl ?_
  refine XO.q (Q.move rfl) ?_
  refine XO.len rfl fun l13 => ?_
  refine XO.q (Q.gtr rfl rfl) ?_
  refine XO.done ?_
  refine XK.if rfl (fun c0 => ?_) (fun c0 => ?_)
  · have _t0 := True.intro
    refine XK.seq ?_
    refine XK.region rfl ?_
    refine XO.q (Q.assign rfl) ?_
    refine XO.q (Q.assign rfl) ?_
    refine XO.done ?_
    refine XK.rt [emp] Try.func23 Try.results23 (.t rfl (.t rfl .n)) ?_
    have e : signG key l = ([], 2) := by rw [signG, if_pos (by omega)]
    rw [e]
    exact ⟨.slice none 0 0, emp, rfl, rfl, nL⟩
  · have _t0 := True.intro
    refine XK.skip ?_
    refine XK.seq ?_
    refine XK.region rfl ?_
    refine XO.q (Q.move rfl) ?_
    refine XO.call Try.call67 rfl rfl rfl (begin_spec key) fun v16 s16 R16 => ?_
    obtain ⟨bS, mS, rfl, rfl⟩ := R16
    dsimp only [List.cons_append, List.nil_append]
    refine XO.q (Q.assign rfl) ?_
    refine XO.done ?_
    refine XK.seq ?_
    refine XK.region rfl ?_
    refine XO.q (Q.assign rfl) ?_
    refine XO.done ?_
    refine XK.seq ?_
    refine XK.seq ?_
    refine XK.region rfl ?_
    refine XO.q (Q.move rfl) ?_
    refine XO.len rfl fun l18 => ?_
    refine XO.q (Q.move rfl) ?_
    refine XO.done ?_
    refine XK.block ?_
    refine XK.while (X := Nat × Value × PHeap) [4, 5, 7, 9, 10, 11, 19, 20, 21, 22, 23, 24, 25, 26, 27, 28, 29, 30, 31, 32, 33, 34, 35, 36, 37, 38] (fun ⟨i, vo, ko⟩ => [(7, some (vo)), (19, some (.int .i64 (i : Nat)))]) (fun ⟨i, vo, ko⟩ => [blk bS [.int .u64 key, .int .u64 (lastS key l (i)), .map (some mS)] 193, mapH mS encK2 (seenL (l.take i)), ko]) (fun ⟨i, vo, ko⟩ => i ≤ l.length ∧ OArr vo encLink 4 76 ko (links key l i) ∧ ∀ j, j < i → errAt l j = 0) (fun ⟨i, vo, ko⟩ => l.length - i) (0, .slice none 0 0, emp) [blk bS [.int .u64 key, .int .u64 (mixP key 1), .map (some mS)] 193, mapH mS encK2 (seenL []), emp] rfl ⟨by omega, nL, fun j hj => by omega⟩ (.c rfl (.c rfl (.base 0 rfl rfl))) ?_
    rintro ⟨i, vo, ko⟩ ⟨hi, OO, he⟩ ih0
    dsimp only [List.cons_append, List.nil_append] at ih0 ⊢
    have kl := links_len key l i
    refine XK.seq ?_
    refine XK.region rfl ?_
    refine XO.q (Q.lss rfl rfl) ?_
    refine XO.done ?_
    refine XK.seq ?_
    refine XK.if rfl (fun c1 => ?_) (fun c1 => ?_)
    · have _t1 := True.intro
      refine XK.skip ?_
      refine XK.seq ?_
      refine XK.block ?_
      refine XK.seq ?_
      refine XK.region rfl ?_
      refine XO.ix rfl rfl (by omega) (by omega) fun i21 => ?_
      refine XO.q (Q.ldEA [_, _, _] rfl (by first | assumption | omega) rfl rfl) ?_
      refine XO.alloc fun b9 => ?_
      refine XO.st rfl rfl rfl ?_
      refine XO.done ?_
      refine XK.seq ?_
      refine XK.region rfl ?_
      refine XO.q (Q.move rfl) ?_
      refine XO.q (Q.ldA [_, _, _] rfl rfl rfl) ?_
      refine XO.call Try.call68 rfl rfl rfl (put_spec bS mS key (lastS key l (i)) (l.take i) (l.getD i default)) fun v26 s26 R26 => ?_
      obtain ⟨rfl, rfl⟩ := R26
      dsimp only [List.cons_append, List.nil_append]
      rw [show errR (l.take i) (l.getD i default) = errAt l i from rfl]
      refine XO.q (Q.move rfl) ?_
      refine XO.q (Q.extract rfl rfl) ?_
      refine XO.q (Q.extract rfl rfl) ?_
      refine XO.q (Q.assign rfl) ?_
      refine XO.q (Q.assign rfl) ?_
      refine XO.done ?_
      refine XK.seq ?_
      refine XK.seq ?_
      refine XK.region rfl ?_
      refine XO.q (Q.move rfl) ?_
      refine XO.q (Q.neq rfl rfl) ?_
      refine XO.done ?_
      refine XK.if rfl (fun c2 => ?_) (fun c2 => ?_)
      · have _t2 := True.intro
        refine XK.seq ?_
        refine XK.region rfl ?_
        refine XO.q (Q.move rfl) ?_
        refine XO.q (Q.assign rfl) ?_
        refine XO.q (Q.assign rfl) ?_
        refine XO.done ?_
        refine XK.rt [emp] Try.func23 Try.results23 (.t rfl (.t rfl .n)) ?_
        have e : signG key l = ([], errAt l i) := by rw [signG, if_neg (by omega), scan_here he c2 (by omega)]
        rw [e]
        exact ⟨.slice none 0 0, emp, rfl, rfl, nL⟩
      · have _t2 := True.intro
        have ez := Decidable.of_not_not c2
        rw [if_pos ez, if_pos ez, if_pos ez, ← lastS_succ, ← take_snocR (show i < l.length by omega)]
        refine XK.skip ?_
        refine XK.region rfl ?_
        refine XO.q (Q.move rfl) ?_
        refine XO.q (Q.ldA [_, _, _] rfl rfl rfl) ?_
        refine XO.q (Q.move rfl) ?_
        refine XO.q (Q.build [_, _, _, _] (.c 0 3 rfl rfl rfl (.c 3 1 rfl rfl rfl (.n _)))) ?_
        refine XO.lit [_, _, _, _] [_, _, _, _] [linkAt key l i] encLink (by rfl) (by rfl) rfl (by rfl) (by exact .c 0 4 rfl rfl rfl (.n _)) (fun _ => rfl) (by rfl) rfl (by infer_instance) rfl fun v36 h36 O36 => ?_
        refine XO.append rfl rfl rfl rfl (by first | omega | (simp; omega)) fun v37 h37 O37 => ?_
        refine XO.q (Q.assign rfl) ?_
        refine XO.done ?_
        refine XK.inBlock ?_
        refine XK.region rfl ?_
        refine XO.q (Q.add rfl rfl ⟨by omega, by omega⟩) ?_
        refine XO.q (Q.move rfl) ?_
        refine XO.done ?_
        exact ih0 (i + 1, v37, h37) _ _ ⟨by dsimp only; omega, by dsimp only; rw [links_snoc]; exact O37, fun j hj => (by rcases Nat.lt_or_ge j i with h3 | h3; exact he j h3; obtain rfl : j = i := (by dsimp only at hj; omega); exact ez)⟩ (by first | omega | (dsimp only; omega)) (.c rfl (.c rfl (.base 51 rfl rfl))) inferInstance
    · have _t1 := True.intro
      refine XK.exit rfl ?_
      refine XK.seq ?_
      refine XK.region rfl ?_
      refine XO.q (Q.move rfl) ?_
      refine XO.q (Q.assign rfl) ?_
      refine XO.q (Q.assign rfl) ?_
      refine XO.done ?_
      refine XK.rt [ko] Try.func23 Try.results23 (.t rfl (.t rfl .n)) ?_
      have hin : i = l.length := by omega
      subst hin
      have e : signG key l = (links key l l.length, 0) := by rw [signG, if_neg (by omega), scan_all he]
      rw [e]
      exact ⟨vo, ko, rfl, rfl, OO⟩
theorem check_spec (key : Int) (ls : List MLink) (vl : Value) (hl : PHeap) [jl : Arr vl encLink 4 hl ls] (sg : Bool) : Spec Try.prog 69 #[.int .u64 key, vl, .bool sg] [] [hl] (fun v hs => v = .tuple #[.int .i64 (checkG key ls sg).1, .int .i64 (checkG key ls sg).2] ∧ hs = []) := by
  have ll := jl.le
  have rl := rds_len ls
  refine Spec.intro (fn := Try.f69) (N := 50) Try.func69 rfl Try.ntmps69 rfl fun B => ?_
  refine XK.seq ?_
  refine XK.region rfl ?_
  refine XO.q (Q.assign rfl) ?_
  refine XO.q (Q.assign rfl) ?_
  refine XO.done ?_
  refine XK.seq ?_
  refine XK.seq ?_
  refine XK.region rfl ?_
  refine XO.q (Q.move rfl) ?_
  refine XO.len rfl fun l14 => ?_
  refine XO.q (Q.gtr rfl rfl) ?_
  refine XO.done ?_
  refine XK.if rfl (fun c0 => ?_) (fun c0 => ?_)
  · have _t0 := True.intro
    refine XK.seq ?_
    refine XK.region rfl ?_
    refine XO.q (Q.assign rfl) ?_
    refine XO.q (Q.assign rfl) ?_
    refine XO.done ?_
    refine XK.rt [] Try.func69 Try.results69 (.t rfl (.t rfl .n)) ?_
    have e : checkG key ls sg = (0, 2) := by rw [checkG, if_pos (by omega)]
    rw [e]
    exact ⟨rfl, rfl⟩
  · have _t0 := True.intro
    refine XK.skip ?_
    refine XK.seq ?_
    refine XK.region rfl ?_
    refine XO.q (Q.move rfl) ?_
    refine XO.call Try.call67 rfl rfl rfl (begin_spec key) fun v17 s17 R17 => ?_
    obtain ⟨bS, mS, rfl, rfl⟩ := R17
    dsimp only [List.cons_append, List.nil_append]
    refine XO.q (Q.assign rfl) ?_
    refine XO.done ?_
    refine XK.seq ?_
    refine XK.seq ?_
    refine XK.region rfl ?_
    refine XO.q (Q.move rfl) ?_
    refine XO.len rfl fun l19 => ?_
    refine XO.q (Q.move rfl) ?_
    refine XO.done ?_
    refine XK.block ?_
    refine XK.while (X := Nat) [6, 7, 9, 10, 11, 12, 20, 21, 22, 23, 24, 25, 26, 27, 28, 29, 30, 31, 32, 33, 34, 35, 36, 37, 38, 39, 40, 41, 42, 43, 44, 45, 46, 47] (fun i => [(20, some (.int .i64 (i : Nat)))]) (fun i => [blk bS [.int .u64 key, .int .u64 (lastS key (rdsL ls) (i)), .map (some mS)] 193, mapH mS encK2 (seenL ((rdsL ls).take i))]) (fun i => i ≤ ls.length ∧ ∀ j, j < i → (chkF key ls sg (j)) = 0) (fun i => ls.length - i) (0) [blk bS [.int .u64 key, .int .u64 (mixP key 1), .map (some mS)] 193, mapH mS encK2 (seenL [])] rfl ⟨by omega, fun j hj => by omega⟩ (.c rfl (.base 0 rfl rfl)) ?_
    rintro i ⟨hi, he⟩ ih0
    dsimp only [List.cons_append, List.nil_append] at ih0 ⊢
    refine XK.seq ?_
    refine XK.region rfl ?_
    refine XO.q (Q.lss rfl rfl) ?_
    refine XO.done ?_
    refine XK.seq ?_
    refine XK.if rfl (fun c1 => ?_) (fun c1 => ?_)
    · have _t1 := True.intro
      refine XK.skip ?_
      refine XK.seq ?_
      refine XK.block ?_
      refine XK.seq ?_
      refine XK.region rfl ?_
      refine XO.q (Q.move rfl) ?_
      refine XO.ix rfl rfl (by omega) (by omega) fun i23 => ?_
      refine XO.q (Q.ldEA [_, _, _, _] rfl (by first | assumption | omega) rfl rfl) ?_
      refine XO.alloc fun b10 => ?_
      refine XO.q (Q.assign rfl) ?_
      refine XO.st rfl rfl rfl ?_
      refine XO.done ?_
      refine XK.seq ?_
      refine XK.region rfl ?_
      refine XO.q (Q.move rfl) ?_
      refine XO.q (Q.fieldAddr rfl) ?_
      refine XO.q (Q.ldA [_, _, _] rfl rfl rfl) ?_
      refine XO.call Try.call68 rfl rfl rfl (put_spec bS mS key (lastS key (rdsL ls) (i)) ((rdsL ls).take i) (ls.getD i default).rd) fun v29 s29 R29 => ?_
      obtain ⟨rfl, rfl⟩ := R29
      dsimp only [List.cons_append, List.nil_append]
      rw [show errR ((rdsL ls).take i) (ls.getD i default).rd = errAt (rdsL ls) i by rw [errAt, rds_at (by omega)]]
      rw [show sigP key (lastS key (rdsL ls) (i)) (ls.getD i default).rd = (lastS key (rdsL ls) (i + 1)) by rw [lastS_succ, rds_at (by omega)]]
      rw [show (rdsL ls).take i ++ [(ls.getD i default).rd] = (rdsL ls).take (i + 1) by rw [take_snocR (by omega), rds_at (by omega)]]
      refine XO.q (Q.move rfl) ?_
      refine XO.q (Q.extract rfl rfl) ?_
      refine XO.q (Q.extract rfl rfl) ?_
      refine XO.q (Q.assign rfl) ?_
      refine XO.q (Q.assign rfl) ?_
      refine XO.done ?_
      refine XK.seq ?_
      refine XK.seq ?_
      refine XK.region rfl ?_
      refine XO.q (Q.move rfl) ?_
      refine XO.q (Q.eql rfl rfl) ?_
      refine XO.q (Q.move rfl) ?_
      refine XO.q (Quiet.guardT rfl rfl fun g35 p35 => Q.move rfl) ?_
      refine XO.q (Q.and rfl (fun hp => lzv hp rfl)) ?_
      refine XO.q (Q.move rfl) ?_
      refine XO.q (Quiet.guardT rfl rfl fun g38 p38 => Q.move rfl) ?_
      refine XO.q (Quiet.guardT rfl rfl fun g39 p39 => Q.fieldAddr rfl) ?_
      refine XO.q (Quiet.guardT rfl rfl fun g40 p40 => Q.ld (lzv g40 rfl) rfl) ?_
      refine XO.q (Quiet.guardT rfl rfl fun g41 p41 => Q.neq (lzv g41 rfl) (lzv g41 rfl)) ?_
      refine XO.q (Q.and rfl (fun hp => lzv hp rfl)) ?_
      refine XO.done ?_
      refine XK.if rfl (fun c2 => ?_) (fun c2 => ?_)
      · have _t2 := True.intro
        have c2a := c2.1.1
        have ck : (chkF key ls sg (i)) = 7 := by
          have h2 := c2.2
          rw [if_pos c2a] at h2
          rw [chkF, if_neg (fun h => h c2a), if_pos ⟨c2.1.2, h2⟩]
        refine XK.region rfl ?_
        refine XO.q (Q.assign rfl) ?_
        refine XO.done ?_
        refine XK.seq ?_
        refine XK.region rfl ?_
        refine XO.q (Q.move rfl) ?_
        refine XO.q (Q.neq rfl rfl) ?_
        refine XO.done ?_
        refine XK.if rfl (fun c3 => ?_) (fun c3 => ?_)
        · have _t3 := True.intro
          refine XK.seq ?_
          refine XK.region rfl ?_
          refine XO.q (Q.move rfl) ?_
          refine XO.q (Q.move rfl) ?_
          refine XO.q (Q.assign rfl) ?_
          refine XO.q (Q.assign rfl) ?_
          refine XO.done ?_
          refine XK.rt [] Try.func69 Try.results69 (.t rfl (.t rfl .n)) ?_
          have e : checkG key ls sg = ((i : Int), 7) := by rw [checkG, if_neg (by omega), scan_here he (by rw [ck]; decide) (by omega)]; dsimp only; rw [ck]
          rw [e]
          exact ⟨rfl, rfl⟩
        · have _t3 := True.intro
          exact absurd (by decide) c3
      · have _t2 := True.intro
        refine XK.skip ?_
        refine XK.seq ?_
        refine XK.region rfl ?_
        refine XO.q (Q.move rfl) ?_
        refine XO.q (Q.neq rfl rfl) ?_
        refine XO.done ?_
        refine XK.if rfl (fun c4 => ?_) (fun c4 => ?_)
        · have _t4 := True.intro
          have ck : (chkF key ls sg (i)) = errAt (rdsL ls) i := by rw [chkF, if_pos c4]
          refine XK.seq ?_
          refine XK.region rfl ?_
          refine XO.q (Q.move rfl) ?_
          refine XO.q (Q.move rfl) ?_
          refine XO.q (Q.assign rfl) ?_
          refine XO.q (Q.assign rfl) ?_
          refine XO.done ?_
          refine XK.rt [] Try.func69 Try.results69 (.t rfl (.t rfl .n)) ?_
          have e : checkG key ls sg = ((i : Int), errAt (rdsL ls) i) := by rw [checkG, if_neg (by omega), scan_here he (by rw [ck]; exact c4) (by omega)]; dsimp only; rw [ck]
          rw [e]
          exact ⟨rfl, rfl⟩
        · have _t4 := True.intro
          have ez := Decidable.of_not_not c4
          have ck : (chkF key ls sg (i)) = 0 := by
            rw [chkF, if_neg c4, if_neg]
            intro h
            exact c2 ⟨⟨ez, h.1⟩, by rw [if_pos ez]; exact h.2⟩
          rw [if_pos ez, if_pos ez, if_pos ez]
          refine XK.skip ?_
          refine XK.inBlock ?_
          refine XK.region rfl ?_
          refine XO.q (Q.add rfl rfl ⟨by omega, by omega⟩) ?_
          refine XO.q (Q.move rfl) ?_
          refine XO.done ?_
          exact ih0 (i + 1) _ _ ⟨by omega, fun j hj => (by rcases Nat.lt_or_ge j i with h3 | h3; exact he j h3; obtain rfl : j = i := (by omega); exact ck)⟩ (by first | omega | (dsimp only; omega)) (.c rfl (.base 65 rfl rfl)) inferInstance
    · have _t1 := True.intro
      refine XK.exit rfl ?_
      refine XK.seq ?_
      refine XK.region rfl ?_
      refine XO.q (Q.move rfl) ?_
      refine XO.len rfl fun l49 => ?_
      refine XO.q (Q.assign rfl) ?_
      refine XO.q (Q.assign rfl) ?_
      refine XO.done ?_
      refine XK.rt [] Try.func69 Try.results69 (.t rfl (.t rfl .n)) ?_
      have hin : i = ls.length := by omega
      subst hin
      have e : checkG key ls sg = ((ls.length : Int), 0) := by rw [checkG, if_neg (by omega), scan_all he]
      rw [e]
      exact ⟨rfl, rfl⟩
theorem Verify_spec (key : Int) (ls : List MLink) (vl : Value) (hl : PHeap) [jl : Arr vl encLink 4 hl ls] : Spec Try.prog 24 #[.int .u64 key, vl] [] [hl] (fun v hs => v = .tuple #[.int .i64 (checkG key ls true).1, .int .i64 (checkG key ls true).2] ∧ hs = []) := by
  refine Spec.intro (fn := Try.f24) (N := 11) Try.func24 rfl Try.ntmps24 rfl fun B => ?_
  refine XK.seq ?_
  refine XK.region rfl ?_
  refine XO.q (Q.assign rfl) ?_
  refine XO.q (Q.assign rfl) ?_
  refine XO.done ?_
  refine XK.seq ?_
  refine XK.region rfl ?_
  refine XO.q (Q.move rfl) ?_
  refine XO.q (Q.move rfl) ?_
  refine XO.call Try.call69 rfl rfl rfl (check_spec key ls vl hl true) fun v8 s8 R8 => ?_
  obtain ⟨rfl, rfl⟩ := R8
  dsimp only [List.cons_append, List.nil_append]
  refine XO.q (Q.extract rfl rfl) ?_
  refine XO.q (Q.extract rfl rfl) ?_
  refine XO.q (Q.assign rfl) ?_
  refine XO.q (Q.assign rfl) ?_
  refine XO.done ?_
  refine XK.rt [] Try.func24 Try.results24 (.t rfl (.t rfl .n)) ?_
  exact ⟨rfl, rfl⟩
end Go.X

set_option linter.unusedSimpArgs false
set_option linter.unusedVariables false
set_option maxRecDepth 20000
namespace Go.X
open Go.Proofs
theorem tab_len (rs : List MRd) : ∀ m, (tabTo rs m).length ≤ m
  | 0 => by simp [tabTo]
  | m + 1 => by
    have := tab_len rs m
    rw [tabTo]
    split
    · rw [List.length_append]; simp; omega
    · omega
set_option maxHeartbeats 1000000 in
theorem Table_spec (ls : List MLink) (vl : Value) (hl : PHeap) [jl : Arr vl encLink 4 hl ls] : Spec Try.prog 41 #[vl] [] [hl] (fun v hs => ∃ v1 k1, v = .tuple #[v1, .int .i64 (tableG ls).2] ∧ hs = [k1] ∧ OArr v1 encP 2 161 k1 (tableG ls).1) := by
  have ll := jl.le
  have rl := rds_len ls
  have nP : OArr (.slice none 0 0) encP 2 161 emp ([] : List (Int × Int)) := OArr.nil (fun _ => rfl)
  refine Spec.intro (fn := Try.f41) (N := 56) Try.func41 rfl Try.ntmps41 rfl fun B => ?_
  refine XK.seq ?_
  refine XK.region rfl ?_
  refine XO.q (Q.assign rfl) ?_
  refine XO.q (Q.assign rfl) ?_
  refine XO.done ?_
  refine XK.seq ?_
  refine XK.seq ?_
  refine XK.region rfl ?_
  refine XO.q (Q.move rfl) ?_
  refine XO.call Try.call69 rfl rfl rfl (check_spec 0 ls vl hl false) fun v15 s15 R15 => ?_
  obtain ⟨rfl, rfl⟩ := R15
  dsimp only [List.cons_append, List.nil_append]
  refine XO.q (Q.move rfl) ?_
  refine XO.q (Q.extract rfl rfl) ?_
  refine XO.q (Q.extract rfl rfl) ?_
  refine XO.q (Q.assign rfl) ?_
  refine XO.q (Q.assign rfl) ?_
  refine XO.done ?_
  refine XK.seq ?_
  refine XK.region rfl ?_
  refine XO.q (Q.move rfl) ?_
  refine XO.q (Q.neq rfl rfl) ?_
  refine XO.done ?_
  refine XK.if rfl (fun c0 => ?_) (fun c0 => ?_)
  · have _t0 := True.intro
    refine XK.seq ?_
    refine XK.region rfl ?_
    refine XO.q (Q.move rfl) ?_
    refine XO.q (Q.assign rfl) ?_
    refine XO.q (Q.assign rfl) ?_
    refine XO.done ?_
    refine XK.rt [emp] Try.func41 Try.results41 (.t rfl (.t rfl .n)) ?_
    have e : tableG ls = ([], (checkG 0 ls false).2) := by rw [tableG, if_pos c0]
    rw [e]
    exact ⟨.slice none 0 0, emp, rfl, rfl, nP⟩
  · have _t0 := True.intro
    have cf := check_fine (Decidable.of_not_not c0)
    have vr : ∀ j, j < ls.length → 0 ≤ ((rdsL ls).getD j default).value ∧ ((rdsL ls).getD j default).value ≤ 1000000000 := fun j hj => errAt_rng (chk_err (cf.2 j hj))
    refine XK.skip ?_
    refine XK.seq ?_
    refine XK.region rfl ?_
    refine XO.map encK1 fun b21 => ?_
    refine XO.q (Q.assign rfl) ?_
    refine XO.done ?_
    refine XK.seq ?_
    refine XK.seq ?_
    refine XK.region rfl ?_
    refine XO.q (Q.move rfl) ?_
    refine XO.len rfl fun l23 => ?_
    refine XO.q (Q.move rfl) ?_
    refine XO.done ?_
    refine XK.block ?_
    refine XK.while (X := Nat) [8, 24, 25, 26, 27, 28, 29, 30, 31, 32, 33, 34, 35, 36, 37] (fun i => [(24, some (.int .i64 (i : Nat)))]) (fun i => [mapH b21 encK1 (msumTo (rdsL ls) (i))]) (fun i => i ≤ ls.length) (fun i => ls.length - i) (0) [mapH b21 encK1 []] rfl (by omega) (.c rfl (.base 0 rfl rfl)) ?_
    rintro i hi ih0
    dsimp only [List.cons_append, List.nil_append] at ih0 ⊢
    refine XK.seq ?_
    refine XK.region rfl ?_
    refine XO.q (Q.lss rfl rfl) ?_
    refine XO.done ?_
    refine XK.seq ?_
    refine XK.if rfl (fun c1 => ?_) (fun c1 => ?_)
    · have _t1 := True.intro
      have er := rds_at (ls := ls) (i := i) (by omega)
      have sr := sumM_rng (rs := (rdsL ls)) (m := (ls.getD i default).rd.meter) (n := i) (fun j hj => vr j (by omega))
      have vi := vr i (by omega)
      rw [er] at vi
      refine XK.skip ?_
      refine XK.seq ?_
      refine XK.block ?_
      refine XK.seq ?_
      refine XK.region rfl ?_
      refine XO.ix rfl rfl (by omega) (by omega) fun i26 => ?_
      refine XO.q (Q.ldEA [_, _, _, _] rfl (by first | assumption | omega) rfl rfl) ?_
      refine XO.alloc fun b8 => ?_
      refine XO.st rfl rfl rfl ?_
      refine XO.done ?_
      refine XK.region rfl ?_
      refine XO.q (Q.move rfl) ?_
      refine XO.q (Q.fieldAddr rfl) ?_
      refine XO.q (Q.fieldAddr rfl) ?_
      refine XO.q (Q.ld rfl rfl) ?_
      refine XO.q (Q.lookup (enc := encK1) _ Try.zeroValue3 ((ls.getD i default).rd.meter) rfl rfl) ?_
      rw [get_msum0 (by omega)]
      refine XO.q (Q.fieldAddr rfl) ?_
      refine XO.q (Q.fieldAddr rfl) ?_
      refine XO.q (Q.ld rfl rfl) ?_
      refine XO.q (Q.add rfl rfl ⟨by omega, by omega⟩) ?_
      refine XO.mapUpdate (enc := encK1) ((ls.getD i default).rd.meter) rfl rfl rfl ?_
      rw [show putM (ls.getD i default).rd.meter (.int .i64 (sumM (rdsL ls) (ls.getD i default).rd.meter i + (ls.getD i default).rd.value)) (msumTo (rdsL ls) (i)) = (msumTo (rdsL ls) (i + 1)) by rw [msumTo, er]]
      refine XO.done ?_
      refine XK.inBlock ?_
      refine XK.region rfl ?_
      refine XO.q (Q.add rfl rfl ⟨by omega, by omega⟩) ?_
      refine XO.q (Q.move rfl) ?_
      refine XO.done ?_
      exact ih0 (i + 1) _ _ (by omega) (by first | omega | (dsimp only; omega)) (.c rfl (.base 31 rfl rfl)) inferInstance
    · have _t1 := True.intro
      have hin : i = ls.length := by omega
      rw [hin, ← rl]
      clear ih0
      refine XK.exit rfl ?_
      refine XK.seq ?_
      refine XK.region rfl ?_
      refine XO.q (Q.assign rfl) ?_
      refine XO.done ?_
      refine XK.seq ?_
      refine XK.seq ?_
      refine XK.region rfl ?_
      refine XO.q (Q.move rfl) ?_
      refine XO.done ?_
      refine XK.block ?_
      refine XK.while (X := Nat × Value × PHeap) [9, 10, 11, 12, 38, 39, 40, 41, 42, 43, 44, 45, 46, 47, 48, 49, 50, 51, 52, 53, 54] (fun ⟨m, vo, ko⟩ => [(9, some (vo)), (38, some (.int .i64 (m : Nat)))]) (fun ⟨m, vo, ko⟩ => [ko]) (fun ⟨m, vo, ko⟩ => m ≤ 64 ∧ OArr vo encP 2 161 ko (tabTo (rdsL ls) m)) (fun ⟨m, vo, ko⟩ => 64 - m) (0, .slice none 0 0, emp) [emp] rfl ⟨by omega, nP⟩ (.c rfl (.c rfl (.base 0 rfl rfl))) ?_
      rintro ⟨m, vo, ko⟩ ⟨hm, OO⟩ ih1
      dsimp only [List.cons_append, List.nil_append] at ih1 ⊢
      refine XK.seq ?_
      refine XK.region rfl ?_
      refine XO.q (Q.lss rfl rfl) ?_
      refine XO.done ?_
      refine XK.seq ?_
      refine XK.if rfl (fun c2 => ?_) (fun c2 => ?_)
      · have _t2 := True.intro
        have tl := tab_len (rdsL ls) m
        refine XK.skip ?_
        refine XK.seq ?_
        refine XK.block ?_
        refine XK.seq ?_
        refine XK.region rfl ?_
        refine XO.q (Q.move rfl) ?_
        refine XO.q (Q.assign rfl) ?_
        refine XO.done ?_
        refine XK.seq ?_
        refine XK.region rfl ?_
        refine XO.q (Q.move rfl) ?_
        refine XO.q (Q.move rfl) ?_
        refine XO.q (Q.lookup2 (enc := encK1) _ Try.zeroValue3 (((m : Nat) : Int)) rfl rfl) ?_
        rw [get_msum0 (by omega), has_some]
        refine XO.q (Q.move rfl) ?_
        refine XO.q (Q.extract rfl rfl) ?_
        refine XO.q (Q.extract rfl rfl) ?_
        refine XO.q (Q.assign rfl) ?_
        refine XO.q (Q.assign rfl) ?_
        refine XO.done ?_
        refine XK.seq ?_
        refine XK.region rfl ?_
        refine XO.q (Q.move rfl) ?_
        refine XO.done ?_
        refine XK.if rfl (fun c3 => ?_) (fun c3 => ?_)
        · have _t3 := True.intro
          refine XK.region rfl ?_
          refine XO.q (Q.move rfl) ?_
          refine XO.q (Q.move rfl) ?_
          refine XO.q (Q.move rfl) ?_
          refine XO.q (Q.build [_, _] (.c 0 1 rfl rfl rfl (.c 1 1 rfl rfl rfl (.n _)))) ?_
          refine XO.lit [_, _] [_, _] [(((m : Nat) : Int), sumM (rdsL ls) m (rdsL ls).length)] encP (by rfl) (by rfl) rfl (by rfl) (by exact .c 0 2 rfl rfl rfl (.n _)) (fun _ => rfl) (by rfl) rfl (by infer_instance) rfl fun v52 h52 O52 => ?_
          refine XO.append rfl rfl rfl rfl (by first | omega | (simp; omega)) fun v53 h53 O53 => ?_
          refine XO.q (Q.assign rfl) ?_
          refine XO.done ?_
          refine XK.inBlock ?_
          refine XK.region rfl ?_
          refine XO.q (Q.add rfl rfl ⟨by omega, by omega⟩) ?_
          refine XO.q (Q.move rfl) ?_
          refine XO.done ?_
          exact ih1 (m + 1, v53, h53) _ _ ⟨by dsimp only; omega, by dsimp only; rw [tabTo, if_pos c3]; exact O53⟩ (by first | omega | (dsimp only; omega)) (.c rfl (.c rfl (.base 44 rfl rfl))) inferInstance
        · have _t3 := True.intro
          refine XK.skip ?_
          refine XK.inBlock ?_
          refine XK.region rfl ?_
          refine XO.q (Q.add rfl rfl ⟨by omega, by omega⟩) ?_
          refine XO.q (Q.move rfl) ?_
          refine XO.done ?_
          exact ih1 (m + 1, vo, ko) _ _ ⟨by dsimp only; omega, by dsimp only; rw [tabTo, if_neg c3]; exact OO⟩ (by first | omega | (dsimp only; omega)) (.c rfl (.c rfl (.base 37 rfl rfl))) inferInstance
      · have _t2 := True.intro
        have hm64 : m = 64 := by omega
        subst hm64
        refine XK.exit rfl ?_
        refine XK.seq ?_
        refine XK.region rfl ?_
        refine XO.q (Q.move rfl) ?_
        refine XO.q (Q.assign rfl) ?_
        refine XO.q (Q.assign rfl) ?_
        refine XO.done ?_
        refine XK.rt [ko] Try.func41 Try.results41 (.t rfl (.t rfl .n)) ?_
        have e : tableG ls = (tabTo (rdsL ls) 64, 0) := by rw [tableG, if_neg c0]
        rw [e]
        exact ⟨vo, ko, rfl, rfl, OO⟩
end Go.X

set_option linter.unusedSimpArgs false
set_option linter.unusedVariables false
set_option maxRecDepth 20000
namespace Go.X
open Go.Proofs
theorem RMix_spec (x y : Int) : Spec Try.prog 30 #[.int .u64 x, .int .u64 y] [] [] (fun v hs => v = .int .u64 (mixP x y) ∧ hs = []) := by
  refine Spec.intro (fn := Try.f30) (N := 22) Try.func30 rfl Try.ntmps30 rfl fun B => ?_
  refine XK.seq ?_
  refine XK.region rfl ?_
  refine XO.q (Q.assign rfl) ?_
  refine XO.done ?_
  refine XK.seq ?_
  refine XK.region rfl ?_
  refine XO.q (Q.move rfl) ?_
  refine XO.q (Q.move rfl) ?_
  refine XO.q (Q.xorW rfl rfl) ?_
  refine XO.q (Q.assign rfl) ?_
  refine XO.done ?_
  refine XK.seq ?_
  refine XK.region rfl ?_
  refine XO.q (Q.move rfl) ?_
  refine XO.q (Q.mulW rfl rfl) ?_
  refine XO.q (Q.assign rfl) ?_
  refine XO.done ?_
  refine XK.seq ?_
  refine XK.region rfl ?_
  refine XO.q (Q.move rfl) ?_
  refine XO.q (Q.move rfl) ?_
  refine XO.q (Q.shrW rfl rfl (by omega)) ?_
  refine XO.q (Q.xorW rfl rfl) ?_
  refine XO.q (Q.assign rfl) ?_
  refine XO.done ?_
  refine XK.seq ?_
  refine XK.region rfl ?_
  refine XO.q (Q.move rfl) ?_
  refine XO.q (Q.mulW rfl rfl) ?_
  refine XO.q (Q.assign rfl) ?_
  refine XO.done ?_
  refine XK.seq ?_
  refine XK.region rfl ?_
  refine XO.q (Q.move rfl) ?_
  refine XO.q (Q.move rfl) ?_
  refine XO.q (Q.shrW rfl rfl (by omega)) ?_
  refine XO.q (Q.xorW rfl rfl) ?_
  refine XO.q (Q.assign rfl) ?_
  refine XO.done ?_
  refine XK.seq ?_
  refine XK.region rfl ?_
  refine XO.q (Q.move rfl) ?_
  refine XO.q (Q.assign rfl) ?_
  refine XO.done ?_
  refine XK.rt [] Try.func30 Try.results30 (.t rfl .n) ?_
  exact ⟨rfl, rfl⟩
theorem Rsign_spec (key last : Int) (r : MRd) : Spec Try.prog 71 #[.int .u64 key, .int .u64 last, .agg #[.int .i64 r.meter, .int .i64 r.hour, .int .i64 r.value]] [] [] (fun v hs => v = .int .u64 (sigP key last r) ∧ hs = []) := by
  refine Spec.intro (fn := Try.f71) (N := 22) Try.func71 rfl Try.ntmps71 rfl fun B => ?_
  refine XK.seq ?_
  refine XK.region rfl ?_
  refine XO.box rfl fun b5 => ?_
  refine XO.q (Q.assign rfl) ?_
  refine XO.done ?_
  refine XK.seq ?_
  refine XK.drawn [0, 1, 2, 3, 5, 6, 7, 9, 10, 11, 13, 15] [b5] [] (.q 0 (.q 1 (.q 2 (.q 3 (.q 5 (.q 6 (.q 7 (.q 9 (.q 10 (.q 11 (.q 13 (.br 4 true (.br 8 true (.br 12 true (.br 14 true (.q 15 .done) .stop) .stop) .stop) .stop)))))))))))) Try.mixed rfl (by kernel_rfl) ?_
  refine XT.q rfl rfl (Q.move rfl) ?_
  refine XT.q rfl rfl (Q.fieldAddr rfl) ?_
  refine XT.q rfl rfl (Q.ld rfl rfl) ?_
  refine XT.q rfl rfl (Q.conv rfl) ?_
  refine XT.q rfl rfl (Q.fieldAddr rfl) ?_
  refine XT.q rfl rfl (Q.ld rfl rfl) ?_
  refine XT.q rfl rfl (Q.conv rfl) ?_
  refine XT.q rfl rfl (Q.fieldAddr rfl) ?_
  refine XT.q rfl rfl (Q.ld rfl rfl) ?_
  refine XT.q rfl rfl (Q.conv rfl) ?_
  refine XT.q rfl rfl (Q.move rfl) ?_
  refine XT.call rfl rfl Try.call30 rfl rfl rfl (RMix_spec _ _) (fun v11 s11 R11 => ?_) XT.stop
  obtain ⟨rfl, rfl⟩ := R11
  dsimp only [List.cons_append, List.nil_append]
  refine ⟨inferInstance, ?_⟩
  refine XT.call rfl rfl Try.call30 rfl rfl rfl (RMix_spec _ _) (fun v15 s15 R15 => ?_) XT.stop
  obtain ⟨rfl, rfl⟩ := R15
  dsimp only [List.cons_append, List.nil_append]
  refine ⟨inferInstance, ?_⟩
  refine XT.call rfl rfl Try.call30 rfl rfl rfl (RMix_spec _ _) (fun v19 s19 R19 => ?_) XT.stop
  obtain ⟨rfl, rfl⟩ := R19
  dsimp only [List.cons_append, List.nil_append]
  refine ⟨inferInstance, ?_⟩
  refine XT.call rfl rfl Try.call30 rfl rfl rfl (RMix_spec _ _) (fun v21 s21 R21 => ?_) XT.stop
  obtain ⟨rfl, rfl⟩ := R21
  dsimp only [List.cons_append, List.nil_append]
  refine ⟨inferInstance, ?_⟩
  rw [show mixP (mixP (mixP (mixP last (IntKind.wrap .u64 r.meter)) (IntKind.wrap .u64 r.hour)) (IntKind.wrap .u64 r.value)) key = sigP key last r from rfl]
  refine XT.q rfl rfl (Q.assign rfl) ?_
  refine XT.done ?_
  refine XK.rt [] Try.func71 Try.results71 (.t rfl .n) ?_
  exact ⟨rfl, rfl⟩
theorem bad_ref {r : MRd} : ((¬ inF r.meter 0 63 = true ∨ ¬ inF r.hour 0 1000000000 = true) ∨ ¬ inF r.value 0 1000000000 = true) ↔ badRd r := by
  unfold badRd
  rw [inF_iff, inF_iff, inF_iff, inA_one, inA_two]
  omega
theorem dup_snoc {l : List MRd} {r x : MRd} (h : dupR l r = false) (hx : ¬ (x.meter = r.meter ∧ x.hour = r.hour)) : dupR (l ++ [x]) r = false := by
  unfold dupR at *
  rw [List.any_append, h, List.any_cons, List.any_nil, Bool.or_false, Bool.false_or, decide_eq_false_iff_not]
  intro he
  unfold keyR at he
  simp only [Prod.mk.injEq] at he
  exact hx ⟨he.1.symm, he.2.symm⟩
theorem dup_here {l : List MRd} {r : MRd} {k i : Nat} (hk : k < i) (hi : i ≤ l.length) (hx : (l.getD k default).meter = r.meter ∧ (l.getD k default).hour = r.hour) : dupR (l.take i) r = true := by
  unfold dupR
  rw [List.any_eq_true]
  refine ⟨l.getD k default, ?_, by rw [decide_eq_true_eq, keyR, keyR, hx.1, hx.2]⟩
  rw [List.getD_eq_getElem?_getD, List.getElem?_eq_getElem (by omega)]
  exact List.mem_take_iff_getElem.2 ⟨k, by omega, rfl⟩
theorem wrong11 (l : List MRd) (vl : Value) (hl : PHeap) [jl : Arr vl encRd 3 hl l] (i : Nat) (hil : i < l.length) : Spec Try.prog 70 #[vl, .int .i64 (i : Nat)] [] [hl] (fun v hs => v = .int .i64 (errAt l i) ∧ hs = []) := by
  have ll := jl.le
  refine Spec.intro (fn := Try.f70) (N := 50) Try.func70 rfl Try.ntmps70 rfl fun B => ?_
  refine XK.seq ?_
  refine XK.region rfl ?_
  refine XO.q (Q.assign rfl) ?_
  refine XO.done ?_
  refine XK.seq ?_
  refine XK.region rfl ?_
  refine XO.q (Q.move rfl) ?_
  refine XO.q (Q.move rfl) ?_
  refine XO.ix rfl rfl (by omega) (by omega) fun i9 => ?_
  refine XO.q (Q.ldEA [_, _, _] rfl (by first | assumption | omega) rfl rfl) ?_
  refine XO.alloc fun b5 => ?_
  refine XO.st rfl rfl rfl ?_
  refine XO.done ?_
  refine XK.seq ?_
  refine XK.seq ?_
  refine XK.region rfl ?_
  refine XO.q (Q.fieldAddr rfl) ?_
  refine XO.q (Q.ld rfl rfl) ?_
  refine XO.call Try.call95 rfl rfl rfl (in11 _ _ _) fun v13 s13 R13 => ?_
  obtain ⟨rfl, rfl⟩ := R13
  dsimp only [List.cons_append, List.nil_append]
  refine XO.q (Q.not rfl) ?_
  refine XO.q (Q.move rfl) ?_
  refine XO.q (Quiet.guardF rfl rfl fun g16 p16 => Q.fieldAddr rfl) ?_
  refine XO.q (Quiet.guardF rfl rfl fun g17 p17 => Q.ld (lzv g17 rfl) rfl) ?_
  refine XO.gcallF rfl rfl Try.call95 rfl (fun g18 => .c (lzv g18 rfl) (.c rfl (.c rfl .n))) rfl (fun g18 p18 => in11 _ _ _) ?_
  refine XO.q (Quiet.guardF rfl rfl fun g19 p19 => Q.not (lzv g19 rfl)) ?_
  refine XO.q (Q.or rfl (fun hp => lzv hp rfl)) ?_
  refine XO.q (Q.move rfl) ?_
  refine XO.q (Quiet.guardF rfl rfl fun g22 p22 => Q.fieldAddr rfl) ?_
  refine XO.q (Quiet.guardF rfl rfl fun g23 p23 => Q.ld (lzv g23 rfl) rfl) ?_
  refine XO.gcallF rfl rfl Try.call95 rfl (fun g24 => .c (lzv g24 rfl) (.c rfl (.c rfl .n))) rfl (fun g24 p24 => in11 _ _ _) ?_
  refine XO.q (Quiet.guardF rfl rfl fun g25 p25 => Q.not (lzv g25 rfl)) ?_
  refine XO.q (Q.or rfl (fun hp => lzv hp rfl)) ?_
  refine XO.done ?_
  refine XK.if rfl (fun c0 => ?_) (fun c0 => ?_)
  · have _t0 := True.intro
    refine XK.seq ?_
    refine XK.region rfl ?_
    refine XO.q (Q.assign rfl) ?_
    refine XO.done ?_
    refine XK.rt [] Try.func70 Try.results70 (.t rfl .n) ?_
    exact ⟨by rw [errAt, errR, if_pos (bad_ref.1 c0)], rfl⟩
  · have _t0 := True.intro
    refine XK.skip ?_
    refine XK.seq ?_
    refine XK.seq ?_
    refine XK.region rfl ?_
    refine XO.q (Q.assign rfl) ?_
    refine XO.done ?_
    refine XK.block ?_
    refine XK.while (X := Nat) [4, 6, 27, 28, 29, 30, 31, 32, 33, 34, 35, 36, 37, 38, 39, 40, 41, 42, 43, 44, 45, 46, 47, 48, 49] (fun k => [(6, some (.int .i64 (k : Nat)))]) (fun k => []) (fun k => k ≤ i ∧ dupR (l.take k) (l.getD i default) = false) (fun k => i - k) (0) [] rfl ⟨by omega, rfl⟩ (.c rfl (.base 0 rfl rfl)) ?_
    rintro k ⟨hk, hd⟩ ih0
    dsimp only [List.cons_append, List.nil_append] at ih0 ⊢
    refine XK.seq ?_
    refine XK.seq ?_
    refine XK.region rfl ?_
    refine XO.q (Q.move rfl) ?_
    refine XO.q (Q.move rfl) ?_
    refine XO.q (Q.lss rfl rfl) ?_
    refine XO.done ?_
    refine XK.if rfl (fun c1 => ?_) (fun c1 => ?_)
    · have _t1 := True.intro
      refine XK.skip ?_
      refine XK.seq ?_
      refine XK.block ?_
      refine XK.seq ?_
      refine XK.drawn [0, 1, 2, 3, 4, 5, 6, 7, 8, 9, 10, 11, 12, 13, 14, 15, 16, 17] [b5] [] (.q 0 (.q 1 (.q 2 (.q 3 (.q 4 (.q 5 (.q 6 (.q 7 (.q 8 (.q 9 (.q 10 (.q 11 (.q 12 (.q 13 (.q 14 (.q 15 (.q 16 (.q 17 .done)))))))))))))))))) Try.mixed rfl (by kernel_rfl) ?_
      refine XT.q rfl rfl (Q.move rfl) ?_
      refine XT.q rfl rfl (Q.move rfl) ?_
      refine XT.ix rfl rfl rfl rfl (by omega) (by omega) fun i34 => ?_
      refine XT.q rfl rfl (Q.fieldQ rfl (by first | assumption | omega)) ?_
      refine XT.q rfl rfl (Q.ldE rfl (by first | assumption | omega) rfl) ?_
      refine XT.q rfl rfl (Q.fieldAddr rfl) ?_
      refine XT.q rfl rfl (Q.ld rfl rfl) ?_
      refine XT.q rfl rfl (Q.eql rfl rfl) ?_
      refine XT.q rfl rfl (Q.move rfl) ?_
      refine XT.q rfl rfl (Quiet.guardT rfl rfl fun g41 p41 => Q.move rfl) ?_
      refine XT.q rfl rfl (Quiet.guardT rfl rfl fun g42 p42 => Q.move rfl) ?_
      refine XT.q rfl rfl (Quiet.guardT rfl rfl fun g43 p43 => Q.ix (lzv g43 rfl) (lzv g43 rfl) (by omega) (by omega)) ?_
      refine XT.q rfl rfl (Quiet.guardT rfl rfl fun g44 p44 => Q.fieldQ (lzv g44 rfl) (by first | assumption | omega)) ?_
      refine XT.q rfl rfl (Quiet.guardT rfl rfl fun g45 p45 => Q.ldE (lzv g45 rfl) (by first | assumption | omega) rfl) ?_
      refine XT.q rfl rfl (Quiet.guardT rfl rfl fun g46 p46 => Q.fieldAddr rfl) ?_
      refine XT.q rfl rfl (Quiet.guardT rfl rfl fun g47 p47 => Q.ld (lzv g47 rfl) rfl) ?_
      refine XT.q rfl rfl (Quiet.guardT rfl rfl fun g48 p48 => Q.eql (lzv g48 rfl) (lzv g48 rfl)) ?_
      refine XT.q rfl rfl (Q.and rfl (fun hp => lzv hp rfl)) ?_
      refine XT.done ?_
      refine XK.if rfl (fun c2 => ?_) (fun c2 => ?_)
      · have _t2 := True.intro
        refine XK.seq ?_
        refine XK.region rfl ?_
        refine XO.q (Q.assign rfl) ?_
        refine XO.done ?_
        refine XK.rt [] Try.func70 Try.results70 (.t rfl .n) ?_
        exact ⟨by rw [errAt, errR, if_neg (fun h => c0 (bad_ref.2 h)), if_pos (dup_here (by omega) (by omega) c2)], rfl⟩
      · have _t2 := True.intro
        refine XK.skip ?_
        refine XK.inBlock ?_
        refine XK.region rfl ?_
        refine XO.q (Q.move rfl) ?_
        refine XO.q (Q.add rfl rfl ⟨by omega, by omega⟩) ?_
        refine XO.q (Q.assign rfl) ?_
        refine XO.done ?_
        exact ih0 (k + 1) _ _ ⟨by omega, by rw [take_snocR (by omega)]; exact dup_snoc hd c2⟩ (by first | omega | (dsimp only; omega)) (.c rfl (.base 50 rfl rfl)) inferInstance
    · have _t1 := True.intro
      refine XK.exit rfl ?_
      refine XK.seq ?_
      refine XK.region rfl ?_
      refine XO.q (Q.assign rfl) ?_
      refine XO.done ?_
      refine XK.rt [] Try.func70 Try.results70 (.t rfl .n) ?_
      have hki : k = i := by omega
      rw [hki] at hd
      exact ⟨by rw [errAt, errR, if_neg (fun h => c0 (bad_ref.2 h)), if_neg (by rw [hd]; decide)], rfl⟩
theorem RSign_spec (key : Int) (l : List MRd) (vl : Value) (hl : PHeap) [jl : Arr vl encRd 3 hl l] : Spec Try.prog 28 #[.int .u64 key, vl] [] [hl] (fun v hs => ∃ v1 k1, v = .tuple #[v1, .int .i64 (signG key l).2] ∧ hs = [k1] ∧ OArr v1 encLink 4 89 k1 (signG key l).1) := by
  have ll := jl.le
  have nL : OArr (.slice none 0 0) encLink 4 89 emp ([] : List MLink) := OArr.nil (fun _ => rfl)
  refine Spec.intro (fn := Try.f28) (N := 44) Try.func28 rfl Try.ntmps28 rfl fun B => ?_
  refine XK.seq ?_
  refine XK.region rfl ?_
  refine XO.q (Q.assign rfl) ?_
  refine XO.q (Q.assign rfl) ?_
  refine XO.done ?_
  refine XK.seq ?_
  refine XK.seq ?_
  refine XK.region rfl ?_
  refine XO.q (Q.move rfl) ?_
  refine XO.len rfl fun l11 => ?_
  refine XO.q (Q.gtr rfl rfl) ?_
  refine XO.done ?_
  refine XK.if rfl (fun c0 => ?_) (fun c0 => ?_)
  · have _t0 := True.intro
    refine XK.seq ?_
    refine XK.region rfl ?_
    refine XO.q (Q.assign rfl) ?_
    refine XO.q (Q.assign rfl) ?_
    refine XO.done ?_
    refine XK.rt [emp] Try.func28 Try.results28 (.t rfl (.t rfl .n)) ?_
    have e : signG key l = ([], 2) := by rw [signG, if_pos (by omega)]
    rw [e]
    exact ⟨.slice none 0 0, emp, rfl, rfl, nL⟩
  · have _t0 := True.intro
    refine XK.skip ?_
    refine XK.seq ?_
    refine XK.region rfl ?_
    refine XO.q (Q.assign rfl) ?_
    refine XO.done ?_
    refine XK.seq ?_
    refine XK.region rfl ?_
    refine XO.q (Q.move rfl) ?_
    refine XO.call Try.call30 rfl rfl rfl (RMix_spec _ _) fun v14 s14 R14 => ?_
    obtain ⟨rfl, rfl⟩ := R14
    dsimp only [List.cons_append, List.nil_append]
    rw [show mixP key 1 = lastS key l 0 from rfl]
    refine XO.q (Q.assign rfl) ?_
    refine XO.done ?_
    refine XK.seq ?_
    refine XK.seq ?_
    refine XK.region rfl ?_
    refine XO.q (Q.assign rfl) ?_
    refine XO.done ?_
    refine XK.block ?_
    refine XK.while (X := Nat × Value × PHeap) [4, 5, 6, 7, 8, 9, 15, 16, 17, 18, 19, 20, 21, 22, 23, 24, 25, 26, 27, 28, 29, 30, 31, 32, 33, 34, 35, 36, 37, 38, 39, 40, 41, 42] (fun ⟨i, vo, ko⟩ => [(6, some (vo)), (7, some (.int .u64 (lastS key l (i)))), (8, some (.int .i64 (i : Nat)))]) (fun ⟨i, vo, ko⟩ => [ko]) (fun ⟨i, vo, ko⟩ => i ≤ l.length ∧ OArr vo encLink 4 89 ko (links key l i) ∧ ∀ j, j < i → errAt l j = 0) (fun ⟨i, vo, ko⟩ => l.length - i) (0, .slice none 0 0, emp) [emp] rfl ⟨by omega, nL, fun j hj => by omega⟩ (.c rfl (.c rfl (.c rfl (.base 0 rfl rfl)))) ?_
    rintro ⟨i, vo, ko⟩ ⟨hi, OO, he⟩ ih0
    dsimp only [List.cons_append, List.nil_append] at ih0 ⊢
    have kl := links_len key l i
    refine XK.seq ?_
    refine XK.seq ?_
    refine XK.region rfl ?_
    refine XO.q (Q.move rfl) ?_
    refine XO.q (Q.move rfl) ?_
    refine XO.len rfl fun l17 => ?_
    refine XO.q (Q.lss rfl rfl) ?_
    refine XO.done ?_
    refine XK.if rfl (fun c1 => ?_) (fun c1 => ?_)
    · have _t1 := True.intro
      refine XK.skip ?_
      refine XK.seq ?_
      refine XK.block ?_
      refine XK.seq ?_
      refine XK.seq ?_
      refine XK.region rfl ?_
      refine XO.q (Q.move rfl) ?_
      refine XO.q (Q.move rfl) ?_
      refine XO.call Try.call70 rfl rfl rfl (wrong11 l vl hl i (by omega)) fun v23 s23 R23 => ?_
      obtain ⟨rfl, rfl⟩ := R23
      dsimp only [List.cons_append, List.nil_append]
      refine XO.q (Q.assign rfl) ?_
      refine XO.done ?_
      refine XK.seq ?_
      refine XK.region rfl ?_
      refine XO.q (Q.move rfl) ?_
      refine XO.q (Q.neq rfl rfl) ?_
      refine XO.done ?_
      refine XK.if rfl (fun c2 => ?_) (fun c2 => ?_)
      · have _t2 := True.intro
        refine XK.seq ?_
        refine XK.region rfl ?_
        refine XO.q (Q.move rfl) ?_
        refine XO.q (Q.assign rfl) ?_
        refine XO.q (Q.assign rfl) ?_
        refine XO.done ?_
        refine XK.rt [emp] Try.func28 Try.results28 (.t rfl (.t rfl .n)) ?_
        have e : signG key l = ([], errAt l i) := by rw [signG, if_neg (by omega), scan_here he c2 (by omega)]
        rw [e]
        exact ⟨.slice none 0 0, emp, rfl, rfl, nL⟩
      · have _t2 := True.intro
        refine XK.skip ?_
        refine XK.seq ?_
        refine XK.region rfl ?_
        refine XO.q (Q.move rfl) ?_
        refine XO.q (Q.move rfl) ?_
        refine XO.q (Q.move rfl) ?_
        refine XO.q (Q.move rfl) ?_
        refine XO.ix rfl rfl (by omega) (by omega) fun i31 => ?_
        refine XO.q (Q.ldEA [_, _, _] rfl (by first | assumption | omega) rfl rfl) ?_
        refine XO.call Try.call71 rfl rfl rfl (Rsign_spec key (lastS key l (i)) (l.getD i default)) fun v33 s33 R33 => ?_
        obtain ⟨rfl, rfl⟩ := R33
        dsimp only [List.cons_append, List.nil_append]
        rw [← lastS_succ]
        refine XO.q (Q.assign rfl) ?_
        refine XO.done ?_
        refine XK.region rfl ?_
        refine XO.q (Q.move rfl) ?_
        refine XO.q (Q.move rfl) ?_
        refine XO.q (Q.move rfl) ?_
        refine XO.ix rfl rfl (by omega) (by omega) fun i37 => ?_
        refine XO.q (Q.ldEA [_, _, _] rfl (by first | assumption | omega) rfl rfl) ?_
        refine XO.q (Q.move rfl) ?_
        refine XO.q (Q.build [_, _, _, _] (.c 0 3 rfl rfl rfl (.c 3 1 rfl rfl rfl (.n _)))) ?_
        refine XO.lit [_, _, _, _] [_, _, _, _] [linkAt key l i] encLink (by rfl) (by rfl) rfl (by rfl) (by exact .c 0 4 rfl rfl rfl (.n _)) (fun _ => rfl) (by rfl) rfl (by infer_instance) rfl fun v41 h41 O41 => ?_
        refine XO.append rfl rfl rfl rfl (by first | omega | (simp; omega)) fun v42 h42 O42 => ?_
        refine XO.q (Q.assign rfl) ?_
        refine XO.done ?_
        refine XK.inBlock ?_
        refine XK.region rfl ?_
        refine XO.q (Q.move rfl) ?_
        refine XO.q (Q.add rfl rfl ⟨by omega, by omega⟩) ?_
        refine XO.q (Q.assign rfl) ?_
        refine XO.done ?_
        exact ih0 (i + 1, v42, h42) _ _ ⟨by dsimp only; omega, by dsimp only; rw [links_snoc]; exact O42, fun j hj => (by rcases Nat.lt_or_ge j i with h3 | h3; exact he j h3; obtain rfl : j = i := (by dsimp only at hj; omega); exact Decidable.of_not_not c2)⟩ (by first | omega | (dsimp only; omega)) (.c rfl (.c rfl (.c rfl (.base 68 rfl rfl)))) inferInstance
    · have _t1 := True.intro
      refine XK.exit rfl ?_
      refine XK.seq ?_
      refine XK.region rfl ?_
      refine XO.q (Q.move rfl) ?_
      refine XO.q (Q.assign rfl) ?_
      refine XO.q (Q.assign rfl) ?_
      refine XO.done ?_
      refine XK.rt [ko] Try.func28 Try.results28 (.t rfl (.t rfl .n)) ?_
      have hin : i = l.length := by omega
      subst hin
      have e : signG key l = (links key l l.length, 0) := by rw [signG, if_neg (by omega), scan_all he]
      rw [e]
      exact ⟨vo, ko, rfl, rfl, OO⟩
theorem rds_snoc {ls : List MLink} {i : Nat} (hi : i < ls.length) : (rdsL ls).take (i + 1) = (rdsL ls).take i ++ [(ls.getD i default).rd] := by rw [take_snocR (by rw [rds_len]; exact hi), rds_at hi]
theorem readings11 (ls : List MLink) (vl : Value) (hl : PHeap) [jl : Arr vl encLink 4 hl ls] (n : ls.length ≤ 68719476736) : Spec Try.prog 97 #[vl] [] [hl] (fun v hs => ∃ k, hs = [k] ∧ OArr v encRd 3 80 k (rdsL ls)) := by
  have ll := jl.le
  have rl := rds_len ls
  have nR : OArr (.slice none 0 0) encRd 3 80 emp ([] : List MRd) := OArr.nil (fun _ => rfl)
  refine Spec.intro (fn := Try.f97) (N := 20) Try.func97 rfl Try.ntmps97 rfl fun B => ?_
  refine XK.seq ?_
  refine XK.region rfl ?_
  refine XO.q (Q.assign rfl) ?_
  refine XO.done ?_
  refine XK.seq ?_
  refine XK.region rfl ?_
  refine XO.q (Q.assign rfl) ?_
  refine XO.done ?_
  refine XK.seq ?_
  refine XK.seq ?_
  refine XK.region rfl ?_
  refine XO.q (Q.assign rfl) ?_
  refine XO.done ?_
  refine XK.block ?_
  refine XK.while (X := Nat × Value × PHeap) [3, 4, 5, 6, 7, 8, 9, 10, 11, 12, 13, 14, 15, 16, 17, 18] (fun ⟨i, vo, ko⟩ => [(3, some (vo)), (4, some (.int .i64 (i : Nat)))]) (fun ⟨i, vo, ko⟩ => [ko]) (fun ⟨i, vo, ko⟩ => i ≤ ls.length ∧ OArr vo encRd 3 80 ko ((rdsL ls).take i)) (fun ⟨i, vo, ko⟩ => ls.length - i) (0, .slice none 0 0, emp) [emp] rfl ⟨by omega, nR⟩ (.c rfl (.c rfl (.base 0 rfl rfl))) ?_
  rintro ⟨i, vo, ko⟩ ⟨hi, OO⟩ ih0
  dsimp only [List.cons_append, List.nil_append] at ih0 ⊢
  have el : ((rdsL ls).take i).length = i := by rw [List.length_take]; omega
  refine XK.seq ?_
  refine XK.seq ?_
  refine XK.region rfl ?_
  refine XO.q (Q.move rfl) ?_
  refine XO.q (Q.move rfl) ?_
  refine XO.len rfl fun l7 => ?_
  refine XO.q (Q.lss rfl rfl) ?_
  refine XO.done ?_
  refine XK.if rfl (fun c0 => ?_) (fun c0 => ?_)
  · have _t0 := True.intro
    refine XK.skip ?_
    refine XK.seq ?_
    refine XK.block ?_
    refine XK.region rfl ?_
    refine XO.q (Q.move rfl) ?_
    refine XO.q (Q.move rfl) ?_
    refine XO.q (Q.move rfl) ?_
    refine XO.ix rfl rfl (by omega) (by omega) fun i14 => ?_
    refine XO.q (Q.fieldQ rfl (by first | assumption | omega)) ?_
    refine XO.q (Q.ldEA [_, _, _] rfl (by first | assumption | omega) rfl rfl) ?_
    refine XO.lit [_, _, _] [_, _, _] [(ls.getD i default).rd] encRd (by rfl) (by rfl) rfl (by rfl) (by exact .c 0 3 rfl rfl rfl (.n _)) (fun _ => rfl) (by rfl) rfl (by infer_instance) rfl fun v17 h17 O17 => ?_
    refine XO.append rfl rfl rfl rfl (by first | omega | (simp; omega)) fun v18 h18 O18 => ?_
    refine XO.q (Q.assign rfl) ?_
    refine XO.done ?_
    refine XK.inBlock ?_
    refine XK.region rfl ?_
    refine XO.q (Q.move rfl) ?_
    refine XO.q (Q.add rfl rfl ⟨by omega, by omega⟩) ?_
    refine XO.q (Q.assign rfl) ?_
    refine XO.done ?_
    exact ih0 (i + 1, v18, h18) _ _ ⟨by dsimp only; omega, by dsimp only; rw [rds_snoc (by omega)]; exact O18⟩ (by first | omega | (dsimp only; omega)) (.c rfl (.c rfl (.base 34 rfl rfl))) inferInstance
  · have _t0 := True.intro
    refine XK.exit rfl ?_
    refine XK.seq ?_
    refine XK.region rfl ?_
    refine XO.q (Q.move rfl) ?_
    refine XO.q (Q.assign rfl) ?_
    refine XO.done ?_
    refine XK.rt [ko] Try.func97 Try.results97 (.t rfl .n) ?_
    have hin : i = ls.length := by omega
    rw [hin, ← rl, List.take_length] at OO
    exact ⟨ko, rfl, OO⟩
theorem RVerify_spec (key : Int) (ls : List MLink) (vl : Value) (hl : PHeap) [jl : Arr vl encLink 4 hl ls] : Spec Try.prog 72 #[.int .u64 key, vl] [] [hl] (fun v hs => v = .tuple #[.int .i64 (checkG key ls true).1, .int .i64 (checkG key ls true).2] ∧ hs = []) := by
  have ll := jl.le
  have rl := rds_len ls
  refine Spec.intro (fn := Try.f72) (N := 47) Try.func72 rfl Try.ntmps72 rfl fun B => ?_
  refine XK.seq ?_
  refine XK.region rfl ?_
  refine XO.q (Q.assign rfl) ?_
  refine XO.q (Q.assign rfl) ?_
  refine XO.done ?_
  refine XK.seq ?_
  refine XK.seq ?_
  refine XK.region rfl ?_
  refine XO.q (Q.move rfl) ?_
  refine XO.len rfl fun l11 => ?_
  refine XO.q (Q.gtr rfl rfl) ?_
  refine XO.done ?_
  refine XK.if rfl (fun c0 => ?_) (fun c0 => ?_)
  · have _t0 := True.intro
    refine XK.seq ?_
    refine XK.region rfl ?_
    refine XO.q (Q.assign rfl) ?_
    refine XO.q (Q.assign rfl) ?_
    refine XO.done ?_
    refine XK.rt [] Try.func72 Try.results72 (.t rfl (.t rfl .n)) ?_
    have e : checkG key ls true = (0, 2) := by rw [checkG, if_pos (by omega)]
    rw [e]
    exact ⟨rfl, rfl⟩
  · have _t0 := True.intro
    refine XK.skip ?_
    refine XK.seq ?_
    refine XK.region rfl ?_
    refine XO.q (Q.move rfl) ?_
    refine XO.call Try.call97 rfl rfl rfl (readings11 ls vl hl (by omega)) fun v14 s14 R14 => ?_
    obtain ⟨kr, rfl, OR⟩ := R14
    dsimp only [List.cons_append, List.nil_append]
    refine XO.q (Q.assign rfl) ?_
    refine XO.done ?_
    refine XK.seq ?_
    refine XK.region rfl ?_
    refine XO.q (Q.move rfl) ?_
    refine XO.call Try.call30 rfl rfl rfl (RMix_spec _ _) fun v16 s16 R16 => ?_
    obtain ⟨rfl, rfl⟩ := R16
    dsimp only [List.cons_append, List.nil_append]
    rw [show mixP key 1 = lastS key (rdsL ls) 0 from rfl]
    refine XO.q (Q.assign rfl) ?_
    refine XO.done ?_
    refine XK.seq ?_
    refine XK.seq ?_
    refine XK.region rfl ?_
    refine XO.q (Q.assign rfl) ?_
    refine XO.done ?_
    refine XK.block ?_
    refine XK.while (X := Nat) [4, 5, 7, 8, 9, 17, 18, 19, 20, 21, 22, 23, 24, 25, 26, 27, 28, 29, 30, 31, 32, 33, 34, 35, 36, 37, 38, 39, 40, 41, 42, 43, 44] (fun i => [(7, some (.int .u64 (lastS key (rdsL ls) (i)))), (8, some (.int .i64 (i : Nat)))]) (fun i => []) (fun i => i ≤ ls.length ∧ ∀ j, j < i → (chkF key ls true (j)) = 0) (fun i => ls.length - i) (0) [] rfl ⟨by omega, fun j hj => by omega⟩ (.c rfl (.c rfl (.base 0 rfl rfl))) ?_
    rintro i ⟨hi, he⟩ ih0
    dsimp only [List.cons_append, List.nil_append] at ih0 ⊢
    refine XK.seq ?_
    refine XK.seq ?_
    refine XK.region rfl ?_
    refine XO.q (Q.move rfl) ?_
    refine XO.q (Q.move rfl) ?_
    refine XO.len rfl fun l19 => ?_
    refine XO.q (Q.lss rfl rfl) ?_
    refine XO.done ?_
    refine XK.if rfl (fun c1 => ?_) (fun c1 => ?_)
    · have _t1 := True.intro
      refine XK.skip ?_
      refine XK.seq ?_
      refine XK.block ?_
      refine XK.seq ?_
      refine XK.seq ?_
      refine XK.region rfl ?_
      refine XO.q (Q.move rfl) ?_
      refine XO.q (Q.move rfl) ?_
      refine XO.call Try.call70 rfl rfl rfl (wrong11 (rdsL ls) v14 kr i (by omega)) fun v25 s25 R25 => ?_
      obtain ⟨rfl, rfl⟩ := R25
      dsimp only [List.cons_append, List.nil_append]
      refine XO.q (Q.assign rfl) ?_
      refine XO.done ?_
      refine XK.seq ?_
      refine XK.region rfl ?_
      refine XO.q (Q.move rfl) ?_
      refine XO.q (Q.neq rfl rfl) ?_
      refine XO.done ?_
      refine XK.if rfl (fun c2 => ?_) (fun c2 => ?_)
      · have _t2 := True.intro
        have ck : (chkF key ls true (i)) = errAt (rdsL ls) i := by rw [chkF, if_pos c2]
        refine XK.seq ?_
        refine XK.region rfl ?_
        refine XO.q (Q.move rfl) ?_
        refine XO.q (Q.move rfl) ?_
        refine XO.q (Q.assign rfl) ?_
        refine XO.q (Q.assign rfl) ?_
        refine XO.done ?_
        refine XK.rt [] Try.func72 Try.results72 (.t rfl (.t rfl .n)) ?_
        have e : checkG key ls true = ((i : Int), errAt (rdsL ls) i) := by rw [checkG, if_neg (by omega), scan_here he (by rw [ck]; exact c2) (by omega)]; dsimp only; rw [ck]
        rw [e]
        exact ⟨rfl, rfl⟩
      · have _t2 := True.intro
        refine XK.skip ?_
        refine XK.seq ?_
        refine XK.region rfl ?_
        refine XO.q (Q.move rfl) ?_
        refine XO.q (Q.move rfl) ?_
        refine XO.q (Q.move rfl) ?_
        refine XO.q (Q.move rfl) ?_
        refine XO.ix rfl rfl (by omega) (by omega) fun i34 => ?_
        refine XO.q (Q.ldEA [_, _, _] rfl (by first | assumption | omega) rfl rfl) ?_
        refine XO.call Try.call71 rfl rfl rfl (Rsign_spec key (lastS key (rdsL ls) (i)) ((rdsL ls).getD i default)) fun v36 s36 R36 => ?_
        obtain ⟨rfl, rfl⟩ := R36
        dsimp only [List.cons_append, List.nil_append]
        rw [← lastS_succ]
        refine XO.q (Q.assign rfl) ?_
        refine XO.done ?_
        refine XK.seq ?_
        refine XK.region rfl ?_
        refine XO.q (Q.move rfl) ?_
        refine XO.q (Q.move rfl) ?_
        refine XO.q (Q.move rfl) ?_
        refine XO.ix rfl rfl (by omega) (by omega) fun i40 => ?_
        refine XO.q (Q.fieldQ rfl (by first | assumption | omega)) ?_
        refine XO.q (Q.ldE rfl (by first | assumption | omega) rfl) ?_
        refine XO.q (Q.neq rfl rfl) ?_
        refine XO.done ?_
        refine XK.if rfl (fun c3 => ?_) (fun c3 => ?_)
        · have _t3 := True.intro
          have ck : (chkF key ls true (i)) = 7 := by rw [chkF, if_neg c2, if_pos ⟨rfl, c3⟩]
          refine XK.seq ?_
          refine XK.region rfl ?_
          refine XO.q (Q.move rfl) ?_
          refine XO.q (Q.assign rfl) ?_
          refine XO.q (Q.assign rfl) ?_
          refine XO.done ?_
          refine XK.rt [] Try.func72 Try.results72 (.t rfl (.t rfl .n)) ?_
          have e : checkG key ls true = ((i : Int), 7) := by rw [checkG, if_neg (by omega), scan_here he (by rw [ck]; decide) (by omega)]; dsimp only; rw [ck]
          rw [e]
          exact ⟨rfl, rfl⟩
        · have _t3 := True.intro
          have ck : (chkF key ls true (i)) = 0 := by rw [chkF, if_neg c2, if_neg (fun h => c3 h.2)]
          refine XK.skip ?_
          refine XK.inBlock ?_
          refine XK.region rfl ?_
          refine XO.q (Q.move rfl) ?_
          refine XO.q (Q.add rfl rfl ⟨by omega, by omega⟩) ?_
          refine XO.q (Q.assign rfl) ?_
          refine XO.done ?_
          exact ih0 (i + 1) _ _ ⟨by omega, fun j hj => (by rcases Nat.lt_or_ge j i with h3 | h3; exact he j h3; obtain rfl : j = i := (by omega); exact ck)⟩ (by first | omega | (dsimp only; omega)) (.c rfl (.c rfl (.base 63 rfl rfl))) inferInstance
    · have _t1 := True.intro
      refine XK.exit rfl ?_
      refine XK.seq ?_
      refine XK.region rfl ?_
      refine XO.q (Q.move rfl) ?_
      refine XO.len rfl fun l46 => ?_
      refine XO.q (Q.assign rfl) ?_
      refine XO.q (Q.assign rfl) ?_
      refine XO.done ?_
      refine XK.rt [] Try.func72 Try.results72 (.t rfl (.t rfl .n)) ?_
      have hin : i = ls.length := by omega
      subst hin
      have e : checkG key ls true = ((ls.length : Int), 0) := by rw [checkG, if_neg (by omega), scan_all he]
      rw [e]
      exact ⟨rfl, rfl⟩
end Go.X

set_option linter.unusedSimpArgs false
set_option linter.unusedVariables false
set_option maxRecDepth 20000
namespace Go.X
open Go.Proofs
deriving instance DecidableEq for MTier
theorem tier_ne (x y : MTier) : (!(decide (x.min = y.min) && (decide (x.pct = y.pct) && true))) = decide (¬ x = y) := by
  cases x; cases y
  rw [Bool.eq_iff_iff]
  simp
theorem bill_ne (x y : MBill) : (!(decide (x.energy = y.energy) && (decide (x.amount = y.amount) && (decide (x.credit = y.credit) && (decide (x.due = y.due) && true))))) = decide (¬ x = y) := by
  cases x; cases y
  rw [Bool.eq_iff_iff]
  simp
theorem bill_eq (x y : MBill) : (decide (x.energy = y.energy) && (decide (x.amount = y.amount) && (decide (x.credit = y.credit) && (decide (x.due = y.due) && true)))) = decide (x = y) := by
  cases x; cases y
  rw [Bool.eq_iff_iff]
  simp
theorem equalT (v1 v2 : Value) (h1 h2 : PHeap) (xs ys : List MTier) [s1 : Arr v1 encTier 2 h1 xs] [s2 : Arr v2 encTier 2 h2 ys] :
    Spec Try.prog 64 #[v1, v2] [] [h1, h2] (fun v hs => v = .bool (decide (xs = ys)) ∧ hs = []) := by
  refine Spec.intro (fn := Try.f64) (N := 26) Try.func64 rfl Try.ntmps64 rfl fun B => ?_
  refine XK.seq ?_
  refine XK.region rfl ?_
  refine XO.q (Q.assign rfl) ?_
  refine XO.done ?_
  refine XK.seq ?_
  refine XK.seq ?_
  refine XK.region rfl ?_
  refine XO.q (Q.move rfl) ?_
  refine XO.len rfl fun l7 => ?_
  refine XO.q (Q.move rfl) ?_
  refine XO.len rfl fun l9 => ?_
  refine XO.q (Q.neq rfl rfl) ?_
  refine XO.done ?_
  refine XK.if rfl (fun c0 => ?_) (fun c0 => ?_)
  · have _t0 := True.intro
    refine XK.seq ?_
    refine XK.region rfl ?_
    refine XO.q (Q.assign rfl) ?_
    refine XO.done ?_
    refine XK.rt [] Try.func64 Try.results64 (.t rfl .n) ?_
    exact ⟨by rw [decide_eq_false (fun h => c0 (by rw [h]))], rfl⟩
  · have _t0 := True.intro
    refine XK.skip ?_
    refine XK.seq ?_
    refine XK.seq ?_
    refine XK.region rfl ?_
    refine XO.q (Q.move rfl) ?_
    refine XO.len rfl fun l12 => ?_
    refine XO.q (Q.move rfl) ?_
    refine XO.done ?_
    refine XK.block ?_
    refine XK.while (X := Nat) [4, 5, 13, 14, 15, 16, 17, 18, 19, 20, 21, 22, 23, 24, 25] (fun i => [(13, some (.int .i64 (i : Nat)))]) (fun i => []) (fun i => i ≤ xs.length ∧ xs.take i = ys.take i) (fun i => xs.length - i) (0) [] rfl ⟨by omega, rfl⟩ (.c rfl (.base 0 rfl rfl)) ?_
    rintro i ⟨hi, ht⟩ ih0
    dsimp only [List.cons_append, List.nil_append] at ih0 ⊢
    refine XK.seq ?_
    refine XK.region rfl ?_
    refine XO.q (Q.lss rfl rfl) ?_
    refine XO.done ?_
    refine XK.seq ?_
    refine XK.if rfl (fun c1 => ?_) (fun c1 => ?_)
    · have _t1 := True.intro
      refine XK.skip ?_
      refine XK.seq ?_
      refine XK.block ?_
      refine XK.seq ?_
      refine XK.region rfl ?_
      refine XO.q (Q.move rfl) ?_
      refine XO.q (Q.assign rfl) ?_
      refine XO.done ?_
      refine XK.seq ?_
      refine XK.drawn [0, 1, 2, 3, 4, 5, 6, 7, 8] [] [] (.q 0 (.q 1 (.q 2 (.q 3 (.q 4 (.q 5 (.q 6 (.q 7 (.q 8 .done))))))))) Try.mixed rfl (by kernel_rfl) ?_
      refine XT.q rfl rfl (Q.move rfl) ?_
      refine XT.q rfl rfl (Q.move rfl) ?_
      refine XT.ix rfl rfl rfl rfl (by omega) (by omega) fun i18 => ?_
      refine XT.q rfl rfl (Q.ldEA [_, _] rfl (by first | assumption | omega) rfl rfl) ?_
      refine XT.q rfl rfl (Q.move rfl) ?_
      refine XT.q rfl rfl (Q.move rfl) ?_
      refine XT.ix rfl rfl rfl rfl (by omega) (by omega) fun i22 => ?_
      refine XT.q rfl rfl (Q.ldEA [_, _] rfl (by first | assumption | omega) rfl rfl) ?_
      refine XT.q rfl rfl (Q.neqS (us := [_, _]) (vs := [_, _]) rfl rfl inferInstance (by kernel_rfl) (by kernel_rfl) (.c rfl inferInstance inferInstance rfl rfl (.c rfl inferInstance inferInstance rfl rfl .n))) ?_
      rw [tier_ne]
      refine XT.done ?_
      refine XK.if rfl (fun c2 => ?_) (fun c2 => ?_)
      · have _t2 := True.intro
        refine XK.seq ?_
        refine XK.region rfl ?_
        refine XO.q (Q.assign rfl) ?_
        refine XO.done ?_
        refine XK.rt [] Try.func64 Try.results64 (.t rfl .n) ?_
        exact ⟨by rw [decide_eq_false (fun h => c2 (by rw [h]))], rfl⟩
      · have _t2 := True.intro
        refine XK.skip ?_
        refine XK.inBlock ?_
        refine XK.region rfl ?_
        refine XO.q (Q.add rfl rfl ⟨by omega, by omega⟩) ?_
        refine XO.q (Q.move rfl) ?_
        refine XO.done ?_
        exact ih0 (i + 1) _ _ ⟨by omega, take_step ht (by omega) (by omega) (Decidable.of_not_not c2)⟩ (by first | omega | (dsimp only; omega)) (.c rfl (.base 30 rfl rfl)) inferInstance
    · have _t1 := True.intro
      refine XK.exit rfl ?_
      refine XK.seq ?_
      refine XK.region rfl ?_
      refine XO.q (Q.assign rfl) ?_
      refine XO.done ?_
      refine XK.rt [] Try.func64 Try.results64 (.t rfl .n) ?_
      exact ⟨by rw [decide_eq_true (take_all ht c1 (by omega))], rfl⟩
theorem sameBill (x y : MBill) : Spec Try.prog 63 #[.agg #[.int .i64 x.energy, .int .i64 x.amount, .int .i64 x.credit, .int .i64 x.due], .agg #[.int .i64 y.energy, .int .i64 y.amount, .int .i64 y.credit, .int .i64 y.due]] [] [] (fun v hs => v = .bool (decide (x = y)) ∧ hs = []) := by
  refine Spec.intro (fn := Try.f63) (N := 8) Try.func63 rfl Try.ntmps63 rfl fun B => ?_
  refine XK.seq ?_
  refine XK.region rfl ?_
  refine XO.box rfl fun b2 => ?_
  refine XO.box rfl fun b3 => ?_
  refine XO.q (Q.assign rfl) ?_
  refine XO.done ?_
  refine XK.seq ?_
  refine XK.region rfl ?_
  refine XO.q (Q.ldA [_, _, _, _] rfl rfl rfl) ?_
  refine XO.q (Q.ldA [_, _, _, _] rfl rfl rfl) ?_
  refine XO.q (Q.eqlS (us := [_, _, _, _]) (vs := [_, _, _, _]) rfl rfl inferInstance (by kernel_rfl) (by kernel_rfl) (.c rfl inferInstance inferInstance rfl rfl (.c rfl inferInstance inferInstance rfl rfl (.c rfl inferInstance inferInstance rfl rfl (.c rfl inferInstance inferInstance rfl rfl .n))))) ?_
  rw [bill_eq]
  refine XO.q (Q.assign rfl) ?_
  refine XO.done ?_
  refine XK.rt [] Try.func63 Try.results63 (.t rfl .n) ?_
  exact ⟨rfl, rfl⟩
theorem equalBF (v1 v2 : Value) (h1 h2 : PHeap) (xs ys : List MBill) [s1 : Arr v1 encBill 4 h1 xs] [s2 : Arr v2 encBill 4 h2 ys] :
    Spec Try.prog 62 #[v1, v2, .func (.func 63) #[] #[]] [] [h1, h2] (fun v hs => v = .bool (decide (xs = ys)) ∧ hs = []) := by
  have l1 := s1.le
  refine Spec.intro (fn := Try.f62) (N := 32) Try.func62 rfl Try.ntmps62 rfl fun B => ?_
  refine XK.seq ?_
  refine XK.region rfl ?_
  refine XO.q (Q.assign rfl) ?_
  refine XO.done ?_
  refine XK.seq ?_
  refine XK.seq ?_
  refine XK.region rfl ?_
  refine XO.q (Q.move rfl) ?_
  refine XO.len rfl fun l11 => ?_
  refine XO.q (Q.move rfl) ?_
  refine XO.len rfl fun l13 => ?_
  refine XO.q (Q.neq rfl rfl) ?_
  refine XO.done ?_
  refine XK.if rfl (fun c0 => ?_) (fun c0 => ?_)
  · have _t0 := True.intro
    refine XK.seq ?_
    refine XK.region rfl ?_
    refine XO.q (Q.assign rfl) ?_
    refine XO.done ?_
    refine XK.rt [] Try.func62 Try.results62 (.t rfl .n) ?_
    exact ⟨by rw [decide_eq_false (fun h => c0 (by rw [h]))], rfl⟩
  · have _t0 := True.intro
    refine XK.skip ?_
    refine XK.seq ?_
    refine XK.seq ?_
    refine XK.region rfl ?_
    refine XO.q (Q.move rfl) ?_
    refine XO.len rfl fun l16 => ?_
    refine XO.q (Q.move rfl) ?_
    refine XO.done ?_
    refine XK.block ?_
    refine XK.while (X := Nat) [6, 7, 8, 9, 17, 18, 19, 20, 21, 22, 23, 24, 25, 26, 27, 28, 29, 30, 31] (fun i => [(17, some (.int .i64 (i : Nat)))]) (fun i => []) (fun i => i ≤ xs.length ∧ xs.take i = ys.take i) (fun i => xs.length - i) (0) [] rfl ⟨by omega, rfl⟩ (.c rfl (.base 0 rfl rfl)) ?_
    rintro i ⟨hi, ht⟩ ih0
    dsimp only [List.cons_append, List.nil_append] at ih0 ⊢
    refine XK.seq ?_
    refine XK.region rfl ?_
    refine XO.q (Q.lss rfl rfl) ?_
    refine XO.done ?_
    refine XK.seq ?_
    refine XK.if rfl (fun c1 => ?_) (fun c1 => ?_)
    · have _t1 := True.intro
      refine XK.skip ?_
      refine XK.seq ?_
      refine XK.block ?_
      refine XK.seq ?_
      refine XK.region rfl ?_
      refine XO.q (Q.move rfl) ?_
      refine XO.ix rfl rfl (by omega) (by omega) fun i20 => ?_
      refine XO.q (Q.ldEA [_, _, _, _] rfl (by first | assumption | omega) rfl rfl) ?_
      refine XO.alloc fun b8 => ?_
      refine XO.q (Q.assign rfl) ?_
      refine XO.st rfl rfl rfl ?_
      refine XO.done ?_
      refine XK.seq ?_
      refine XK.region rfl ?_
      refine XO.q (Q.move rfl) ?_
      refine XO.q (Q.move rfl) ?_
      refine XO.ix rfl rfl (by omega) (by omega) fun i24 => ?_
      refine XO.q (Q.ldEA [_, _, _, _] rfl (by first | assumption | omega) rfl rfl) ?_
      refine XO.alloc fun b9 => ?_
      refine XO.st rfl rfl rfl ?_
      refine XO.done ?_
      refine XK.seq ?_
      refine XK.region rfl ?_
      refine XO.q (Q.move rfl) ?_
      refine XO.q (Q.ldA [_, _, _, _] rfl rfl rfl) ?_
      refine XO.q (Q.ldA [_, _, _, _] rfl rfl rfl) ?_
      refine XO.call Try.call63 rfl rfl rfl (sameBill _ _) fun v29 s29 R29 => ?_
      obtain ⟨rfl, rfl⟩ := R29
      dsimp only [List.cons_append, List.nil_append]
      refine XO.q (Q.not rfl) ?_
      refine XO.done ?_
      refine XK.if rfl (fun c2 => ?_) (fun c2 => ?_)
      · have _t2 := True.intro
        refine XK.seq ?_
        refine XK.region rfl ?_
        refine XO.q (Q.assign rfl) ?_
        refine XO.done ?_
        refine XK.rt [] Try.func62 Try.results62 (.t rfl .n) ?_
        exact ⟨by rw [decide_eq_false (fun h => c2 (by rw [h]))], rfl⟩
      · have _t2 := True.intro
        refine XK.skip ?_
        refine XK.inBlock ?_
        refine XK.region rfl ?_
        refine XO.q (Q.add rfl rfl ⟨by omega, by omega⟩) ?_
        refine XO.q (Q.move rfl) ?_
        refine XO.done ?_
        exact ih0 (i + 1) _ _ ⟨by omega, take_step ht (by omega) (by omega) (by simpa using c2)⟩ (by first | omega | (dsimp only; omega)) (.c rfl (.base 38 rfl rfl)) inferInstance
    · have _t1 := True.intro
      refine XK.exit rfl ?_
      refine XK.seq ?_
      refine XK.region rfl ?_
      refine XO.q (Q.assign rfl) ?_
      refine XO.done ?_
      refine XK.rt [] Try.func62 Try.results62 (.t rfl .n) ?_
      exact ⟨by rw [decide_eq_true (take_all ht (by omega) (by omega))], rfl⟩
theorem cloneT (v : Value) (h : PHeap) (xs : List MTier) [s : Arr v encTier 2 h xs] (hl : xs.length ≤ 68719476736) :
    Spec Try.prog 59 #[v] [] [h] (fun v' hs => ∃ h', hs = [h'] ∧ OArr v' encTier 2 33 h' xs) := by
  refine Spec.intro (fn := Try.f59) (N := 8) Try.func59 rfl Try.ntmps59 rfl fun B => ?_
  refine XK.seq ?_
  refine XK.region rfl ?_
  refine XO.q (Q.assign rfl) ?_
  refine XO.done ?_
  refine XK.seq ?_
  refine XK.seq ?_
  refine XK.region rfl ?_
  refine XO.q (Q.move rfl) ?_
  refine XO.eqNil rfl fun z4 hz4 => ?_
  refine XO.done ?_
  refine XK.if rfl (fun c0 => ?_) (fun c0 => ?_)
  · have _t0 := True.intro
    refine XK.seq ?_
    refine XK.region rfl ?_
    refine XO.q (Q.assign rfl) ?_
    refine XO.done ?_
    refine XK.rt [emp] Try.func59 Try.results59 (.t rfl .n) ?_
    exact ⟨emp, rfl, by rw [(hz4 c0).1]; exact OArr.nil (fun _ => rfl)⟩
  · have _t0 := True.intro
    refine XK.skip ?_
    refine XK.seq ?_
    refine XK.region rfl ?_
    refine XO.lit [] [] [] encTier (by rfl) (by rfl) rfl (by rfl) (by exact .n _) (fun _ => rfl) (by rfl) rfl (by infer_instance) rfl fun v5 h5 O5 => ?_
    refine XO.q (Q.move rfl) ?_
    refine XO.append rfl rfl rfl rfl (by first | omega | (simp; omega)) fun v7 h7 O7 => ?_
    refine XO.q (Q.assign rfl) ?_
    refine XO.done ?_
    refine XK.rt [h7] Try.func59 Try.results59 (.t rfl .n) ?_
    exact ⟨h7, rfl, O7⟩
def UsesK (ms : List (Value × MUse)) (K : PHeap) (l : List MUse) : Prop := ms.map Prod.snd = l ∧ ∀ i, i < ms.length → Arr (ms.getD i default).1 encI 1 K (ms.getD i default).2.values
theorem UsesK.nil {K : PHeap} : UsesK [] K [] := ⟨rfl, fun i hi => absurd hi (Nat.not_lt_zero i)⟩
theorem UsesK.mono {ms : List (Value × MUse)} {K K' : PHeap} {l : List MUse} (hl : leH K K') (r : UsesK ms K l) : UsesK ms K' l := ⟨r.1, fun i hi => Arr.le_heap (r.2 i hi) hl⟩
theorem UsesK.snoc {ms : List (Value × MUse)} {K : PHeap} {l : List MUse} {v : Value} {u : MUse} (r : UsesK ms K l) (a : Arr v encI 1 K u.values) : UsesK (ms ++ [(v, u)]) K (l ++ [u]) := ⟨by rw [List.map_append, r.1]; rfl, fun i hi => by
  rw [List.length_append] at hi
  rw [rowsK_getD]
  by_cases hc : i < ms.length
  · rw [if_pos hc]; exact r.2 i hc
  · rw [if_neg hc, if_pos (by simp at hi; omega)]; exact a⟩
theorem UsesK.len {ms : List (Value × MUse)} {K : PHeap} {l : List MUse} (r : UsesK ms K l) : ms.length = l.length := by rw [← r.1, List.length_map]
theorem UsesK.at {ms : List (Value × MUse)} {K : PHeap} {l : List MUse} (r : UsesK ms K l) (i : Nat) : (ms.getD i default).2 = l.getD i default := by rw [← map_snd_at, r.1]
theorem take_snocU {l : List (Value × MUse)} {i : Nat} (hi : i < l.length) : (l.map Prod.snd).take (i + 1) = (l.map Prod.snd).take i ++ [(l.getD i default).2] := by
  rw [← map_snd_at, List.take_add_one, List.getElem?_eq_getElem (by rw [List.length_map]; exact hi), List.getD_eq_getElem?_getD, List.getElem?_eq_getElem (by rw [List.length_map]; exact hi)]; rfl
theorem take_snocT {l : List MTier} {i : Nat} (hi : i < l.length) : l.take (i + 1) = l.take i ++ [l.getD i default] := by
  rw [List.take_add_one, List.getElem?_eq_getElem hi, List.getD_eq_getElem?_getD, List.getElem?_eq_getElem hi]; rfl
set_option maxHeartbeats 2000000 in
set_option synthInstance.maxSize 1000 in
theorem bills_spec (t : MTariff) (vp vt : Value) (hp ht : PHeap) [jp : Arr vp encI 1 hp t.price] [jt : Arr vt encTier 2 ht t.tiers] (l : List (Value × MUse)) (vl : Value) (hl hL : PHeap) [jl : Arr vl encUse 2 hl l] (aL : ∀ i, i < l.length → Arr (l.getD i default).1 encI 1 hL (l.getD i default).2.values)
    (nl : l.length ≤ 70) (np : t.price.length ≤ 30) (nt : t.tiers.length ≤ 12) (nv : ∀ i, i < l.length → (l.getD i default).2.values.length ≤ 5000) :
    Spec Try.prog 21 #[.agg #[vp, .int .i64 t.base, vt, .int .i64 t.credit], vl] [] [hp, ht, hl, hL] (fun v hs => v = .bool true ∧ hs = []) := by
  have hnT : OArr (.slice none 0 0) encTier 2 136 emp ([] : List MTier) := OArr.nil (fun _ => rfl)
  have hnU : OArr (.slice none 0 0) encUse 2 138 emp ([] : List (Value × MUse)) := OArr.nil (fun _ => rfl)
  refine Spec.intro (fn := Try.f21) (N := 156) Try.func21 rfl Try.ntmps21 rfl fun B => ?_
  refine XK.seq ?_
  refine XK.region rfl ?_
  refine XO.box rfl fun b2 => ?_
  refine XO.q (Q.assign rfl) ?_
  refine XO.done ?_
  refine XK.seq ?_
  refine XK.meet (X := Nat × Value × Value × PHeap × PHeap) [5, 24, 25, 26, 27, 28, 29, 30, 31, 32, 33, 34] (fun ⟨b5, v26, v31, k26, k31⟩ => [(5, some (ptr b5 0))]) (fun ⟨b5, v26, v31, k26, k31⟩ => [blk b5 [v26, .int .i64 t.base, v31, .int .i64 t.credit] 27, k26, k31]) (fun ⟨b5, v26, v31, k26, k31⟩ => OArr v26 encI 1 3 k26 t.price ∧ OArr v31 encTier 2 33 k31 t.tiers) [] ?_ ?_
  · rintro ⟨b5, v26, v31, k26, k31⟩ ⟨O26, O31⟩
    dsimp only [List.cons_append, List.nil_append]
    refine XK.seq ?_
    refine XK.meet (X := Nat × Value × PHeap) [6, 35, 36, 37, 38, 39, 40, 41, 42] (fun ⟨b6, v37, k37⟩ => [(6, some (ptr b6 0))]) (fun ⟨b6, v37, k37⟩ => [blk b6 [v37, .int .i64 t.base, .slice none 0 0, .int .i64 t.credit] 135, k37]) (fun ⟨b6, v37, k37⟩ => OArr v37 encI 1 3 k37 t.price) [] ?_ ?_
    · rintro ⟨b6, v37, k37⟩ O37
      dsimp only [List.cons_append, List.nil_append]
      refine XK.seq ?_
      refine XK.seq ?_
      refine XK.region rfl ?_
      refine XO.q (Q.fieldAddr rfl) ?_
      refine XO.q (Q.ld rfl rfl) ?_
      refine XO.len rfl fun l45 => ?_
      refine XO.q (Q.move rfl) ?_
      refine XO.done ?_
      refine XK.block ?_
      refine XK.while (X := Nat × Value × PHeap) [8, 46, 47, 48, 49, 50, 51, 52, 53, 54, 55, 56] (fun ⟨i, w, kw⟩ => [(46, some (.int .i64 (i : Nat)))]) (fun ⟨i, w, kw⟩ => [blk b6 [v37, .int .i64 t.base, w, .int .i64 t.credit] 135, kw]) (fun ⟨i, w, kw⟩ => i ≤ t.tiers.length ∧ OArr w encTier 2 136 kw (t.tiers.take i)) (fun ⟨i, w, kw⟩ => t.tiers.length - i) (0, .slice none 0 0, emp) [blk b6 [v37, .int .i64 t.base, .slice none 0 0, .int .i64 t.credit] 135, emp] rfl ⟨by omega, hnT⟩ (.c rfl (.base 0 rfl rfl)) ?_
      rintro ⟨i, w, kw⟩ ⟨hi, OT⟩ ih0
      dsimp only [List.cons_append, List.nil_append] at ih0 ⊢
      have el : (t.tiers.take i).length = i := by rw [List.length_take]; omega
      refine XK.seq ?_
      refine XK.region rfl ?_
      refine XO.q (Q.lss rfl rfl) ?_
      refine XO.done ?_
      refine XK.seq ?_
      refine XK.if rfl (fun c0 => ?_) (fun c0 => ?_)
      · have _t0 := True.intro
        refine XK.skip ?_
        refine XK.seq ?_
        refine XK.block ?_
        refine XK.seq ?_
        refine XK.region rfl ?_
        refine XO.ix rfl rfl (by omega) (by omega) fun i48 => ?_
        refine XO.q (Q.ldEA [_, _] rfl (by first | assumption | omega) rfl rfl) ?_
        refine XO.alloc fun b8 => ?_
        refine XO.st rfl rfl rfl ?_
        refine XO.done ?_
        refine XK.region rfl ?_
        refine XO.q (Q.fieldAddr rfl) ?_
        refine XO.q (Q.ld rfl rfl) ?_
        refine XO.q (Q.ldA [_, _] rfl rfl rfl) ?_
        refine XO.lit [_, _] [_, _] [t.tiers.getD i default] encTier (by rfl) (by rfl) rfl (by rfl) (by exact .c 0 2 rfl rfl rfl (.n _)) (fun _ => rfl) (by rfl) rfl (by infer_instance) rfl fun v53 h53 O53 => ?_
        refine XO.append rfl rfl rfl rfl (by first | omega | (simp; omega)) fun v54 h54 O54 => ?_
        refine XO.q (Q.fieldAddr rfl) ?_
        refine XO.st rfl rfl rfl ?_
        refine XO.done ?_
        refine XK.inBlock ?_
        refine XK.region rfl ?_
        refine XO.q (Q.add rfl rfl ⟨by omega, by omega⟩) ?_
        refine XO.q (Q.move rfl) ?_
        refine XO.done ?_
        exact ih0 (i + 1, v54, h54) _ _ ⟨by dsimp only; omega, by dsimp only; rw [take_snocT (by omega)]; exact O54⟩ (by first | omega | (dsimp only; omega)) (.c rfl (.base 25 rfl rfl)) inferInstance
      · have _t0 := True.intro
        have hin : i = t.tiers.length := by omega
        subst hin
        rw [List.take_length] at OT
        clear ih0
        refine XK.exit rfl ?_
        refine XK.seq ?_
        refine XK.region rfl ?_
        refine XO.q (Q.assign rfl) ?_
        refine XO.done ?_
        refine XK.seq ?_
        refine XK.seq ?_
        refine XK.region rfl ?_
        refine XO.q (Q.move rfl) ?_
        refine XO.len rfl fun l58 => ?_
        refine XO.q (Q.move rfl) ?_
        refine XO.done ?_
        refine XK.block ?_
        refine XK.while (X := Nat × Value × PHeap × PHeap × List (Value × MUse)) [9, 11, 59, 60, 61, 62, 63, 64, 65, 66, 67, 68, 69, 70, 71, 72] (fun ⟨i, vm, km, K, ms⟩ => [(9, some (vm)), (59, some (.int .i64 (i : Nat)))]) (fun ⟨i, vm, km, K, ms⟩ => [km, K]) (fun ⟨i, vm, km, K, ms⟩ => i ≤ l.length ∧ OArr vm encUse 2 138 km ms ∧ UsesK ms K ((l.map Prod.snd).take i)) (fun ⟨i, vm, km, K, ms⟩ => l.length - i) (0, .slice none 0 0, emp, emp, []) [emp, emp] rfl ⟨by omega, hnU, UsesK.nil⟩ (.c rfl (.c rfl (.base 0 rfl rfl))) ?_
        rintro ⟨i, vm, km, K, ms⟩ ⟨hi, OU, UU⟩ ih1
        dsimp only [List.cons_append, List.nil_append] at ih1 ⊢
        refine XK.seq ?_
        refine XK.region rfl ?_
        refine XO.q (Q.lss rfl rfl) ?_
        refine XO.done ?_
        refine XK.seq ?_
        refine XK.if rfl (fun c1 => ?_) (fun c1 => ?_)
        · have _t1 := True.intro
          have ai := aL i (by omega)
          have ni := nv i (by omega)
          have ul := UU.len
          rw [List.length_take, List.length_map] at ul
          refine XK.skip ?_
          refine XK.seq ?_
          refine XK.block ?_
          refine XK.seq ?_
          refine XK.region rfl ?_
          refine XO.ix rfl rfl (by omega) (by omega) fun i61 => ?_
          refine XO.q (Q.ldEA [_, _] rfl (by first | assumption | omega) rfl rfl) ?_
          refine XO.alloc fun b11 => ?_
          refine XO.st rfl rfl rfl ?_
          refine XO.done ?_
          refine XK.drawn [0, 1, 2, 4, 5, 6, 9] [b11] [] (.q 0 (.q 1 (.q 2 (.q 4 (.q 5 (.br 3 true (.q 6 (.br 7 true (.br 8 true (.q 9 .done) .stop) .stop)) .stop)))))) Try.mixed rfl (by kernel_rfl) ?_
          refine XT.q rfl rfl (Q.move rfl) ?_
          refine XT.q rfl rfl (Q.fieldAddr rfl) ?_
          refine XT.q rfl rfl (Q.ld rfl rfl) ?_
          refine XT.q rfl rfl (Q.fieldAddr rfl) ?_
          refine XT.q rfl rfl (Q.ld rfl rfl) ?_
          refine XT.call rfl rfl Try.call20 rfl rfl rfl (cloneI (l.getD i default).1 hL (l.getD i default).2.values (by omega)) (fun v66 s66 R66 => ?_) XT.stop
          obtain ⟨k66, rfl, O66⟩ := R66
          dsimp only [List.cons_append, List.nil_append]
          refine ⟨inferInstance, ?_⟩
          refine XT.q rfl rfl (Q.build [_, _] (.c 0 1 rfl rfl rfl (.c 1 1 rfl rfl rfl (.n _)))) ?_
          refine XT.lit [_, _] [_, _] [(v66, (l.getD i default).2)] encUse rfl rfl (by rfl) (by rfl) rfl (by rfl) (by exact .c 0 2 rfl rfl rfl (.n _)) (fun _ => rfl) (by rfl) rfl (by infer_instance) rfl (fun v70 h70 O70 => ⟨inferInstance, ?_⟩) XT.stop
          refine XT.append rfl rfl rfl rfl rfl rfl (by first | omega | (simp; omega)) (fun v71 h71 O71 => ⟨inferInstance, ?_⟩) XT.stop
          refine XT.q rfl rfl (Q.assign rfl) ?_
          refine XT.done ?_
          refine XK.inBlock ?_
          refine XK.region rfl ?_
          refine XO.q (Q.add rfl rfl ⟨by omega, by omega⟩) ?_
          refine XO.q (Q.move rfl) ?_
          refine XO.done ?_
          refine XK.cat K k66 fun l1 l2 => ?_
          exact ih1 (i + 1, v71, h71, cat K k66, ms ++ [(v66, (l.getD i default).2)]) _ _ ⟨by dsimp only; omega, O71, by dsimp only; rw [take_snocU (by omega)]; exact (UU.mono l1).snoc (Arr.le_heap (OArr.arr (s := O66)) l2)⟩ (by first | omega | (dsimp only; omega)) (.c rfl (.c rfl (.base 34 rfl rfl))) inferInstance
        · have _t1 := True.intro
          have hin : i = l.length := by omega
          subst hin
          rw [show (l.map Prod.snd).take l.length = l.map Prod.snd by rw [← List.length_map (f := Prod.snd), List.take_length]] at UU
          have ul := UU.len
          rw [List.length_map] at ul
          clear ih1
          refine XK.exit rfl ?_
          refine XK.seq ?_
          refine XK.seq ?_
          refine XK.region rfl ?_
          refine XO.q (Q.move rfl) ?_
          refine XO.len rfl fun l74 => ?_
          refine XO.q (Q.move rfl) ?_
          refine XO.done ?_
          refine XK.block ?_
          refine XK.while (X := Nat) [4, 12, 13, 14, 15, 16, 17, 75, 76, 77, 78, 79, 80, 81, 82, 83, 84, 85, 86, 87, 88, 89, 90, 91, 92, 93, 94, 95, 96, 97, 98, 99, 100, 101, 102, 103, 104, 105, 106, 107, 108, 109, 110, 111, 112, 113, 114] (fun i => [(75, some (.int .i64 (i : Nat)))]) (fun i => []) (fun i => i ≤ l.length) (fun i => l.length - i) (0) [] rfl (by omega) (.c rfl (.base 0 rfl rfl)) ?_
          rintro i hi ih2
          dsimp only [List.cons_append, List.nil_append] at ih2 ⊢
          refine XK.seq ?_
          refine XK.region rfl ?_
          refine XO.q (Q.lss rfl rfl) ?_
          refine XO.done ?_
          refine XK.seq ?_
          refine XK.if rfl (fun c2 => ?_) (fun c2 => ?_)
          · have _t2 := True.intro
            have ai := aL i (by omega)
            have ni := nv i (by omega)
            have mi := UU.2 i (by omega)
            have eu : (ms.getD i default).2 = (l.getD i default).2 := by rw [UU.at, map_snd_at]
            refine XK.skip ?_
            refine XK.seq ?_
            refine XK.block ?_
            refine XK.seq ?_
            refine XK.region rfl ?_
            refine XO.q (Q.move rfl) ?_
            refine XO.ix rfl rfl (by omega) (by omega) fun i78 => ?_
            refine XO.q (Q.ldEA [_, _] rfl (by first | assumption | omega) rfl rfl) ?_
            refine XO.alloc fun b13 => ?_
            refine XO.q (Q.assign rfl) ?_
            refine XO.st rfl rfl rfl ?_
            refine XO.done ?_
            refine XK.seq ?_
            refine XK.region rfl ?_
            refine XO.q (Q.ldA [_, _, _, _] rfl rfl rfl) ?_
            refine XO.q (Q.ldA [_, _] rfl rfl rfl) ?_
            refine XO.call Try.call11 rfl rfl rfl (Make_spec t v26 v31 k26 k31 (l.getD i default).2 (l.getD i default).1 hL) fun v83 s83 R83 => ?_
            obtain ⟨rfl, rfl⟩ := R83
            dsimp only [List.cons_append, List.nil_append]
            refine XO.q (Q.move rfl) ?_
            refine XO.q (Q.extract rfl rfl) ?_
            refine XO.q (Q.extract rfl rfl) ?_
            refine XO.alloc fun b14 => ?_
            refine XO.st rfl rfl rfl ?_
            refine XO.q (Q.assign rfl) ?_
            refine XO.done ?_
            refine XK.seq ?_
            refine XK.meet (X := Nat) [16, 17, 86, 87, 88, 89, 90, 91, 92, 93, 94] (fun b16 => [(16, some (ptr b16 0)), (17, some (.int .i64 (makeG t (l.getD i default).2).2))]) (fun b16 => [blk b16 [.int .i64 (makeG t (l.getD i default).2).1.energy, .int .i64 (makeG t (l.getD i default).2).1.amount, .int .i64 (makeG t (l.getD i default).2).1.credit, .int .i64 (makeG t (l.getD i default).2).1.due] 139]) (fun b16 => True) [] ?_ ?_
            · rintro b16 _
              dsimp only [List.cons_append, List.nil_append]
              refine XK.seq ?_
              refine XK.drawn [0, 1, 2, 3, 4, 5, 6, 7, 8, 9, 10, 11, 12, 13, 14, 15, 17, 18] [b14, b16, b13] [km] (.q 0 (.q 1 (.q 2 (.q 3 (.q 4 (.q 5 (.q 6 (.q 7 (.q 8 (.q 9 (.q 10 (.q 11 (.q 12 (.q 13 (.q 14 (.q 15 (.br 16 true (.q 17 (.q 18 .done)) .stop))))))))))))))))) Try.mixed rfl (by kernel_rfl) ?_
              refine XT.q rfl rfl (Q.ldA [_, _, _, _] rfl rfl rfl) ?_
              refine XT.q rfl rfl (Q.ldA [_, _, _, _] rfl rfl rfl) ?_
              refine XT.q rfl rfl (Q.neqS (us := [_, _, _, _]) (vs := [_, _, _, _]) rfl rfl inferInstance (by kernel_rfl) (by kernel_rfl) (.c rfl inferInstance inferInstance rfl rfl (.c rfl inferInstance inferInstance rfl rfl (.c rfl inferInstance inferInstance rfl rfl (.c rfl inferInstance inferInstance rfl rfl .n))))) ?_
              rw [bill_ne]
              refine XT.q rfl rfl (Q.move rfl) ?_
              refine XT.q rfl rfl (Quiet.guardF rfl rfl fun g99 p99 => Q.move rfl) ?_
              refine XT.q rfl rfl (Quiet.guardF rfl rfl fun g100 p100 => Q.move rfl) ?_
              refine XT.q rfl rfl (Quiet.guardF rfl rfl fun g101 p101 => Q.neq (lzv g101 rfl) (lzv g101 rfl)) ?_
              refine XT.q rfl rfl (Q.or rfl (fun hp => lzv hp rfl)) ?_
              refine XT.q rfl rfl (Q.move rfl) ?_
              refine XT.q rfl rfl (Quiet.guardF rfl rfl fun g104 p104 => Q.fieldAddr rfl) ?_
              refine XT.q rfl rfl (Quiet.guardF rfl rfl fun g105 p105 => Q.ld (lzv g105 rfl) rfl) ?_
              refine XT.q rfl rfl (Quiet.guardF rfl rfl fun g106 p106 => Q.move rfl) ?_
              refine XT.q rfl rfl (Quiet.guardF rfl rfl fun g107 p107 => Q.move rfl) ?_
              refine XT.q rfl rfl (Quiet.guardF rfl rfl fun g108 p108 => Q.ix (lzv g108 rfl) (lzv g108 rfl) (by omega) (by omega)) ?_
              refine XT.q rfl rfl (Quiet.guardF rfl rfl fun g109 p109 => Q.fieldQ (lzv g109 rfl) (by first | assumption | omega)) ?_
              refine XT.q rfl rfl (Quiet.guardF rfl rfl fun g110 p110 => Q.ldE (lzv g110 rfl) (by first | assumption | omega) rfl) ?_
              refine XT.gcallF rfl rfl rfl rfl Try.call51 rfl (fun g111 => .c (lzv g111 rfl) (.c (lzv g111 rfl) .n)) rfl (fun g111 p111 => equalI (l.getD i default).1 (ms.getD i default).1 hL K (l.getD i default).2.values (ms.getD i default).2.values) ⟨inferInstance, ?_⟩ XT.stop
              refine XT.q rfl rfl (Quiet.guardF rfl rfl fun g112 p112 => Q.not (lzv g112 rfl)) ?_
              refine XT.q rfl rfl (Q.or rfl (fun hp => lzv hp rfl)) ?_
              refine XT.done ?_
              refine XK.if rfl (fun c3 => ?_) (fun c3 => ?_)
              · have _t3 := True.intro
                rw [eu] at c3
                exact absurd c3 (by simp)
              · have _t3 := True.intro
                refine XK.skip ?_
                refine XK.inBlock ?_
                refine XK.region rfl ?_
                refine XO.q (Q.add rfl rfl ⟨by omega, by omega⟩) ?_
                refine XO.q (Q.move rfl) ?_
                refine XO.done ?_
                exact ih2 (i + 1) _ _ (by omega) (by first | omega | (dsimp only; omega)) (.c rfl (.base 96 rfl rfl)) inferInstance
            · intro mtr18
              dsimp only [List.cons_append, List.nil_append] at mtr18
              refine XK.drawn [0, 1, 2, 3, 4, 6, 7, 8, 11] [b6] [km] (.q 0 (.q 1 (.q 2 (.q 3 (.q 4 (.br 5 true (.q 6 (.q 7 (.q 8 (.br 9 true (.br 10 true (.q 11 .done) .stop) .stop)))) (.br 9 true (.br 5 true (.q 6 (.q 7 (.q 8 (.br 10 true (.q 11 .done) .stop)))) .stop) .stop))))))) Try.mixed rfl (by kernel_rfl) ?_
              refine XT.q rfl rfl (Q.ldA [_, _, _, _] rfl rfl rfl) ?_
              refine XT.q rfl rfl (Q.move rfl) ?_
              refine XT.q rfl rfl (Q.move rfl) ?_
              refine XT.ix rfl rfl rfl rfl (by omega) (by omega) fun i90 => ?_
              refine XT.q rfl rfl (Q.ldEA [_, _] rfl (by first | assumption | omega) rfl rfl) ?_
              refine XT.call rfl rfl Try.call60 rfl rfl rfl (RMake_spec t v37 w k37 kw (ms.getD i default).2 (ms.getD i default).1 K) (fun v92 s92 R92 => ?_) ?_
              · skip
                obtain ⟨rfl, rfl⟩ := R92
                dsimp only [List.cons_append, List.nil_append]
                refine ⟨inferInstance, ?_⟩
                rw [eu]
                refine XT.q rfl rfl (Q.move rfl) ?_
                refine XT.q rfl rfl (Q.extract rfl rfl) ?_
                refine XT.q rfl rfl (Q.extract rfl rfl) ?_
                refine XT.alloc rfl rfl (fun b16 => ⟨inferInstance, ?_⟩) XT.stop
                refine XT.st rfl rfl rfl rfl rfl ⟨inferInstance, ?_⟩ XT.stop
                refine XT.q rfl rfl (Q.assign rfl) ?_
                refine XT.done ?_
                exact mtr18 (b16) _ _ trivial (.c rfl (.c rfl (.base 11 rfl rfl))) inferInstance
              · skip
                refine XT.alloc rfl rfl (fun b16 => ⟨inferInstance, ?_⟩) XT.stop
                refine XT.call rfl rfl Try.call60 rfl rfl rfl (RMake_spec t v37 w k37 kw (ms.getD i default).2 (ms.getD i default).1 K) (fun v92 s92 R92 => ?_) XT.stop
                obtain ⟨rfl, rfl⟩ := R92
                dsimp only [List.cons_append, List.nil_append]
                refine ⟨inferInstance, ?_⟩
                rw [eu]
                refine XT.q rfl rfl (Q.move rfl) ?_
                refine XT.q rfl rfl (Q.extract rfl rfl) ?_
                refine XT.q rfl rfl (Q.extract rfl rfl) ?_
                refine XT.st rfl rfl rfl rfl rfl ⟨inferInstance, ?_⟩ XT.stop
                refine XT.q rfl rfl (Q.assign rfl) ?_
                refine XT.done ?_
                exact mtr18 (b16) _ _ trivial (.c rfl (.c rfl (.base 11 rfl rfl))) inferInstance
          · have _t2 := True.intro
            refine XK.exit rfl ?_
            refine XK.seq ?_
            refine XK.region rfl ?_
            refine XO.q (Q.ldA [_, _, _, _] rfl rfl rfl) ?_
            refine XO.q (Q.move rfl) ?_
            refine XO.call Try.call12 rfl rfl rfl (Total_spec t v26 v31 k26 k31 l vl hl hL aL) fun v118 s118 R118 => ?_
            obtain ⟨vo, ko, rfl, rfl, AO⟩ := R118
            dsimp only [List.cons_append, List.nil_append]
            obtain ⟨r, er⟩ : ∃ r, r = (totalG t (l.map Prod.snd)) := ⟨_, rfl⟩
            rw [← er] at AO ⊢
            refine XO.q (Q.move rfl) ?_
            refine XO.q (Q.extract rfl rfl) ?_
            refine XO.q (Q.extract rfl rfl) ?_
            refine XO.q (Q.extract rfl rfl) ?_
            refine XO.alloc fun b19 => ?_
            refine XO.q (Q.assign rfl) ?_
            refine XO.st rfl rfl rfl ?_
            refine XO.q (Q.assign rfl) ?_
            refine XO.done ?_
            refine XK.seq ?_
            refine XK.region rfl ?_
            refine XO.q (Q.ldA [_, _, _, _] rfl rfl rfl) ?_
            refine XO.q (Q.move rfl) ?_
            refine XO.call Try.call61 rfl rfl rfl (RTotal_spec t v37 w k37 kw ms vm km K UU.2) fun v125 s125 R125 => ?_
            obtain ⟨vo2, ko2, rfl, rfl, AO2⟩ := R125
            dsimp only [List.cons_append, List.nil_append]
            rw [UU.1, ← er] at AO2 ⊢
            refine XO.q (Q.move rfl) ?_
            refine XO.q (Q.extract rfl rfl) ?_
            refine XO.q (Q.extract rfl rfl) ?_
            refine XO.q (Q.extract rfl rfl) ?_
            refine XO.alloc fun b22 => ?_
            refine XO.q (Q.assign rfl) ?_
            refine XO.st rfl rfl rfl ?_
            refine XO.q (Q.assign rfl) ?_
            refine XO.done ?_
            refine XK.seq ?_
            refine XK.region rfl ?_
            refine XO.q (Q.move rfl) ?_
            refine XO.q (Q.move rfl) ?_
            refine XO.q (Q.eql rfl rfl) ?_
            refine XO.q (Q.move rfl) ?_
            refine XO.q (Quiet.guardT rfl rfl fun g133 p133 => Q.ldA [_, _, _, _] rfl rfl rfl) ?_
            refine XO.q (Quiet.guardT rfl rfl fun g134 p134 => Q.ldA [_, _, _, _] rfl rfl rfl) ?_
            refine XO.q (Quiet.guardT rfl rfl fun g135 p135 => Q.eqlS (us := [_, _, _, _]) (vs := [_, _, _, _]) (lzv g135 rfl) (lzv g135 rfl) inferInstance (by kernel_rfl) (by kernel_rfl) (.c rfl inferInstance inferInstance rfl rfl (.c rfl inferInstance inferInstance rfl rfl (.c rfl inferInstance inferInstance rfl rfl (.c rfl inferInstance inferInstance rfl rfl .n))))) ?_
            rw [bill_eq]
            refine XO.q (Q.and rfl (fun hp => lzv hp rfl)) ?_
            refine XO.q (Q.move rfl) ?_
            refine XO.q (Quiet.guardT rfl rfl fun g138 p138 => Q.move rfl) ?_
            refine XO.q (Quiet.guardT rfl rfl fun g139 p139 => Q.move rfl) ?_
            refine XO.gcallT rfl rfl Try.call62 rfl (fun g140 => .c (lzv g140 rfl) (.c (lzv g140 rfl) (.c rfl .n))) rfl (fun g140 p140 => equalBF vo vo2 ko ko2 r.1 r.1) ?_
            refine XO.q (Q.and rfl (fun hp => lzv hp rfl)) ?_
            refine XO.q (Q.move rfl) ?_
            refine XO.q (Quiet.guardT rfl rfl fun g143 p143 => Q.fieldAddr rfl) ?_
            refine XO.q (Quiet.guardT rfl rfl fun g144 p144 => Q.ld (lzv g144 rfl) rfl) ?_
            refine XO.q (Quiet.guardT rfl rfl fun g145 p145 => Q.fieldAddr rfl) ?_
            refine XO.q (Quiet.guardT rfl rfl fun g146 p146 => Q.ld (lzv g146 rfl) rfl) ?_
            refine XO.gcallT rfl rfl Try.call51 rfl (fun g147 => .c (lzv g147 rfl) (.c (lzv g147 rfl) .n)) rfl (fun g147 p147 => equalI v26 vp k26 hp t.price t.price) ?_
            refine XO.q (Q.and rfl (fun hp => lzv hp rfl)) ?_
            refine XO.q (Q.move rfl) ?_
            refine XO.q (Quiet.guardT rfl rfl fun g150 p150 => Q.fieldAddr rfl) ?_
            refine XO.q (Quiet.guardT rfl rfl fun g151 p151 => Q.ld (lzv g151 rfl) rfl) ?_
            refine XO.q (Quiet.guardT rfl rfl fun g152 p152 => Q.fieldAddr rfl) ?_
            refine XO.q (Quiet.guardT rfl rfl fun g153 p153 => Q.ld (lzv g153 rfl) rfl) ?_
            refine XO.gcallT rfl rfl Try.call64 rfl (fun g154 => .c (lzv g154 rfl) (.c (lzv g154 rfl) .n)) rfl (fun g154 p154 => equalT v31 vt k31 ht t.tiers t.tiers) ?_
            refine XO.q (Q.and rfl (fun hp => lzv hp rfl)) ?_
            refine XO.q (Q.assign rfl) ?_
            refine XO.done ?_
            refine XK.rt [] Try.func21 Try.results21 (.t rfl .n) ?_
            exact ⟨by simp, rfl⟩
    · intro mtr2
      dsimp only [List.cons_append, List.nil_append] at mtr2
      refine XK.drawn [0, 1, 3, 4, 5, 6, 7] [b2] [] (.q 0 (.q 1 (.q 3 (.q 4 (.q 5 (.q 6 (.br 2 true (.q 7 (.br 8 true (.br 9 false .done .stop) .stop)) (.br 8 true (.br 2 true (.q 7 (.br 9 false .done .stop)) .stop) .stop)))))))) Try.mixed rfl (by kernel_rfl) ?_
      refine XT.q rfl rfl (Q.fieldAddr rfl) ?_
      refine XT.q rfl rfl (Q.ld rfl rfl) ?_
      refine XT.q rfl rfl (Q.fieldAddr rfl) ?_
      refine XT.q rfl rfl (Q.ld rfl rfl) ?_
      refine XT.q rfl rfl (Q.fieldAddr rfl) ?_
      refine XT.q rfl rfl (Q.ld rfl rfl) ?_
      refine XT.call rfl rfl Try.call20 rfl rfl rfl (cloneI vp hp t.price (by omega)) (fun v37 s37 R37 => ?_) ?_
      · skip
        obtain ⟨k37, rfl, O37⟩ := R37
        dsimp only [List.cons_append, List.nil_append]
        refine ⟨inferInstance, ?_⟩
        refine XT.q rfl rfl (Q.build [_, _, _, _] (.c 0 1 rfl rfl rfl (.c 1 1 rfl rfl rfl (.c 3 1 rfl rfl rfl (.n _))))) ?_
        refine XT.alloc rfl rfl (fun b6 => ⟨inferInstance, ?_⟩) XT.stop
        refine XT.st rfl rfl rfl rfl rfl ⟨inferInstance, ?_⟩ XT.stop
        refine XT.done ?_
        exact mtr2 ((b6, v37, k37)) _ _ O37 (.c rfl (.base 9 rfl rfl)) inferInstance
      · skip
        refine XT.alloc rfl rfl (fun b6 => ⟨inferInstance, ?_⟩) XT.stop
        refine XT.call rfl rfl Try.call20 rfl rfl rfl (cloneI vp hp t.price (by omega)) (fun v37 s37 R37 => ?_) XT.stop
        obtain ⟨k37, rfl, O37⟩ := R37
        dsimp only [List.cons_append, List.nil_append]
        refine ⟨inferInstance, ?_⟩
        refine XT.q rfl rfl (Q.build [_, _, _, _] (.c 0 1 rfl rfl rfl (.c 1 1 rfl rfl rfl (.c 3 1 rfl rfl rfl (.n _))))) ?_
        refine XT.st rfl rfl rfl rfl rfl ⟨inferInstance, ?_⟩ XT.stop
        refine XT.done ?_
        exact mtr2 ((b6, v37, k37)) _ _ O37 (.c rfl (.base 9 rfl rfl)) inferInstance
  · intro mtr1
    dsimp only [List.cons_append, List.nil_append] at mtr1
    refine XK.drawn [0, 1, 3, 4, 5, 6, 8, 9, 10] [b2] [] (.q 0 (.q 1 (.q 3 (.q 4 (.q 5 (.q 6 (.q 8 (.q 9 (.br 2 true (.br 7 true (.q 10 (.br 11 true (.br 12 false .done .stop) .stop)) (.br 11 true (.br 7 true (.q 10 (.br 12 false .done .stop)) .stop) .stop)) (.br 11 true (.br 2 true (.br 7 true (.q 10 (.br 12 false .done .stop)) .stop) .stop) .stop)))))))))) Try.mixed rfl (by kernel_rfl) ?_
    refine XT.q rfl rfl (Q.fieldAddr rfl) ?_
    refine XT.q rfl rfl (Q.ld rfl rfl) ?_
    refine XT.q rfl rfl (Q.fieldAddr rfl) ?_
    refine XT.q rfl rfl (Q.ld rfl rfl) ?_
    refine XT.q rfl rfl (Q.fieldAddr rfl) ?_
    refine XT.q rfl rfl (Q.ld rfl rfl) ?_
    refine XT.q rfl rfl (Q.fieldAddr rfl) ?_
    refine XT.q rfl rfl (Q.ld rfl rfl) ?_
    refine XT.call rfl rfl Try.call20 rfl rfl rfl (cloneI vp hp t.price (by omega)) (fun v26 s26 R26 => ?_) ?_
    · skip
      obtain ⟨k26, rfl, O26⟩ := R26
      dsimp only [List.cons_append, List.nil_append]
      refine ⟨inferInstance, ?_⟩
      refine XT.call rfl rfl Try.call59 rfl rfl rfl (cloneT vt ht t.tiers (by omega)) (fun v31 s31 R31 => ?_) ?_
      · skip
        obtain ⟨k31, rfl, O31⟩ := R31
        dsimp only [List.cons_append, List.nil_append]
        refine ⟨inferInstance, ?_⟩
        refine XT.q rfl rfl (Q.build [_, _, _, _] (.c 0 1 rfl rfl rfl (.c 1 1 rfl rfl rfl (.c 2 1 rfl rfl rfl (.c 3 1 rfl rfl rfl (.n _)))))) ?_
        refine XT.alloc rfl rfl (fun b5 => ⟨inferInstance, ?_⟩) XT.stop
        refine XT.st rfl rfl rfl rfl rfl ⟨inferInstance, ?_⟩ XT.stop
        refine XT.done ?_
        exact mtr1 ((b5, v26, v31, k26, k31)) _ _ ⟨O26, O31⟩ (.c rfl (.base 12 rfl rfl)) inferInstance
      · skip
        refine XT.alloc rfl rfl (fun b5 => ⟨inferInstance, ?_⟩) XT.stop
        refine XT.call rfl rfl Try.call59 rfl rfl rfl (cloneT vt ht t.tiers (by omega)) (fun v31 s31 R31 => ?_) XT.stop
        obtain ⟨k31, rfl, O31⟩ := R31
        dsimp only [List.cons_append, List.nil_append]
        refine ⟨inferInstance, ?_⟩
        refine XT.q rfl rfl (Q.build [_, _, _, _] (.c 0 1 rfl rfl rfl (.c 1 1 rfl rfl rfl (.c 2 1 rfl rfl rfl (.c 3 1 rfl rfl rfl (.n _)))))) ?_
        refine XT.st rfl rfl rfl rfl rfl ⟨inferInstance, ?_⟩ XT.stop
        refine XT.done ?_
        exact mtr1 ((b5, v26, v31, k26, k31)) _ _ ⟨O26, O31⟩ (.c rfl (.base 12 rfl rfl)) inferInstance
    · skip
      refine XT.alloc rfl rfl (fun b5 => ⟨inferInstance, ?_⟩) XT.stop
      refine XT.call rfl rfl Try.call20 rfl rfl rfl (cloneI vp hp t.price (by omega)) (fun v26 s26 R26 => ?_) XT.stop
      obtain ⟨k26, rfl, O26⟩ := R26
      dsimp only [List.cons_append, List.nil_append]
      refine ⟨inferInstance, ?_⟩
      refine XT.call rfl rfl Try.call59 rfl rfl rfl (cloneT vt ht t.tiers (by omega)) (fun v31 s31 R31 => ?_) XT.stop
      obtain ⟨k31, rfl, O31⟩ := R31
      dsimp only [List.cons_append, List.nil_append]
      refine ⟨inferInstance, ?_⟩
      refine XT.q rfl rfl (Q.build [_, _, _, _] (.c 0 1 rfl rfl rfl (.c 1 1 rfl rfl rfl (.c 2 1 rfl rfl rfl (.c 3 1 rfl rfl rfl (.n _)))))) ?_
      refine XT.st rfl rfl rfl rfl rfl ⟨inferInstance, ?_⟩ XT.stop
      refine XT.done ?_
      exact mtr1 ((b5, v26, v31, k26, k31)) _ _ ⟨O26, O31⟩ (.c rfl (.base 12 rfl rfl)) inferInstance
end Go.X

set_option linter.unusedSimpArgs false
set_option linter.unusedVariables false
set_option maxRecDepth 20000
namespace Go.X
open Go.Proofs
theorem chk_false {key : Int} {ls : List MLink} {i : Nat} : chkF key ls false i = errAt (rdsL ls) i := by
  unfold chkF
  split
  · rfl
  · rename_i h
    rw [if_neg (fun h2 => by cases h2.1)]
    exact (Decidable.of_not_not h).symm
theorem sumM_succ (rs : List MRd) (m : Int) (n : Nat) : sumM rs m (n + 1) = sumM rs m n + meterV rs m n := rfl
theorem sumM_in {rs : List MRd} {m : Int} {n : Nat} (h : (rs.getD n default).meter = m) : sumM rs m n + (rs.getD n default).value = sumM rs m (n + 1) := by rw [sumM_succ, meterV, if_pos h]
theorem sumM_out {rs : List MRd} {m : Int} {n : Nat} (h : ¬ (rs.getD n default).meter = m) : sumM rs m n = sumM rs m (n + 1) := by rw [sumM_succ, meterV, if_neg h, Int.add_zero]
theorem hasM_in {rs : List MRd} {m : Int} {n : Nat} (hn : n < rs.length) (h : (rs.getD n default).meter = m) : hasM (rs.take (n + 1)) m = true := by rw [take_snocR hn, hasM_snoc, decide_eq_true h, Bool.or_true]
theorem hasM_out {rs : List MRd} {m : Int} {n : Nat} (hn : n < rs.length) (h : ¬ (rs.getD n default).meter = m) : hasM (rs.take n) m = hasM (rs.take (n + 1)) m := by rw [take_snocR hn, hasM_snoc, decide_eq_false h, Bool.or_false]
set_option maxHeartbeats 1000000 in
theorem RTable_spec (ls : List MLink) (vl : Value) (hl : PHeap) [jl : Arr vl encLink 4 hl ls] : Spec Try.prog 73 #[vl] [] [hl] (fun v hs => ∃ v1 k1, v = .tuple #[v1, .int .i64 (tableG ls).2] ∧ hs = [k1] ∧ OArr v1 encP 2 161 k1 (tableG ls).1) := by
  have ll := jl.le
  have rl := rds_len ls
  have nP : OArr (.slice none 0 0) encP 2 161 emp ([] : List (Int × Int)) := OArr.nil (fun _ => rfl)
  refine Spec.intro (fn := Try.f73) (N := 61) Try.func73 rfl Try.ntmps73 rfl fun B => ?_
  refine XK.seq ?_
  refine XK.region rfl ?_
  refine XO.q (Q.assign rfl) ?_
  refine XO.q (Q.assign rfl) ?_
  refine XO.done ?_
  refine XK.seq ?_
  refine XK.seq ?_
  refine XK.region rfl ?_
  refine XO.q (Q.move rfl) ?_
  refine XO.len rfl fun l13 => ?_
  refine XO.q (Q.gtr rfl rfl) ?_
  refine XO.done ?_
  refine XK.if rfl (fun c0 => ?_) (fun c0 => ?_)
  · have _t0 := True.intro
    refine XK.seq ?_
    refine XK.region rfl ?_
    refine XO.q (Q.assign rfl) ?_
    refine XO.q (Q.assign rfl) ?_
    refine XO.done ?_
    refine XK.rt [emp] Try.func73 Try.results73 (.t rfl (.t rfl .n)) ?_
    have e0 : checkG 0 ls false = (0, 2) := by rw [checkG, if_pos (by omega)]
    have e : tableG ls = ([], 2) := by rw [tableG, e0, if_pos (by decide)]
    rw [e]
    exact ⟨.slice none 0 0, emp, rfl, rfl, nP⟩
  · have _t0 := True.intro
    refine XK.skip ?_
    refine XK.seq ?_
    refine XK.region rfl ?_
    refine XO.q (Q.move rfl) ?_
    refine XO.call Try.call97 rfl rfl rfl (readings11 ls vl hl (by omega)) fun v16 s16 R16 => ?_
    obtain ⟨kr, rfl, OR⟩ := R16
    dsimp only [List.cons_append, List.nil_append]
    refine XO.q (Q.assign rfl) ?_
    refine XO.done ?_
    refine XK.seq ?_
    refine XK.seq ?_
    refine XK.region rfl ?_
    refine XO.q (Q.assign rfl) ?_
    refine XO.done ?_
    refine XK.block ?_
    refine XK.while (X := Nat) [2, 3, 5, 6, 17, 18, 19, 20, 21, 22, 23, 24, 25, 26, 27, 28] (fun i => [(5, some (.int .i64 (i : Nat)))]) (fun i => []) (fun i => i ≤ ls.length ∧ ∀ j, j < i → errAt (rdsL ls) j = 0) (fun i => ls.length - i) (0) [] rfl ⟨by omega, fun j hj => by omega⟩ (.c rfl (.base 0 rfl rfl)) ?_
    rintro i ⟨hi, he⟩ ih0
    dsimp only [List.cons_append, List.nil_append] at ih0 ⊢
    refine XK.seq ?_
    refine XK.seq ?_
    refine XK.region rfl ?_
    refine XO.q (Q.move rfl) ?_
    refine XO.q (Q.move rfl) ?_
    refine XO.len rfl fun l19 => ?_
    refine XO.q (Q.lss rfl rfl) ?_
    refine XO.done ?_
    refine XK.if rfl (fun c1 => ?_) (fun c1 => ?_)
    · have _t1 := True.intro
      refine XK.skip ?_
      refine XK.seq ?_
      refine XK.block ?_
      refine XK.seq ?_
      refine XK.region rfl ?_
      refine XO.q (Q.move rfl) ?_
      refine XO.q (Q.move rfl) ?_
      refine XO.call Try.call70 rfl rfl rfl (wrong11 (rdsL ls) v16 kr i (by omega)) fun v25 s25 R25 => ?_
      obtain ⟨rfl, rfl⟩ := R25
      dsimp only [List.cons_append, List.nil_append]
      refine XO.q (Q.assign rfl) ?_
      refine XO.done ?_
      refine XK.seq ?_
      refine XK.region rfl ?_
      refine XO.q (Q.move rfl) ?_
      refine XO.q (Q.neq rfl rfl) ?_
      refine XO.done ?_
      refine XK.if rfl (fun c2 => ?_) (fun c2 => ?_)
      · have _t2 := True.intro
        refine XK.seq ?_
        refine XK.region rfl ?_
        refine XO.q (Q.move rfl) ?_
        refine XO.q (Q.assign rfl) ?_
        refine XO.q (Q.assign rfl) ?_
        refine XO.done ?_
        refine XK.rt [emp] Try.func73 Try.results73 (.t rfl (.t rfl .n)) ?_
        have e0 : checkG 0 ls false = ((i : Int), errAt (rdsL ls) i) := by rw [checkG, if_neg (by omega), scan_here (i := i) (fun j hj => by rw [chk_false]; exact he j hj) (by rw [chk_false]; exact c2) (by omega)]; dsimp only; rw [chk_false]
        have e : tableG ls = ([], errAt (rdsL ls) i) := by rw [tableG, e0, if_pos c2]
        rw [e]
        exact ⟨.slice none 0 0, emp, rfl, rfl, nP⟩
      · have _t2 := True.intro
        refine XK.skip ?_
        refine XK.inBlock ?_
        refine XK.region rfl ?_
        refine XO.q (Q.move rfl) ?_
        refine XO.q (Q.add rfl rfl ⟨by omega, by omega⟩) ?_
        refine XO.q (Q.assign rfl) ?_
        refine XO.done ?_
        exact ih0 (i + 1) _ _ ⟨by omega, fun j hj => (by rcases Nat.lt_or_ge j i with h3 | h3; exact he j h3; obtain rfl : j = i := (by omega); exact Decidable.of_not_not c2)⟩ (by first | omega | (dsimp only; omega)) (.c rfl (.base 30 rfl rfl)) inferInstance
    · have _t1 := True.intro
      have hin : i = ls.length := by omega
      subst hin
      have vr : ∀ j, j < ls.length → 0 ≤ ((rdsL ls).getD j default).value ∧ ((rdsL ls).getD j default).value ≤ 1000000000 := fun j hj => errAt_rng (he j hj)
      clear ih0
      refine XK.exit rfl ?_
      refine XK.seq ?_
      refine XK.region rfl ?_
      refine XO.q (Q.assign rfl) ?_
      refine XO.done ?_
      refine XK.seq ?_
      refine XK.seq ?_
      refine XK.region rfl ?_
      refine XO.q (Q.assign rfl) ?_
      refine XO.done ?_
      refine XK.block ?_
      refine XK.while (X := Nat × Value × PHeap) [7, 8, 9, 10, 11, 29, 30, 31, 32, 33, 34, 35, 36, 37, 38, 39, 40, 41, 42, 43, 44, 45, 46, 47, 48, 49, 50, 51, 52, 53, 54, 55, 56, 57, 58, 59] (fun ⟨m, vo, ko⟩ => [(7, some (vo)), (8, some (.int .i64 (m : Nat)))]) (fun ⟨m, vo, ko⟩ => [ko]) (fun ⟨m, vo, ko⟩ => m ≤ 64 ∧ OArr vo encP 2 161 ko (tabTo (rdsL ls) m)) (fun ⟨m, vo, ko⟩ => 64 - m) (0, .slice none 0 0, emp) [emp] rfl ⟨by omega, nP⟩ (.c rfl (.c rfl (.base 0 rfl rfl))) ?_
      rintro ⟨m, vo, ko⟩ ⟨hm, OO⟩ ih1
      dsimp only [List.cons_append, List.nil_append] at ih1 ⊢
      refine XK.seq ?_
      refine XK.seq ?_
      refine XK.region rfl ?_
      refine XO.q (Q.move rfl) ?_
      refine XO.q (Q.lss rfl rfl) ?_
      refine XO.done ?_
      refine XK.if rfl (fun c3 => ?_) (fun c3 => ?_)
      · have _t3 := True.intro
        have tl := tab_len (rdsL ls) m
        refine XK.skip ?_
        refine XK.seq ?_
        refine XK.block ?_
        refine XK.seq ?_
        refine XK.region rfl ?_
        refine XO.q (Q.assign rfl) ?_
        refine XO.q (Q.assign rfl) ?_
        refine XO.done ?_
        refine XK.seq ?_
        refine XK.seq ?_
        refine XK.region rfl ?_
        refine XO.q (Q.assign rfl) ?_
        refine XO.done ?_
        refine XK.block ?_
        refine XK.while (X := Nat × Bool) [9, 10, 11, 33, 34, 35, 36, 37, 38, 39, 40, 41, 42, 43, 44, 45, 46, 47, 48, 49, 50, 51, 52] (fun ⟨i, q⟩ => [(9, some (.int .i64 (sumM (rdsL ls) m i))), (10, some (.bool q)), (11, some (.int .i64 (i : Nat)))]) (fun ⟨i, q⟩ => []) (fun ⟨i, q⟩ => i ≤ (rdsL ls).length ∧ q = hasM ((rdsL ls).take i) m) (fun ⟨i, q⟩ => (rdsL ls).length - i) (0, false) [] rfl ⟨by omega, rfl⟩ (.c rfl (.c rfl (.c rfl (.base 0 rfl rfl)))) ?_
        rintro ⟨i, q⟩ ⟨hi, hq⟩ ih2
        dsimp only [List.cons_append, List.nil_append] at ih2 ⊢
        refine XK.seq ?_
        refine XK.seq ?_
        refine XK.region rfl ?_
        refine XO.q (Q.move rfl) ?_
        refine XO.q (Q.move rfl) ?_
        refine XO.len rfl fun l35 => ?_
        refine XO.q (Q.lss rfl rfl) ?_
        refine XO.done ?_
        refine XK.if rfl (fun c4 => ?_) (fun c4 => ?_)
        · have _t4 := True.intro
          have sr := sumM_rng (rs := (rdsL ls)) (m := m) (n := i) (fun j hj => vr j (by omega))
          have vi := vr i (by omega)
          refine XK.skip ?_
          refine XK.seq ?_
          refine XK.block ?_
          refine XK.seq ?_
          refine XK.region rfl ?_
          refine XO.q (Q.move rfl) ?_
          refine XO.q (Q.move rfl) ?_
          refine XO.ix rfl rfl (by omega) (by omega) fun i41 => ?_
          refine XO.q (Q.fieldQ rfl (by first | assumption | omega)) ?_
          refine XO.q (Q.ldE rfl (by first | assumption | omega) rfl) ?_
          refine XO.q (Q.move rfl) ?_
          refine XO.q (Q.eql rfl rfl) ?_
          refine XO.done ?_
          refine XK.if rfl (fun c5 => ?_) (fun c5 => ?_)
          · have _t5 := True.intro
            refine XK.seq ?_
            refine XK.region rfl ?_
            refine XO.q (Q.move rfl) ?_
            refine XO.q (Q.move rfl) ?_
            refine XO.q (Q.move rfl) ?_
            refine XO.ix rfl rfl (by omega) (by omega) fun i49 => ?_
            refine XO.q (Q.fieldQ rfl (by first | assumption | omega)) ?_
            refine XO.q (Q.ldE rfl (by first | assumption | omega) rfl) ?_
            refine XO.q (Q.add rfl rfl ⟨by omega, by omega⟩) ?_
            refine XO.q (Q.assign rfl) ?_
            refine XO.done ?_
            refine XK.region rfl ?_
            refine XO.q (Q.assign rfl) ?_
            refine XO.done ?_
            refine XK.inBlock ?_
            refine XK.region rfl ?_
            refine XO.q (Q.move rfl) ?_
            refine XO.q (Q.add rfl rfl ⟨by omega, by omega⟩) ?_
            refine XO.q (Q.assign rfl) ?_
            refine XO.done ?_
            rw [sumM_in c5]
            exact ih2 (i + 1, true) _ _ ⟨by dsimp only; omega, by dsimp only; rw [hasM_in (by omega) c5]⟩ (by first | omega | (dsimp only; omega)) (.c rfl (.c rfl (.c rfl (.base 49 rfl rfl)))) inferInstance
          · have _t5 := True.intro
            refine XK.skip ?_
            refine XK.inBlock ?_
            refine XK.region rfl ?_
            refine XO.q (Q.move rfl) ?_
            refine XO.q (Q.add rfl rfl ⟨by omega, by omega⟩) ?_
            refine XO.q (Q.assign rfl) ?_
            refine XO.done ?_
            rw [sumM_out c5]
            exact ih2 (i + 1, q) _ _ ⟨by dsimp only; omega, by dsimp only; rw [hq, hasM_out (by omega) c5]⟩ (by first | omega | (dsimp only; omega)) (.c rfl (.c rfl (.c rfl (.base 40 rfl rfl)))) inferInstance
        · have _t4 := True.intro
          have hil : i = (rdsL ls).length := by omega
          subst hil
          rw [List.take_length] at hq
          subst hq
          refine XK.exit rfl ?_
          refine XK.seq ?_
          refine XK.region rfl ?_
          refine XO.q (Q.move rfl) ?_
          refine XO.done ?_
          refine XK.if rfl (fun c6 => ?_) (fun c6 => ?_)
          · have _t6 := True.intro
            refine XK.region rfl ?_
            refine XO.q (Q.move rfl) ?_
            refine XO.q (Q.move rfl) ?_
            refine XO.q (Q.move rfl) ?_
            refine XO.q (Q.build [_, _] (.c 0 1 rfl rfl rfl (.c 1 1 rfl rfl rfl (.n _)))) ?_
            refine XO.lit [_, _] [_, _] [(((m : Nat) : Int), sumM (rdsL ls) m (rdsL ls).length)] encP (by rfl) (by rfl) rfl (by rfl) (by exact .c 0 2 rfl rfl rfl (.n _)) (fun _ => rfl) (by rfl) rfl (by infer_instance) rfl fun v58 h58 O58 => ?_
            refine XO.append rfl rfl rfl rfl (by first | omega | (simp; omega)) fun v59 h59 O59 => ?_
            refine XO.q (Q.assign rfl) ?_
            refine XO.done ?_
            refine XK.inBlock ?_
            refine XK.region rfl ?_
            refine XO.q (Q.move rfl) ?_
            refine XO.q (Q.add rfl rfl ⟨by omega, by omega⟩) ?_
            refine XO.q (Q.assign rfl) ?_
            refine XO.done ?_
            exact ih1 (m + 1, v59, h59) _ _ ⟨by dsimp only; omega, by dsimp only; rw [tabTo, if_pos c6]; exact O59⟩ (by first | omega | (dsimp only; omega)) (.c rfl (.c rfl (.base 84 rfl rfl))) inferInstance
          · have _t6 := True.intro
            refine XK.skip ?_
            refine XK.inBlock ?_
            refine XK.region rfl ?_
            refine XO.q (Q.move rfl) ?_
            refine XO.q (Q.add rfl rfl ⟨by omega, by omega⟩) ?_
            refine XO.q (Q.assign rfl) ?_
            refine XO.done ?_
            exact ih1 (m + 1, vo, ko) _ _ ⟨by dsimp only; omega, by dsimp only; rw [tabTo, if_neg c6]; exact OO⟩ (by first | omega | (dsimp only; omega)) (.c rfl (.c rfl (.base 77 rfl rfl))) inferInstance
      · have _t3 := True.intro
        have hm64 : m = 64 := by omega
        subst hm64
        refine XK.exit rfl ?_
        refine XK.seq ?_
        refine XK.region rfl ?_
        refine XO.q (Q.move rfl) ?_
        refine XO.q (Q.assign rfl) ?_
        refine XO.q (Q.assign rfl) ?_
        refine XO.done ?_
        refine XK.rt [ko] Try.func73 Try.results73 (.t rfl (.t rfl .n)) ?_
        have e0 : checkG 0 ls false = ((ls.length : Int), 0) := by rw [checkG, if_neg (by omega), scan_all (fun j hj => by rw [chk_false]; exact he j hj)]
        have e : tableG ls = (tabTo (rdsL ls) 64, 0) := by rw [tableG, e0, if_neg (fun h => h rfl)]
        rw [e]
        exact ⟨vo, ko, rfl, rfl, OO⟩
end Go.X
