/- A part of the proof: a small program logic, plain laws and contracts of functions, each proved by a walk through its operations. No condition but those that stand in each theorem. -/
import Derived.Test.YtohdobhnbhcjhaaA3
set_option linter.unusedSimpArgs false
set_option linter.unusedVariables false
set_option maxRecDepth 20000
namespace Go.X
open Go.Proofs
theorem listed_spec (c : MCase) (vn vv : Value) (hn hv : PHeap) [jn : Arr vn encNode 3 hn c.nodes] [jv : Arr vv encI 1 hv c.vals] (set : List Int) (vs : Value) (hs_ : PHeap) [js : Arr vs encI 1 hs_ set] : Spec Try.prog 52 #[.agg #[vn, vv], vs] [] [hn, hv, hs_] (fun v hs => v = .int .i64 (listedG c set) ∧ hs = []) := by
  have ln := jn.le
  refine Spec.intro (fn := Try.f52) (N := 42) Try.func52 rfl Try.ntmps52 rfl fun B => ?_
  refine XK.seq ?_
  refine XK.region rfl ?_
  refine XO.box rfl fun b2 => ?_
  refine XO.q (Q.assign rfl) ?_
  refine XO.done ?_
  refine XK.seq ?_
  refine XK.seq ?_
  refine XK.region rfl ?_
  refine XO.q (Q.ldA [_, _] rfl rfl rfl) ?_
  refine XO.call Try.call54 rfl rfl rfl (Check_spec11 c vn vv hn hv) fun v9 s9 R9 => ?_
  obtain ⟨rfl, rfl⟩ := R9
  dsimp only [List.cons_append, List.nil_append]
  refine XO.q (Q.assign rfl) ?_
  refine XO.done ?_
  refine XK.seq ?_
  refine XK.region rfl ?_
  refine XO.q (Q.move rfl) ?_
  refine XO.q (Q.neq rfl rfl) ?_
  refine XO.done ?_
  refine XK.if rfl (fun c0 => ?_) (fun c0 => ?_)
  · have _t0 := True.intro
    refine XK.seq ?_
    refine XK.region rfl ?_
    refine XO.q (Q.move rfl) ?_
    refine XO.q (Q.assign rfl) ?_
    refine XO.done ?_
    refine XK.rt [] Try.func52 Try.results52 (.t rfl .n) ?_
    exact ⟨by rw [listedG, if_pos c0], rfl⟩
  · have _t0 := True.intro
    refine XK.skip ?_
    refine XK.seq ?_
    refine XK.seq ?_
    refine XK.region rfl ?_
    refine XO.q (Q.move rfl) ?_
    refine XO.len rfl fun l14 => ?_
    refine XO.q (Q.move rfl) ?_
    refine XO.done ?_
    refine XK.block ?_
    refine XK.while (X := Nat) [4, 6, 7, 15, 16, 17, 18, 19, 20, 21, 22, 23, 24, 25, 26, 27, 28, 29, 30, 31, 32, 33, 34, 35, 36, 37, 38, 39, 40, 41] (fun i => [(15, some (.int .i64 (i : Nat)))]) (fun i => []) (fun i => i ≤ set.length ∧ listedP c set i = true) (fun i => set.length - i) (0) [] rfl ⟨by omega, rfl⟩ (.c rfl (.base 0 rfl rfl)) ?_
    rintro i ⟨hi, hall⟩ ih0
    dsimp only [List.cons_append, List.nil_append] at ih0 ⊢
    refine XK.seq ?_
    refine XK.region rfl ?_
    refine XO.q (Q.lss rfl rfl) ?_
    refine XO.done ?_
    refine XK.seq ?_
    refine XK.if rfl (fun c1 => ?_) (fun c1 => ?_)
    · have _t1 := True.intro
      refine XK.skip ?_
      refine XK.seq ?_
      refine XK.block ?_
      refine XK.seq ?_
      refine XK.region rfl ?_
      refine XO.q (Q.move rfl) ?_
      refine XO.ix rfl rfl (by omega) (by omega) fun i18 => ?_
      refine XO.q (Q.ldE rfl (by first | assumption | omega) rfl) ?_
      refine XO.q (Q.assign rfl) ?_
      refine XO.q (Q.assign rfl) ?_
      refine XO.done ?_
      refine XK.seq ?_
      refine XK.region rfl ?_
      refine XO.q (Q.fieldAddr rfl) ?_
      refine XO.q (Q.ld rfl rfl) ?_
      refine XO.len rfl fun l22 => ?_
      refine XO.q (Q.sub rfl rfl ⟨by omega, by omega⟩) ?_
      refine XO.q (Q.move rfl) ?_
      refine XO.lit [_] [_] [set.getD i default] encI (by rfl) (by rfl) rfl (by rfl) (by exact .c 0 1 rfl rfl rfl (.n _)) (fun _ => rfl) (by rfl) rfl (by infer_instance) rfl fun v25 h25 O25 => ?_
      refine XO.call Try.call47 rfl rfl rfl (in_spec11 ((c.nodes.length : Nat) - 1 : Int) v25 h25 [set.getD i default]) fun v26 s26 R26 => ?_
      obtain ⟨rfl, rfl⟩ := R26
      dsimp only [List.cons_append, List.nil_append]
      refine XO.q (Q.not rfl) ?_
      refine XO.q (Q.move rfl) ?_
      refine XO.q (Quiet.guardF rfl rfl fun g29 p29 => Q.move rfl) ?_
      refine XO.q (Quiet.guardF rfl rfl fun g30 p30 => Q.gtr (lzv g30 rfl) rfl) ?_
      refine XO.q (Quiet.guardF rfl rfl fun g31 p31 => Q.move (lzv g31 rfl)) ?_
      refine XO.q (Quiet.guard2 rfl rfl fun g32a g32b => have p32a := bpF g32a; have p32b := bpT g32b; Q.move rfl) ?_
      refine XO.q (Quiet.guard2 rfl rfl fun g33a g33b => have p33a := bpF g33a; have p33b := bpT g33b; Q.move rfl) ?_
      refine XO.q (Quiet.guard2 rfl rfl fun g34a g34b => have p34a := bpF g34a; have p34b := bpT g34b; Q.move rfl) ?_
      refine XO.q (Quiet.guard2 rfl rfl fun g35a g35b => have p35a := bpF g35a; have p35b := bpT g35b; Q.sub (lzv g35b (lzv g35a rfl)) rfl ⟨by omega, by omega⟩) ?_
      refine XO.q (Quiet.guard2 rfl rfl fun g36a g36b => have p36a := bpF g36a; have p36b := bpT g36b; Q.ix (lzv g36b (lzv g36a rfl)) (lzv g36b (lzv g36a rfl)) (by omega) (by omega)) ?_
      refine XO.q (Quiet.guard2 rfl rfl fun g37a g37b => have p37a := bpF g37a; have p37b := bpT g37b; Q.ldE (lzv g37b (lzv g37a rfl)) (by first | assumption | omega) rfl) ?_
      refine XO.q (Quiet.guard2 rfl rfl fun g38a g38b => have p38a := bpF g38a; have p38b := bpT g38b; Q.leq (lzv g38b (lzv g38a rfl)) (lzv g38b (lzv g38a rfl))) ?_
      refine XO.q (Quiet.guardF rfl rfl fun g39 p39 => Q.and (lzv g39 rfl) (fun hp => (lzv hp (lzv g39 rfl)))) ?_
      refine XO.q (Q.or rfl (fun hp => lzv hp rfl)) ?_
      refine XO.done ?_
      refine XK.if rfl (fun c2 => ?_) (fun c2 => ?_)
      · have _t2 := True.intro
        refine XK.seq ?_
        refine XK.region rfl ?_
        refine XO.q (Q.assign rfl) ?_
        refine XO.done ?_
        refine XK.rt [] Try.func52 Try.results52 (.t rfl .n) ?_
        exact ⟨by rw [listedG, if_neg c0, if_neg (by rw [listedP, allTo_false (s := i) (by omega) (by rw [Bool.not_eq_false', decide_eq_true_eq]; exact c2)]; decide)], rfl⟩
      · have _t2 := True.intro
        refine XK.skip ?_
        refine XK.inBlock ?_
        refine XK.region rfl ?_
        refine XO.q (Q.add rfl rfl ⟨by omega, by omega⟩) ?_
        refine XO.q (Q.move rfl) ?_
        refine XO.done ?_
        exact ih0 (i + 1) _ _ ⟨by omega, by rw [listedP, allTo_succ]; rw [listedP] at hall; rw [hall, Bool.true_and, Bool.not_eq_true', decide_eq_false_iff_not]; exact c2⟩ (by first | omega | (dsimp only; omega)) (.c rfl (.base 60 rfl rfl)) inferInstance
    · have _t1 := True.intro
      refine XK.exit rfl ?_
      refine XK.seq ?_
      refine XK.region rfl ?_
      refine XO.q (Q.assign rfl) ?_
      refine XO.done ?_
      refine XK.rt [] Try.func52 Try.results52 (.t rfl .n) ?_
      have hin : i = set.length := by omega
      rw [hin] at hall
      exact ⟨by rw [listedG, if_neg c0, if_pos hall], rfl⟩
theorem Explains_spec (c : MCase) (vn vv : Value) (hn hv : PHeap) [jn : Arr vn encNode 3 hn c.nodes] [jv : Arr vv encI 1 hv c.vals] (set : List Int) (vs : Value) (hs_ : PHeap) [js : Arr vs encI 1 hs_ set] : Spec Try.prog 15 #[.agg #[vn, vv], vs] [] [hn, hv, hs_] (fun v hs => v = .tuple #[.bool (explainsG c set).1, .int .i64 (explainsG c set).2] ∧ hs = []) := by
  refine Spec.intro (fn := Try.f15) (N := 22) Try.func15 rfl Try.ntmps15 rfl fun B => ?_
  refine XK.seq ?_
  refine XK.region rfl ?_
  refine XO.box rfl fun b2 => ?_
  refine XO.q (Q.assign rfl) ?_
  refine XO.q (Q.assign rfl) ?_
  refine XO.done ?_
  refine XK.seq ?_
  refine XK.seq ?_
  refine XK.region rfl ?_
  refine XO.q (Q.ldA [_, _] rfl rfl rfl) ?_
  refine XO.q (Q.move rfl) ?_
  refine XO.call Try.call52 rfl rfl rfl (listed_spec c vn vv hn hv set vs hs_) fun v11 s11 R11 => ?_
  obtain ⟨rfl, rfl⟩ := R11
  dsimp only [List.cons_append, List.nil_append]
  refine XO.q (Q.assign rfl) ?_
  refine XO.done ?_
  refine XK.seq ?_
  refine XK.region rfl ?_
  refine XO.q (Q.move rfl) ?_
  refine XO.q (Q.neq rfl rfl) ?_
  refine XO.done ?_
  refine XK.if rfl (fun c0 => ?_) (fun c0 => ?_)
  · have _t0 := True.intro
    refine XK.seq ?_
    refine XK.region rfl ?_
    refine XO.q (Q.move rfl) ?_
    refine XO.q (Q.assign rfl) ?_
    refine XO.q (Q.assign rfl) ?_
    refine XO.done ?_
    refine XK.rt [] Try.func15 Try.results15 (.t rfl (.t rfl .n)) ?_
    exact ⟨by rw [explainsG, if_pos c0], rfl⟩
  · have _t0 := True.intro
    have ok := mcheck_ok (listed_check (Decidable.of_not_not c0))
    refine XK.skip ?_
    refine XK.seq ?_
    refine XK.region rfl ?_
    refine XO.q (Q.ldA [_, _] rfl rfl rfl) ?_
    refine XO.q (Q.move rfl) ?_
    refine XO.call Try.call53 rfl rfl rfl (look_spec c vn vv hn hv ok set vs hs_) fun v18 s18 R18 => ?_
    obtain ⟨bt, vm, km, ms, rfl, rfl, OM, hml, hmv⟩ := R18
    dsimp only [List.cons_append, List.nil_append]
    refine XO.q (Q.move rfl) ?_
    refine XO.q (Q.extract rfl rfl) ?_
    refine XO.q (Q.extract rfl rfl) ?_
    refine XO.q (Q.assign rfl) ?_
    refine XO.q (Q.assign rfl) ?_
    refine XO.done ?_
    refine XK.seq ?_
    refine XK.region rfl ?_
    refine XO.q (Q.move rfl) ?_
    refine XO.q (Q.assign rfl) ?_
    refine XO.q (Q.assign rfl) ?_
    refine XO.done ?_
    refine XK.rt [] Try.func15 Try.results15 (.t rfl (.t rfl .n)) ?_
    exact ⟨by rw [explainsG, if_neg c0], rfl⟩
theorem Repair_spec (c : MCase) (vn vv : Value) (hn hv : PHeap) [jn : Arr vn encNode 3 hn c.nodes] [jv : Arr vv encI 1 hv c.vals] (set : List Int) (vs : Value) (hs_ : PHeap) [js : Arr vs encI 1 hs_ set] : Spec Try.prog 17 #[.agg #[vn, vv], vs] [] [hn, hv, hs_] (fun v hs => ∃ v1 k1, v = .tuple #[v1, .int .i64 (repairG c set).2] ∧ hs = [k1] ∧ OArr v1 encI 1 3 k1 (repairG c set).1) := by
  refine Spec.intro (fn := Try.f17) (N := 25) Try.func17 rfl Try.ntmps17 rfl fun B => ?_
  refine XK.seq ?_
  refine XK.region rfl ?_
  refine XO.box rfl fun b2 => ?_
  refine XO.q (Q.assign rfl) ?_
  refine XO.q (Q.assign rfl) ?_
  refine XO.done ?_
  refine XK.seq ?_
  refine XK.seq ?_
  refine XK.region rfl ?_
  refine XO.q (Q.ldA [_, _] rfl rfl rfl) ?_
  refine XO.q (Q.move rfl) ?_
  refine XO.call Try.call52 rfl rfl rfl (listed_spec c vn vv hn hv set vs hs_) fun v11 s11 R11 => ?_
  obtain ⟨rfl, rfl⟩ := R11
  dsimp only [List.cons_append, List.nil_append]
  refine XO.q (Q.assign rfl) ?_
  refine XO.done ?_
  refine XK.seq ?_
  refine XK.region rfl ?_
  refine XO.q (Q.move rfl) ?_
  refine XO.q (Q.neq rfl rfl) ?_
  refine XO.done ?_
  refine XK.if rfl (fun c0 => ?_) (fun c0 => ?_)
  · have _t0 := True.intro
    refine XK.seq ?_
    refine XK.region rfl ?_
    refine XO.q (Q.move rfl) ?_
    refine XO.q (Q.assign rfl) ?_
    refine XO.q (Q.assign rfl) ?_
    refine XO.done ?_
    refine XK.rt [emp] Try.func17 Try.results17 (.t rfl (.t rfl .n)) ?_
    have hw0 : repairG c set = ([], listedG c set) := by rw [repairG, if_pos c0]
    rw [hw0]
    exact ⟨.slice none 0 0, emp, rfl, rfl, OArr.nil (fun _ => rfl)⟩
  · have _t0 := True.intro
    have ok := mcheck_ok (listed_check (Decidable.of_not_not c0))
    refine XK.skip ?_
    refine XK.seq ?_
    refine XK.region rfl ?_
    refine XO.q (Q.ldA [_, _] rfl rfl rfl) ?_
    refine XO.q (Q.move rfl) ?_
    refine XO.call Try.call53 rfl rfl rfl (look_spec c vn vv hn hv ok set vs hs_) fun v18 s18 R18 => ?_
    obtain ⟨bt, vm, km, ms, rfl, rfl, OM, hml, hmv⟩ := R18
    dsimp only [List.cons_append, List.nil_append]
    refine XO.q (Q.move rfl) ?_
    refine XO.q (Q.extract rfl rfl) ?_
    refine XO.q (Q.extract rfl rfl) ?_
    refine XO.q (Q.assign rfl) ?_
    refine XO.q (Q.assign rfl) ?_
    refine XO.done ?_
    refine XK.seq ?_
    refine XK.seq ?_
    refine XK.region rfl ?_
    refine XO.q (Q.move rfl) ?_
    refine XO.q (Q.not rfl) ?_
    refine XO.done ?_
    refine XK.if rfl (fun c1 => ?_) (fun c1 => ?_)
    · have _t1 := True.intro
      refine XK.seq ?_
      refine XK.region rfl ?_
      refine XO.q (Q.assign rfl) ?_
      refine XO.q (Q.assign rfl) ?_
      refine XO.done ?_
      refine XK.rt [emp] Try.func17 Try.results17 (.t rfl (.t rfl .n)) ?_
      have hw0 : repairG c set = ([], 4) := by rw [repairG, if_neg c0, if_pos c1]
      rw [hw0]
      exact ⟨.slice none 0 0, emp, rfl, rfl, OArr.nil (fun _ => rfl)⟩
    · have _t1 := True.intro
      refine XK.skip ?_
      refine XK.seq ?_
      refine XK.region rfl ?_
      refine XO.q (Q.move rfl) ?_
      refine XO.call Try.call56 rfl rfl rfl (repair_spec c vn vv hn hv ok set vs hs_ (Decidable.of_not_not c1) bt vm km ms hml (hmv (Decidable.of_not_not c1))) fun v24 s24 R24 => ?_
      obtain ⟨k24, rfl, O24⟩ := R24
      dsimp only [List.cons_append, List.nil_append]
      refine XO.q (Q.assign rfl) ?_
      refine XO.q (Q.assign rfl) ?_
      refine XO.done ?_
      refine XK.rt [k24] Try.func17 Try.results17 (.t rfl (.t rfl .n)) ?_
      have hw0 : repairG c set = (repairL c set, 0) := by rw [repairG, if_neg c0, if_neg c1]
      rw [hw0]
      exact ⟨_, k24, rfl, rfl, O24⟩
theorem keepTo_succ {p : List Nat → Bool} {items : List (List Nat)} {i : Nat} : keepTo p items (i + 1) = if p (items.getD i []) = true then keepTo p items i ++ [items.getD i []] else keepTo p items i := rfl
theorem Least_spec (c : MCase) (vn vv : Value) (hn hv : PHeap) [jn : Arr vn encNode 3 hn c.nodes] [jv : Arr vv encI 1 hv c.vals] (hst : mcheck c = 0 → ∀ s, s ≤ c.nodes.length → SetSteps c.nodes.length s (combos s c.nodes.length 0)) : Spec Try.prog 16 #[.agg #[vn, vv]] [] [hn, hv]
    (fun v hs => ∃ v1 k1 K us, v = .tuple #[v1, .int .i64 (leastG c).2] ∧ hs = [k1, K] ∧ OArr v1 encV 1 24 k1 us ∧ RowsK us K ((leastG c).1.map ints)) := by
  have hnil : OArr (.slice none 0 0) encV 1 24 emp ([] : List Value) := OArr.nil (fun _ => rfl)
  refine Spec.intro (fn := Try.f16) (N := 44) Try.func16 rfl Try.ntmps16 rfl fun B => ?_
  refine XK.seq ?_
  refine XK.region rfl ?_
  refine XO.box rfl fun b1 => ?_
  refine XO.q (Q.assign rfl) ?_
  refine XO.q (Q.assign rfl) ?_
  refine XO.done ?_
  refine XK.seq ?_
  refine XK.seq ?_
  refine XK.region rfl ?_
  refine XO.q (Q.ldA [_, _] rfl rfl rfl) ?_
  refine XO.call Try.call54 rfl rfl rfl (Check_spec11 c vn vv hn hv) fun v11 s11 R11 => ?_
  obtain ⟨rfl, rfl⟩ := R11
  dsimp only [List.cons_append, List.nil_append]
  refine XO.q (Q.assign rfl) ?_
  refine XO.done ?_
  refine XK.seq ?_
  refine XK.region rfl ?_
  refine XO.q (Q.move rfl) ?_
  refine XO.q (Q.neq rfl rfl) ?_
  refine XO.done ?_
  refine XK.if rfl (fun c0 => ?_) (fun c0 => ?_)
  · have _t0 := True.intro
    refine XK.seq ?_
    refine XK.region rfl ?_
    refine XO.q (Q.move rfl) ?_
    refine XO.q (Q.assign rfl) ?_
    refine XO.q (Q.assign rfl) ?_
    refine XO.done ?_
    refine XK.rt [emp, emp] Try.func16 Try.results16 (.t rfl (.t rfl .n)) ?_
    have hw0 : leastG c = ([], mcheck c) := by rw [leastG, if_pos c0]
    rw [hw0]
    exact ⟨.slice none 0 0, emp, emp, [], rfl, rfl, OArr.nil (fun _ => rfl), RowsK.nil⟩
  · have _t0 := True.intro
    have ok0 := Decidable.of_not_not c0
    have ok := mcheck_ok ok0
    refine XK.skip ?_
    refine XK.seq ?_
    refine XK.seq ?_
    refine XK.region rfl ?_
    refine XO.q (Q.fieldAddr rfl) ?_
    refine XO.q (Q.ld rfl rfl) ?_
    refine XO.len rfl fun l17 => ?_
    refine XO.q (Q.add rfl rfl ⟨by omega, by omega⟩) ?_
    rw [show ((c.nodes.length : Nat) : Int) + 1 = ((c.nodes.length + 1 : Nat) : Int) from rfl]
    refine XO.q (Q.move rfl) ?_
    refine XO.done ?_
    refine XK.block ?_
    refine XK.while (X := Nat) [2, 3, 5, 6, 7, 8, 9, 19, 20, 21, 22, 23, 24, 25, 26, 28, 29, 30, 31, 32, 33, 34, 35, 36, 37, 38, 39, 40, 41, 42, 43] (fun s => [(19, some (.int .i64 (s : Nat)))]) (fun s => []) (fun s => s ≤ c.nodes.length + 1 ∧ leastS c (c.nodes.length + 1) 0 = leastS c (c.nodes.length + 1 - s) s) (fun s => c.nodes.length + 1 - s) (0) [] rfl ⟨by omega, rfl⟩ (.c rfl (.base 0 rfl rfl)) ?_
    rintro s ⟨hs, hls⟩ ih0
    dsimp only [List.cons_append, List.nil_append] at ih0 ⊢
    refine XK.seq ?_
    refine XK.region rfl ?_
    refine XO.q (Q.lss rfl rfl) ?_
    refine XO.done ?_
    refine XK.seq ?_
    refine XK.if rfl (fun c1 => ?_) (fun c1 => ?_)
    · have _t1 := True.intro
      refine XK.skip ?_
      refine XK.seq ?_
      refine XK.block ?_
      refine XK.seq ?_
      refine XK.region rfl ?_
      refine XO.q (Q.move rfl) ?_
      refine XO.q (Q.assign rfl) ?_
      refine XO.done ?_
      refine XK.seq ?_
      refine XK.region rfl ?_
      refine XO.alloc fun b6 => ?_
      refine XO.done ?_
      refine XK.seq ?_
      refine XK.seq ?_
      refine XK.region rfl ?_
      refine XO.q (Q.fieldAddr rfl) ?_
      refine XO.q (Q.ld rfl rfl) ?_
      refine XO.len rfl fun l24 => ?_
      refine XO.q (Q.move rfl) ?_
      refine XO.call Try.call55 rfl rfl rfl (sets_spec c.nodes.length s (by have := ok.n2; omega) (by omega) (combos s c.nodes.length 0) (hst ok0 s (by omega))) fun v26 s26 R26 => ?_
      obtain ⟨k1, k2, rfl, hit⟩ := R26
      dsimp only [List.cons_append, List.nil_append]
      refine XO.done ?_
      refine XK.block ?_
      refine XK.rangeK (X := Value × PHeap × List Value) (ps := [27]) (fun ⟨vo, ko, us⟩ => [blk b6 [vo] 54, ko]) (fun i ⟨vo, ko, us⟩ K0 => OArr vo encV 1 24 ko us ∧ RowsK us K0 ((keepTo (expl c) (combos s c.nodes.length 0) i).map ints) ∧ us.length ≤ i) (fun j0 ⟨vo, ko, us⟩ K0 => False) (.slice none 0 0, emp, []) [blk b6 [.slice none 0 0] 54, emp] rfl (hit) rfl (fun i x K K' hle hI => ⟨hI.1, hI.2.1.mono hle, hI.2.2⟩) (⟨hnil, RowsK.nil, Nat.le_refl _⟩) rfl (fun i K vs hY => by obtain ⟨sl, rfl, _⟩ := hY; rfl) ?_ ?_ (fun _ _ _ hJ => hJ.elim)
      · rintro l rec B' i ⟨vo, ko, us⟩ K0 vs hi ⟨v27, rfl, a27⟩ ⟨OO, rK, hui⟩
        dsimp only [List.cons_append, List.nil_append]
        refine XK.region rfl ?_
        refine XO.q (Q.assign rfl) ?_
        refine XO.done ?_
        refine XK.beginRound ?_
        refine XK.block ?_
        refine XK.seq ?_
        refine XK.region rfl ?_
        refine XO.q (Q.ldA [_, _] rfl rfl rfl) ?_
        refine XO.q (Q.move rfl) ?_
        refine XO.call Try.call53 rfl rfl rfl (look_spec c vn vv hn hv ok (ints ((combos s c.nodes.length 0).getD i [])) v27 K0) fun v31 s31 R31 => ?_
        obtain ⟨bt, vm, km, ms, rfl, rfl, OM, hml, hmv⟩ := R31
        dsimp only [List.cons_append, List.nil_append]
        refine XO.q (Q.move rfl) ?_
        refine XO.q (Q.extract rfl rfl) ?_
        refine XO.q (Q.extract rfl rfl) ?_
        refine XO.q (Q.assign rfl) ?_
        refine XO.q (Q.assign rfl) ?_
        refine XO.done ?_
        refine XK.seq ?_
        refine XK.region rfl ?_
        refine XO.q (Q.move rfl) ?_
        refine XO.done ?_
        refine XK.if rfl (fun c2 => ?_) (fun c2 => ?_)
        · have _t2 := True.intro
          refine XK.region rfl ?_
          refine XO.q (Q.ld rfl rfl) ?_
          refine XO.q (Q.move rfl) ?_
          refine XO.lit [_] [_] [v27] encV (by rfl) (by rfl) rfl (by rfl) (by exact .c 0 1 rfl rfl rfl (.n _)) (fun _ => rfl) (by rfl) rfl (by infer_instance) rfl fun v37 h37 O37 => ?_
          refine XO.append rfl rfl rfl rfl (by have := combos_len c.nodes.length s ok.n2; simp only [List.length_cons, List.length_nil]; omega) fun v38 h38 O38 => ?_
          refine XO.st rfl rfl rfl ?_
          refine XO.done ?_
          refine XK.inBlock ?_
          exact XK.leave (j := none) [blk b6 [v38] 54, h38] trivial ⟨(v38, h38, us ++ [v27]), ⟨O38, by rw [keepTo_succ, if_pos (show expl c _ = true from c2), List.map_append]; exact rK.snoc a27, by dsimp only; rw [List.length_append]; simp; omega⟩, rfl⟩
        · have _t2 := True.intro
          refine XK.skip ?_
          refine XK.inBlock ?_
          exact XK.leave (j := none) [blk b6 [vo] 54, ko] trivial ⟨(vo, ko, us), ⟨OO, by rw [keepTo_succ, if_neg (show ¬ expl c _ = true from c2)]; exact rK, by dsimp only; omega⟩, rfl⟩
      · rintro ⟨vo, ko, us⟩ K0 ⟨OO, rK, hui⟩
        dsimp only [List.cons_append, List.nil_append]
        refine XK.inBlock ?_
        refine XK.seq ?_
        refine XK.region rfl ?_
        refine XO.q (Q.ld rfl rfl) ?_
        refine XO.len rfl fun l40 => ?_
        have hul := rK.1
        rw [List.length_map] at hul
        rw [hul]
        refine XO.q (Q.gtr rfl rfl) ?_
        refine XO.done ?_
        refine XK.if rfl (fun c3 => ?_) (fun c3 => ?_)
        · have _t3 := True.intro
          refine XK.seq ?_
          refine XK.region rfl ?_
          refine XO.q (Q.ld rfl rfl) ?_
          refine XO.q (Q.assign rfl) ?_
          refine XO.q (Q.assign rfl) ?_
          refine XO.done ?_
          refine XK.rt [ko, K0] Try.func16 Try.results16 (.t rfl (.t rfl .n)) ?_
          have e1 : leastS c (c.nodes.length + 1) 0 = leastAt c s := by rw [hls, show c.nodes.length + 1 - s = (c.nodes.length - s) + 1 by omega, leastS, if_pos (by rw [leastAt]; omega)]
          have hw0 : leastG c = (leastAt c s, 0) := by rw [leastG, if_neg c0, e1, if_pos (by rw [leastAt]; omega)]
          rw [hw0]
          exact ⟨_, ko, K0, us, rfl, rfl, OO, rK⟩
        · have _t3 := True.intro
          refine XK.skip ?_
          refine XK.inBlock ?_
          refine XK.region rfl ?_
          refine XO.q (Q.add rfl rfl ⟨by omega, by omega⟩) ?_
          refine XO.q (Q.move rfl) ?_
          refine XO.done ?_
          exact ih0 (s + 1) _ _ ⟨by omega, by rw [hls, show c.nodes.length + 1 - s = (c.nodes.length + 1 - (s + 1)) + 1 by omega, leastS, if_neg (by rw [leastAt]; omega)]⟩ (by first | omega | (dsimp only; omega)) (.c rfl (.base 46 rfl rfl)) inferInstance
    · have _t1 := True.intro
      have hsn : s = c.nodes.length + 1 := by omega
      subst hsn
      refine XK.exit rfl ?_
      refine XK.seq ?_
      refine XK.region rfl ?_
      refine XO.q (Q.assign rfl) ?_
      refine XO.q (Q.assign rfl) ?_
      refine XO.done ?_
      refine XK.rt [emp, emp] Try.func16 Try.results16 (.t rfl (.t rfl .n)) ?_
      have hw0 : leastG c = ([], 4) := by rw [leastG, if_neg c0, hls, Nat.sub_self, leastS, if_neg (by decide)]
      rw [hw0]
      exact ⟨.slice none 0 0, emp, emp, [], rfl, rfl, OArr.nil (fun _ => rfl), RowsK.nil⟩
end Go.X

set_option linter.unusedSimpArgs false
set_option linter.unusedVariables false
set_option maxRecDepth 20000
namespace Go.X
open Go.Proofs
def encTier (x : MTier) : List Value := [.int .i64 x.min, .int .i64 x.pct]
def encBill (x : MBill) : List Value := [.int .i64 x.energy, .int .i64 x.amount, .int .i64 x.credit, .int .i64 x.due]
def encUse (x : Value × MUse) : List Value := [x.1, .int .i64 x.2.out]
instance : Inhabited (Value × MUse) := ⟨(.slice none 0 0, default)⟩
theorem right_spec (t : MTariff) (vp vt : Value) (hp ht : PHeap) [jp : Arr vp encI 1 hp t.price] [jt : Arr vt encTier 2 ht t.tiers] : Spec Try.prog 46 #[.agg #[vp, .int .i64 t.base, vt, .int .i64 t.credit]] [] [hp, ht] (fun v hs => v = .int .i64 (rightG t) ∧ hs = []) := by
  have lp := jp.le
  have lt := jt.le
  refine Spec.intro (fn := Try.f46) (N := 91) Try.func46 rfl Try.ntmps46 rfl fun B => ?_
  refine XK.seq ?_
  refine XK.region rfl ?_
  refine XO.box rfl fun b1 => ?_
  refine XO.q (Q.assign rfl) ?_
  refine XO.done ?_
  refine XK.seq ?_
  refine XK.block ?_
  refine XK.seq ?_
  refine XK.region rfl ?_
  refine XO.q (Q.fieldAddr rfl) ?_
  refine XO.q (Q.fieldAddr rfl) ?_
  refine XO.q (Q.ld rfl rfl) ?_
  refine XO.len rfl fun l9 => ?_
  refine XO.q (Q.neq rfl rfl) ?_
  refine XO.q (Q.assign rfl) ?_
  refine XO.done ?_
  refine XK.if rfl (fun c0 => ?_) (fun c0 => ?_)
  · have _t0 := True.intro
    refine XK.seq ?_
    refine XK.region rfl ?_
    refine XO.q (Q.assign rfl) ?_
    refine XO.done ?_
    refine XK.rt [] Try.func46 Try.results46 (.t rfl .n) ?_
    exact ⟨by rw [rightG, if_pos c0], rfl⟩
  · have _t0 := True.intro
    refine XK.seq ?_
    refine XK.region rfl ?_
    refine XO.q (Q.fieldAddr rfl) ?_
    refine XO.q (Q.fieldAddr rfl) ?_
    refine XO.q (Q.ld rfl rfl) ?_
    refine XO.len rfl fun l15 => ?_
    refine XO.q (Q.gtr rfl rfl) ?_
    refine XO.q (Q.assign rfl) ?_
    refine XO.done ?_
    refine XK.if rfl (fun c1 => ?_) (fun c1 => ?_)
    · have _t1 := True.intro
      refine XK.seq ?_
      refine XK.region rfl ?_
      refine XO.q (Q.assign rfl) ?_
      refine XO.done ?_
      refine XK.rt [] Try.func46 Try.results46 (.t rfl .n) ?_
      exact ⟨by rw [rightG, if_neg c0, if_pos c1], rfl⟩
    · have _t1 := True.intro
      refine XK.seq ?_
      refine XK.region rfl ?_
      refine XO.q (Q.fieldAddr rfl) ?_
      refine XO.q (Q.fieldAddr rfl) ?_
      refine XO.q (Q.ld rfl rfl) ?_
      refine XO.call Try.call47 rfl rfl rfl (in_spec11 1000 vp hp t.price) fun v21 s21 R21 => ?_
      obtain ⟨rfl, rfl⟩ := R21
      dsimp only [List.cons_append, List.nil_append]
      refine XO.q (Q.not rfl) ?_
      refine XO.q (Q.move rfl) ?_
      refine XO.q (Quiet.guardF rfl rfl fun g24 p24 => Q.fieldAddr rfl) ?_
      refine XO.q (Quiet.guardF rfl rfl fun g25 p25 => Q.fieldAddr (lzv g25 rfl)) ?_
      refine XO.q (Quiet.guardF rfl rfl fun g26 p26 => Q.ld (lzv g26 rfl) rfl) ?_
      refine XO.lit1 [_] [_] [t.base] encI rfl rfl (by rfl) (by rfl) rfl (by rfl) (fun g27 => by exact .c 0 1 (lzv g27 rfl) rfl rfl (.n _)) (fun _ => rfl) (by rfl) rfl (fun _ => by infer_instance) rfl (fun v27 h27 O27 => ?_)
      refine XO.gcallF rfl rfl Try.call47 rfl (fun g28 => .c rfl (.c (lzv g28 rfl) .n)) rfl (fun g28 p28 => by haveI := O27 g28; exact in_spec11 1000000000 v27 h27 [t.base]) ?_
      refine XO.q (Quiet.guardF rfl rfl fun g29 p29 => Q.not (lzv g29 rfl)) ?_
      refine XO.q (Q.or rfl (fun hp => lzv hp rfl)) ?_
      refine XO.q (Q.move rfl) ?_
      refine XO.q (Quiet.guardF rfl rfl fun g32 p32 => Q.fieldAddr rfl) ?_
      refine XO.q (Quiet.guardF rfl rfl fun g33 p33 => Q.fieldAddr (lzv g33 rfl)) ?_
      refine XO.q (Quiet.guardF rfl rfl fun g34 p34 => Q.ld (lzv g34 rfl) rfl) ?_
      refine XO.lit1 [_] [_] [t.credit] encI rfl rfl (by rfl) (by rfl) rfl (by rfl) (fun g35 => by exact .c 0 1 (lzv g35 rfl) rfl rfl (.n _)) (fun _ => rfl) (by rfl) rfl (fun _ => by infer_instance) rfl (fun v35 h35 O35 => ?_)
      refine XO.gcallF rfl rfl Try.call47 rfl (fun g36 => .c rfl (.c (lzv g36 rfl) .n)) rfl (fun g36 p36 => by haveI := O35 g36; exact in_spec11 100 v35 h35 [t.credit]) ?_
      refine XO.q (Quiet.guardF rfl rfl fun g37 p37 => Q.not (lzv g37 rfl)) ?_
      refine XO.q (Q.or rfl (fun hp => lzv hp rfl)) ?_
      refine XO.q (Q.assign rfl) ?_
      refine XO.done ?_
      refine XK.if rfl (fun c2 => ?_) (fun c2 => ?_)
      · have _t2 := True.intro
        refine XK.seq ?_
        refine XK.region rfl ?_
        refine XO.q (Q.assign rfl) ?_
        refine XO.done ?_
        refine XK.rt [] Try.func46 Try.results46 (.t rfl .n) ?_
        exact ⟨by rw [rightG, if_neg c0, if_neg c1, if_pos c2], rfl⟩
      · have _t2 := True.intro
        refine XK.skip ?_
        refine XK.inBlock ?_
        refine XK.seq ?_
        refine XK.seq ?_
        refine XK.region rfl ?_
        refine XO.q (Q.fieldAddr rfl) ?_
        refine XO.q (Q.fieldAddr rfl) ?_
        refine XO.q (Q.ld rfl rfl) ?_
        refine XO.len rfl fun l42 => ?_
        refine XO.q (Q.move rfl) ?_
        refine XO.done ?_
        refine XK.block ?_
        refine XK.while (X := Nat) [2, 3, 4, 43, 44, 45, 46, 47, 48, 49, 50, 51, 52, 53, 54, 55, 56, 57, 58, 59, 60, 61, 62, 63, 64, 65, 66, 67, 68, 69, 70, 71, 72, 73, 74, 75, 76, 77, 78, 79, 80, 81, 82, 83, 84, 85, 86, 87, 88, 89, 90] (fun i => [(43, some (.int .i64 (i : Nat)))]) (fun i => []) (fun i => i ≤ t.tiers.length ∧ tiersOk t i = true) (fun i => t.tiers.length - i) (0) [] rfl ⟨by omega, rfl⟩ (.c rfl (.base 0 rfl rfl)) ?_
        rintro i ⟨hi, hall⟩ ih0
        dsimp only [List.cons_append, List.nil_append] at ih0 ⊢
        refine XK.seq ?_
        refine XK.region rfl ?_
        refine XO.q (Q.lss rfl rfl) ?_
        refine XO.done ?_
        refine XK.seq ?_
        refine XK.if rfl (fun c3 => ?_) (fun c3 => ?_)
        · have _t3 := True.intro
          refine XK.skip ?_
          refine XK.seq ?_
          refine XK.block ?_
          refine XK.seq ?_
          refine XK.region rfl ?_
          refine XO.q (Q.move rfl) ?_
          refine XO.ix rfl rfl (by omega) (by omega) fun i46 => ?_
          refine XO.q (Q.ldEA [_, _] rfl (by first | assumption | omega) rfl rfl) ?_
          refine XO.alloc fun b4 => ?_
          refine XO.q (Q.assign rfl) ?_
          refine XO.st rfl rfl rfl ?_
          refine XO.done ?_
          refine XK.seq ?_
          refine XK.drawn [0, 1, 4, 5, 6, 7, 10, 11, 12, 13, 14, 15, 16, 17, 18, 19, 20, 21, 22, 23, 24, 25, 26, 27, 28, 29, 30, 31, 32, 33, 34, 35, 36, 37, 38, 39, 40, 41] [b4, b1] [] (.q 0 (.q 1 (.br 2 true (.br 3 true (.q 4 (.q 5 (.q 6 (.q 7 (.br 8 true (.br 9 true (.q 10 (.q 11 (.q 12 (.q 13 (.q 14 (.q 15 (.q 16 (.q 17 (.q 18 (.q 19 (.q 20 (.q 21 (.q 22 (.q 23 (.q 24 (.q 25 (.q 26 (.q 27 (.q 28 (.q 29 (.q 30 (.q 31 (.q 32 (.q 33 (.q 34 (.q 35 (.q 36 (.q 37 (.q 38 (.q 39 (.q 40 (.q 41 .done)))))))))))))))))))))))))))))))) .stop) .stop))))) .stop) .stop))) Try.mixed rfl (by kernel_rfl) ?_
          refine XT.q rfl rfl (Q.fieldAddr rfl) ?_
          refine XT.q rfl rfl (Q.ld rfl rfl) ?_
          refine XT.lit [_] [_] [(t.tiers.getD i default).min] encI rfl rfl (by rfl) (by rfl) rfl (by rfl) (by exact .c 0 1 rfl rfl rfl (.n _)) (fun _ => rfl) (by rfl) rfl (by infer_instance) rfl (fun v50 h50 O50 => ⟨inferInstance, ?_⟩) XT.stop
          refine XT.call rfl rfl Try.call47 rfl rfl rfl (in_spec11 50000 v50 h50 [(t.tiers.getD i default).min]) (fun v51 s51 R51 => ?_) XT.stop
          obtain ⟨rfl, rfl⟩ := R51
          dsimp only [List.cons_append, List.nil_append]
          refine ⟨inferInstance, ?_⟩
          refine XT.q rfl rfl (Q.not rfl) ?_
          refine XT.q rfl rfl (Q.move rfl) ?_
          refine XT.q rfl rfl (Quiet.guardF rfl rfl fun g54 p54 => Q.fieldAddr rfl) ?_
          refine XT.q rfl rfl (Quiet.guardF rfl rfl fun g55 p55 => Q.ld (lzv g55 rfl) rfl) ?_
          refine XT.lit1 [_] [_] [(t.tiers.getD i default).pct] encI rfl rfl rfl rfl (by rfl) (by rfl) rfl (by rfl) (fun g56 => by exact .c 0 1 (lzv g56 rfl) rfl rfl (.n _)) (fun _ => rfl) (by rfl) rfl (fun _ => by infer_instance) rfl (fun v56 h56 O56 => ⟨inferInstance, ?_⟩) XT.stop
          refine XT.gcallF rfl rfl rfl rfl Try.call47 rfl (fun g57 => .c rfl (.c (lzv g57 rfl) .n)) rfl (fun g57 p57 => by haveI := O56 g57; exact in_spec11 100 v56 h56 [(t.tiers.getD i default).pct]) ⟨inferInstance, ?_⟩ XT.stop
          refine XT.q rfl rfl (Quiet.guardF rfl rfl fun g58 p58 => Q.not (lzv g58 rfl)) ?_
          refine XT.q rfl rfl (Q.or rfl (fun hp => lzv hp rfl)) ?_
          refine XT.q rfl rfl (Q.move rfl) ?_
          refine XT.q rfl rfl (Quiet.guardF rfl rfl fun g61 p61 => Q.move rfl) ?_
          refine XT.q rfl rfl (Quiet.guardF rfl rfl fun g62 p62 => Q.gtr (lzv g62 rfl) rfl) ?_
          refine XT.q rfl rfl (Quiet.guardF rfl rfl fun g63 p63 => Q.move (lzv g63 rfl)) ?_
          refine XT.q rfl rfl (Quiet.guard2 rfl rfl fun g64a g64b => have p64a := bpF g64a; have p64b := bpT g64b; Q.fieldAddr rfl) ?_
          refine XT.q rfl rfl (Quiet.guard2 rfl rfl fun g65a g65b => have p65a := bpF g65a; have p65b := bpT g65b; Q.ld (lzv g65b (lzv g65a rfl)) rfl) ?_
          refine XT.q rfl rfl (Quiet.guard2 rfl rfl fun g66a g66b => have p66a := bpF g66a; have p66b := bpT g66b; Q.fieldAddr rfl) ?_
          refine XT.q rfl rfl (Quiet.guard2 rfl rfl fun g67a g67b => have p67a := bpF g67a; have p67b := bpT g67b; Q.fieldAddr (lzv g67b (lzv g67a rfl))) ?_
          refine XT.q rfl rfl (Quiet.guard2 rfl rfl fun g68a g68b => have p68a := bpF g68a; have p68b := bpT g68b; Q.ld (lzv g68b (lzv g68a rfl)) rfl) ?_
          refine XT.q rfl rfl (Quiet.guard2 rfl rfl fun g69a g69b => have p69a := bpF g69a; have p69b := bpT g69b; Q.move rfl) ?_
          refine XT.q rfl rfl (Quiet.guard2 rfl rfl fun g70a g70b => have p70a := bpF g70a; have p70b := bpT g70b; Q.sub (lzv g70b (lzv g70a rfl)) rfl ⟨by omega, by omega⟩) ?_
          refine XT.q rfl rfl (Quiet.guard2 rfl rfl fun g71a g71b => have p71a := bpF g71a; have p71b := bpT g71b; Q.ix (lzv g71b (lzv g71a rfl)) (lzv g71b (lzv g71a rfl)) (by omega) (by omega)) ?_
          refine XT.q rfl rfl (Quiet.guard2 rfl rfl fun g72a g72b => have p72a := bpF g72a; have p72b := bpT g72b; Q.fieldQ (lzv g72b (lzv g72a rfl)) (by first | assumption | omega)) ?_
          refine XT.q rfl rfl (Quiet.guard2 rfl rfl fun g73a g73b => have p73a := bpF g73a; have p73b := bpT g73b; Q.ldE (lzv g73b (lzv g73a rfl)) (by first | assumption | omega) rfl) ?_
          refine XT.q rfl rfl (Quiet.guard2 rfl rfl fun g74a g74b => have p74a := bpF g74a; have p74b := bpT g74b; Q.leq (lzv g74b (lzv g74a rfl)) (lzv g74b (lzv g74a rfl))) ?_
          refine XT.q rfl rfl (Quiet.guard2 rfl rfl fun g75a g75b => have p75a := bpF g75a; have p75b := bpT g75b; Q.move (lzv g75b (lzv g75a rfl))) ?_
          refine XT.q rfl rfl (Quiet.guard3 rfl rfl fun g76a g76b g76c => have p76a := bpF g76a; have p76b := bpT g76b; have p76c := bpF g76c; Q.fieldAddr rfl) ?_
          refine XT.q rfl rfl (Quiet.guard3 rfl rfl fun g77a g77b g77c => have p77a := bpF g77a; have p77b := bpT g77b; have p77c := bpF g77c; Q.ld (lzv g77c (lzv g77b (lzv g77a rfl))) rfl) ?_
          refine XT.q rfl rfl (Quiet.guard3 rfl rfl fun g78a g78b g78c => have p78a := bpF g78a; have p78b := bpT g78b; have p78c := bpF g78c; Q.fieldAddr rfl) ?_
          refine XT.q rfl rfl (Quiet.guard3 rfl rfl fun g79a g79b g79c => have p79a := bpF g79a; have p79b := bpT g79b; have p79c := bpF g79c; Q.fieldAddr (lzv g79c (lzv g79b (lzv g79a rfl)))) ?_
          refine XT.q rfl rfl (Quiet.guard3 rfl rfl fun g80a g80b g80c => have p80a := bpF g80a; have p80b := bpT g80b; have p80c := bpF g80c; Q.ld (lzv g80c (lzv g80b (lzv g80a rfl))) rfl) ?_
          refine XT.q rfl rfl (Quiet.guard3 rfl rfl fun g81a g81b g81c => have p81a := bpF g81a; have p81b := bpT g81b; have p81c := bpF g81c; Q.move rfl) ?_
          refine XT.q rfl rfl (Quiet.guard3 rfl rfl fun g82a g82b g82c => have p82a := bpF g82a; have p82b := bpT g82b; have p82c := bpF g82c; Q.sub (lzv g82c (lzv g82b (lzv g82a rfl))) rfl ⟨by omega, by omega⟩) ?_
          refine XT.q rfl rfl (Quiet.guard3 rfl rfl fun g83a g83b g83c => have p83a := bpF g83a; have p83b := bpT g83b; have p83c := bpF g83c; Q.ix (lzv g83c (lzv g83b (lzv g83a rfl))) (lzv g83c (lzv g83b (lzv g83a rfl))) (by omega) (by omega)) ?_
          refine XT.q rfl rfl (Quiet.guard3 rfl rfl fun g84a g84b g84c => have p84a := bpF g84a; have p84b := bpT g84b; have p84c := bpF g84c; Q.fieldQ (lzv g84c (lzv g84b (lzv g84a rfl))) (by first | assumption | omega)) ?_
          refine XT.q rfl rfl (Quiet.guard3 rfl rfl fun g85a g85b g85c => have p85a := bpF g85a; have p85b := bpT g85b; have p85c := bpF g85c; Q.ldE (lzv g85c (lzv g85b (lzv g85a rfl))) (by first | assumption | omega) rfl) ?_
          refine XT.q rfl rfl (Quiet.guard3 rfl rfl fun g86a g86b g86c => have p86a := bpF g86a; have p86b := bpT g86b; have p86c := bpF g86c; Q.lss (lzv g86c (lzv g86b (lzv g86a rfl))) (lzv g86c (lzv g86b (lzv g86a rfl)))) ?_
          refine XT.q rfl rfl (Quiet.guard2 rfl rfl fun g87a g87b => have p87a := bpF g87a; have p87b := bpT g87b; Q.or (lzv g87b (lzv g87a rfl)) (fun hp => (lzv hp (lzv g87b (lzv g87a rfl))))) ?_
          refine XT.q rfl rfl (Quiet.guardF rfl rfl fun g88 p88 => Q.and (lzv g88 rfl) (fun hp => (lzv hp (lzv g88 rfl)))) ?_
          refine XT.q rfl rfl (Q.or rfl (fun hp => lzv hp rfl)) ?_
          refine XT.done ?_
          refine XK.if rfl (fun c4 => ?_) (fun c4 => ?_)
          · have _t4 := True.intro
            refine XK.seq ?_
            refine XK.region rfl ?_
            refine XO.q (Q.assign rfl) ?_
            refine XO.done ?_
            refine XK.rt [] Try.func46 Try.results46 (.t rfl .n) ?_
            exact ⟨by rw [rightG, if_neg c0, if_neg c1, if_neg c2, if_neg (by rw [tiersOk, allTo_false (s := i) (by omega) (by rw [Bool.not_eq_false', decide_eq_true_eq]; exact c4)]; decide)], rfl⟩
          · have _t4 := True.intro
            refine XK.skip ?_
            refine XK.inBlock ?_
            refine XK.region rfl ?_
            refine XO.q (Q.add rfl rfl ⟨by omega, by omega⟩) ?_
            refine XO.q (Q.move rfl) ?_
            refine XO.done ?_
            exact ih0 (i + 1) _ _ ⟨by omega, by rw [tiersOk, allTo_succ]; rw [tiersOk] at hall; rw [hall, Bool.true_and, Bool.not_eq_true', decide_eq_false_iff_not]; exact c4⟩ (by first | omega | (dsimp only; omega)) (.c rfl (.base 102 rfl rfl)) inferInstance
        · have _t3 := True.intro
          refine XK.exit rfl ?_
          refine XK.seq ?_
          refine XK.region rfl ?_
          refine XO.q (Q.assign rfl) ?_
          refine XO.done ?_
          refine XK.rt [] Try.func46 Try.results46 (.t rfl .n) ?_
          have hin : i = t.tiers.length := by omega
          rw [hin] at hall
          exact ⟨by rw [rightG, if_neg c0, if_neg c1, if_neg c2, if_pos hall], rfl⟩
theorem percent_spec (t : MTariff) (vp vt : Value) (hp ht : PHeap) [jp : Arr vp encI 1 hp t.price] [jt : Arr vt encTier 2 ht t.tiers] (out : Int) : Spec Try.prog 48 #[.agg #[vp, .int .i64 t.base, vt, .int .i64 t.credit], .int .i64 out] [] [hp, ht] (fun v hs => v = .int .i64 (percentL t out) ∧ hs = []) := by
  have lt := jt.le
  refine Spec.intro (fn := Try.f48) (N := 28) Try.func48 rfl Try.ntmps48 rfl fun B => ?_
  refine XK.seq ?_
  refine XK.region rfl ?_
  refine XO.box rfl fun b2 => ?_
  refine XO.q (Q.assign rfl) ?_
  refine XO.done ?_
  refine XK.seq ?_
  refine XK.region rfl ?_
  refine XO.q (Q.assign rfl) ?_
  refine XO.done ?_
  refine XK.seq ?_
  refine XK.seq ?_
  refine XK.region rfl ?_
  refine XO.q (Q.fieldAddr rfl) ?_
  refine XO.q (Q.fieldAddr rfl) ?_
  refine XO.q (Q.ld rfl rfl) ?_
  refine XO.len rfl fun l11 => ?_
  refine XO.q (Q.move rfl) ?_
  refine XO.done ?_
  refine XK.block ?_
  refine XK.while (X := Nat) [5, 7, 12, 13, 14, 15, 16, 17, 18, 19, 20, 21, 22] (fun i => [(12, some (.int .i64 (i : Nat))), (5, some (.int .i64 (pctTo t out i)))]) (fun i => []) (fun i => i ≤ t.tiers.length) (fun i => t.tiers.length - i) (0) [] rfl (by omega) (.c rfl (.c rfl (.base 0 rfl rfl))) ?_
  rintro i hi ih0
  dsimp only [List.cons_append, List.nil_append] at ih0 ⊢
  refine XK.seq ?_
  refine XK.region rfl ?_
  refine XO.q (Q.lss rfl rfl) ?_
  refine XO.done ?_
  refine XK.seq ?_
  refine XK.if rfl (fun c0 => ?_) (fun c0 => ?_)
  · have _t0 := True.intro
    refine XK.skip ?_
    refine XK.seq ?_
    refine XK.block ?_
    refine XK.seq ?_
    refine XK.region rfl ?_
    refine XO.ix rfl rfl (by omega) (by omega) fun i14 => ?_
    refine XO.q (Q.ldEA [_, _] rfl (by first | assumption | omega) rfl rfl) ?_
    refine XO.alloc fun b7 => ?_
    refine XO.st rfl rfl rfl ?_
    refine XO.done ?_
    refine XK.seq ?_
    refine XK.region rfl ?_
    refine XO.q (Q.fieldAddr rfl) ?_
    refine XO.q (Q.ld rfl rfl) ?_
    refine XO.q (Q.move rfl) ?_
    refine XO.q (Q.leq rfl rfl) ?_
    refine XO.done ?_
    refine XK.if rfl (fun c1 => ?_) (fun c1 => ?_)
    · have _t1 := True.intro
      refine XK.region rfl ?_
      refine XO.q (Q.fieldAddr rfl) ?_
      refine XO.q (Q.ld rfl rfl) ?_
      refine XO.q (Q.assign rfl) ?_
      refine XO.done ?_
      refine XK.inBlock ?_
      refine XK.region rfl ?_
      refine XO.q (Q.add rfl rfl ⟨by omega, by omega⟩) ?_
      refine XO.q (Q.move rfl) ?_
      refine XO.done ?_
      rw [show (t.tiers.getD i default).pct = pctTo t out (i + 1) by rw [pctTo, if_pos c1]]
      exact ih0 (i + 1) _ _ (by omega) (by first | omega | (dsimp only; omega)) (.c rfl (.c rfl (.base 28 rfl rfl))) inferInstance
    · have _t1 := True.intro
      refine XK.skip ?_
      refine XK.inBlock ?_
      refine XK.region rfl ?_
      refine XO.q (Q.add rfl rfl ⟨by omega, by omega⟩) ?_
      refine XO.q (Q.move rfl) ?_
      refine XO.done ?_
      rw [show pctTo t out i = pctTo t out (i + 1) by rw [pctTo, if_neg c1]]
      exact ih0 (i + 1) _ _ (by omega) (by first | omega | (dsimp only; omega)) (.c rfl (.c rfl (.base 25 rfl rfl))) inferInstance
  · have _t0 := True.intro
    refine XK.exit rfl ?_
    refine XK.seq ?_
    refine XK.region rfl ?_
    refine XO.q (Q.move rfl) ?_
    refine XO.q (Q.fieldAddr rfl) ?_
    refine XO.q (Q.fieldAddr rfl) ?_
    refine XO.q (Q.ld rfl rfl) ?_
    refine XO.q (Q.min rfl rfl) ?_
    refine XO.q (Q.assign rfl) ?_
    refine XO.done ?_
    refine XK.rt [] Try.func48 Try.results48 (.t rfl .n) ?_
    have hin : i = t.tiers.length := by omega
    rw [hin]
    exact ⟨rfl, rfl⟩
theorem Make_spec (t : MTariff) (vp vt : Value) (hp ht : PHeap) [jp : Arr vp encI 1 hp t.price] [jt : Arr vt encTier 2 ht t.tiers] (u : MUse) (vu : Value) (hu : PHeap) [ju : Arr vu encI 1 hu u.values] : Spec Try.prog 11 #[.agg #[vp, .int .i64 t.base, vt, .int .i64 t.credit], .agg #[vu, .int .i64 u.out]] [] [hp, ht, hu] (fun v hs => v = .tuple #[.agg #[.int .i64 (makeG t u).1.energy, .int .i64 (makeG t u).1.amount, .int .i64 (makeG t u).1.credit, .int .i64 (makeG t u).1.due], .int .i64 (makeG t u).2] ∧ hs = []) := by
  have lu := ju.le
  refine Spec.intro (fn := Try.f11) (N := 86) Try.func11 rfl Try.ntmps11 rfl fun B => ?_
  refine XK.seq ?_
  refine XK.region rfl ?_
  refine XO.box rfl fun b2 => ?_
  refine XO.box rfl fun b3 => ?_
  refine XO.alloc fun b4 => ?_
  refine XO.q (Q.assign rfl) ?_
  refine XO.done ?_
  refine XK.seq ?_
  refine XK.region rfl ?_
  refine XO.q (Q.ldA [_, _, _, _] rfl rfl rfl) ?_
  refine XO.q (Q.build [_, _, _, _] (.c 0 4 rfl rfl rfl (.n _))) ?_
  refine XO.alloc fun b6 => ?_
  refine XO.st rfl rfl rfl ?_
  refine XO.done ?_
  refine XK.seq ?_
  refine XK.seq ?_
  refine XK.region rfl ?_
  refine XO.q (Q.ldA [_, _, _, _] rfl rfl rfl) ?_
  refine XO.call Try.call46 rfl rfl rfl (right_spec t vp vt hp ht) fun v14 s14 R14 => ?_
  obtain ⟨rfl, rfl⟩ := R14
  dsimp only [List.cons_append, List.nil_append]
  refine XO.q (Q.assign rfl) ?_
  refine XO.done ?_
  refine XK.seq ?_
  refine XK.region rfl ?_
  refine XO.q (Q.move rfl) ?_
  refine XO.q (Q.neq rfl rfl) ?_
  refine XO.done ?_
  refine XK.if rfl (fun c0 => ?_) (fun c0 => ?_)
  · have _t0 := True.intro
    refine XK.seq ?_
    refine XK.region rfl ?_
    refine XO.q (Q.build [_, _, _, _] (.n _)) ?_
    refine XO.q (Q.move rfl) ?_
    refine XO.st rfl rfl rfl ?_
    refine XO.q (Q.assign rfl) ?_
    refine XO.done ?_
    refine XK.rt [] Try.func11 Try.results11 (.cell [_, _, _, _] rfl rfl rfl (.t rfl .n)) ?_
    have hw0 : makeG t u = (default, rightG t) := by rw [makeG, if_pos c0]
    rw [hw0]
    exact ⟨rfl, rfl⟩
  · have _t0 := True.intro
    have k := right_ok (Decidable.of_not_not c0)
    have pl := k.len
    have bs := k.base
    refine XK.skip ?_
    refine XK.seq ?_
    refine XK.block ?_
    refine XK.seq ?_
    refine XK.region rfl ?_
    refine XO.q (Q.fieldAddr rfl) ?_
    refine XO.q (Q.ld rfl rfl) ?_
    refine XO.len rfl fun l22 => ?_
    refine XO.q (Q.gtr rfl rfl) ?_
    refine XO.q (Q.assign rfl) ?_
    refine XO.done ?_
    refine XK.if rfl (fun c1 => ?_) (fun c1 => ?_)
    · have _t1 := True.intro
      refine XK.seq ?_
      refine XK.region rfl ?_
      refine XO.q (Q.build [_, _, _, _] (.n _)) ?_
      refine XO.st rfl rfl rfl ?_
      refine XO.q (Q.assign rfl) ?_
      refine XO.done ?_
      refine XK.rt [] Try.func11 Try.results11 (.cell [_, _, _, _] rfl rfl rfl (.t rfl .n)) ?_
      have hw0 : makeG t u = (default, 2) := by rw [makeG, if_neg c0, if_pos c1]
      rw [hw0]
      exact ⟨rfl, rfl⟩
    · have _t1 := True.intro
      refine XK.seq ?_
      refine XK.region rfl ?_
      refine XO.q (Q.fieldAddr rfl) ?_
      refine XO.q (Q.ld rfl rfl) ?_
      refine XO.call Try.call47 rfl rfl rfl (in_spec11 100000 vu hu u.values) fun v28 s28 R28 => ?_
      obtain ⟨rfl, rfl⟩ := R28
      dsimp only [List.cons_append, List.nil_append]
      refine XO.q (Q.not rfl) ?_
      refine XO.q (Q.move rfl) ?_
      refine XO.q (Quiet.guardF rfl rfl fun g31 p31 => Q.fieldAddr rfl) ?_
      refine XO.q (Quiet.guardF rfl rfl fun g32 p32 => Q.ld (lzv g32 rfl) rfl) ?_
      refine XO.lit1 [_] [_] [u.out] encI rfl rfl (by rfl) (by rfl) rfl (by rfl) (fun g33 => by exact .c 0 1 (lzv g33 rfl) rfl rfl (.n _)) (fun _ => rfl) (by rfl) rfl (fun _ => by infer_instance) rfl (fun v33 h33 O33 => ?_)
      refine XO.gcallF rfl rfl Try.call47 rfl (fun g34 => .c rfl (.c (lzv g34 rfl) .n)) rfl (fun g34 p34 => by haveI := O33 g34; exact in_spec11 50000 v33 h33 [u.out]) ?_
      refine XO.q (Quiet.guardF rfl rfl fun g35 p35 => Q.not (lzv g35 rfl)) ?_
      refine XO.q (Q.or rfl (fun hp => lzv hp rfl)) ?_
      refine XO.q (Q.assign rfl) ?_
      refine XO.done ?_
      refine XK.if rfl (fun c2 => ?_) (fun c2 => ?_)
      · have _t2 := True.intro
        refine XK.seq ?_
        refine XK.region rfl ?_
        refine XO.q (Q.build [_, _, _, _] (.n _)) ?_
        refine XO.st rfl rfl rfl ?_
        refine XO.q (Q.assign rfl) ?_
        refine XO.done ?_
        refine XK.rt [] Try.func11 Try.results11 (.cell [_, _, _, _] rfl rfl rfl (.t rfl .n)) ?_
        have hw0 : makeG t u = (default, 6) := by rw [makeG, if_neg c0, if_neg c1, if_pos c2]
        rw [hw0]
        exact ⟨rfl, rfl⟩
      · have _t2 := True.intro
        have q := make_use (t := t) c1 c2
        refine XK.skip ?_
        refine XK.inBlock ?_
        refine XK.seq ?_
        refine XK.region rfl ?_
        refine XO.q (Q.fieldAddr rfl) ?_
        refine XO.q (Q.fieldAddr rfl) ?_
        refine XO.q (Q.ld rfl rfl) ?_
        refine XO.q (Q.build [_, _, _, _] (.c 1 1 rfl rfl rfl (.n _))) ?_
        refine XO.alloc fun b8 => ?_
        refine XO.st rfl rfl rfl ?_
        refine XO.done ?_
        refine XK.seq ?_
        refine XK.seq ?_
        refine XK.region rfl ?_
        refine XO.q (Q.fieldAddr rfl) ?_
        refine XO.q (Q.ld rfl rfl) ?_
        refine XO.len rfl fun l44 => ?_
        refine XO.q (Q.move rfl) ?_
        refine XO.done ?_
        refine XK.block ?_
        refine XK.while (X := Nat) [9, 10, 45, 46, 47, 48, 49, 50, 51, 52, 53, 54, 55, 56, 57, 58, 59, 60, 61, 62, 63, 64, 65, 66, 67, 68] (fun i => [(45, some (.int .i64 (i : Nat)))]) (fun i => [blk b8 [.int .i64 (energyTo u.values i), .int .i64 (amtTo t u.values i), .int .i64 0, .int .i64 0] 37]) (fun i => i ≤ u.values.length) (fun i => u.values.length - i) (0) [blk b8 [.int .i64 0, .int .i64 t.base, .int .i64 0, .int .i64 0] 37] rfl (by omega) (.c rfl (.base 0 rfl rfl)) ?_
        rintro i hi ih0
        dsimp only [List.cons_append, List.nil_append] at ih0 ⊢
        refine XK.seq ?_
        refine XK.region rfl ?_
        refine XO.q (Q.lss rfl rfl) ?_
        refine XO.done ?_
        refine XK.seq ?_
        refine XK.if rfl (fun c3 => ?_) (fun c3 => ?_)
        · have _t3 := True.intro
          have cr := cost_rng k q.vals (n := i) (by omega)
          have ae := amtTo_eq t u.values i
          have er := energy_rng q.vals (n := i) (by omega)
          have co := cost_one k q.vals (i := i) (by omega)
          have va := vals_at q.vals (i := i) (by omega)
          have pa := price_at k i
          change 0 ≤ u.values.getD i default ∧ u.values.getD i default ≤ _ at va
          change 0 ≤ t.price.getD (i % 24) default ∧ t.price.getD (i % 24) default ≤ _ at pa
          change 0 ≤ u.values.getD i default * t.price.getD (i % 24) default ∧ u.values.getD i default * t.price.getD (i % 24) default ≤ _ at co
          refine XK.skip ?_
          refine XK.seq ?_
          refine XK.block ?_
          refine XK.seq ?_
          refine XK.region rfl ?_
          refine XO.q (Q.move rfl) ?_
          refine XO.ix rfl rfl (by omega) (by omega) fun i48 => ?_
          refine XO.q (Q.ldE rfl (by first | assumption | omega) rfl) ?_
          refine XO.q (Q.assign rfl) ?_
          refine XO.q (Q.assign rfl) ?_
          refine XO.done ?_
          refine XK.seq ?_
          refine XK.region rfl ?_
          refine XO.q (Q.fieldAddr rfl) ?_
          refine XO.q (Q.ld rfl rfl) ?_
          refine XO.q (Q.move rfl) ?_
          refine XO.q (Q.add rfl rfl ⟨by omega, by omega⟩) ?_
          rw [show (energyTo u.values i) + u.values.getD i default = energyTo u.values (i + 1) from rfl]
          refine XO.q (Q.fieldAddr rfl) ?_
          refine XO.st rfl rfl rfl ?_
          refine XO.done ?_
          refine XK.drawn [0, 1, 2, 3, 4, 5, 6, 7, 8, 9, 10, 11, 12] [b8, b6] [] (.q 0 (.q 1 (.q 2 (.q 3 (.q 4 (.q 5 (.q 6 (.q 7 (.q 8 (.q 9 (.q 10 (.q 11 (.q 12 (.br 13 false .done .stop)))))))))))))) Try.mixed rfl (by kernel_rfl) ?_
          refine XT.q rfl rfl (Q.fieldAddr rfl) ?_
          refine XT.q rfl rfl (Q.ld rfl rfl) ?_
          refine XT.q rfl rfl (Q.move rfl) ?_
          refine XT.q rfl rfl (Q.fieldAddr rfl) ?_
          refine XT.q rfl rfl (Q.fieldAddr rfl) ?_
          refine XT.q rfl rfl (Q.ld rfl rfl) ?_
          refine XT.q rfl rfl (Q.move rfl) ?_
          refine XT.q rfl rfl (Q.rem rfl rfl (by omega) (by omega)) ?_
          rw [show ((i : Int) % 24) = ((i % 24 : Nat) : Int) from rfl]
          refine XT.ix rfl rfl rfl rfl (by omega) (by omega) fun i63 => ?_
          refine XT.q rfl rfl (Q.ldE rfl (by first | assumption | omega) rfl) ?_
          refine XT.q rfl rfl (Q.mul rfl rfl ⟨by omega, by omega⟩) ?_
          refine XT.q rfl rfl (Q.add rfl rfl ⟨by omega, by omega⟩) ?_
          rw [show (amtTo t u.values i) + u.values.getD i default * t.price.getD (i % 24) default = amtTo t u.values (i + 1) from rfl]
          refine XT.q rfl rfl (Q.fieldAddr rfl) ?_
          refine XT.st rfl rfl rfl rfl rfl ⟨inferInstance, ?_⟩ XT.stop
          refine XT.done ?_
          refine XK.inBlock ?_
          refine XK.region rfl ?_
          refine XO.q (Q.add rfl rfl ⟨by omega, by omega⟩) ?_
          refine XO.q (Q.move rfl) ?_
          refine XO.done ?_
          exact ih0 (i + 1) _ _ (by omega) (by first | omega | (dsimp only; omega)) (.c rfl (.base 53 rfl rfl)) inferInstance
        · have _t3 := True.intro
          have hin : i = u.values.length := by omega
          rw [hin]
          rw [show amtTo t u.values u.values.length = amountL t u from amtTo_eq ..]
          have ar := amount_rng k q
          have crr := credit_rng k q
          clear ih0
          refine XK.exit rfl ?_
          refine XK.seq ?_
          refine XK.drawn [0, 1, 2, 3, 4, 6, 7, 8, 9] [b8, b6, b3] [] (.q 0 (.q 1 (.q 2 (.q 3 (.q 4 (.br 5 true (.q 6 (.q 7 (.q 8 (.q 9 (.br 10 false .done .stop))))) .stop)))))) Try.mixed rfl (by kernel_rfl) ?_
          refine XT.q rfl rfl (Q.fieldAddr rfl) ?_
          refine XT.q rfl rfl (Q.ld rfl rfl) ?_
          refine XT.q rfl rfl (Q.ldA [_, _, _, _] rfl rfl rfl) ?_
          refine XT.q rfl rfl (Q.fieldAddr rfl) ?_
          refine XT.q rfl rfl (Q.ld rfl rfl) ?_
          refine XT.call rfl rfl Try.call48 rfl rfl rfl (percent_spec t vp vt hp ht u.out) (fun v74 s74 R74 => ?_) XT.stop
          obtain ⟨rfl, rfl⟩ := R74
          dsimp only [List.cons_append, List.nil_append]
          refine ⟨inferInstance, ?_⟩
          refine XT.q rfl rfl (Q.mul rfl rfl ⟨by omega, by omega⟩) ?_
          refine XT.q rfl rfl (Q.add rfl rfl ⟨by omega, by omega⟩) ?_
          refine XT.q rfl rfl (Q.quo rfl rfl (by omega) (by omega) (by omega)) ?_
          rw [show (amountL t u * percentL t u.out + 50) / 100 = creditL t u from rfl]
          refine XT.q rfl rfl (Q.fieldAddr rfl) ?_
          refine XT.st rfl rfl rfl rfl rfl ⟨inferInstance, ?_⟩ XT.stop
          refine XT.done ?_
          refine XK.seq ?_
          refine XK.region rfl ?_
          refine XO.q (Q.fieldAddr rfl) ?_
          refine XO.q (Q.ld rfl rfl) ?_
          refine XO.q (Q.fieldAddr rfl) ?_
          refine XO.q (Q.ld rfl rfl) ?_
          refine XO.q (Q.sub rfl rfl ⟨by omega, by omega⟩) ?_
          refine XO.q (Q.fieldAddr rfl) ?_
          refine XO.st rfl rfl rfl ?_
          refine XO.done ?_
          refine XK.seq ?_
          refine XK.region rfl ?_
          refine XO.q (Q.ldA [_, _, _, _] rfl rfl rfl) ?_
          refine XO.st rfl rfl rfl ?_
          refine XO.q (Q.assign rfl) ?_
          refine XO.done ?_
          refine XK.rt [] Try.func11 Try.results11 (.cell [_, _, _, _] rfl rfl rfl (.t rfl .n)) ?_
          have hw0 : makeG t u = (billL t u, 0) := by rw [makeG, if_neg c0, if_neg c1, if_neg c2]
          rw [hw0]
          exact ⟨rfl, rfl⟩
theorem clip_spec (v : Value) (h : PHeap) (xs : List MBill) [s : Arr v encBill 4 h xs] : Spec Try.prog 49 #[v] [] [h] (fun v' hs => v' = clipv v 4 ∧ hs = []) := by
  refine Spec.intro (fn := Try.f49) (N := 9) Try.func49 rfl Try.ntmps49 rfl fun B => ?_
  refine XK.seq ?_
  refine XK.region rfl ?_
  refine XO.q (Q.assign rfl) ?_
  refine XO.done ?_
  refine XK.seq ?_
  refine XK.region rfl ?_
  refine XO.q (Q.move rfl) ?_
  refine XO.q (Q.move rfl) ?_
  refine XO.len rfl fun l5 => ?_
  refine XO.q (Q.move rfl) ?_
  refine XO.len rfl fun l7 => ?_
  refine XO.q (Q.clip rfl rfl rfl) ?_
  refine XO.q (Q.assign rfl) ?_
  refine XO.done ?_
  refine XK.rt [] Try.func49 Try.results49 (.t rfl .n) ?_
  exact ⟨rfl, rfl⟩
theorem map_snd_at {l : List (Value × MUse)} (i : Nat) : (l.map Prod.snd).getD i default = (l.getD i default).2 := by
  rw [List.getD_eq_getElem?_getD, List.getElem?_map, List.getD_eq_getElem?_getD]
  cases l[i]? <;> rfl
theorem bills_snoc (t : MTariff) (l : List MUse) (n : Nat) : (List.range (n + 1)).map (billAt t l) = (List.range n).map (billAt t l) ++ [billAt t l n] := by
  rw [List.range_succ, List.map_append]; rfl
theorem Total_spec (t : MTariff) (vp vt : Value) (hp ht : PHeap) [jp : Arr vp encI 1 hp t.price] [jt : Arr vt encTier 2 ht t.tiers] (l : List (Value × MUse)) (vl : Value) (hl hL : PHeap) [jl : Arr vl encUse 2 hl l] (aL : ∀ i, i < l.length → Arr (l.getD i default).1 encI 1 hL (l.getD i default).2.values) :
    Spec Try.prog 12 #[.agg #[vp, .int .i64 t.base, vt, .int .i64 t.credit], vl] [] [hp, ht, hl, hL] (fun v hs => ∃ v1 k1, v = .tuple #[v1, .agg #[.int .i64 (totalG t (l.map Prod.snd)).2.1.energy, .int .i64 (totalG t (l.map Prod.snd)).2.1.amount, .int .i64 (totalG t (l.map Prod.snd)).2.1.credit, .int .i64 (totalG t (l.map Prod.snd)).2.1.due], .int .i64 (totalG t (l.map Prod.snd)).2.2] ∧ hs = [k1] ∧ Arr v1 encBill 4 k1 (totalG t (l.map Prod.snd)).1) := by
  have hnil : OArr (.slice none 0 0) encBill 4 37 emp ([] : List MBill) := OArr.nil (fun _ => rfl)
  have ll := jl.le
  have hml : (l.map Prod.snd).length = l.length := List.length_map ..
  refine Spec.intro (fn := Try.f12) (N := 62) Try.func12 rfl Try.ntmps12 rfl fun B => ?_
  refine XK.seq ?_
  refine XK.region rfl ?_
  refine XO.box rfl fun b2 => ?_
  refine XO.q (Q.assign rfl) ?_
  refine XO.alloc fun b5 => ?_
  refine XO.q (Q.assign rfl) ?_
  refine XO.done ?_
  refine XK.seq ?_
  refine XK.seq ?_
  refine XK.region rfl ?_
  refine XO.q (Q.move rfl) ?_
  refine XO.len rfl fun l14 => ?_
  refine XO.q (Q.gtr rfl rfl) ?_
  refine XO.done ?_
  refine XK.if rfl (fun c0 => ?_) (fun c0 => ?_)
  · have _t0 := True.intro
    refine XK.seq ?_
    refine XK.region rfl ?_
    refine XO.q (Q.build [_, _, _, _] (.n _)) ?_
    refine XO.q (Q.assign rfl) ?_
    refine XO.st rfl rfl rfl ?_
    refine XO.q (Q.assign rfl) ?_
    refine XO.done ?_
    refine XK.rt [emp] Try.func12 Try.results12 (.t rfl (.cell [_, _, _, _] rfl rfl rfl (.t rfl .n))) ?_
    have hw0 : totalG t (l.map Prod.snd) = ([], default, 2) := by rw [totalG, if_pos (by omega)]
    rw [hw0]
    exact ⟨.slice none 0 0, emp, rfl, rfl, Arr.nil (fun _ => rfl)⟩
  · have _t0 := True.intro
    refine XK.skip ?_
    refine XK.seq ?_
    refine XK.region rfl ?_
    refine XO.q (Q.assign rfl) ?_
    refine XO.done ?_
    refine XK.seq ?_
    refine XK.region rfl ?_
    refine XO.alloc fun b8 => ?_
    refine XO.done ?_
    refine XK.seq ?_
    refine XK.seq ?_
    refine XK.region rfl ?_
    refine XO.q (Q.move rfl) ?_
    refine XO.len rfl fun l18 => ?_
    refine XO.q (Q.move rfl) ?_
    refine XO.done ?_
    refine XK.block ?_
    refine XK.while (X := Nat × Value × PHeap) [4, 6, 7, 10, 11, 12, 19, 20, 21, 22, 23, 24, 25, 26, 27, 28, 29, 30, 31, 32, 33, 34, 35, 36, 37, 38, 39, 40, 41, 42, 43, 44, 45, 46, 47, 48, 49, 50, 51, 52, 53, 54, 55, 56, 57, 58] (fun ⟨i, vo, ko⟩ => [(19, some (.int .i64 (i : Nat))), (7, some (vo))]) (fun ⟨i, vo, ko⟩ => [ko, blk b8 [.int .i64 (sumBill t (l.map Prod.snd) i).energy, .int .i64 (sumBill t (l.map Prod.snd) i).amount, .int .i64 (sumBill t (l.map Prod.snd) i).credit, .int .i64 (sumBill t (l.map Prod.snd) i).due] 37]) (fun ⟨i, vo, ko⟩ => i ≤ l.length ∧ OArr vo encBill 4 37 ko ((List.range i).map (billAt t (l.map Prod.snd))) ∧ errTo t (l.map Prod.snd) i = 0) (fun ⟨i, vo, ko⟩ => l.length - i) (0, .slice none 0 0, emp) [emp, blk b8 [.int .i64 0, .int .i64 0, .int .i64 0, .int .i64 0] 37] rfl ⟨by omega, hnil, rfl⟩ (.c rfl (.c rfl (.base 0 rfl rfl))) ?_
    rintro ⟨i, vo, ko⟩ ⟨hi, OO, he⟩ ih0
    dsimp only [List.cons_append, List.nil_append] at ih0 ⊢
    refine XK.seq ?_
    refine XK.region rfl ?_
    refine XO.q (Q.lss rfl rfl) ?_
    refine XO.done ?_
    refine XK.seq ?_
    refine XK.if rfl (fun c1 => ?_) (fun c1 => ?_)
    · have _t1 := True.intro
      have ai := aL i (by omega)
      have br := make_rng t (l.getD i default).2
      have b1 := br.e
      have b2 := br.a
      have b3 := br.c
      have b4 := br.d
      obtain ⟨s1, s2, s3, s4⟩ := sumBill_rng t (l.map Prod.snd) i
      have eb : billAt t (l.map Prod.snd) i = (makeG t (l.getD i default).2).1 := by rw [billAt, map_snd_at]
      refine XK.skip ?_
      refine XK.seq ?_
      refine XK.block ?_
      refine XK.seq ?_
      refine XK.region rfl ?_
      refine XO.ix rfl rfl (by omega) (by omega) fun i21 => ?_
      refine XO.q (Q.ldEA [_, _] rfl (by first | assumption | omega) rfl rfl) ?_
      refine XO.alloc fun b10 => ?_
      refine XO.st rfl rfl rfl ?_
      refine XO.done ?_
      refine XK.seq ?_
      refine XK.region rfl ?_
      refine XO.q (Q.ldA [_, _, _, _] rfl rfl rfl) ?_
      refine XO.q (Q.ldA [_, _] rfl rfl rfl) ?_
      refine XO.call Try.call11 rfl rfl rfl (Make_spec t vp vt hp ht (l.getD i default).2 (l.getD i default).1 hL) fun v26 s26 R26 => ?_
      obtain ⟨rfl, rfl⟩ := R26
      dsimp only [List.cons_append, List.nil_append]
      refine XO.q (Q.move rfl) ?_
      refine XO.q (Q.extract rfl rfl) ?_
      refine XO.q (Q.extract rfl rfl) ?_
      refine XO.alloc fun b11 => ?_
      refine XO.st rfl rfl rfl ?_
      refine XO.q (Q.assign rfl) ?_
      refine XO.done ?_
      refine XK.seq ?_
      refine XK.seq ?_
      refine XK.region rfl ?_
      refine XO.q (Q.move rfl) ?_
      refine XO.q (Q.neq rfl rfl) ?_
      refine XO.done ?_
      refine XK.if rfl (fun c2 => ?_) (fun c2 => ?_)
      · have _t2 := True.intro
        refine XK.seq ?_
        refine XK.region rfl ?_
        refine XO.q (Q.build [_, _, _, _] (.n _)) ?_
        refine XO.q (Q.move rfl) ?_
        refine XO.q (Q.assign rfl) ?_
        refine XO.st rfl rfl rfl ?_
        refine XO.q (Q.assign rfl) ?_
        refine XO.done ?_
        refine XK.rt [emp] Try.func12 Try.results12 (.t rfl (.cell [_, _, _, _] rfl rfl rfl (.t rfl .n))) ?_
        have hw0 : totalG t (l.map Prod.snd) = ([], default, (makeG t (l.getD i default).2).2) := by
          have e1 : errTo t (l.map Prod.snd) (i + 1) = (makeG t (l.getD i default).2).2 := by rw [errTo, he, if_neg (by decide), map_snd_at]
          have e2 : errTo t (l.map Prod.snd) (l.map Prod.snd).length = (makeG t (l.getD i default).2).2 := by rw [errTo_stay (n := i + 1) (by rw [e1]; exact c2) (by omega), e1]
          rw [totalG, if_neg (by omega), e2, if_pos c2]
        rw [hw0]
        exact ⟨.slice none 0 0, emp, rfl, rfl, Arr.nil (fun _ => rfl)⟩
      · have _t2 := True.intro
        refine XK.skip ?_
        refine XK.seq ?_
        refine XK.region rfl ?_
        refine XO.q (Q.move rfl) ?_
        refine XO.q (Q.ldA [_, _, _, _] rfl rfl rfl) ?_
        refine XO.lit [_, _, _, _] [_, _, _, _] [(makeG t (l.getD i default).2).1] encBill (by rfl) (by rfl) rfl (by rfl) (by exact .c 0 4 rfl rfl rfl (.n _)) (fun _ => rfl) (by rfl) rfl (by infer_instance) rfl fun v35 h35 O35 => ?_
        refine XO.append rfl rfl rfl rfl (by simp only [List.length_map, List.length_range, List.length_cons, List.length_nil]; omega) fun v36 h36 O36 => ?_
        refine XO.q (Q.assign rfl) ?_
        refine XO.done ?_
        refine XK.region rfl ?_
        refine XO.q (Q.fieldAddr rfl) ?_
        refine XO.q (Q.ld rfl rfl) ?_
        refine XO.q (Q.fieldAddr rfl) ?_
        refine XO.q (Q.ld rfl rfl) ?_
        refine XO.q (Q.add rfl rfl ⟨by omega, by omega⟩) ?_
        refine XO.q (Q.fieldAddr rfl) ?_
        refine XO.q (Q.ld rfl rfl) ?_
        refine XO.q (Q.fieldAddr rfl) ?_
        refine XO.q (Q.ld rfl rfl) ?_
        refine XO.q (Q.add rfl rfl ⟨by omega, by omega⟩) ?_
        refine XO.q (Q.fieldAddr rfl) ?_
        refine XO.q (Q.ld rfl rfl) ?_
        refine XO.q (Q.fieldAddr rfl) ?_
        refine XO.q (Q.ld rfl rfl) ?_
        refine XO.q (Q.add rfl rfl ⟨by omega, by omega⟩) ?_
        refine XO.q (Q.fieldAddr rfl) ?_
        refine XO.q (Q.ld rfl rfl) ?_
        refine XO.q (Q.fieldAddr rfl) ?_
        refine XO.q (Q.ld rfl rfl) ?_
        refine XO.q (Q.add rfl rfl ⟨by omega, by omega⟩) ?_
        refine XO.q (Q.build [_, _, _, _] (.c 0 1 rfl rfl rfl (.c 1 1 rfl rfl rfl (.c 2 1 rfl rfl rfl (.c 3 1 rfl rfl rfl (.n _)))))) ?_
        refine XO.st rfl rfl rfl ?_
        refine XO.done ?_
        refine XK.inBlock ?_
        refine XK.region rfl ?_
        refine XO.q (Q.add rfl rfl ⟨by omega, by omega⟩) ?_
        refine XO.q (Q.move rfl) ?_
        refine XO.done ?_
        rw [show (sumBill t (l.map Prod.snd) i).energy + (makeG t (l.getD i default).2).1.energy = (sumBill t (l.map Prod.snd) (i + 1)).energy by rw [← eb]; rfl, show (sumBill t (l.map Prod.snd) i).amount + (makeG t (l.getD i default).2).1.amount = (sumBill t (l.map Prod.snd) (i + 1)).amount by rw [← eb]; rfl, show (sumBill t (l.map Prod.snd) i).credit + (makeG t (l.getD i default).2).1.credit = (sumBill t (l.map Prod.snd) (i + 1)).credit by rw [← eb]; rfl, show (sumBill t (l.map Prod.snd) i).due + (makeG t (l.getD i default).2).1.due = (sumBill t (l.map Prod.snd) (i + 1)).due by rw [← eb]; rfl]
        exact ih0 (i + 1, v36, h36) _ _ ⟨by dsimp only; omega, by dsimp only; rw [bills_snoc, eb]; exact O36, by dsimp only; rw [errTo, he, if_neg (by decide), map_snd_at]; exact Decidable.of_not_not c2⟩ (by first | omega | (dsimp only; omega)) (.c rfl (.c rfl (.base 90 rfl rfl))) inferInstance
    · have _t1 := True.intro
      have hin : i = l.length := by omega
      subst hin
      have cA := Arr.clip (OArr.arr (s := OO))
      refine XK.exit rfl ?_
      refine XK.seq ?_
      refine XK.drawn [0, 2, 3, 5] [b8] [] (.q 0 (.q 2 (.br 1 true (.q 3 (.br 4 true (.q 5 .done) .stop)) .stop))) Try.mixed rfl (by kernel_rfl) ?_
      refine XT.q rfl rfl (Q.move rfl) ?_
      refine XT.q rfl rfl (Q.ldA [_, _, _, _] rfl rfl rfl) ?_
      refine XT.call rfl rfl Try.call49 rfl rfl rfl (clip_spec vo ko ((List.range l.length).map (billAt t (l.map Prod.snd)))) (fun v60 s60 R60 => ?_) XT.stop
      obtain ⟨rfl, rfl⟩ := R60
      dsimp only [List.cons_append, List.nil_append]
      refine ⟨inferInstance, ?_⟩
      refine XT.q rfl rfl (Q.assign rfl) ?_
      refine XT.st rfl rfl rfl rfl rfl ⟨inferInstance, ?_⟩ XT.stop
      refine XT.q rfl rfl (Q.assign rfl) ?_
      refine XT.done ?_
      refine XK.rt [ko] Try.func12 Try.results12 (.t rfl (.cell [_, _, _, _] rfl rfl rfl (.t rfl .n))) ?_
      have hw0 : totalG t (l.map Prod.snd) = ((List.range l.length).map (billAt t (l.map Prod.snd)), sumBill t (l.map Prod.snd) l.length, 0) := by rw [totalG, if_neg (by omega), hml, he, if_neg (by decide)]
      rw [hw0]
      exact ⟨_, ko, rfl, rfl, cA⟩
end Go.X

set_option linter.unusedSimpArgs false
set_option linter.unusedVariables false
set_option maxRecDepth 20000
namespace Go.X
open Go.Proofs
theorem in11 (n a b : Int) : Spec Try.prog 95 #[.int .i64 n, .int .i64 a, .int .i64 b] [] [] (fun v hs => v = .bool (inF n a b) ∧ hs = []) := by
  refine Spec.intro (fn := Try.f95) (N := 15) Try.func95 rfl Try.ntmps95 rfl fun B => ?_
  refine XK.seq ?_
  refine XK.region rfl ?_
  refine XO.q (Q.assign rfl) ?_
  refine XO.done ?_
  refine XK.seq ?_
  refine XK.region rfl ?_
  refine XO.q (Q.move rfl) ?_
  refine XO.q (Q.move rfl) ?_
  refine XO.q (Q.geq rfl rfl) ?_
  refine XO.q (Q.move rfl) ?_
  refine XO.q (Quiet.guardT rfl rfl fun g11 p11 => Q.move rfl) ?_
  refine XO.q (Quiet.guardT rfl rfl fun g12 p12 => Q.move rfl) ?_
  refine XO.q (Quiet.guardT rfl rfl fun g13 p13 => Q.leq (lzv g13 rfl) (lzv g13 rfl)) ?_
  refine XO.q (Q.and rfl (fun hp => lzv hp rfl)) ?_
  refine XO.q (Q.assign rfl) ?_
  refine XO.done ?_
  refine XK.rt [] Try.func95 Try.results95 (.t rfl .n) ?_
  exact ⟨rfl, rfl⟩
theorem rtariff11 (t : MTariff) (vp vt : Value) (hp ht : PHeap) [jp : Arr vp encI 1 hp t.price] [jt : Arr vt encTier 2 ht t.tiers] : Spec Try.prog 94 #[.agg #[vp, .int .i64 t.base, vt, .int .i64 t.credit]] [] [hp, ht] (fun v hs => v = .int .i64 (rightG t) ∧ hs = []) := by
  have lp := jp.le
  have lt := jt.le
  refine Spec.intro (fn := Try.f94) (N := 76) Try.func94 rfl Try.ntmps94 rfl fun B => ?_
  refine XK.seq ?_
  refine XK.region rfl ?_
  refine XO.box rfl fun b1 => ?_
  refine XO.q (Q.assign rfl) ?_
  refine XO.done ?_
  refine XK.seq ?_
  refine XK.seq ?_
  refine XK.region rfl ?_
  refine XO.q (Q.fieldAddr rfl) ?_
  refine XO.q (Q.ld rfl rfl) ?_
  refine XO.len rfl fun l9 => ?_
  refine XO.q (Q.neq rfl rfl) ?_
  refine XO.done ?_
  refine XK.if rfl (fun c0 => ?_) (fun c0 => ?_)
  · have _t0 := True.intro
    refine XK.seq ?_
    refine XK.region rfl ?_
    refine XO.q (Q.assign rfl) ?_
    refine XO.done ?_
    refine XK.rt [] Try.func94 Try.results94 (.t rfl .n) ?_
    exact ⟨by rw [rightG, if_pos c0], rfl⟩
  · have _t0 := True.intro
    refine XK.skip ?_
    refine XK.seq ?_
    refine XK.seq ?_
    refine XK.region rfl ?_
    refine XO.q (Q.fieldAddr rfl) ?_
    refine XO.q (Q.ld rfl rfl) ?_
    refine XO.len rfl fun l13 => ?_
    refine XO.q (Q.gtr rfl rfl) ?_
    refine XO.done ?_
    refine XK.if rfl (fun c1 => ?_) (fun c1 => ?_)
    · have _t1 := True.intro
      refine XK.seq ?_
      refine XK.region rfl ?_
      refine XO.q (Q.assign rfl) ?_
      refine XO.done ?_
      refine XK.rt [] Try.func94 Try.results94 (.t rfl .n) ?_
      exact ⟨by rw [rightG, if_neg c0, if_pos c1], rfl⟩
    · have _t1 := True.intro
      have pl : t.price.length = 24 := by omega
      refine XK.skip ?_
      refine XK.seq ?_
      refine XK.seq ?_
      refine XK.region rfl ?_
      refine XO.q (Q.assign rfl) ?_
      refine XO.done ?_
      refine XK.block ?_
      refine XK.while (X := Nat) [2, 3, 15, 16, 17, 18, 19, 20, 21, 22, 23, 24, 25] (fun i => [(3, some (.int .i64 (i : Nat)))]) (fun i => []) (fun i => i ≤ 24 ∧ ∀ j, j < i → 0 ≤ t.price.getD j 0 ∧ t.price.getD j 0 ≤ 1000) (fun i => 24 - i) (0) [] rfl ⟨by omega, fun j hj => by omega⟩ (.c rfl (.base 0 rfl rfl)) ?_
      rintro i ⟨hi, hv⟩ ih0
      dsimp only [List.cons_append, List.nil_append] at ih0 ⊢
      refine XK.seq ?_
      refine XK.seq ?_
      refine XK.region rfl ?_
      refine XO.q (Q.move rfl) ?_
      refine XO.q (Q.lss rfl rfl) ?_
      refine XO.done ?_
      refine XK.if rfl (fun c2 => ?_) (fun c2 => ?_)
      · have _t2 := True.intro
        refine XK.skip ?_
        refine XK.seq ?_
        refine XK.block ?_
        refine XK.seq ?_
        refine XK.region rfl ?_
        refine XO.q (Q.fieldAddr rfl) ?_
        refine XO.q (Q.ld rfl rfl) ?_
        refine XO.q (Q.move rfl) ?_
        refine XO.ix rfl rfl (by omega) (by omega) fun i22 => ?_
        refine XO.q (Q.ldE rfl (by first | assumption | omega) rfl) ?_
        refine XO.call Try.call95 rfl rfl rfl (in11 _ _ _) fun v24 s24 R24 => ?_
        obtain ⟨rfl, rfl⟩ := R24
        dsimp only [List.cons_append, List.nil_append]
        refine XO.q (Q.not rfl) ?_
        refine XO.done ?_
        refine XK.if rfl (fun c3 => ?_) (fun c3 => ?_)
        · have _t3 := True.intro
          refine XK.seq ?_
          refine XK.region rfl ?_
          refine XO.q (Q.assign rfl) ?_
          refine XO.done ?_
          refine XK.rt [] Try.func94 Try.results94 (.t rfl .n) ?_
          exact ⟨by rw [right_price c0 c1 (by omega) c3], rfl⟩
        · have _t3 := True.intro
          refine XK.skip ?_
          refine XK.inBlock ?_
          refine XK.region rfl ?_
          refine XO.q (Q.move rfl) ?_
          refine XO.q (Q.add rfl rfl ⟨by omega, by omega⟩) ?_
          refine XO.q (Q.assign rfl) ?_
          refine XO.done ?_
          exact ih0 (i + 1) _ _ ⟨by omega, fun j hj => (by rcases Nat.lt_or_ge j i with h3 | h3; exact hv j h3; obtain rfl : j = i := (by omega); exact inF_iff.1 (Decidable.of_not_not c3))⟩ (by first | omega | (dsimp only; omega)) (.c rfl (.base 26 rfl rfl)) inferInstance
      · have _t2 := True.intro
        have hi24 : i = 24 := by omega
        subst hi24
        refine XK.exit rfl ?_
        refine XK.seq ?_
        refine XK.region rfl ?_
        refine XO.q (Q.assign rfl) ?_
        refine XO.q (Q.assign rfl) ?_
        refine XO.done ?_
        refine XK.seq ?_
        refine XK.seq ?_
        refine XK.region rfl ?_
        refine XO.q (Q.assign rfl) ?_
        refine XO.done ?_
        refine XK.block ?_
        refine XK.while (X := Nat) [2, 4, 5, 6, 26, 27, 28, 29, 30, 31, 32, 33, 34, 35, 36, 37, 38, 39, 40, 41, 42, 43, 44, 45, 46, 47, 48, 49, 50, 51, 52, 53, 54, 55, 56, 57, 58, 59, 60, 61, 62, 63, 64, 65] (fun i => [(4, some (.int .i64 (pminT t i))), (5, some (.int .i64 (ppctT t i))), (6, some (.int .i64 (i : Nat)))]) (fun i => []) (fun i => i ≤ t.tiers.length ∧ tiersOk t i = true) (fun i => t.tiers.length - i) (0) [] rfl ⟨by omega, rfl⟩ (.c rfl (.c rfl (.c rfl (.base 0 rfl rfl)))) ?_
        rintro i ⟨hi, hall⟩ ih1
        dsimp only [List.cons_append, List.nil_append] at ih1 ⊢
        have pm := pm_ok hall
        refine XK.seq ?_
        refine XK.seq ?_
        refine XK.region rfl ?_
        refine XO.q (Q.move rfl) ?_
        refine XO.q (Q.fieldAddr rfl) ?_
        refine XO.q (Q.ld rfl rfl) ?_
        refine XO.len rfl fun l29 => ?_
        refine XO.q (Q.lss rfl rfl) ?_
        refine XO.done ?_
        refine XK.if rfl (fun c4 => ?_) (fun c4 => ?_)
        · have _t4 := True.intro
          refine XK.skip ?_
          refine XK.seq ?_
          refine XK.block ?_
          refine XK.seq ?_
          refine XK.seq ?_
          refine XK.region rfl ?_
          refine XO.q (Q.fieldAddr rfl) ?_
          refine XO.q (Q.ld rfl rfl) ?_
          refine XO.q (Q.move rfl) ?_
          refine XO.ix rfl rfl (by omega) (by omega) fun i36 => ?_
          refine XO.q (Q.fieldQ rfl (by first | assumption | omega)) ?_
          refine XO.q (Q.ldE rfl (by first | assumption | omega) rfl) ?_
          refine XO.q (Q.move rfl) ?_
          refine XO.q (Q.add rfl rfl ⟨by omega, by omega⟩) ?_
          refine XO.call Try.call95 rfl rfl rfl (in11 _ _ _) fun v41 s41 R41 => ?_
          obtain ⟨rfl, rfl⟩ := R41
          dsimp only [List.cons_append, List.nil_append]
          refine XO.q (Q.not rfl) ?_
          refine XO.q (Q.move rfl) ?_
          refine XO.q (Quiet.guardF rfl rfl fun g44 p44 => Q.fieldAddr rfl) ?_
          refine XO.q (Quiet.guardF rfl rfl fun g45 p45 => Q.ld (lzv g45 rfl) rfl) ?_
          refine XO.q (Quiet.guardF rfl rfl fun g46 p46 => Q.move rfl) ?_
          refine XO.q (Quiet.guardF rfl rfl fun g47 p47 => Q.ix (lzv g47 rfl) (lzv g47 rfl) (by omega) (by omega)) ?_
          refine XO.q (Quiet.guardF rfl rfl fun g48 p48 => Q.fieldQ (lzv g48 rfl) (by first | assumption | omega)) ?_
          refine XO.q (Quiet.guardF rfl rfl fun g49 p49 => Q.ldE (lzv g49 rfl) (by first | assumption | omega) rfl) ?_
          refine XO.q (Quiet.guardF rfl rfl fun g50 p50 => Q.move rfl) ?_
          refine XO.gcallF rfl rfl Try.call95 rfl (fun g51 => .c (lzv g51 rfl) (.c (lzv g51 rfl) (.c rfl .n))) rfl (fun g51 p51 => in11 _ _ _) ?_
          refine XO.q (Quiet.guardF rfl rfl fun g52 p52 => Q.not (lzv g52 rfl)) ?_
          refine XO.q (Q.or rfl (fun hp => lzv hp rfl)) ?_
          refine XO.done ?_
          refine XK.if rfl (fun c5 => ?_) (fun c5 => ?_)
          · have _t5 := True.intro
            refine XK.seq ?_
            refine XK.region rfl ?_
            refine XO.q (Q.assign rfl) ?_
            refine XO.done ?_
            refine XK.rt [] Try.func94 Try.results94 (.t rfl .n) ?_
            exact ⟨by rw [right_tier c0 c1 (by omega) ((tier_ref hall).1 c5)], rfl⟩
          · have _t5 := True.intro
            have nb : ¬ badTier t i := fun hb => c5 ((tier_ref hall).2 hb)
            refine XK.skip ?_
            refine XK.seq ?_
            refine XK.region rfl ?_
            refine XO.q (Q.fieldAddr rfl) ?_
            refine XO.q (Q.ld rfl rfl) ?_
            refine XO.q (Q.move rfl) ?_
            refine XO.ix rfl rfl (by omega) (by omega) fun i57 => ?_
            refine XO.q (Q.fieldQ rfl (by first | assumption | omega)) ?_
            refine XO.q (Q.ldE rfl (by first | assumption | omega) rfl) ?_
            refine XO.q (Q.assign rfl) ?_
            refine XO.done ?_
            refine XK.region rfl ?_
            refine XO.q (Q.fieldAddr rfl) ?_
            refine XO.q (Q.ld rfl rfl) ?_
            refine XO.q (Q.move rfl) ?_
            refine XO.ix rfl rfl (by omega) (by omega) fun i63 => ?_
            refine XO.q (Q.fieldQ rfl (by first | assumption | omega)) ?_
            refine XO.q (Q.ldE rfl (by first | assumption | omega) rfl) ?_
            refine XO.q (Q.assign rfl) ?_
            refine XO.done ?_
            refine XK.inBlock ?_
            refine XK.region rfl ?_
            refine XO.q (Q.move rfl) ?_
            refine XO.q (Q.add rfl rfl ⟨by omega, by omega⟩) ?_
            refine XO.q (Q.assign rfl) ?_
            refine XO.done ?_
            exact ih1 (i + 1) _ _ ⟨by omega, by rw [tiersOk, allTo_succ]; rw [tiersOk] at hall; rw [hall, Bool.true_and, Bool.not_eq_true', decide_eq_false_iff_not]; exact nb⟩ (by first | omega | (dsimp only; omega)) (.c rfl (.c rfl (.c rfl (.base 90 rfl rfl)))) inferInstance
        · have _t4 := True.intro
          refine XK.exit rfl ?_
          refine XK.seq ?_
          refine XK.seq ?_
          refine XK.region rfl ?_
          refine XO.q (Q.fieldAddr rfl) ?_
          refine XO.q (Q.ld rfl rfl) ?_
          refine XO.call Try.call95 rfl rfl rfl (in11 _ _ _) fun v68 s68 R68 => ?_
          obtain ⟨rfl, rfl⟩ := R68
          dsimp only [List.cons_append, List.nil_append]
          refine XO.q (Q.not rfl) ?_
          refine XO.q (Q.move rfl) ?_
          refine XO.q (Quiet.guardF rfl rfl fun g71 p71 => Q.fieldAddr rfl) ?_
          refine XO.q (Quiet.guardF rfl rfl fun g72 p72 => Q.ld (lzv g72 rfl) rfl) ?_
          refine XO.gcallF rfl rfl Try.call95 rfl (fun g73 => .c (lzv g73 rfl) (.c rfl (.c rfl .n))) rfl (fun g73 p73 => in11 _ _ _) ?_
          refine XO.q (Quiet.guardF rfl rfl fun g74 p74 => Q.not (lzv g74 rfl)) ?_
          refine XO.q (Q.or rfl (fun hp => lzv hp rfl)) ?_
          refine XO.done ?_
          refine XK.if rfl (fun c6 => ?_) (fun c6 => ?_)
          · have _t6 := True.intro
            refine XK.seq ?_
            refine XK.region rfl ?_
            refine XO.q (Q.assign rfl) ?_
            refine XO.done ?_
            refine XK.rt [] Try.func94 Try.results94 (.t rfl .n) ?_
            exact ⟨by rw [right_rest c0 c1 c6], rfl⟩
          · have _t6 := True.intro
            refine XK.skip ?_
            refine XK.seq ?_
            refine XK.region rfl ?_
            refine XO.q (Q.assign rfl) ?_
            refine XO.done ?_
            refine XK.rt [] Try.func94 Try.results94 (.t rfl .n) ?_
            have hin : i = t.tiers.length := by omega
            subst hin
            exact ⟨by rw [right_all c0 c1 (fun j hj => hv j (by omega)) hall c6], rfl⟩
theorem RMake_spec (t : MTariff) (vp vt : Value) (hp ht : PHeap) [jp : Arr vp encI 1 hp t.price] [jt : Arr vt encTier 2 ht t.tiers] (u : MUse) (vu : Value) (hu : PHeap) [ju : Arr vu encI 1 hu u.values] : Spec Try.prog 60 #[.agg #[vp, .int .i64 t.base, vt, .int .i64 t.credit], .agg #[vu, .int .i64 u.out]] [] [hp, ht, hu] (fun v hs => v = .tuple #[.agg #[.int .i64 (makeG t u).1.energy, .int .i64 (makeG t u).1.amount, .int .i64 (makeG t u).1.credit, .int .i64 (makeG t u).1.due], .int .i64 (makeG t u).2] ∧ hs = []) := by
  have lu := ju.le
  have lt := jt.le
  refine Spec.intro (fn := Try.f60) (N := 118) Try.func60 rfl Try.ntmps60 rfl fun B => ?_
  refine XK.seq ?_
  refine XK.region rfl ?_
  refine XO.box rfl fun b2 => ?_
  refine XO.box rfl fun b3 => ?_
  refine XO.alloc fun b4 => ?_
  refine XO.q (Q.assign rfl) ?_
  refine XO.done ?_
  refine XK.seq ?_
  refine XK.seq ?_
  refine XK.region rfl ?_
  refine XO.q (Q.ldA [_, _, _, _] rfl rfl rfl) ?_
  refine XO.call Try.call94 rfl rfl rfl (rtariff11 t vp vt hp ht) fun v12 s12 R12 => ?_
  obtain ⟨rfl, rfl⟩ := R12
  dsimp only [List.cons_append, List.nil_append]
  refine XO.q (Q.assign rfl) ?_
  refine XO.done ?_
  refine XK.seq ?_
  refine XK.region rfl ?_
  refine XO.q (Q.move rfl) ?_
  refine XO.q (Q.neq rfl rfl) ?_
  refine XO.done ?_
  refine XK.if rfl (fun c0 => ?_) (fun c0 => ?_)
  · have _t0 := True.intro
    refine XK.seq ?_
    refine XK.region rfl ?_
    refine XO.q (Q.build [_, _, _, _] (.n _)) ?_
    refine XO.q (Q.move rfl) ?_
    refine XO.st rfl rfl rfl ?_
    refine XO.q (Q.assign rfl) ?_
    refine XO.done ?_
    refine XK.rt [] Try.func60 Try.results60 (.cell [_, _, _, _] rfl rfl rfl (.t rfl .n)) ?_
    have hw0 : makeG t u = (default, rightG t) := by rw [makeG, if_pos c0]
    rw [hw0]
    exact ⟨rfl, rfl⟩
  · have _t0 := True.intro
    have k := right_ok (Decidable.of_not_not c0)
    have pl := k.len
    have bs := k.base
    have kc := k.credit
    refine XK.skip ?_
    refine XK.seq ?_
    refine XK.seq ?_
    refine XK.region rfl ?_
    refine XO.q (Q.fieldAddr rfl) ?_
    refine XO.q (Q.ld rfl rfl) ?_
    refine XO.len rfl fun l19 => ?_
    refine XO.q (Q.gtr rfl rfl) ?_
    refine XO.done ?_
    refine XK.if rfl (fun c1 => ?_) (fun c1 => ?_)
    · have _t1 := True.intro
      refine XK.seq ?_
      refine XK.region rfl ?_
      refine XO.q (Q.build [_, _, _, _] (.n _)) ?_
      refine XO.st rfl rfl rfl ?_
      refine XO.q (Q.assign rfl) ?_
      refine XO.done ?_
      refine XK.rt [] Try.func60 Try.results60 (.cell [_, _, _, _] rfl rfl rfl (.t rfl .n)) ?_
      have hw0 : makeG t u = (default, 2) := by rw [makeG, if_neg c0, if_pos c1]
      rw [hw0]
      exact ⟨rfl, rfl⟩
    · have _t1 := True.intro
      refine XK.skip ?_
      refine XK.seq ?_
      refine XK.region rfl ?_
      refine XO.q (Q.fieldAddr rfl) ?_
      refine XO.q (Q.ld rfl rfl) ?_
      refine XO.q (Q.build [_, _, _, _] (.c 1 1 rfl rfl rfl (.n _))) ?_
      refine XO.alloc fun b7 => ?_
      refine XO.st rfl rfl rfl ?_
      refine XO.done ?_
      refine XK.seq ?_
      refine XK.seq ?_
      refine XK.region rfl ?_
      refine XO.q (Q.assign rfl) ?_
      refine XO.done ?_
      refine XK.block ?_
      refine XK.while (X := Nat) [5, 8, 25, 26, 27, 28, 29, 30, 31, 32, 33, 34, 35, 36, 37, 38, 39, 40, 41, 42, 43, 44, 45, 46, 47, 48, 49, 50, 51, 52, 53, 54, 55, 56, 57, 58, 59, 60, 61, 62, 63, 64] (fun i => [(8, some (.int .i64 (i : Nat)))]) (fun i => [blk b7 [.int .i64 (energyTo u.values i), .int .i64 (amtTo t u.values i), .int .i64 0, .int .i64 0] 139]) (fun i => i ≤ u.values.length ∧ ∀ j, j < i → 0 ≤ u.values.getD j 0 ∧ u.values.getD j 0 ≤ 100000) (fun i => u.values.length - i) (0) [blk b7 [.int .i64 0, .int .i64 t.base, .int .i64 0, .int .i64 0] 139] rfl ⟨by omega, fun j hj => by omega⟩ (.c rfl (.base 0 rfl rfl)) ?_
      rintro i ⟨hi, hv⟩ ih0
      dsimp only [List.cons_append, List.nil_append] at ih0 ⊢
      refine XK.seq ?_
      refine XK.seq ?_
      refine XK.region rfl ?_
      refine XO.q (Q.move rfl) ?_
      refine XO.q (Q.fieldAddr rfl) ?_
      refine XO.q (Q.ld rfl rfl) ?_
      refine XO.len rfl fun l28 => ?_
      refine XO.q (Q.lss rfl rfl) ?_
      refine XO.done ?_
      refine XK.if rfl (fun c2 => ?_) (fun c2 => ?_)
      · have _t2 := True.intro
        refine XK.skip ?_
        refine XK.seq ?_
        refine XK.block ?_
        refine XK.seq ?_
        refine XK.seq ?_
        refine XK.region rfl ?_
        refine XO.q (Q.fieldAddr rfl) ?_
        refine XO.q (Q.ld rfl rfl) ?_
        refine XO.q (Q.move rfl) ?_
        refine XO.ix rfl rfl (by omega) (by omega) fun i35 => ?_
        refine XO.q (Q.ldE rfl (by first | assumption | omega) rfl) ?_
        refine XO.call Try.call95 rfl rfl rfl (in11 _ _ _) fun v37 s37 R37 => ?_
        obtain ⟨rfl, rfl⟩ := R37
        dsimp only [List.cons_append, List.nil_append]
        refine XO.q (Q.not rfl) ?_
        refine XO.done ?_
        refine XK.if rfl (fun c3 => ?_) (fun c3 => ?_)
        · have _t3 := True.intro
          refine XK.seq ?_
          refine XK.region rfl ?_
          refine XO.q (Q.build [_, _, _, _] (.n _)) ?_
          refine XO.st rfl rfl rfl ?_
          refine XO.q (Q.assign rfl) ?_
          refine XO.done ?_
          refine XK.rt [] Try.func60 Try.results60 (.cell [_, _, _, _] rfl rfl rfl (.t rfl .n)) ?_
          have hw0 : makeG t u = (default, 6) := make_bad_value c0 c1 (by omega) c3
          rw [hw0]
          exact ⟨rfl, rfl⟩
        · have _t3 := True.intro
          have xi := inF_iff.1 (Decidable.of_not_not c3)
          have rr := ref_rng k (n := i) hv
          have ro := ref_one k xi i
          change 0 ≤ u.values.getD i default * t.price.getD (i % 24) default ∧ u.values.getD i default * t.price.getD (i % 24) default ≤ _ at ro
          have ae := amtTo_eq t u.values i
          refine XK.skip ?_
          refine XK.seq ?_
          refine XK.drawn [0, 1, 2, 3, 4, 5, 6, 7, 8] [b7, b3] [] (.q 0 (.q 1 (.q 2 (.q 3 (.q 4 (.q 5 (.q 6 (.q 7 (.q 8 (.br 9 false .done .stop)))))))))) Try.mixed rfl (by kernel_rfl) ?_
          refine XT.q rfl rfl (Q.fieldAddr rfl) ?_
          refine XT.q rfl rfl (Q.ld rfl rfl) ?_
          refine XT.q rfl rfl (Q.fieldAddr rfl) ?_
          refine XT.q rfl rfl (Q.ld rfl rfl) ?_
          refine XT.q rfl rfl (Q.move rfl) ?_
          refine XT.ix rfl rfl rfl rfl (by omega) (by omega) fun i45 => ?_
          refine XT.q rfl rfl (Q.ldE rfl (by first | assumption | omega) rfl) ?_
          refine XT.q rfl rfl (Q.add rfl rfl ⟨by omega, by omega⟩) ?_
          rw [show (energyTo u.values i) + u.values.getD i default = energyTo u.values (i + 1) from rfl]
          refine XT.q rfl rfl (Q.fieldAddr rfl) ?_
          refine XT.st rfl rfl rfl rfl rfl ⟨inferInstance, ?_⟩ XT.stop
          refine XT.done ?_
          refine XK.drawn [0, 1, 2, 3, 4, 5, 6, 7, 8, 9, 10, 11, 12, 13, 14, 15] [b7, b3, b2] [] (.q 0 (.q 1 (.q 2 (.q 3 (.q 4 (.q 5 (.q 6 (.q 7 (.q 8 (.q 9 (.q 10 (.q 11 (.q 12 (.q 13 (.q 14 (.q 15 (.br 16 false .done .stop))))))))))))))))) Try.mixed rfl (by kernel_rfl) ?_
          refine XT.q rfl rfl (Q.fieldAddr rfl) ?_
          refine XT.q rfl rfl (Q.ld rfl rfl) ?_
          refine XT.q rfl rfl (Q.fieldAddr rfl) ?_
          refine XT.q rfl rfl (Q.ld rfl rfl) ?_
          refine XT.q rfl rfl (Q.move rfl) ?_
          refine XT.ix rfl rfl rfl rfl (by omega) (by omega) fun i54 => ?_
          refine XT.q rfl rfl (Q.ldE rfl (by first | assumption | omega) rfl) ?_
          refine XT.q rfl rfl (Q.fieldAddr rfl) ?_
          refine XT.q rfl rfl (Q.ld rfl rfl) ?_
          refine XT.q rfl rfl (Q.move rfl) ?_
          refine XT.q rfl rfl (Q.rem rfl rfl (by omega) (by omega)) ?_
          rw [show ((i : Int) % 24) = ((i % 24 : Nat) : Int) from rfl]
          refine XT.ix rfl rfl rfl rfl (by omega) (by omega) fun i60 => ?_
          refine XT.q rfl rfl (Q.ldE rfl (by first | assumption | omega) rfl) ?_
          refine XT.q rfl rfl (Q.mul rfl rfl ⟨by omega, by omega⟩) ?_
          refine XT.q rfl rfl (Q.add rfl rfl ⟨by omega, by omega⟩) ?_
          rw [show (amtTo t u.values i) + u.values.getD i default * t.price.getD (i % 24) default = amtTo t u.values (i + 1) from rfl]
          refine XT.q rfl rfl (Q.fieldAddr rfl) ?_
          refine XT.st rfl rfl rfl rfl rfl ⟨inferInstance, ?_⟩ XT.stop
          refine XT.done ?_
          refine XK.inBlock ?_
          refine XK.region rfl ?_
          refine XO.q (Q.move rfl) ?_
          refine XO.q (Q.add rfl rfl ⟨by omega, by omega⟩) ?_
          refine XO.q (Q.assign rfl) ?_
          refine XO.done ?_
          exact ih0 (i + 1) _ _ ⟨by omega, fun j hj => (by rcases Nat.lt_or_ge j i with h3 | h3; exact hv j h3; obtain rfl : j = i := (by omega); exact xi)⟩ (by first | omega | (dsimp only; omega)) (.c rfl (.base 83 rfl rfl)) inferInstance
      · have _t2 := True.intro
        have hin : i = u.values.length := by omega
        have uv := ref_vals (v := u.values) (by rw [hin] at hv; exact hv)
        rw [hin]
        rw [show amtTo t u.values u.values.length = amountL t u from amtTo_eq ..]
        clear ih0
        refine XK.exit rfl ?_
        refine XK.seq ?_
        refine XK.seq ?_
        refine XK.region rfl ?_
        refine XO.q (Q.fieldAddr rfl) ?_
        refine XO.q (Q.ld rfl rfl) ?_
        refine XO.call Try.call95 rfl rfl rfl (in11 _ _ _) fun v67 s67 R67 => ?_
        obtain ⟨rfl, rfl⟩ := R67
        dsimp only [List.cons_append, List.nil_append]
        refine XO.q (Q.not rfl) ?_
        refine XO.done ?_
        refine XK.if rfl (fun c4 => ?_) (fun c4 => ?_)
        · have _t4 := True.intro
          refine XK.seq ?_
          refine XK.region rfl ?_
          refine XO.q (Q.build [_, _, _, _] (.n _)) ?_
          refine XO.st rfl rfl rfl ?_
          refine XO.q (Q.assign rfl) ?_
          refine XO.done ?_
          refine XK.rt [] Try.func60 Try.results60 (.cell [_, _, _, _] rfl rfl rfl (.t rfl .n)) ?_
          have hw0 : makeG t u = (default, 6) := make_bad_out c0 c1 c4
          rw [hw0]
          exact ⟨rfl, rfl⟩
        · have _t4 := True.intro
          have q : UOk11 u := ⟨by omega, uv, inF_iff.1 (Decidable.of_not_not c4)⟩
          have ar := amount_rng k q
          have crr := credit_rng k q
          refine XK.skip ?_
          refine XK.seq ?_
          refine XK.region rfl ?_
          refine XO.q (Q.assign rfl) ?_
          refine XO.done ?_
          refine XK.seq ?_
          refine XK.seq ?_
          refine XK.region rfl ?_
          refine XO.q (Q.assign rfl) ?_
          refine XO.done ?_
          refine XK.block ?_
          refine XK.while (X := Nat) [9, 10, 70, 71, 72, 73, 74, 75, 76, 77, 78, 79, 80, 81, 82, 83, 84, 85, 86, 87, 88, 89, 90, 91, 92, 93, 94] (fun m => [(9, some (.int .i64 (pctR t u.out m))), (10, some (.int .i64 (m : Nat)))]) (fun m => []) (fun m => m ≤ t.tiers.length) (fun m => t.tiers.length - m) (0) [] rfl (by omega) (.c rfl (.c rfl (.base 0 rfl rfl))) ?_
          rintro m hm ih1
          dsimp only [List.cons_append, List.nil_append] at ih1 ⊢
          refine XK.seq ?_
          refine XK.seq ?_
          refine XK.region rfl ?_
          refine XO.q (Q.move rfl) ?_
          refine XO.q (Q.fieldAddr rfl) ?_
          refine XO.q (Q.ld rfl rfl) ?_
          refine XO.len rfl fun l73 => ?_
          refine XO.q (Q.lss rfl rfl) ?_
          refine XO.done ?_
          refine XK.if rfl (fun c5 => ?_) (fun c5 => ?_)
          · have _t5 := True.intro
            refine XK.skip ?_
            refine XK.seq ?_
            refine XK.block ?_
            refine XK.seq ?_
            refine XK.drawn [0, 1, 2, 3, 4, 5, 6, 7, 8] [b3, b2] [] (.q 0 (.q 1 (.q 2 (.q 3 (.q 4 (.q 5 (.q 6 (.q 7 (.q 8 .done))))))))) Try.mixed rfl (by kernel_rfl) ?_
            refine XT.q rfl rfl (Q.fieldAddr rfl) ?_
            refine XT.q rfl rfl (Q.ld rfl rfl) ?_
            refine XT.q rfl rfl (Q.fieldAddr rfl) ?_
            refine XT.q rfl rfl (Q.ld rfl rfl) ?_
            refine XT.q rfl rfl (Q.move rfl) ?_
            refine XT.ix rfl rfl rfl rfl (by omega) (by omega) fun i82 => ?_
            refine XT.q rfl rfl (Q.fieldQ rfl (by first | assumption | omega)) ?_
            refine XT.q rfl rfl (Q.ldE rfl (by first | assumption | omega) rfl) ?_
            refine XT.q rfl rfl (Q.geq rfl rfl) ?_
            refine XT.done ?_
            refine XK.if rfl (fun c6 => ?_) (fun c6 => ?_)
            · have _t6 := True.intro
              refine XK.drawn [0, 1, 2, 3, 4, 5, 6, 7, 8, 9] [b2] [] (.q 0 (.q 1 (.q 2 (.q 3 (.q 4 (.q 5 (.q 6 (.q 7 (.q 8 (.q 9 .done)))))))))) Try.mixed rfl (by kernel_rfl) ?_
              refine XT.q rfl rfl (Q.fieldAddr rfl) ?_
              refine XT.q rfl rfl (Q.ld rfl rfl) ?_
              refine XT.q rfl rfl (Q.move rfl) ?_
              refine XT.ix rfl rfl rfl rfl (by omega) (by omega) fun i89 => ?_
              refine XT.q rfl rfl (Q.fieldQ rfl (by first | assumption | omega)) ?_
              refine XT.q rfl rfl (Q.ldE rfl (by first | assumption | omega) rfl) ?_
              refine XT.q rfl rfl (Q.fieldAddr rfl) ?_
              refine XT.q rfl rfl (Q.ld rfl rfl) ?_
              refine XT.q rfl rfl (Q.min rfl rfl) ?_
              refine XT.q rfl rfl (Q.assign rfl) ?_
              refine XT.done ?_
              refine XK.inBlock ?_
              refine XK.region rfl ?_
              refine XO.q (Q.move rfl) ?_
              refine XO.q (Q.add rfl rfl ⟨by omega, by omega⟩) ?_
              refine XO.q (Q.assign rfl) ?_
              refine XO.done ?_
              rw [show min (t.tiers.getD m default).pct t.credit = pctR t u.out (m + 1) by rw [pctR, if_pos c6]]
              exact ih1 (m + 1) _ _ (by omega) (by first | omega | (dsimp only; omega)) (.c rfl (.c rfl (.base 56 rfl rfl))) inferInstance
            · have _t6 := True.intro
              refine XK.skip ?_
              refine XK.inBlock ?_
              refine XK.region rfl ?_
              refine XO.q (Q.move rfl) ?_
              refine XO.q (Q.add rfl rfl ⟨by omega, by omega⟩) ?_
              refine XO.q (Q.assign rfl) ?_
              refine XO.done ?_
              rw [show pctR t u.out m = pctR t u.out (m + 1) by rw [pctR, if_neg c6]]
              exact ih1 (m + 1) _ _ (by omega) (by first | omega | (dsimp only; omega)) (.c rfl (.c rfl (.base 46 rfl rfl))) inferInstance
          · have _t5 := True.intro
            have hin2 : m = t.tiers.length := by omega
            rw [hin2, pctR_all k]
            clear ih1
            refine XK.exit rfl ?_
            refine XK.seq ?_
            refine XK.region rfl ?_
            refine XO.q (Q.fieldAddr rfl) ?_
            refine XO.q (Q.ld rfl rfl) ?_
            refine XO.q (Q.move rfl) ?_
            refine XO.q (Q.mul rfl rfl ⟨by omega, by omega⟩) ?_
            refine XO.q (Q.quo rfl rfl (by omega) (by omega) (by omega)) ?_
            refine XO.q (Q.fieldAddr rfl) ?_
            refine XO.st rfl rfl rfl ?_
            refine XO.done ?_
            refine XK.seq ?_
            refine XK.seq ?_
            refine XK.region rfl ?_
            refine XO.q (Q.fieldAddr rfl) ?_
            refine XO.q (Q.ld rfl rfl) ?_
            refine XO.q (Q.move rfl) ?_
            refine XO.q (Q.mul rfl rfl ⟨by omega, by omega⟩) ?_
            refine XO.q (Q.rem rfl rfl (by omega) (by omega)) ?_
            refine XO.q (Q.geq rfl rfl) ?_
            refine XO.done ?_
            refine XK.if rfl (fun c7 => ?_) (fun c7 => ?_)
            · have _t7 := True.intro
              refine XK.region rfl ?_
              refine XO.q (Q.fieldAddr rfl) ?_
              refine XO.q (Q.ld rfl rfl) ?_
              refine XO.q (Q.add rfl rfl ⟨by omega, by omega⟩) ?_
              rw [credit_up crr.1 c7]
              refine XO.q (Q.fieldAddr rfl) ?_
              refine XO.st rfl rfl rfl ?_
              refine XO.done ?_
              refine XK.seq ?_
              refine XK.region rfl ?_
              refine XO.q (Q.fieldAddr rfl) ?_
              refine XO.q (Q.ld rfl rfl) ?_
              refine XO.q (Q.fieldAddr rfl) ?_
              refine XO.q (Q.ld rfl rfl) ?_
              refine XO.q (Q.sub rfl rfl ⟨by omega, by omega⟩) ?_
              refine XO.q (Q.fieldAddr rfl) ?_
              refine XO.st rfl rfl rfl ?_
              refine XO.done ?_
              refine XK.seq ?_
              refine XK.region rfl ?_
              refine XO.q (Q.ldA [_, _, _, _] rfl rfl rfl) ?_
              refine XO.st rfl rfl rfl ?_
              refine XO.q (Q.assign rfl) ?_
              refine XO.done ?_
              refine XK.rt [] Try.func60 Try.results60 (.cell [_, _, _, _] rfl rfl rfl (.t rfl .n)) ?_
              have hw0 : makeG t u = (billL t u, 0) := make_fine k q
              rw [hw0]
              exact ⟨rfl, rfl⟩
            · have _t7 := True.intro
              rw [credit_down crr.1 c7]
              refine XK.skip ?_
              refine XK.seq ?_
              refine XK.region rfl ?_
              refine XO.q (Q.fieldAddr rfl) ?_
              refine XO.q (Q.ld rfl rfl) ?_
              refine XO.q (Q.fieldAddr rfl) ?_
              refine XO.q (Q.ld rfl rfl) ?_
              refine XO.q (Q.sub rfl rfl ⟨by omega, by omega⟩) ?_
              refine XO.q (Q.fieldAddr rfl) ?_
              refine XO.st rfl rfl rfl ?_
              refine XO.done ?_
              refine XK.seq ?_
              refine XK.region rfl ?_
              refine XO.q (Q.ldA [_, _, _, _] rfl rfl rfl) ?_
              refine XO.st rfl rfl rfl ?_
              refine XO.q (Q.assign rfl) ?_
              refine XO.done ?_
              refine XK.rt [] Try.func60 Try.results60 (.cell [_, _, _, _] rfl rfl rfl (.t rfl .n)) ?_
              have hw0 : makeG t u = (billL t u, 0) := make_fine k q
              rw [hw0]
              exact ⟨rfl, rfl⟩
theorem RTotal_spec (t : MTariff) (vp vt : Value) (hp ht : PHeap) [jp : Arr vp encI 1 hp t.price] [jt : Arr vt encTier 2 ht t.tiers] (l : List (Value × MUse)) (vl : Value) (hl hL : PHeap) [jl : Arr vl encUse 2 hl l] (aL : ∀ i, i < l.length → Arr (l.getD i default).1 encI 1 hL (l.getD i default).2.values) :
    Spec Try.prog 61 #[.agg #[vp, .int .i64 t.base, vt, .int .i64 t.credit], vl] [] [hp, ht, hl, hL] (fun v hs => ∃ v1 k1, v = .tuple #[v1, .agg #[.int .i64 (totalG t (l.map Prod.snd)).2.1.energy, .int .i64 (totalG t (l.map Prod.snd)).2.1.amount, .int .i64 (totalG t (l.map Prod.snd)).2.1.credit, .int .i64 (totalG t (l.map Prod.snd)).2.1.due], .int .i64 (totalG t (l.map Prod.snd)).2.2] ∧ hs = [k1] ∧ OArr v1 encBill 4 139 k1 (totalG t (l.map Prod.snd)).1) := by
  have hnil : OArr (.slice none 0 0) encBill 4 139 emp ([] : List MBill) := OArr.nil (fun _ => rfl)
  have ll := jl.le
  have hml : (l.map Prod.snd).length = l.length := List.length_map ..
  refine Spec.intro (fn := Try.f61) (N := 62) Try.func61 rfl Try.ntmps61 rfl fun B => ?_
  refine XK.seq ?_
  refine XK.region rfl ?_
  refine XO.box rfl fun b2 => ?_
  refine XO.q (Q.assign rfl) ?_
  refine XO.alloc fun b5 => ?_
  refine XO.q (Q.assign rfl) ?_
  refine XO.done ?_
  refine XK.seq ?_
  refine XK.seq ?_
  refine XK.region rfl ?_
  refine XO.q (Q.move rfl) ?_
  refine XO.len rfl fun l13 => ?_
  refine XO.q (Q.gtr rfl rfl) ?_
  refine XO.done ?_
  refine XK.if rfl (fun c0 => ?_) (fun c0 => ?_)
  · have _t0 := True.intro
    refine XK.seq ?_
    refine XK.region rfl ?_
    refine XO.q (Q.build [_, _, _, _] (.n _)) ?_
    refine XO.q (Q.assign rfl) ?_
    refine XO.st rfl rfl rfl ?_
    refine XO.q (Q.assign rfl) ?_
    refine XO.done ?_
    refine XK.rt [emp] Try.func61 Try.results61 (.t rfl (.cell [_, _, _, _] rfl rfl rfl (.t rfl .n))) ?_
    have hw0 : totalG t (l.map Prod.snd) = ([], default, 2) := by rw [totalG, if_pos (by omega)]
    rw [hw0]
    exact ⟨.slice none 0 0, emp, rfl, rfl, OArr.nil (fun _ => rfl)⟩
  · have _t0 := True.intro
    refine XK.skip ?_
    refine XK.seq ?_
    refine XK.region rfl ?_
    refine XO.q (Q.assign rfl) ?_
    refine XO.done ?_
    refine XK.seq ?_
    refine XK.region rfl ?_
    refine XO.alloc fun b8 => ?_
    refine XO.done ?_
    refine XK.seq ?_
    refine XK.seq ?_
    refine XK.region rfl ?_
    refine XO.q (Q.assign rfl) ?_
    refine XO.done ?_
    refine XK.block ?_
    refine XK.while (X := Nat × Value × PHeap) [4, 6, 7, 9, 10, 11, 16, 17, 18, 19, 20, 21, 22, 23, 24, 25, 26, 27, 28, 29, 30, 31, 32, 33, 34, 35, 36, 37, 38, 39, 40, 41, 42, 43, 44, 45, 46, 47, 48, 49, 50, 51, 52, 53, 54, 55, 56, 57, 58, 59] (fun ⟨i, vo, ko⟩ => [(9, some (.int .i64 (i : Nat))), (7, some (vo))]) (fun ⟨i, vo, ko⟩ => [ko, blk b8 [.int .i64 (sumBill t (l.map Prod.snd) i).energy, .int .i64 (sumBill t (l.map Prod.snd) i).amount, .int .i64 (sumBill t (l.map Prod.snd) i).credit, .int .i64 (sumBill t (l.map Prod.snd) i).due] 139]) (fun ⟨i, vo, ko⟩ => i ≤ l.length ∧ OArr vo encBill 4 139 ko ((List.range i).map (billAt t (l.map Prod.snd))) ∧ errTo t (l.map Prod.snd) i = 0) (fun ⟨i, vo, ko⟩ => l.length - i) (0, .slice none 0 0, emp) [emp, blk b8 [.int .i64 0, .int .i64 0, .int .i64 0, .int .i64 0] 139] rfl ⟨by omega, hnil, rfl⟩ (.c rfl (.c rfl (.base 0 rfl rfl))) ?_
    rintro ⟨i, vo, ko⟩ ⟨hi, OO, he⟩ ih0
    dsimp only [List.cons_append, List.nil_append] at ih0 ⊢
    refine XK.seq ?_
    refine XK.seq ?_
    refine XK.region rfl ?_
    refine XO.q (Q.move rfl) ?_
    refine XO.q (Q.move rfl) ?_
    refine XO.len rfl fun l18 => ?_
    refine XO.q (Q.lss rfl rfl) ?_
    refine XO.done ?_
    refine XK.if rfl (fun c1 => ?_) (fun c1 => ?_)
    · have _t1 := True.intro
      have ai := aL i (by omega)
      have br := make_rng t (l.getD i default).2
      have br1 := br.e
      have br2 := br.a
      have br3 := br.c
      have br4 := br.d
      obtain ⟨s1, s2, s3, s4⟩ := sumBill_rng t (l.map Prod.snd) i
      have eb : billAt t (l.map Prod.snd) i = (makeG t (l.getD i default).2).1 := by rw [billAt, map_snd_at]
      refine XK.skip ?_
      refine XK.seq ?_
      refine XK.block ?_
      refine XK.seq ?_
      refine XK.meet (X := Nat) [10, 11, 22, 23, 24, 25, 26, 27, 28, 29, 30] (fun b10 => [(10, some (ptr b10 0)), (11, some (.int .i64 (makeG t (l.getD i default).2).2))]) (fun b10 => [blk b10 [.int .i64 (makeG t (l.getD i default).2).1.energy, .int .i64 (makeG t (l.getD i default).2).1.amount, .int .i64 (makeG t (l.getD i default).2).1.credit, .int .i64 (makeG t (l.getD i default).2).1.due] 139]) (fun b10 => True) [] ?_ ?_
      · rintro b10 _
        dsimp only [List.cons_append, List.nil_append]
        refine XK.seq ?_
        refine XK.seq ?_
        refine XK.region rfl ?_
        refine XO.q (Q.move rfl) ?_
        refine XO.q (Q.neq rfl rfl) ?_
        refine XO.done ?_
        refine XK.if rfl (fun c2 => ?_) (fun c2 => ?_)
        · have _t2 := True.intro
          refine XK.seq ?_
          refine XK.region rfl ?_
          refine XO.q (Q.build [_, _, _, _] (.n _)) ?_
          refine XO.q (Q.move rfl) ?_
          refine XO.q (Q.assign rfl) ?_
          refine XO.st rfl rfl rfl ?_
          refine XO.q (Q.assign rfl) ?_
          refine XO.done ?_
          refine XK.rt [emp] Try.func61 Try.results61 (.t rfl (.cell [_, _, _, _] rfl rfl rfl (.t rfl .n))) ?_
          have hw0 : totalG t (l.map Prod.snd) = ([], default, (makeG t (l.getD i default).2).2) := by
            have e1 : errTo t (l.map Prod.snd) (i + 1) = (makeG t (l.getD i default).2).2 := by rw [errTo, he, if_neg (by decide), map_snd_at]
            have e2 : errTo t (l.map Prod.snd) (l.map Prod.snd).length = (makeG t (l.getD i default).2).2 := by rw [errTo_stay (n := i + 1) (by rw [e1]; exact c2) (by omega), e1]
            rw [totalG, if_neg (by omega), e2, if_pos c2]
          rw [hw0]
          exact ⟨.slice none 0 0, emp, rfl, rfl, OArr.nil (fun _ => rfl)⟩
        · have _t2 := True.intro
          refine XK.skip ?_
          refine XK.seq ?_
          refine XK.region rfl ?_
          refine XO.q (Q.move rfl) ?_
          refine XO.q (Q.ldA [_, _, _, _] rfl rfl rfl) ?_
          refine XO.lit [_, _, _, _] [_, _, _, _] [(makeG t (l.getD i default).2).1] encBill (by rfl) (by rfl) rfl (by rfl) (by exact .c 0 4 rfl rfl rfl (.n _)) (fun _ => rfl) (by rfl) rfl (by infer_instance) rfl fun v37 h37 O37 => ?_
          refine XO.append rfl rfl rfl rfl (by simp only [List.length_map, List.length_range, List.length_cons, List.length_nil]; omega) fun v38 h38 O38 => ?_
          refine XO.q (Q.assign rfl) ?_
          refine XO.done ?_
          refine XK.region rfl ?_
          refine XO.q (Q.fieldAddr rfl) ?_
          refine XO.q (Q.ld rfl rfl) ?_
          refine XO.q (Q.fieldAddr rfl) ?_
          refine XO.q (Q.ld rfl rfl) ?_
          refine XO.q (Q.add rfl rfl ⟨by omega, by omega⟩) ?_
          refine XO.q (Q.fieldAddr rfl) ?_
          refine XO.q (Q.ld rfl rfl) ?_
          refine XO.q (Q.fieldAddr rfl) ?_
          refine XO.q (Q.ld rfl rfl) ?_
          refine XO.q (Q.add rfl rfl ⟨by omega, by omega⟩) ?_
          refine XO.q (Q.fieldAddr rfl) ?_
          refine XO.q (Q.ld rfl rfl) ?_
          refine XO.q (Q.fieldAddr rfl) ?_
          refine XO.q (Q.ld rfl rfl) ?_
          refine XO.q (Q.add rfl rfl ⟨by omega, by omega⟩) ?_
          refine XO.q (Q.fieldAddr rfl) ?_
          refine XO.q (Q.ld rfl rfl) ?_
          refine XO.q (Q.fieldAddr rfl) ?_
          refine XO.q (Q.ld rfl rfl) ?_
          refine XO.q (Q.add rfl rfl ⟨by omega, by omega⟩) ?_
          refine XO.q (Q.build [_, _, _, _] (.c 0 1 rfl rfl rfl (.c 1 1 rfl rfl rfl (.c 2 1 rfl rfl rfl (.c 3 1 rfl rfl rfl (.n _)))))) ?_
          refine XO.st rfl rfl rfl ?_
          refine XO.done ?_
          refine XK.inBlock ?_
          refine XK.region rfl ?_
          refine XO.q (Q.move rfl) ?_
          refine XO.q (Q.add rfl rfl ⟨by omega, by omega⟩) ?_
          refine XO.q (Q.assign rfl) ?_
          refine XO.done ?_
          rw [show (sumBill t (l.map Prod.snd) i).energy + (makeG t (l.getD i default).2).1.energy = (sumBill t (l.map Prod.snd) (i + 1)).energy by rw [← eb]; rfl, show (sumBill t (l.map Prod.snd) i).amount + (makeG t (l.getD i default).2).1.amount = (sumBill t (l.map Prod.snd) (i + 1)).amount by rw [← eb]; rfl, show (sumBill t (l.map Prod.snd) i).credit + (makeG t (l.getD i default).2).1.credit = (sumBill t (l.map Prod.snd) (i + 1)).credit by rw [← eb]; rfl, show (sumBill t (l.map Prod.snd) i).due + (makeG t (l.getD i default).2).1.due = (sumBill t (l.map Prod.snd) (i + 1)).due by rw [← eb]; rfl]
          exact ih0 (i + 1, v38, h38) _ _ ⟨by dsimp only; omega, by dsimp only; rw [bills_snoc, eb]; exact O38, by dsimp only; rw [errTo, he, if_neg (by decide), map_snd_at]; exact Decidable.of_not_not c2⟩ (by first | omega | (dsimp only; omega)) (.c rfl (.c rfl (.base 100 rfl rfl))) inferInstance
      · intro mtr8
        dsimp only [List.cons_append, List.nil_append] at mtr8
        refine XK.drawn [0, 1, 2, 3, 4, 6, 7, 8, 11] [b2] [] (.q 0 (.q 1 (.q 2 (.q 3 (.q 4 (.br 5 true (.q 6 (.q 7 (.q 8 (.br 9 true (.br 10 true (.q 11 .done) .stop) .stop)))) (.br 9 true (.br 5 true (.q 6 (.q 7 (.q 8 (.br 10 true (.q 11 .done) .stop)))) .stop) .stop))))))) Try.mixed rfl (by kernel_rfl) ?_
        refine XT.q rfl rfl (Q.ldA [_, _, _, _] rfl rfl rfl) ?_
        refine XT.q rfl rfl (Q.move rfl) ?_
        refine XT.q rfl rfl (Q.move rfl) ?_
        refine XT.ix rfl rfl rfl rfl (by omega) (by omega) fun i26 => ?_
        refine XT.q rfl rfl (Q.ldEA [_, _] rfl (by first | assumption | omega) rfl rfl) ?_
        refine XT.call rfl rfl Try.call60 rfl rfl rfl (RMake_spec t vp vt hp ht (l.getD i default).2 (l.getD i default).1 hL) (fun v28 s28 R28 => ?_) ?_
        · skip
          obtain ⟨rfl, rfl⟩ := R28
          dsimp only [List.cons_append, List.nil_append]
          refine ⟨inferInstance, ?_⟩
          refine XT.q rfl rfl (Q.move rfl) ?_
          refine XT.q rfl rfl (Q.extract rfl rfl) ?_
          refine XT.q rfl rfl (Q.extract rfl rfl) ?_
          refine XT.alloc rfl rfl (fun b10 => ⟨inferInstance, ?_⟩) XT.stop
          refine XT.st rfl rfl rfl rfl rfl ⟨inferInstance, ?_⟩ XT.stop
          refine XT.q rfl rfl (Q.assign rfl) ?_
          refine XT.done ?_
          exact mtr8 (b10) _ _ trivial (.c rfl (.c rfl (.base 11 rfl rfl))) inferInstance
        · skip
          refine XT.alloc rfl rfl (fun b10 => ⟨inferInstance, ?_⟩) XT.stop
          refine XT.call rfl rfl Try.call60 rfl rfl rfl (RMake_spec t vp vt hp ht (l.getD i default).2 (l.getD i default).1 hL) (fun v28 s28 R28 => ?_) XT.stop
          obtain ⟨rfl, rfl⟩ := R28
          dsimp only [List.cons_append, List.nil_append]
          refine ⟨inferInstance, ?_⟩
          refine XT.q rfl rfl (Q.move rfl) ?_
          refine XT.q rfl rfl (Q.extract rfl rfl) ?_
          refine XT.q rfl rfl (Q.extract rfl rfl) ?_
          refine XT.st rfl rfl rfl rfl rfl ⟨inferInstance, ?_⟩ XT.stop
          refine XT.q rfl rfl (Q.assign rfl) ?_
          refine XT.done ?_
          exact mtr8 (b10) _ _ trivial (.c rfl (.c rfl (.base 11 rfl rfl))) inferInstance
    · have _t1 := True.intro
      have hin : i = l.length := by omega
      subst hin
      refine XK.exit rfl ?_
      refine XK.seq ?_
      refine XK.drawn [0, 1, 2, 4] [b8] [] (.q 0 (.q 1 (.q 2 (.br 3 true (.q 4 .done) .stop)))) Try.mixed rfl (by kernel_rfl) ?_
      refine XT.q rfl rfl (Q.move rfl) ?_
      refine XT.q rfl rfl (Q.ldA [_, _, _, _] rfl rfl rfl) ?_
      refine XT.q rfl rfl (Q.assign rfl) ?_
      refine XT.st rfl rfl rfl rfl rfl ⟨inferInstance, ?_⟩ XT.stop
      refine XT.q rfl rfl (Q.assign rfl) ?_
      refine XT.done ?_
      refine XK.rt [ko] Try.func61 Try.results61 (.t rfl (.cell [_, _, _, _] rfl rfl rfl (.t rfl .n))) ?_
      have hw0 : totalG t (l.map Prod.snd) = ((List.range l.length).map (billAt t (l.map Prod.snd)), sumBill t (l.map Prod.snd) l.length, 0) := by rw [totalG, if_neg (by omega), hml, he, if_neg (by decide)]
      rw [hw0]
      exact ⟨_, ko, rfl, rfl, OO⟩
end Go.X

set_option linter.unusedSimpArgs false
set_option linter.unusedVariables false
set_option maxRecDepth 20000
namespace Go.X
open Go.Proofs
theorem sameInts (va vb : Value) (ha hb : PHeap) (a b : List Int) [ia : Arr va encI 1 ha a] [ib : Arr vb encI 1 hb b] : Spec Try.prog 118 #[va, vb] [] [ha, hb] (fun v hs => v = .bool (decide (a = b)) ∧ hs = []) := by
  have la := ia.le
  refine Spec.intro (fn := Try.f118) (N := 26) Try.func118 rfl Try.ntmps118 rfl fun B => ?_
  refine XK.seq ?_
  refine XK.region rfl ?_
  refine XO.q (Q.assign rfl) ?_
  refine XO.done ?_
  refine XK.seq ?_
  refine XK.seq ?_
  refine XK.region rfl ?_
  refine XO.q (Q.move rfl) ?_
  refine XO.len rfl fun l7 => ?_
  refine XO.q (Q.move rfl) ?_
  refine XO.len rfl fun l9 => ?_
  refine XO.q (Q.neq rfl rfl) ?_
  refine XO.done ?_
  refine XK.if rfl (fun c0 => ?_) (fun c0 => ?_)
  · have _t0 := True.intro
    refine XK.seq ?_
    refine XK.region rfl ?_
    refine XO.q (Q.assign rfl) ?_
    refine XO.done ?_
    refine XK.rt [] Try.func118 Try.results118 (.t rfl .n) ?_
    exact ⟨by rw [decide_eq_false (fun h => c0 (by rw [h]))], rfl⟩
  · have _t0 := True.intro
    refine XK.skip ?_
    refine XK.seq ?_
    refine XK.seq ?_
    refine XK.region rfl ?_
    refine XO.q (Q.assign rfl) ?_
    refine XO.done ?_
    refine XK.block ?_
    refine XK.while (X := Nat) [4, 5, 11, 12, 13, 14, 15, 16, 17, 18, 19, 20, 21, 22, 23, 24, 25] (fun i => [(5, some (.int .i64 (i : Nat)))]) (fun i => []) (fun i => i ≤ a.length ∧ a.take i = b.take i) (fun i => a.length - i) (0) [] rfl ⟨by omega, rfl⟩ (.c rfl (.base 0 rfl rfl)) ?_
    rintro i ⟨hi, ht⟩ ih0
    dsimp only [List.cons_append, List.nil_append] at ih0 ⊢
    refine XK.seq ?_
    refine XK.seq ?_
    refine XK.region rfl ?_
    refine XO.q (Q.move rfl) ?_
    refine XO.q (Q.move rfl) ?_
    refine XO.len rfl fun l13 => ?_
    refine XO.q (Q.lss rfl rfl) ?_
    refine XO.done ?_
    refine XK.if rfl (fun c1 => ?_) (fun c1 => ?_)
    · have _t1 := True.intro
      refine XK.skip ?_
      refine XK.seq ?_
      refine XK.block ?_
      refine XK.seq ?_
      refine XK.drawn [0, 1, 2, 3, 4, 5, 6, 7, 8] [] [] (.q 0 (.q 1 (.q 2 (.q 3 (.q 4 (.q 5 (.q 6 (.q 7 (.q 8 .done))))))))) Try.mixed rfl (by kernel_rfl) ?_
      refine XT.q rfl rfl (Q.move rfl) ?_
      refine XT.q rfl rfl (Q.move rfl) ?_
      refine XT.ix rfl rfl rfl rfl (by omega) (by omega) fun i19 => ?_
      refine XT.q rfl rfl (Q.ldE rfl (by first | assumption | omega) rfl) ?_
      refine XT.q rfl rfl (Q.move rfl) ?_
      refine XT.q rfl rfl (Q.move rfl) ?_
      refine XT.ix rfl rfl rfl rfl (by omega) (by omega) fun i23 => ?_
      refine XT.q rfl rfl (Q.ldE rfl (by first | assumption | omega) rfl) ?_
      refine XT.q rfl rfl (Q.neq rfl rfl) ?_
      refine XT.done ?_
      refine XK.if rfl (fun c2 => ?_) (fun c2 => ?_)
      · have _t2 := True.intro
        refine XK.seq ?_
        refine XK.region rfl ?_
        refine XO.q (Q.assign rfl) ?_
        refine XO.done ?_
        refine XK.rt [] Try.func118 Try.results118 (.t rfl .n) ?_
        exact ⟨by rw [decide_eq_false (fun h => c2 (by rw [h]))], rfl⟩
      · have _t2 := True.intro
        refine XK.skip ?_
        refine XK.inBlock ?_
        refine XK.region rfl ?_
        refine XO.q (Q.move rfl) ?_
        refine XO.q (Q.add rfl rfl ⟨by omega, by omega⟩) ?_
        refine XO.q (Q.assign rfl) ?_
        refine XO.done ?_
        exact ih0 (i + 1) _ _ ⟨by omega, take_step ht (by omega) (by omega) (Decidable.of_not_not c2)⟩ (by first | omega | (dsimp only; omega)) (.c rfl (.base 34 rfl rfl)) inferInstance
    · have _t1 := True.intro
      refine XK.exit rfl ?_
      refine XK.seq ?_
      refine XK.region rfl ?_
      refine XO.q (Q.assign rfl) ?_
      refine XO.done ?_
      refine XK.rt [] Try.func118 Try.results118 (.t rfl .n) ?_
      exact ⟨by rw [decide_eq_true (take_all ht c1 (by omega))], rfl⟩
theorem sameList (va vb : Value) (ha hb : PHeap) (a b : List Int) [ia : Arr va encI 1 ha a] [ib : Arr vb encI 1 hb b] : Spec Try.prog 89 #[va, vb] [] [ha, hb] (fun v hs => v = .bool (decide (a = b)) ∧ hs = []) := by
  refine Spec.intro (fn := Try.f89) (N := 8) Try.func89 rfl Try.ntmps89 rfl fun B => ?_
  refine XK.seq ?_
  refine XK.region rfl ?_
  refine XO.q (Q.assign rfl) ?_
  refine XO.done ?_
  refine XK.seq ?_
  refine XK.region rfl ?_
  refine XO.q (Q.move rfl) ?_
  refine XO.q (Q.move rfl) ?_
  refine XO.call Try.call118 rfl rfl rfl (sameInts va vb ha hb a b) fun v7 s7 R7 => ?_
  obtain ⟨rfl, rfl⟩ := R7
  dsimp only [List.cons_append, List.nil_append]
  refine XO.q (Q.assign rfl) ?_
  refine XO.done ?_
  refine XK.rt [] Try.func89 Try.results89 (.t rfl .n) ?_
  exact ⟨rfl, rfl⟩
theorem sameLists (va vb : Value) (ha hb Ka Kb : PHeap) (us ws : List Value) [ia : Arr va encV 1 ha us] [ib : Arr vb encV 1 hb ws] (a b : List (List Int)) (ra : RowsK us Ka a) (rb : RowsK ws Kb b) : Spec Try.prog 50 #[va, vb] [] [ha, hb, Ka, Kb] (fun v hs => v = .bool (decide (a = b)) ∧ hs = []) := by
  have la := ia.le
  have l1 := ra.1
  have l2 := rb.1
  refine Spec.intro (fn := Try.f50) (N := 27) Try.func50 rfl Try.ntmps50 rfl fun B => ?_
  refine XK.seq ?_
  refine XK.region rfl ?_
  refine XO.q (Q.assign rfl) ?_
  refine XO.done ?_
  refine XK.seq ?_
  refine XK.seq ?_
  refine XK.region rfl ?_
  refine XO.q (Q.move rfl) ?_
  refine XO.len rfl fun l7 => ?_
  refine XO.q (Q.move rfl) ?_
  refine XO.len rfl fun l9 => ?_
  refine XO.q (Q.neq rfl rfl) ?_
  refine XO.done ?_
  refine XK.if rfl (fun c0 => ?_) (fun c0 => ?_)
  · have _t0 := True.intro
    refine XK.seq ?_
    refine XK.region rfl ?_
    refine XO.q (Q.assign rfl) ?_
    refine XO.done ?_
    refine XK.rt [] Try.func50 Try.results50 (.t rfl .n) ?_
    exact ⟨by rw [decide_eq_false (fun h => c0 (by rw [l1, l2, h]))], rfl⟩
  · have _t0 := True.intro
    refine XK.skip ?_
    refine XK.seq ?_
    refine XK.seq ?_
    refine XK.region rfl ?_
    refine XO.q (Q.assign rfl) ?_
    refine XO.done ?_
    refine XK.block ?_
    refine XK.while (X := Nat) [4, 5, 11, 12, 13, 14, 15, 16, 17, 18, 19, 20, 21, 22, 23, 24, 25, 26] (fun i => [(5, some (.int .i64 (i : Nat)))]) (fun i => []) (fun i => i ≤ us.length ∧ a.take i = b.take i) (fun i => us.length - i) (0) [] rfl ⟨by omega, rfl⟩ (.c rfl (.base 0 rfl rfl)) ?_
    rintro i ⟨hi, ht⟩ ih0
    dsimp only [List.cons_append, List.nil_append] at ih0 ⊢
    refine XK.seq ?_
    refine XK.seq ?_
    refine XK.region rfl ?_
    refine XO.q (Q.move rfl) ?_
    refine XO.q (Q.move rfl) ?_
    refine XO.len rfl fun l13 => ?_
    refine XO.q (Q.lss rfl rfl) ?_
    refine XO.done ?_
    refine XK.if rfl (fun c1 => ?_) (fun c1 => ?_)
    · have _t1 := True.intro
      have aa := ra.2 i (by omega)
      have ab := rb.2 i (by omega)
      refine XK.skip ?_
      refine XK.seq ?_
      refine XK.block ?_
      refine XK.seq ?_
      refine XK.drawn [0, 1, 2, 3, 4, 5, 6, 7, 9] [] [] (.q 0 (.q 1 (.q 2 (.q 3 (.q 4 (.q 5 (.q 6 (.q 7 (.br 8 true (.q 9 .done) .stop))))))))) Try.mixed rfl (by kernel_rfl) ?_
      refine XT.q rfl rfl (Q.move rfl) ?_
      refine XT.q rfl rfl (Q.move rfl) ?_
      refine XT.ix rfl rfl rfl rfl (by omega) (by omega) fun i19 => ?_
      refine XT.q rfl rfl (Q.ldE rfl (by first | assumption | omega) rfl) ?_
      refine XT.q rfl rfl (Q.move rfl) ?_
      refine XT.q rfl rfl (Q.move rfl) ?_
      refine XT.ix rfl rfl rfl rfl (by omega) (by omega) fun i23 => ?_
      refine XT.q rfl rfl (Q.ldE rfl (by first | assumption | omega) rfl) ?_
      refine XT.call rfl rfl Try.call89 rfl rfl rfl (sameList (us.getD i default) (ws.getD i default) Ka Kb (a.getD i default) (b.getD i default)) (fun v25 s25 R25 => ?_) XT.stop
      obtain ⟨rfl, rfl⟩ := R25
      dsimp only [List.cons_append, List.nil_append]
      refine ⟨inferInstance, ?_⟩
      refine XT.q rfl rfl (Q.not rfl) ?_
      refine XT.done ?_
      refine XK.if rfl (fun c2 => ?_) (fun c2 => ?_)
      · have _t2 := True.intro
        refine XK.seq ?_
        refine XK.region rfl ?_
        refine XO.q (Q.assign rfl) ?_
        refine XO.done ?_
        refine XK.rt [] Try.func50 Try.results50 (.t rfl .n) ?_
        exact ⟨by rw [decide_eq_false (fun h => c2 (by rw [h]))], rfl⟩
      · have _t2 := True.intro
        refine XK.skip ?_
        refine XK.inBlock ?_
        refine XK.region rfl ?_
        refine XO.q (Q.move rfl) ?_
        refine XO.q (Q.add rfl rfl ⟨by omega, by omega⟩) ?_
        refine XO.q (Q.assign rfl) ?_
        refine XO.done ?_
        exact ih0 (i + 1) _ _ ⟨by omega, take_step ht (by omega) (by omega) (Decidable.of_not_not c2)⟩ (by first | omega | (dsimp only; omega)) (.c rfl (.base 36 rfl rfl)) inferInstance
    · have _t1 := True.intro
      refine XK.exit rfl ?_
      refine XK.seq ?_
      refine XK.region rfl ?_
      refine XO.q (Q.assign rfl) ?_
      refine XO.done ?_
      refine XK.rt [] Try.func50 Try.results50 (.t rfl .n) ?_
      exact ⟨by rw [decide_eq_true (take_all ht (by omega) (by omega))], rfl⟩
theorem mul64_one (n : Nat) (h : n ≤ 4294967295) : Spec Try.prog 104 #[.int .u64 1, .int .u64 (n : Nat)] [] [] (fun v hs => v = .tuple #[.int .u64 0, .int .u64 (n : Nat)] ∧ hs = []) := by
  have h1 : (1 : Int) % 4294967296 = 1 := by decide
  have h2 : (1 : Int) / 4294967296 = 0 := by decide
  have h3 : (n : Int) % 4294967296 = n := by omega
  have h4 : (n : Int) / 4294967296 = 0 := by omega
  have h5 : (0 : Int) % 4294967296 = 0 := by decide
  have h6 : (0 : Int) / 4294967296 = 0 := by decide
  refine Spec.intro (fn := Try.f104) (N := 51) Try.func104 rfl Try.ntmps104 rfl fun B => ?_
  refine XK.seq ?_
  refine XK.region rfl ?_
  refine XO.q (Q.assign rfl) ?_
  refine XO.q (Q.assign rfl) ?_
  refine XO.done ?_
  refine XK.seq ?_
  refine XK.region rfl ?_
  refine XO.q (Q.move rfl) ?_
  refine XO.q (Q.mask32 rfl rfl (by omega)) ?_
  rw [h1]
  refine XO.q (Q.assign rfl) ?_
  refine XO.done ?_
  refine XK.seq ?_
  refine XK.region rfl ?_
  refine XO.q (Q.move rfl) ?_
  refine XO.q (Q.shr32 rfl rfl) ?_
  rw [h2]
  refine XO.q (Q.assign rfl) ?_
  refine XO.done ?_
  refine XK.seq ?_
  refine XK.region rfl ?_
  refine XO.q (Q.move rfl) ?_
  refine XO.q (Q.mask32 rfl rfl (by omega)) ?_
  rw [h3]
  refine XO.q (Q.assign rfl) ?_
  refine XO.done ?_
  refine XK.seq ?_
  refine XK.region rfl ?_
  refine XO.q (Q.move rfl) ?_
  refine XO.q (Q.shr32 rfl rfl) ?_
  rw [h4]
  refine XO.q (Q.assign rfl) ?_
  refine XO.done ?_
  refine XK.seq ?_
  refine XK.region rfl ?_
  refine XO.q (Q.move rfl) ?_
  refine XO.q (Q.move rfl) ?_
  refine XO.q (Q.mulU rfl rfl (by omega)) ?_
  rw [Int.one_mul]
  refine XO.q (Q.assign rfl) ?_
  refine XO.done ?_
  refine XK.seq ?_
  refine XK.region rfl ?_
  refine XO.q (Q.move rfl) ?_
  refine XO.q (Q.move rfl) ?_
  refine XO.q (Q.mulU rfl rfl (by omega)) ?_
  rw [Int.zero_mul]
  refine XO.q (Q.move rfl) ?_
  refine XO.q (Q.shr32 rfl rfl) ?_
  rw [h4]
  refine XO.q (Q.addU rfl rfl (by omega)) ?_
  rw [Int.add_zero]
  refine XO.q (Q.assign rfl) ?_
  refine XO.done ?_
  refine XK.seq ?_
  refine XK.region rfl ?_
  refine XO.q (Q.move rfl) ?_
  refine XO.q (Q.mask32 rfl rfl (by omega)) ?_
  rw [h5]
  refine XO.q (Q.assign rfl) ?_
  refine XO.done ?_
  refine XK.seq ?_
  refine XK.region rfl ?_
  refine XO.q (Q.move rfl) ?_
  refine XO.q (Q.shr32 rfl rfl) ?_
  rw [h6]
  refine XO.q (Q.assign rfl) ?_
  refine XO.done ?_
  refine XK.seq ?_
  refine XK.region rfl ?_
  refine XO.q (Q.move rfl) ?_
  refine XO.q (Q.move rfl) ?_
  refine XO.q (Q.move rfl) ?_
  refine XO.q (Q.mulU rfl rfl (by omega)) ?_
  rw [Int.mul_zero]
  refine XO.q (Q.addU rfl rfl (by omega)) ?_
  rw [Int.add_zero]
  refine XO.q (Q.assign rfl) ?_
  refine XO.done ?_
  refine XK.seq ?_
  refine XK.region rfl ?_
  refine XO.q (Q.move rfl) ?_
  refine XO.q (Q.move rfl) ?_
  refine XO.q (Q.mulU rfl rfl (by omega)) ?_
  rw [Int.mul_zero]
  refine XO.q (Q.move rfl) ?_
  refine XO.q (Q.addU rfl rfl (by omega)) ?_
  rw [Int.add_zero]
  refine XO.q (Q.move rfl) ?_
  refine XO.q (Q.shr32 rfl rfl) ?_
  rw [h6]
  refine XO.q (Q.addU rfl rfl (by omega)) ?_
  rw [Int.add_zero]
  refine XO.q (Q.assign rfl) ?_
  refine XO.done ?_
  refine XK.seq ?_
  refine XK.region rfl ?_
  refine XO.q (Q.move rfl) ?_
  refine XO.q (Q.move rfl) ?_
  refine XO.q (Q.mulU rfl rfl (by omega)) ?_
  rw [Int.one_mul]
  refine XO.q (Q.assign rfl) ?_
  refine XO.done ?_
  refine XK.rt [] Try.func104 Try.results104 (.t rfl (.t rfl .n)) ?_
  exact ⟨rfl, rfl⟩
theorem mul_one' (n : Nat) (h : n ≤ 4294967295) : Spec Try.prog 82 #[.int .u64 1, .int .u64 (n : Nat)] [] [] (fun v hs => v = .tuple #[.int .u64 0, .int .u64 (n : Nat)] ∧ hs = []) := by
  refine Spec.intro (fn := Try.f82) (N := 30) Try.func82 rfl Try.ntmps82 rfl fun B => ?_
  refine XK.seq ?_
  refine XK.region rfl ?_
  refine XO.q (Q.assign rfl) ?_
  refine XO.q (Q.assign rfl) ?_
  refine XO.done ?_
  refine XK.seq ?_
  refine XK.if rfl (fun c0 => ?_) (fun c0 => ?_)
  · have _t0 := True.intro
    exact c0.elim
  · have _t0 := True.intro
    refine XK.skip ?_
    refine XK.seq ?_
    refine XK.region rfl ?_
    refine XO.q (Q.move rfl) ?_
    refine XO.q (Q.move rfl) ?_
    refine XO.call Try.call104 rfl rfl rfl (mul64_one n h) fun v25 s25 R25 => ?_
    obtain ⟨rfl, rfl⟩ := R25
    dsimp only [List.cons_append, List.nil_append]
    refine XO.q (Q.move rfl) ?_
    refine XO.q (Q.extract rfl rfl) ?_
    refine XO.q (Q.extract rfl rfl) ?_
    refine XO.q (Q.assign rfl) ?_
    refine XO.q (Q.assign rfl) ?_
    refine XO.done ?_
    refine XK.seq ?_
    refine XK.region rfl ?_
    refine XO.q (Q.move rfl) ?_
    refine XO.q (Q.move rfl) ?_
    refine XO.q (Q.assign rfl) ?_
    refine XO.q (Q.assign rfl) ?_
    refine XO.done ?_
    refine XK.rt [] Try.func82 Try.results82 (.t rfl (.t rfl .n)) ?_
    exact ⟨rfl, rfl⟩
theorem repeatI (v : Value) (h : PHeap) (x : Int) [s : Arr v encI 1 h [x]] (n : Nat) (hn : n ≤ 4294967295) : Spec Try.prog 40 #[v, .int .i64 (n : Nat)] [] [h] (fun v' hs => ∃ h', hs = [h'] ∧ OArr v' encI 1 3 h' (List.replicate n x)) := by
  have hw1 : IntKind.u64.wrap ((([x] : List Int).length : Nat) : Int) = 1 := rfl
  have hw2 : IntKind.u64.wrap ((n : Nat) : Int) = n := wrapu64 (by omega)
  have hw3 : IntKind.i64.wrap ((n : Nat) : Int) = n := wrap64_of ⟨by omega, by omega⟩
  have hl1 : ([x] : List Int).length = 1 := rfl
  refine Spec.intro (fn := Try.f40) (N := 48) Try.func40 rfl Try.ntmps40 rfl fun B => ?_
  refine XK.seq ?_
  refine XK.region rfl ?_
  refine XO.q (Q.assign rfl) ?_
  refine XO.done ?_
  refine XK.seq ?_
  refine XK.seq ?_
  refine XK.region rfl ?_
  refine XO.q (Q.move rfl) ?_
  refine XO.q (Q.lss rfl rfl) ?_
  refine XO.done ?_
  refine XK.if rfl (fun c0 => ?_) (fun c0 => ?_)
  · have _t0 := True.intro
    exact absurd c0 (by omega)
  · have _t0 := True.intro
    refine XK.skip ?_
    refine XK.seq ?_
    refine XK.region rfl ?_
    refine XO.q (Q.move rfl) ?_
    refine XO.len rfl fun l14 => ?_
    refine XO.q (Q.conv rfl) ?_
    rw [hw1]
    refine XO.q (Q.move rfl) ?_
    refine XO.q (Q.conv rfl) ?_
    rw [hw2]
    refine XO.call Try.call82 rfl rfl rfl (mul_one' n hn) fun v18 s18 R18 => ?_
    obtain ⟨rfl, rfl⟩ := R18
    dsimp only [List.cons_append, List.nil_append]
    refine XO.q (Q.move rfl) ?_
    refine XO.q (Q.extract rfl rfl) ?_
    refine XO.q (Q.extract rfl rfl) ?_
    refine XO.q (Q.assign rfl) ?_
    refine XO.q (Q.assign rfl) ?_
    refine XO.done ?_
    refine XK.seq ?_
    refine XK.seq ?_
    refine XK.region rfl ?_
    refine XO.q (Q.move rfl) ?_
    refine XO.q (Q.gtr rfl rfl) ?_
    refine XO.q (Q.move rfl) ?_
    refine XO.q (Quiet.guardF rfl rfl fun g24 p24 => Q.move rfl) ?_
    refine XO.q (Quiet.guardF rfl rfl fun g25 p25 => Q.gtr (lzv g25 rfl) rfl) ?_
    refine XO.q (Q.or rfl (fun hp => lzv hp rfl)) ?_
    refine XO.done ?_
    refine XK.if rfl (fun c1 => ?_) (fun c1 => ?_)
    · have _t1 := True.intro
      exact absurd c1 (by omega)
    · have _t1 := True.intro
      refine XK.skip ?_
      refine XK.seq ?_
      refine XK.region rfl ?_
      refine XO.q (Q.move rfl) ?_
      refine XO.q (Q.conv rfl) ?_
      rw [hw3]
      refine XO.make encI (0) rfl rfl rfl (by omega) (by omega) (fun _ => rfl) rfl rfl rfl (by dsimp only [encI]; infer_instance) fun v30 h30 O30 => ?_
      refine XO.q (Q.assign rfl) ?_
      refine XO.done ?_
      refine XK.seq ?_
      refine XK.region rfl ?_
      refine XO.q (Q.move rfl) ?_
      refine XO.q (Q.move rfl) ?_
      refine XO.copy rfl (tailv_zero (s := O30)).symm rfl (by omega) fun h33 O33 => ?_
      rw [show min ([x] : List Int).length ((List.replicate n (0 : Int)).length - 0) = min 1 n by simp]
      refine XO.q (Q.assign rfl) ?_
      refine XO.done ?_
      refine XK.seq ?_
      refine XK.block ?_
      refine XK.while (X := Nat × PHeap) [8, 34, 35, 36, 37, 38, 39, 40, 41, 42, 43, 44, 45, 46] (fun ⟨m, hM⟩ => [(8, some (.int .i64 (m : Nat)))]) (fun ⟨m, hM⟩ => [hM]) (fun ⟨m, hM⟩ => m ≤ n ∧ (0 < n → 0 < m) ∧ OArr v30 encI 1 3 hM (List.replicate m x ++ List.replicate (n - m) 0)) (fun ⟨m, hM⟩ => n - m) (min 1 n, h33) [h33] rfl ⟨by omega, by omega, by have := O33; rw [repeat_first] at this; exact this⟩ (.c rfl (.base 0 rfl rfl)) ?_
      rintro ⟨m, hM⟩ ⟨hm, hm0, OM⟩ ih0
      dsimp only [List.cons_append, List.nil_append] at ih0 ⊢
      have hlm : (List.replicate m x ++ List.replicate (n - m) 0).length = n := by rw [List.length_append, List.length_replicate, List.length_replicate]; omega
      have hmm : min (((List.replicate m x ++ List.replicate (n - m) (0 : Int)).drop 0).take (m - 0)).length ((List.replicate m x ++ List.replicate (n - m) (0 : Int)).length - m) = min m (n - m) := by
        rw [hlm, List.drop_zero, List.length_take, hlm]; omega
      refine XK.seq ?_
      refine XK.seq ?_
      refine XK.region rfl ?_
      refine XO.q (Q.move rfl) ?_
      refine XO.q (Q.move rfl) ?_
      refine XO.len rfl fun l36 => ?_
      refine XO.q (Q.lss rfl rfl) ?_
      refine XO.done ?_
      refine XK.if rfl (fun c2 => ?_) (fun c2 => ?_)
      · have _t2 := True.intro
        refine XK.skip ?_
        refine XK.block ?_
        refine XK.drawn [0, 1, 2, 3, 4, 5, 6, 8, 9] [] [] (.q 0 (.q 1 (.q 2 (.q 3 (.q 4 (.q 5 (.q 6 (.br 7 true (.q 8 (.q 9 .done)) .stop)))))))) Try.mixed rfl (by kernel_rfl) ?_
        refine XT.q rfl rfl (Q.move rfl) ?_
        refine XT.q rfl rfl (Q.move rfl) ?_
        refine XT.q rfl rfl (Q.move rfl) ?_
        refine XT.q rfl rfl (Q.tail (i := m) rfl (.s rfl (by omega)) (by omega)) ?_
        refine XT.q rfl rfl (Q.move rfl) ?_
        refine XT.q rfl rfl (Q.move rfl) ?_
        refine XT.q rfl rfl (Q.cut (i := 0) (j := m) rfl .n (.s rfl (by omega)) (by omega) (by omega)) ?_
        have A44 := Arr.cut (v := v30) (i := 0) (j := m) inferInstance (by omega) (by omega)
        refine XT.copy rfl rfl rfl rfl rfl (by omega) (fun h45 O45 => ⟨inferInstance, ?_⟩) XT.stop
        rw [hmm]
        refine XT.q rfl rfl (Q.add rfl rfl ⟨by omega, by omega⟩) ?_
        rw [show ((m : Int) + ((min m (n - m) : Nat) : Int)) = ((m + min m (n - m) : Nat) : Int) from rfl]
        refine XT.q rfl rfl (Q.assign rfl) ?_
        refine XT.done ?_
        refine XK.inBlock ?_
        exact ih0 (m + min m (n - m), h45) _ _ ⟨by omega, by omega, by have := O45; rw [repeat_step x 0 hm] at this; exact this⟩ (by first | omega | (dsimp only; omega)) (.c rfl (.base 29 rfl rfl)) inferInstance
      · have _t2 := True.intro
        refine XK.exit rfl ?_
        refine XK.seq ?_
        refine XK.region rfl ?_
        refine XO.q (Q.move rfl) ?_
        refine XO.q (Q.assign rfl) ?_
        refine XO.done ?_
        refine XK.rt [hM] Try.func40 Try.results40 (.t rfl .n) ?_
        have hmn : m = n := by omega
        subst hmn
        exact ⟨hM, rfl, by simpa using OM⟩
theorem example11 : Spec Try.prog 38 #[] [] [] (fun v hs => ∃ vn vv kn kv, v = .agg #[vn, vv] ∧ hs = [kn, kv] ∧ OArr vn encNode 3 97 kn exC.nodes ∧ OArr vv encI 1 3 kv exC.vals) := by
  refine Spec.intro (fn := Try.f38) (N := 7) Try.func38 rfl Try.ntmps38 rfl fun B => ?_
  refine XK.seq ?_
  refine XK.region rfl ?_
  refine XO.alloc fun b0 => ?_
  refine XO.done ?_
  refine XK.seq ?_
  refine XK.region rfl ?_
  refine XO.q (Q.build [_, _, _] (.c 0 1 rfl rfl rfl (.c 2 1 rfl rfl rfl (.n _)))) ?_
  refine XO.q (Q.build [_, _, _] (.n _)) ?_
  refine XO.q (Q.build [_, _, _] (.n _)) ?_
  refine XO.lit [_, _, _, _, _, _, _, _, _] [_, _, _, _, _, _, _, _, _] [⟨-1, 0, 5⟩, ⟨0, 0, 0⟩, ⟨0, 0, 0⟩] encNode (by rfl) (by rfl) rfl (by rfl) (by exact .c 0 3 rfl rfl rfl (.c 3 3 rfl rfl rfl (.c 6 3 rfl rfl rfl (.n _)))) (fun _ => rfl) (by rfl) rfl (by infer_instance) rfl fun v4 h4 O4 => ?_
  refine XO.lit [_, _, _] [_, _, _] [100, 60, 50] encI (by rfl) (by rfl) rfl (by rfl) (by exact .c 0 1 rfl rfl rfl (.c 1 1 rfl rfl rfl (.c 2 1 rfl rfl rfl (.n _)))) (fun _ => rfl) (by rfl) rfl (by infer_instance) rfl fun v5 h5 O5 => ?_
  refine XO.q (Q.build [_, _] (.c 0 1 rfl rfl rfl (.c 1 1 rfl rfl rfl (.n _)))) ?_
  refine XO.st rfl rfl rfl ?_
  refine XO.done ?_
  refine XK.rt [h4, h5] Try.func38 Try.results38 (.cell [_, _] rfl rfl rfl (.n)) ?_
  exact ⟨v4, v5, h4, h5, rfl, rfl, O4, O5⟩
theorem tariff11 : Spec Try.prog 39 #[] [] [] (fun v hs => ∃ vp vt kp kt, v = .agg #[vp, .int .i64 exT.base, vt, .int .i64 exT.credit] ∧ hs = [kp, kt] ∧ OArr vp encI 1 3 kp exT.price ∧ OArr vt encTier 2 33 kt exT.tiers) := by
  refine Spec.intro (fn := Try.f39) (N := 7) Try.func39 rfl Try.ntmps39 rfl fun B => ?_
  refine XK.seq ?_
  refine XK.region rfl ?_
  refine XO.alloc fun b0 => ?_
  refine XO.done ?_
  refine XK.seq ?_
  refine XK.region rfl ?_
  refine XO.lit [_] [_] [10] encI (by rfl) (by rfl) rfl (by rfl) (by exact .c 0 1 rfl rfl rfl (.n _)) (fun _ => rfl) (by rfl) rfl (by infer_instance) rfl fun v1 h1 O1 => ?_
  refine XO.call Try.call40 rfl rfl rfl (repeatI v1 h1 10 24 (by decide)) fun v2 s2 R2 => ?_
  obtain ⟨k2, rfl, O2⟩ := R2
  dsimp only [List.cons_append, List.nil_append]
  refine XO.q (Q.build [_, _] (.c 0 1 rfl rfl rfl (.c 1 1 rfl rfl rfl (.n _)))) ?_
  refine XO.q (Q.build [_, _] (.c 0 1 rfl rfl rfl (.c 1 1 rfl rfl rfl (.n _)))) ?_
  refine XO.lit [_, _, _, _] [_, _, _, _] [⟨30, 10⟩, ⟨120, 25⟩] encTier (by rfl) (by rfl) rfl (by rfl) (by exact .c 0 2 rfl rfl rfl (.c 2 2 rfl rfl rfl (.n _))) (fun _ => rfl) (by rfl) rfl (by infer_instance) rfl fun v5 h5 O5 => ?_
  refine XO.q (Q.build [_, _, _, _] (.c 0 1 rfl rfl rfl (.c 1 1 rfl rfl rfl (.c 2 1 rfl rfl rfl (.c 3 1 rfl rfl rfl (.n _)))))) ?_
  refine XO.st rfl rfl rfl ?_
  refine XO.done ?_
  refine XK.rt [k2, h5] Try.func39 Try.results39 (.cell [_, _, _, _] rfl rfl rfl (.n)) ?_
  exact ⟨v2, v5, k2, h5, rfl, rfl, O2, O5⟩
theorem awake11 : Spec Try.prog 13 #[] [] [] (fun v hs => v = .bool true ∧ hs = []) := by
  refine Spec.intro (fn := Try.f13) (N := 54) Try.func13 rfl Try.ntmps13 rfl fun B => ?_
  refine XK.seq ?_
  refine XK.region rfl ?_
  refine XO.q (Q.assign rfl) ?_
  refine XO.done ?_
  refine XK.seq ?_
  refine XK.region rfl ?_
  refine XO.call Try.call38 rfl rfl rfl (example11) fun v8 s8 R8 => ?_
  obtain ⟨vn8, vv8, kn8, kv8, rfl, rfl, On8, Ov8⟩ := R8
  dsimp only [List.cons_append, List.nil_append]
  refine XO.call Try.call16 rfl rfl rfl (Least_spec exC vn8 vv8 kn8 kv8 (fun _ s hs => steps3 s hs)) fun v9 s9 R9 => ?_
  obtain ⟨x9, y9, K9, us9, rfl, rfl, O9, R9⟩ := R9
  dsimp only [List.cons_append, List.nil_append]
  rw [exC_least] at R9 ⊢
  dsimp only at R9 ⊢
  refine XO.q (Q.move rfl) ?_
  refine XO.q (Q.extract rfl rfl) ?_
  refine XO.q (Q.extract rfl rfl) ?_
  refine XO.q (Q.assign rfl) ?_
  refine XO.q (Q.assign rfl) ?_
  refine XO.done ?_
  refine XK.seq ?_
  refine XK.region rfl ?_
  refine XO.call Try.call38 rfl rfl rfl (example11) fun v13 s13 R13 => ?_
  obtain ⟨vn13, vv13, kn13, kv13, rfl, rfl, On13, Ov13⟩ := R13
  dsimp only [List.cons_append, List.nil_append]
  refine XO.lit [_] [_] [1] encI (by rfl) (by rfl) rfl (by rfl) (by exact .c 0 1 rfl rfl rfl (.n _)) (fun _ => rfl) (by rfl) rfl (by infer_instance) rfl fun v14 h14 O14 => ?_
  refine XO.call Try.call17 rfl rfl rfl (Repair_spec exC vn13 vv13 kn13 kv13 [1] v14 h14) fun v15 s15 R15 => ?_
  obtain ⟨x15, y15, rfl, rfl, O15⟩ := R15
  dsimp only [List.cons_append, List.nil_append]
  rw [exC_repair] at O15 ⊢
  dsimp only at O15 ⊢
  refine XO.q (Q.move rfl) ?_
  refine XO.q (Q.extract rfl rfl) ?_
  refine XO.q (Q.extract rfl rfl) ?_
  refine XO.q (Q.assign rfl) ?_
  refine XO.q (Q.assign rfl) ?_
  refine XO.done ?_
  refine XK.seq ?_
  refine XK.region rfl ?_
  refine XO.call Try.call39 rfl rfl rfl (tariff11) fun v19 s19 R19 => ?_
  obtain ⟨vp, vt, kp, kt, rfl, rfl, Op, Ot⟩ := R19
  dsimp only [List.cons_append, List.nil_append]
  refine XO.lit [_] [_] [5] encI (by rfl) (by rfl) rfl (by rfl) (by exact .c 0 1 rfl rfl rfl (.n _)) (fun _ => rfl) (by rfl) rfl (by infer_instance) rfl fun v20 h20 O20 => ?_
  refine XO.call Try.call40 rfl rfl rfl (repeatI v20 h20 5 24 (by decide)) fun v21 s21 R21 => ?_
  obtain ⟨k21, rfl, O21⟩ := R21
  dsimp only [List.cons_append, List.nil_append]
  refine XO.q (Q.build [_, _] (.c 0 1 rfl rfl rfl (.c 1 1 rfl rfl rfl (.n _)))) ?_
  refine XO.call Try.call11 rfl rfl rfl (Make_spec exT vp vt kp kt exU v21 k21) fun v23 s23 R23 => ?_
  obtain ⟨rfl, rfl⟩ := R23
  dsimp only [List.cons_append, List.nil_append]
  rw [exT_make]
  dsimp only
  refine XO.q (Q.move rfl) ?_
  refine XO.q (Q.extract rfl rfl) ?_
  refine XO.q (Q.extract rfl rfl) ?_
  refine XO.alloc fun b5 => ?_
  refine XO.st rfl rfl rfl ?_
  refine XO.q (Q.assign rfl) ?_
  refine XO.done ?_
  refine XK.seq ?_
  refine XK.region rfl ?_
  refine XO.q (Q.move rfl) ?_
  refine XO.q (Q.eql rfl rfl) ?_
  refine XO.q (Q.move rfl) ?_
  refine XO.q (Quiet.guardT rfl rfl fun g29 p29 => Q.move rfl) ?_
  refine XO.q (Quiet.guardT rfl rfl fun g30 p30 => Q.eql (lzv rfl rfl) rfl) ?_
  refine XO.q (Q.and rfl (fun hp => lzv hp rfl)) ?_
  refine XO.q (Q.move rfl) ?_
  refine XO.q (Quiet.guardT rfl rfl fun g33 p33 => Q.move rfl) ?_
  refine XO.q (Quiet.guardT rfl rfl fun g34 p34 => Q.eql (lzv rfl rfl) rfl) ?_
  refine XO.q (Q.and rfl (fun hp => lzv hp rfl)) ?_
  refine XO.q (Q.move rfl) ?_
  refine XO.q (Quiet.guardT rfl rfl fun g37 p37 => Q.move rfl) ?_
  refine XO.litG [_] [_] [0] encI rfl rfl rfl (by rfl) (by rfl) rfl (by rfl) (by exact .c 0 1 rfl rfl rfl (.n _)) (fun _ => rfl) (by rfl) rfl (by infer_instance) rfl fun v38 h38 O38 => ?_
  refine XO.litG [_] [_] [1] encI rfl rfl rfl (by rfl) (by rfl) rfl (by rfl) (by exact .c 0 1 rfl rfl rfl (.n _)) (fun _ => rfl) (by rfl) rfl (by infer_instance) rfl fun v39 h39 O39 => ?_
  refine XO.litG [_] [_] [2] encI rfl rfl rfl (by rfl) (by rfl) rfl (by rfl) (by exact .c 0 1 rfl rfl rfl (.n _)) (fun _ => rfl) (by rfl) rfl (by infer_instance) rfl fun v40 h40 O40 => ?_
  refine XO.litG [_, _, _] [_, _, _] [v38, v39, v40] encV rfl rfl rfl (by rfl) (by rfl) rfl (by rfl) (by exact .c 0 1 rfl rfl rfl (.c 1 1 rfl rfl rfl (.c 2 1 rfl rfl rfl (.n _)))) (fun _ => rfl) (by rfl) rfl (by infer_instance) rfl fun v41 h41 O41 => ?_
  refine XO.cat h39 h40 fun l39 l40 => ?_
  refine XO.cat h38 (cat h39 h40) fun l38 l3940 => ?_
  have r41 : RowsK [v38, v39, v40] (cat h38 (cat h39 h40)) [[0], [1], [2]] := ⟨rfl, fun i hi => by
      match i, hi with
      | 0, _ => exact Arr.le_heap (OArr.arr (s := O38)) l38
      | 1, _ => exact Arr.le_heap (OArr.arr (s := O39)) (l39.trans l3940)
      | 2, _ => exact Arr.le_heap (OArr.arr (s := O40)) (l40.trans l3940)⟩
  refine XO.callS rfl rfl rfl Try.call50 rfl (.c (lzv rfl rfl) (.c rfl .n)) rfl (sameLists x9 v41 y9 h41 K9 (cat h38 (cat h39 h40)) us9 [v38, v39, v40] [[0], [1], [2]] [[0], [1], [2]] R9 r41) fun v42 s42 R42 => ?_
  obtain ⟨rfl, rfl⟩ := R42
  dsimp only [List.cons_append, List.nil_append]
  refine XO.q (Q.and rfl (fun _ => rfl)) ?_
  refine XO.q (Q.move rfl) ?_
  refine XO.q (Quiet.guardT rfl rfl fun g45 p45 => Q.move rfl) ?_
  refine XO.litG [_, _, _] [_, _, _] [100, 45, 50] encI rfl rfl rfl (by rfl) (by rfl) rfl (by rfl) (by exact .c 0 1 rfl rfl rfl (.c 1 1 rfl rfl rfl (.c 2 1 rfl rfl rfl (.n _)))) (fun _ => rfl) (by rfl) rfl (by infer_instance) rfl fun v46 h46 O46 => ?_
  refine XO.callS rfl rfl rfl Try.call51 rfl (.c (lzv rfl rfl) (.c rfl .n)) rfl (equalI x15 v46 y15 h46 [100, 45, 50] [100, 45, 50]) fun v47 s47 R47 => ?_
  obtain ⟨rfl, rfl⟩ := R47
  dsimp only [List.cons_append, List.nil_append]
  refine XO.q (Q.and rfl (fun _ => rfl)) ?_
  refine XO.q (Q.move rfl) ?_
  refine XO.q (Quiet.guardT rfl rfl fun g50 p50 => Q.ldA [_, _, _, _] rfl rfl rfl) ?_
  refine XO.q (Quiet.guardT rfl rfl fun g51 p51 => Q.build [_, _, _, _] (.c 0 1 rfl rfl rfl (.c 1 1 rfl rfl rfl (.c 2 1 rfl rfl rfl (.c 3 1 rfl rfl rfl (.n _)))))) ?_
  refine XO.q (Quiet.guardT rfl rfl fun g52 p52 => Q.eqlS (us := [_, _, _, _]) (vs := [_, _, _, _]) (lzv rfl rfl) (lzv rfl rfl) inferInstance (by kernel_rfl) (by kernel_rfl) (.c rfl inferInstance inferInstance rfl rfl (.c rfl inferInstance inferInstance rfl rfl (.c rfl inferInstance inferInstance rfl rfl (.c rfl inferInstance inferInstance rfl rfl .n))))) ?_
  refine XO.q (Q.and rfl (fun hp => lzv hp rfl)) ?_
  refine XO.q (Q.assign rfl) ?_
  refine XO.done ?_
  refine XK.rt [] Try.func13 Try.results13 (.t rfl .n) ?_
  exact ⟨rfl, rfl⟩
end Go.X

set_option linter.unusedSimpArgs false
set_option linter.unusedVariables false
set_option maxRecDepth 20000
namespace Go.X
open Go.Proofs
end Go.X

set_option linter.unusedSimpArgs false
set_option linter.unusedVariables false
set_option maxRecDepth 20000
namespace Go.X
open Go.Proofs
theorem lost_rng {c : MCase} (ok : MOk c) {i : Nat} (hi : i < c.nodes.length) {n : Nat} (hn : n ≤ (sonsN c i).length) : -14000000000 ≤ lostAt c i n ∧ lostAt c i n ≤ 1000000000 := by
  have hs : ∀ q, q < n → 0 ≤ c.vals.getD ((sonsN c i).getD q 0) 0 ∧ c.vals.getD ((sonsN c i).getD q 0) 0 ≤ 1000000000 := fun q hq => by
    obtain ⟨a, _, _⟩ := ok.son (getD_mem0 (l := sonsN c i) (j := q) (by omega))
    exact (ok.node _ a).2.1
  have h1 : 0 ≤ sumV c c.vals i n := sum_nonneg fun q hq => (hs q hq).1
  have h2 : sumV c c.vals i n ≤ n * 1000000000 := sum_le fun q hq => (hs q hq).2
  have h3 := (ok.node i hi).2.1
  have h4 : (sonsN c i).length ≤ c.nodes.length := sonsTo_len
  have h5 := ok.n2
  unfold lostAt; omega
theorem Broken_spec (c : MCase) (vn vv : Value) (hn hv : PHeap) [jn : Arr vn encNode 3 hn c.nodes] [jv : Arr vv encI 1 hv c.vals] : Spec Try.prog 18 #[.agg #[vn, vv]] [] [hn, hv] (fun v hs => ∃ v1 k1, v = .tuple #[v1, .int .i64 (brokenG c).2] ∧ hs = [k1] ∧ OArr v1 encI 1 3 k1 (brokenG c).1) := by
  have nI : OArr (.slice none 0 0) encI 1 3 emp ([] : List Int) := OArr.nil (fun _ => rfl)
  refine Spec.intro (fn := Try.f18) (N := 68) Try.func18 rfl Try.ntmps18 rfl fun B => ?_
  refine XK.seq ?_
  refine XK.region rfl ?_
  refine XO.box rfl fun b1 => ?_
  refine XO.q (Q.assign rfl) ?_
  refine XO.q (Q.assign rfl) ?_
  refine XO.done ?_
  refine XK.seq ?_
  refine XK.seq ?_
  refine XK.region rfl ?_
  refine XO.q (Q.ldA [_, _] rfl rfl rfl) ?_
  refine XO.call Try.call54 rfl rfl rfl (Check_spec11 c vn vv hn hv) fun v13 s13 R13 => ?_
  obtain ⟨rfl, rfl⟩ := R13
  dsimp only [List.cons_append, List.nil_append]
  refine XO.q (Q.assign rfl) ?_
  refine XO.done ?_
  refine XK.seq ?_
  refine XK.region rfl ?_
  refine XO.q (Q.move rfl) ?_
  refine XO.q (Q.neq rfl rfl) ?_
  refine XO.done ?_
  refine XK.if rfl (fun c0 => ?_) (fun c0 => ?_)
  · have _t0 := True.intro
    refine XK.seq ?_
    refine XK.region rfl ?_
    refine XO.q (Q.move rfl) ?_
    refine XO.q (Q.assign rfl) ?_
    refine XO.q (Q.assign rfl) ?_
    refine XO.done ?_
    refine XK.rt [emp] Try.func18 Try.results18 (.t rfl (.t rfl .n)) ?_
    have hw0 : brokenG c = ([], mcheck c) := by rw [brokenG, if_pos c0]
    rw [hw0]
    exact ⟨.slice none 0 0, emp, rfl, rfl, OArr.nil (fun _ => rfl)⟩
  · have _t0 := True.intro
    have ok := mcheck_ok (Decidable.of_not_not c0)
    have vl := ok.vl
    refine XK.skip ?_
    refine XK.seq ?_
    refine XK.region rfl ?_
    refine XO.q (Q.assign rfl) ?_
    refine XO.done ?_
    refine XK.seq ?_
    refine XK.seq ?_
    refine XK.region rfl ?_
    refine XO.q (Q.fieldAddr rfl) ?_
    refine XO.q (Q.ld rfl rfl) ?_
    refine XO.len rfl fun l19 => ?_
    refine XO.q (Q.move rfl) ?_
    refine XO.done ?_
    refine XK.block ?_
    refine XK.while (X := Nat × Value × PHeap) [5, 6, 7, 8, 9, 11, 20, 21, 22, 23, 24, 25, 26, 27, 28, 29, 30, 31, 32, 33, 34, 35, 36, 37, 38, 39, 40, 41, 42, 43, 44, 45, 46, 47, 48, 49, 50, 51, 52, 53, 54, 55, 56, 57, 58, 59, 60, 61, 62, 63, 64, 65, 66] (fun ⟨i, vo, ko⟩ => [(20, some (.int .i64 (i : Nat))), (5, some (vo))]) (fun ⟨i, vo, ko⟩ => [ko]) (fun ⟨i, vo, ko⟩ => i ≤ c.nodes.length ∧ OArr vo encI 1 3 ko (ints (brokenTo c i))) (fun ⟨i, vo, ko⟩ => c.nodes.length - i) (0, .slice none 0 0, emp) [emp] rfl ⟨by omega, nI⟩ (.c rfl (.c rfl (.base 0 rfl rfl))) ?_
    rintro ⟨i, vo, ko⟩ ⟨hi, OO⟩ ih0
    dsimp only [List.cons_append, List.nil_append] at ih0 ⊢
    refine XK.seq ?_
    refine XK.region rfl ?_
    refine XO.q (Q.lss rfl rfl) ?_
    refine XO.done ?_
    refine XK.seq ?_
    refine XK.if rfl (fun c1 => ?_) (fun c1 => ?_)
    · have _t1 := True.intro
      have il := ints_len (l := (sonsN c i))
      have nd := (ok.node i (by omega)).2.1
      have bl := brokenTo_len c i
      have n2 := ok.n2
      refine XK.skip ?_
      refine XK.seq ?_
      refine XK.block ?_
      refine XK.seq ?_
      refine XK.region rfl ?_
      refine XO.q (Q.move rfl) ?_
      refine XO.ix rfl rfl (by omega) (by omega) fun i23 => ?_
      refine XO.q (Q.ldEA [_, _, _] rfl (by first | assumption | omega) rfl rfl) ?_
      refine XO.alloc fun b7 => ?_
      refine XO.q (Q.assign rfl) ?_
      refine XO.st rfl rfl rfl ?_
      refine XO.done ?_
      refine XK.seq ?_
      refine XK.region rfl ?_
      refine XO.q (Q.ldA [_, _] rfl rfl rfl) ?_
      refine XO.q (Q.move rfl) ?_
      refine XO.call Try.call57 rfl rfl rfl (sons_spec c vn vv hn ok.n2 (i : Nat)) fun v27 s27 R27 => ?_
      obtain ⟨k27, rfl, O27⟩ := R27
      dsimp only [List.cons_append, List.nil_append]
      change OArr v27 encI 1 3 k27 (ints (sonsN c i)) at O27
      refine XO.q (Q.assign rfl) ?_
      refine XO.done ?_
      refine XK.seq ?_
      refine XK.region rfl ?_
      refine XO.q (Q.fieldAddr rfl) ?_
      refine XO.q (Q.ld rfl rfl) ?_
      refine XO.q (Q.move rfl) ?_
      refine XO.ix rfl rfl (by omega) (by omega) fun i31 => ?_
      refine XO.q (Q.ldE rfl (by first | assumption | omega) rfl) ?_
      rw [show c.vals.getD i default = lostAt c i 0 by rw [lostAt, sumV, sumTo, Int.sub_zero]; rfl]
      refine XO.q (Q.assign rfl) ?_
      refine XO.done ?_
      refine XK.seq ?_
      refine XK.seq ?_
      refine XK.region rfl ?_
      refine XO.q (Q.move rfl) ?_
      refine XO.len rfl fun l34 => ?_
      rw [il]
      refine XO.q (Q.move rfl) ?_
      refine XO.done ?_
      refine XK.block ?_
      refine XK.while (X := Nat) [9, 11, 35, 36, 37, 38, 39, 40, 41, 42, 43, 44, 45, 46] (fun j => [(35, some (.int .i64 (j : Nat))), (9, some (.int .i64 (lostAt c i j)))]) (fun j => []) (fun j => j ≤ (sonsN c i).length) (fun j => (sonsN c i).length - j) (0) [] rfl (by omega) (.c rfl (.c rfl (.base 0 rfl rfl))) ?_
      rintro j hj ih1
      dsimp only [List.cons_append, List.nil_append] at ih1 ⊢
      refine XK.seq ?_
      refine XK.region rfl ?_
      refine XO.q (Q.lss rfl rfl) ?_
      refine XO.done ?_
      refine XK.seq ?_
      refine XK.if rfl (fun c2 => ?_) (fun c2 => ?_)
      · have _t2 := True.intro
        have lr := lost_rng ok (i := i) (by omega) (n := j) (by omega)
        have lr2 := lost_rng ok (i := i) (by omega) (n := j + 1) (by omega)
        have lr3 : -14000000000 ≤ c.vals.getD i 0 := by omega
        refine XK.skip ?_
        refine XK.seq ?_
        refine XK.block ?_
        refine XK.seq ?_
        refine XK.region rfl ?_
        refine XO.ix rfl rfl (by omega) (by omega) fun i37 => ?_
        refine XO.q (Q.ldE rfl (by first | assumption | omega) rfl) ?_
        rw [ints_at (by omega)]
        obtain ⟨k, ek⟩ : ∃ k, k = (sonsN c i).getD j 0 := ⟨_, rfl⟩
        rw [← ek]
        obtain ⟨k1, k2, k3⟩ := ok.son (i := i) (k := k) (by rw [ek]; exact getD_mem0 (by omega))
        have vk : 0 ≤ c.vals.getD k default ∧ c.vals.getD k default ≤ 1000000000 := (ok.node k k1).2.1
        refine XO.q (Q.assign rfl) ?_
        refine XO.done ?_
        refine XK.region rfl ?_
        refine XO.q (Q.move rfl) ?_
        refine XO.q (Q.fieldAddr rfl) ?_
        refine XO.q (Q.ld rfl rfl) ?_
        refine XO.q (Q.move rfl) ?_
        refine XO.ix rfl rfl (by omega) (by omega) fun i43 => ?_
        refine XO.q (Q.ldE rfl (by first | assumption | omega) rfl) ?_
        refine XO.q (Q.sub rfl rfl ⟨by omega, by omega⟩) ?_
        rw [show (lostAt c i j) - c.vals.getD k default = (lostAt c i (j + 1)) by rw [lostAt, lostAt, sumV, sumV, sumTo, ← ek, ← Int.sub_sub]; rfl]
        refine XO.q (Q.assign rfl) ?_
        refine XO.done ?_
        refine XK.inBlock ?_
        refine XK.region rfl ?_
        refine XO.q (Q.add rfl rfl ⟨by omega, by omega⟩) ?_
        refine XO.q (Q.move rfl) ?_
        refine XO.done ?_
        exact ih1 (j + 1) _ _ (by omega) (by first | omega | (dsimp only; omega)) (.c rfl (.c rfl (.base 30 rfl rfl))) inferInstance
      · have _t2 := True.intro
        have hjn : j = (sonsN c i).length := by omega
        subst hjn
        refine XK.exit rfl ?_
        refine XK.seq ?_
        refine XK.region rfl ?_
        refine XO.q (Q.move rfl) ?_
        refine XO.len rfl fun l48 => ?_
        rw [il]
        refine XO.q (Q.gtr rfl rfl) ?_
        refine XO.q (Q.move rfl) ?_
        refine XO.q (Quiet.guardT rfl rfl fun g51 p51 => Q.move rfl) ?_
        refine XO.q (Quiet.guardT rfl rfl fun g52 p52 => Q.fieldAddr rfl) ?_
        refine XO.q (Quiet.guardT rfl rfl fun g53 p53 => Q.ld (lzv g53 rfl) rfl) ?_
        refine XO.q (Quiet.guardT rfl rfl fun g54 p54 => Q.lss (lzv g54 rfl) (lzv g54 rfl)) ?_
        refine XO.q (Quiet.guardT rfl rfl fun g55 p55 => Q.move (lzv g55 rfl)) ?_
        refine XO.q (Quiet.guard2 rfl rfl fun g56a g56b => have p56a := bpT g56a; have p56b := bpF g56b; Q.move rfl) ?_
        refine XO.q (Quiet.guard2 rfl rfl fun g57a g57b => have p57a := bpT g57a; have p57b := bpF g57b; Q.fieldAddr rfl) ?_
        refine XO.q (Quiet.guard2 rfl rfl fun g58a g58b => have p58a := bpT g58a; have p58b := bpF g58b; Q.ld (lzv g58b (lzv g58a rfl)) rfl) ?_
        refine XO.q (Quiet.guard2 rfl rfl fun g59a g59b => have p59a := bpT g59a; have p59b := bpF g59b; Q.gtr (lzv g59b (lzv g59a rfl)) (lzv g59b (lzv g59a rfl))) ?_
        refine XO.q (Quiet.guardT rfl rfl fun g60 p60 => Q.or (lzv g60 rfl) (fun hp => (lzv hp (lzv g60 rfl)))) ?_
        refine XO.q (Q.and rfl (fun hp => lzv hp rfl)) ?_
        refine XO.done ?_
        refine XK.if rfl (fun c3 => ?_) (fun c3 => ?_)
        · have _t3 := True.intro
          refine XK.region rfl ?_
          refine XO.q (Q.move rfl) ?_
          refine XO.q (Q.move rfl) ?_
          refine XO.lit [_] [_] [((i : Nat) : Int)] encI (by rfl) (by rfl) rfl (by rfl) (by exact .c 0 1 rfl rfl rfl (.n _)) (fun _ => rfl) (by rfl) rfl (by infer_instance) rfl fun v64 h64 O64 => ?_
          refine XO.append rfl rfl rfl rfl (by simp only [ints_len, List.length_cons, List.length_nil]; omega) fun v65 h65 O65 => ?_
          refine XO.q (Q.assign rfl) ?_
          refine XO.done ?_
          refine XK.inBlock ?_
          refine XK.region rfl ?_
          refine XO.q (Q.add rfl rfl ⟨by omega, by omega⟩) ?_
          refine XO.q (Q.move rfl) ?_
          refine XO.done ?_
          exact ih0 (i + 1, v65, h65) _ _ ⟨by dsimp only; omega, by dsimp only; rw [brokenTo, if_pos (show isBroken c i from c3), ints_snoc]; exact O65⟩ (by first | omega | (dsimp only; omega)) (.c rfl (.c rfl (.base 113 rfl rfl))) inferInstance
        · have _t3 := True.intro
          refine XK.skip ?_
          refine XK.inBlock ?_
          refine XK.region rfl ?_
          refine XO.q (Q.add rfl rfl ⟨by omega, by omega⟩) ?_
          refine XO.q (Q.move rfl) ?_
          refine XO.done ?_
          exact ih0 (i + 1, vo, ko) _ _ ⟨by dsimp only; omega, by dsimp only; rw [brokenTo, if_neg (show ¬ isBroken c i from c3)]; exact OO⟩ (by first | omega | (dsimp only; omega)) (.c rfl (.c rfl (.base 108 rfl rfl))) inferInstance
    · have _t1 := True.intro
      refine XK.exit rfl ?_
      refine XK.seq ?_
      refine XK.region rfl ?_
      refine XO.q (Q.move rfl) ?_
      refine XO.q (Q.assign rfl) ?_
      refine XO.q (Q.assign rfl) ?_
      refine XO.done ?_
      refine XK.rt [ko] Try.func18 Try.results18 (.t rfl (.t rfl .n)) ?_
      have hin : i = c.nodes.length := by omega
      subst hin
      have hw0 : brokenG c = (ints (brokenTo c c.nodes.length), 0) := by rw [brokenG, if_neg c0]
      rw [hw0]
      exact ⟨vo, ko, rfl, rfl, OO⟩
end Go.X

set_option linter.unusedSimpArgs false
set_option linter.unusedVariables false
set_option maxRecDepth 20000
namespace Go.X
open Go.Proofs
theorem RCheck_spec (c : MCase) (vn vv : Value) (hn hv : PHeap) [jn : Arr vn encNode 3 hn c.nodes] [jv : Arr vv encI 1 hv c.vals] : Spec Try.prog 76 #[.agg #[vn, vv]] [] [hn, hv] (fun v hs => v = .int .i64 (mcheck c) ∧ hs = []) := by
  have ln := jn.le
  have lv := jv.le
  refine Spec.intro (fn := Try.f76) (N := 65) Try.func76 rfl Try.ntmps76 rfl fun B => ?_
  refine XK.seq ?_
  refine XK.region rfl ?_
  refine XO.box rfl fun b1 => ?_
  refine XO.q (Q.assign rfl) ?_
  refine XO.done ?_
  refine XK.seq ?_
  refine XK.seq ?_
  refine XK.region rfl ?_
  refine XO.q (Q.fieldAddr rfl) ?_
  refine XO.q (Q.ld rfl rfl) ?_
  refine XO.len rfl fun l8 => ?_
  refine XO.call Try.call95 rfl rfl rfl (in11 _ _ _) fun v9 s9 R9 => ?_
  obtain ⟨rfl, rfl⟩ := R9
  dsimp only [List.cons_append, List.nil_append]
  refine XO.q (Q.not rfl) ?_
  refine XO.done ?_
  refine XK.if rfl (fun c0 => ?_) (fun c0 => ?_)
  · have _t0 := True.intro
    refine XK.seq ?_
    refine XK.region rfl ?_
    refine XO.q (Q.assign rfl) ?_
    refine XO.done ?_
    refine XK.rt [] Try.func76 Try.results76 (.t rfl .n) ?_
    exact ⟨by rw [mcheck, if_pos (by rw [inF_iff] at c0; omega)], rfl⟩
  · have _t0 := True.intro
    refine XK.skip ?_
    refine XK.seq ?_
    refine XK.seq ?_
    refine XK.region rfl ?_
    refine XO.q (Q.fieldAddr rfl) ?_
    refine XO.q (Q.ld rfl rfl) ?_
    refine XO.len rfl fun l13 => ?_
    refine XO.q (Q.fieldAddr rfl) ?_
    refine XO.q (Q.ld rfl rfl) ?_
    refine XO.len rfl fun l16 => ?_
    refine XO.q (Q.neq rfl rfl) ?_
    refine XO.done ?_
    refine XK.if rfl (fun c1 => ?_) (fun c1 => ?_)
    · have _t1 := True.intro
      refine XK.seq ?_
      refine XK.region rfl ?_
      refine XO.q (Q.assign rfl) ?_
      refine XO.done ?_
      refine XK.rt [] Try.func76 Try.results76 (.t rfl .n) ?_
      rw [Decidable.not_not, inF_iff] at c0
      exact ⟨by rw [mcheck, if_neg (by omega), if_pos c1], rfl⟩
    · have _t1 := True.intro
      refine XK.skip ?_
      refine XK.seq ?_
      refine XK.seq ?_
      refine XK.region rfl ?_
      refine XO.q (Q.assign rfl) ?_
      refine XO.done ?_
      refine XK.block ?_
      refine XK.while (X := Nat) [2, 3, 4, 5, 18, 19, 20, 21, 22, 23, 24, 25, 26, 27, 28, 29, 30, 31, 32, 33, 34, 35, 36, 37, 38, 39, 40, 41, 42, 43, 44, 45, 46, 47, 48, 49, 50, 51, 52, 53, 54, 55, 56, 57, 58, 59, 60, 61, 62, 63, 64] (fun i => [(3, some (.int .i64 (i : Nat)))]) (fun i => []) (fun i => i ≤ c.nodes.length ∧ nodesOk c i = true) (fun i => c.nodes.length - i) (0) [] rfl ⟨by omega, rfl⟩ (.c rfl (.base 0 rfl rfl)) ?_
      rintro i ⟨hi, hall⟩ ih0
      dsimp only [List.cons_append, List.nil_append] at ih0 ⊢
      refine XK.seq ?_
      refine XK.seq ?_
      refine XK.region rfl ?_
      refine XO.q (Q.move rfl) ?_
      refine XO.q (Q.fieldAddr rfl) ?_
      refine XO.q (Q.ld rfl rfl) ?_
      refine XO.len rfl fun l21 => ?_
      refine XO.q (Q.lss rfl rfl) ?_
      refine XO.done ?_
      refine XK.if rfl (fun c2 => ?_) (fun c2 => ?_)
      · have _t2 := True.intro
        refine XK.skip ?_
        refine XK.seq ?_
        refine XK.block ?_
        refine XK.seq ?_
        refine XK.region rfl ?_
        refine XO.q (Q.fieldAddr rfl) ?_
        refine XO.q (Q.ld rfl rfl) ?_
        refine XO.q (Q.move rfl) ?_
        refine XO.ix rfl rfl (by omega) (by omega) fun i28 => ?_
        refine XO.q (Q.ldEA [_, _, _] rfl (by first | assumption | omega) rfl rfl) ?_
        refine XO.alloc fun b4 => ?_
        refine XO.st rfl rfl rfl ?_
        refine XO.done ?_
        refine XK.seq ?_
        refine XK.region rfl ?_
        refine XO.q (Q.fieldAddr rfl) ?_
        refine XO.q (Q.ld rfl rfl) ?_
        refine XO.q (Q.eql rfl rfl) ?_
        refine XO.q (Q.assign rfl) ?_
        refine XO.done ?_
        refine XK.seq ?_
        refine XK.seq ?_
        refine XK.region rfl ?_
        refine XO.q (Q.move rfl) ?_
        refine XO.q (Q.gtr rfl rfl) ?_
        refine XO.done ?_
        refine XK.meet (X := Unit) [5, 35, 36, 37, 38, 39] (fun ⟨⟩ => [(5, some (.bool (upB c i)))]) (fun ⟨⟩ => []) (fun ⟨⟩ => True) [] ?_ ?_
        · rintro ⟨⟩ _
          dsimp only [List.cons_append, List.nil_append]
          refine XK.seq ?_
          refine XK.region rfl ?_
          refine XO.q (Q.move rfl) ?_
          refine XO.q (Q.not rfl) ?_
          refine XO.q (Q.move rfl) ?_
          refine XO.q (Quiet.guardF rfl rfl fun g43 p43 => Q.fieldAddr rfl) ?_
          refine XO.q (Quiet.guardF rfl rfl fun g44 p44 => Q.ld (lzv g44 rfl) rfl) ?_
          refine XO.gcallF rfl rfl Try.call95 rfl (fun g45 => .c (lzv g45 rfl) (.c rfl (.c rfl .n))) rfl (fun g45 p45 => in11 _ _ _) ?_
          refine XO.q (Quiet.guardF rfl rfl fun g46 p46 => Q.not (lzv g46 rfl)) ?_
          refine XO.q (Q.or rfl (fun hp => lzv hp rfl)) ?_
          refine XO.q (Q.move rfl) ?_
          refine XO.q (Quiet.guardF rfl rfl fun g49 p49 => Q.fieldAddr rfl) ?_
          refine XO.q (Quiet.guardF rfl rfl fun g50 p50 => Q.ld (lzv g50 rfl) rfl) ?_
          refine XO.q (Quiet.guardF rfl rfl fun g51 p51 => Q.fieldAddr rfl) ?_
          refine XO.q (Quiet.guardF rfl rfl fun g52 p52 => Q.ld (lzv g52 rfl) rfl) ?_
          refine XO.gcallF rfl rfl Try.call95 rfl (fun g53 => .c (lzv g53 rfl) (.c rfl (.c (lzv g53 rfl) .n))) rfl (fun g53 p53 => in11 _ _ _) ?_
          refine XO.q (Quiet.guardF rfl rfl fun g54 p54 => Q.not (lzv g54 rfl)) ?_
          refine XO.q (Q.or rfl (fun hp => lzv hp rfl)) ?_
          refine XO.q (Q.move rfl) ?_
          refine XO.q (Quiet.guardF rfl rfl fun g57 p57 => Q.fieldAddr rfl) ?_
          refine XO.q (Quiet.guardF rfl rfl fun g58 p58 => Q.ld (lzv g58 rfl) rfl) ?_
          refine XO.q (Quiet.guardF rfl rfl fun g59 p59 => Q.move rfl) ?_
          refine XO.q (Quiet.guardF rfl rfl fun g60 p60 => Q.ix (lzv g60 rfl) (lzv g60 rfl) (by omega) (by omega)) ?_
          refine XO.q (Quiet.guardF rfl rfl fun g61 p61 => Q.ldE (lzv g61 rfl) (by first | assumption | omega) rfl) ?_
          refine XO.gcallF rfl rfl Try.call95 rfl (fun g62 => .c (lzv g62 rfl) (.c rfl (.c rfl .n))) rfl (fun g62 p62 => in11 _ _ _) ?_
          refine XO.q (Quiet.guardF rfl rfl fun g63 p63 => Q.not (lzv g63 rfl)) ?_
          refine XO.q (Q.or rfl (fun hp => lzv hp rfl)) ?_
          refine XO.done ?_
          refine XK.if rfl (fun c4 => ?_) (fun c4 => ?_)
          · have _t4 := True.intro
            refine XK.seq ?_
            refine XK.region rfl ?_
            refine XO.q (Q.assign rfl) ?_
            refine XO.done ?_
            refine XK.rt [] Try.func76 Try.results76 (.t rfl .n) ?_
            rw [Decidable.not_not, inF_iff] at c0
            exact ⟨by rw [mcheck, if_neg (by omega), if_neg c1, if_neg (by rw [nodesOk, allTo_false (s := i) (by omega) (by rw [Bool.not_eq_false', decide_eq_true_eq]; exact node_ref.1 c4)]; decide)], rfl⟩
          · have _t4 := True.intro
            refine XK.skip ?_
            refine XK.inBlock ?_
            refine XK.region rfl ?_
            refine XO.q (Q.move rfl) ?_
            refine XO.q (Q.add rfl rfl ⟨by omega, by omega⟩) ?_
            refine XO.q (Q.assign rfl) ?_
            refine XO.done ?_
            exact ih0 (i + 1) _ _ ⟨by omega, by rw [nodesOk, allTo_succ]; rw [nodesOk] at hall; rw [hall, Bool.true_and, Bool.not_eq_true', decide_eq_false_iff_not]; exact fun h => c4 (node_ref.2 h)⟩ (by first | omega | (dsimp only; omega)) (.c rfl (.base 104 rfl rfl)) inferInstance
        · intro mt3
          dsimp only [List.cons_append, List.nil_append] at mt3
          refine XK.if rfl (fun c3 => ?_) (fun c3 => ?_)
          · have _t3 := True.intro
            refine XK.region rfl ?_
            refine XO.q (Q.fieldAddr rfl) ?_
            refine XO.q (Q.ld rfl rfl) ?_
            refine XO.q (Q.move rfl) ?_
            refine XO.q (Q.sub rfl rfl ⟨by omega, by omega⟩) ?_
            refine XO.call Try.call95 rfl rfl rfl (in11 _ _ _) fun v39 s39 R39 => ?_
            obtain ⟨rfl, rfl⟩ := R39
            dsimp only [List.cons_append, List.nil_append]
            refine XO.q (Q.assign rfl) ?_
            refine XO.done ?_
            have e1 : upB c i = inF (c.nodes.getD i default).up 0 ((i : Int) - 1) := by rw [upB, if_pos c3]
            rw [e1] at mt3
            exact mt3 (()) _ _ trivial (.c rfl (.base 6 rfl rfl)) inferInstance
          · have _t3 := True.intro
            refine XK.skip ?_
            have e1 : upB c i = decide ((c.nodes.getD i default).up = -1) := by rw [upB, if_neg c3]
            rw [e1] at mt3
            exact mt3 (()) _ _ trivial (.c rfl (.base 0 rfl rfl)) inferInstance
      · have _t2 := True.intro
        refine XK.exit rfl ?_
        refine XK.seq ?_
        refine XK.region rfl ?_
        refine XO.q (Q.assign rfl) ?_
        refine XO.done ?_
        refine XK.rt [] Try.func76 Try.results76 (.t rfl .n) ?_
        have hin : i = c.nodes.length := by omega
        rw [hin] at hall
        rw [Decidable.not_not, inF_iff] at c0
        exact ⟨by rw [mcheck, if_neg (by omega), if_neg c1, if_pos hall], rfl⟩
theorem Lost_spec (c : MCase) (vn vv : Value) (hn hv : PHeap) [jn : Arr vn encNode 3 hn c.nodes] [jv : Arr vv encI 1 hv c.vals] (ok : MOk c) (i : Nat) (hi : i < c.nodes.length) : Spec Try.prog 98 #[.agg #[vn, vv], .int .i64 (i : Nat)] [] [hn, hv] (fun v hs => v = .tuple #[.int .i64 (lostAt c i (sonsN c i).length), .int .i64 (((sonsN c i).length : Nat) : Int)] ∧ hs = []) := by
  have n2 := ok.n2
  have vl := ok.vl
  have nd := (ok.node i hi).2.1
  have lfr : ∀ j, j ≤ c.nodes.length → 0 ≤ lostF c (i : Nat) j ∧ lostF c (i : Nat) j ≤ j * 1000000000 := fun j hj => hangF_rng fun k hk _ => (ok.node k (by omega)).2.1
  have z0 : lostF c (i : Nat) 0 = 0 := rfl
  have d0 : c.vals.getD i default = c.vals.getD i 0 := rfl
  refine Spec.intro (fn := Try.f98) (N := 40) Try.func98 rfl Try.ntmps98 rfl fun B => ?_
  refine XK.seq ?_
  refine XK.region rfl ?_
  refine XO.box rfl fun b2 => ?_
  refine XO.q (Q.assign rfl) ?_
  refine XO.q (Q.assign rfl) ?_
  refine XO.done ?_
  refine XK.seq ?_
  refine XK.region rfl ?_
  refine XO.q (Q.fieldAddr rfl) ?_
  refine XO.q (Q.ld rfl rfl) ?_
  refine XO.q (Q.move rfl) ?_
  refine XO.ix rfl rfl (by omega) (by omega) fun i12 => ?_
  refine XO.q (Q.ldE rfl (by first | assumption | omega) rfl) ?_
  rw [show c.vals.getD i default = (c.vals.getD i 0 - lostF c (i : Nat) 0) by rw [z0, Int.sub_zero]; rfl]
  refine XO.q (Q.assign rfl) ?_
  refine XO.q (Q.assign rfl) ?_
  refine XO.done ?_
  refine XK.seq ?_
  refine XK.seq ?_
  refine XK.region rfl ?_
  refine XO.q (Q.assign rfl) ?_
  refine XO.done ?_
  refine XK.block ?_
  refine XK.while (X := Nat) [6, 7, 8, 14, 15, 16, 17, 18, 19, 20, 21, 22, 23, 24, 25, 26, 27, 28, 29, 30, 31, 32, 33, 34, 35, 36, 37] (fun j => [(8, some (.int .i64 (j : Nat))), (6, some (.int .i64 (c.vals.getD i 0 - lostF c (i : Nat) j))), (7, some (.int .i64 (((sonsTo c (i : Nat) j).length : Nat) : Int)))]) (fun j => []) (fun j => j ≤ c.nodes.length) (fun j => c.nodes.length - j) (0) [] rfl (by omega) (.c rfl (.c rfl (.c rfl (.base 0 rfl rfl)))) ?_
  rintro j hj ih0
  dsimp only [List.cons_append, List.nil_append] at ih0 ⊢
  refine XK.seq ?_
  refine XK.seq ?_
  refine XK.region rfl ?_
  refine XO.q (Q.move rfl) ?_
  refine XO.q (Q.fieldAddr rfl) ?_
  refine XO.q (Q.ld rfl rfl) ?_
  refine XO.len rfl fun l17 => ?_
  refine XO.q (Q.lss rfl rfl) ?_
  refine XO.done ?_
  refine XK.if rfl (fun c0 => ?_) (fun c0 => ?_)
  · have _t0 := True.intro
    have r1 := lfr j (by omega)
    have nj := (ok.node j (by omega)).2.1
    have dj : c.vals.getD j default = c.vals.getD j 0 := rfl
    have sl := sonsTo_len (c := c) (i := (i : Int)) (n := j)
    refine XK.skip ?_
    refine XK.seq ?_
    refine XK.block ?_
    refine XK.seq ?_
    refine XK.region rfl ?_
    refine XO.q (Q.fieldAddr rfl) ?_
    refine XO.q (Q.ld rfl rfl) ?_
    refine XO.q (Q.move rfl) ?_
    refine XO.ix rfl rfl (by omega) (by omega) fun i24 => ?_
    refine XO.q (Q.fieldQ rfl (by first | assumption | omega)) ?_
    refine XO.q (Q.ldE rfl (by first | assumption | omega) rfl) ?_
    refine XO.q (Q.move rfl) ?_
    refine XO.q (Q.eql rfl rfl) ?_
    refine XO.done ?_
    refine XK.if rfl (fun c1 => ?_) (fun c1 => ?_)
    · have _t1 := True.intro
      have e1 : c.vals.getD i 0 - lostF c (i : Nat) j - c.vals.getD j default = (c.vals.getD i 0 - lostF c (i : Nat) (j + 1)) := by rw [lostF, lostF, hangF_yes c1, dj]; omega
      have e2 : (((sonsTo c (i : Nat) j).length : Nat) : Int) + 1 = (((sonsTo c (i : Nat) (j + 1)).length : Nat) : Int) := by rw [sons_yes c1]; rfl
      refine XK.seq ?_
      refine XK.region rfl ?_
      refine XO.q (Q.move rfl) ?_
      refine XO.q (Q.fieldAddr rfl) ?_
      refine XO.q (Q.ld rfl rfl) ?_
      refine XO.q (Q.move rfl) ?_
      refine XO.ix rfl rfl (by omega) (by omega) fun i33 => ?_
      refine XO.q (Q.ldE rfl (by first | assumption | omega) rfl) ?_
      refine XO.q (Q.sub rfl rfl ⟨by omega, by omega⟩) ?_
      refine XO.q (Q.assign rfl) ?_
      refine XO.done ?_
      refine XK.region rfl ?_
      refine XO.q (Q.move rfl) ?_
      refine XO.q (Q.add rfl rfl ⟨by omega, by omega⟩) ?_
      refine XO.q (Q.assign rfl) ?_
      refine XO.done ?_
      refine XK.inBlock ?_
      refine XK.region rfl ?_
      refine XO.q (Q.move rfl) ?_
      refine XO.q (Q.add rfl rfl ⟨by omega, by omega⟩) ?_
      refine XO.q (Q.assign rfl) ?_
      refine XO.done ?_
      rw [e1, e2]
      exact ih0 (j + 1) _ _ (by omega) (by first | omega | (dsimp only; omega)) (.c rfl (.c rfl (.c rfl (.base 57 rfl rfl)))) inferInstance
    · have _t1 := True.intro
      have e1 : (c.vals.getD i 0 - lostF c (i : Nat) j) = (c.vals.getD i 0 - lostF c (i : Nat) (j + 1)) := by rw [lostF, lostF, hangF_no c1]
      have e2 : (((sonsTo c (i : Nat) j).length : Nat) : Int) = (((sonsTo c (i : Nat) (j + 1)).length : Nat) : Int) := by rw [sons_no c1]
      refine XK.skip ?_
      refine XK.inBlock ?_
      refine XK.region rfl ?_
      refine XO.q (Q.move rfl) ?_
      refine XO.q (Q.add rfl rfl ⟨by omega, by omega⟩) ?_
      refine XO.q (Q.assign rfl) ?_
      refine XO.done ?_
      rw [e1, e2]
      exact ih0 (j + 1) _ _ (by omega) (by first | omega | (dsimp only; omega)) (.c rfl (.c rfl (.c rfl (.base 46 rfl rfl)))) inferInstance
  · have _t0 := True.intro
    have hjn : j = c.nodes.length := by omega
    subst hjn
    refine XK.exit rfl ?_
    refine XK.seq ?_
    refine XK.region rfl ?_
    refine XO.q (Q.move rfl) ?_
    refine XO.q (Q.move rfl) ?_
    refine XO.q (Q.assign rfl) ?_
    refine XO.q (Q.assign rfl) ?_
    refine XO.done ?_
    refine XK.rt [] Try.func98 Try.results98 (.t rfl (.t rfl .n)) ?_
    exact ⟨by rw [lost_ref]; rfl, rfl⟩
theorem RBroken_spec (c : MCase) (vn vv : Value) (hn hv : PHeap) [jn : Arr vn encNode 3 hn c.nodes] [jv : Arr vv encI 1 hv c.vals] : Spec Try.prog 77 #[.agg #[vn, vv]] [] [hn, hv] (fun v hs => ∃ v1 k1, v = .tuple #[v1, .int .i64 (brokenG c).2] ∧ hs = [k1] ∧ OArr v1 encI 1 3 k1 (brokenG c).1) := by
  have nI : OArr (.slice none 0 0) encI 1 3 emp ([] : List Int) := OArr.nil (fun _ => rfl)
  refine Spec.intro (fn := Try.f77) (N := 51) Try.func77 rfl Try.ntmps77 rfl fun B => ?_
  refine XK.seq ?_
  refine XK.region rfl ?_
  refine XO.box rfl fun b1 => ?_
  refine XO.q (Q.assign rfl) ?_
  refine XO.q (Q.assign rfl) ?_
  refine XO.done ?_
  refine XK.seq ?_
  refine XK.seq ?_
  refine XK.region rfl ?_
  refine XO.q (Q.ldA [_, _] rfl rfl rfl) ?_
  refine XO.call Try.call76 rfl rfl rfl (RCheck_spec c vn vv hn hv) fun v10 s10 R10 => ?_
  obtain ⟨rfl, rfl⟩ := R10
  dsimp only [List.cons_append, List.nil_append]
  refine XO.q (Q.assign rfl) ?_
  refine XO.done ?_
  refine XK.seq ?_
  refine XK.region rfl ?_
  refine XO.q (Q.move rfl) ?_
  refine XO.q (Q.neq rfl rfl) ?_
  refine XO.done ?_
  refine XK.if rfl (fun c0 => ?_) (fun c0 => ?_)
  · have _t0 := True.intro
    refine XK.seq ?_
    refine XK.region rfl ?_
    refine XO.q (Q.move rfl) ?_
    refine XO.q (Q.assign rfl) ?_
    refine XO.q (Q.assign rfl) ?_
    refine XO.done ?_
    refine XK.rt [emp] Try.func77 Try.results77 (.t rfl (.t rfl .n)) ?_
    have hw0 : brokenG c = ([], mcheck c) := by rw [brokenG, if_pos c0]
    rw [hw0]
    exact ⟨.slice none 0 0, emp, rfl, rfl, OArr.nil (fun _ => rfl)⟩
  · have _t0 := True.intro
    have ok := mcheck_ok (Decidable.of_not_not c0)
    have vl := ok.vl
    refine XK.skip ?_
    refine XK.seq ?_
    refine XK.region rfl ?_
    refine XO.q (Q.assign rfl) ?_
    refine XO.done ?_
    refine XK.seq ?_
    refine XK.seq ?_
    refine XK.region rfl ?_
    refine XO.q (Q.assign rfl) ?_
    refine XO.done ?_
    refine XK.block ?_
    refine XK.while (X := Nat × Value × PHeap) [5, 6, 7, 8, 14, 15, 16, 17, 18, 19, 20, 21, 22, 23, 24, 25, 26, 27, 28, 29, 30, 31, 32, 33, 34, 35, 36, 37, 38, 39, 40, 41, 42, 43, 44, 45, 46, 47, 48, 49] (fun ⟨i, vo, ko⟩ => [(6, some (.int .i64 (i : Nat))), (5, some (vo))]) (fun ⟨i, vo, ko⟩ => [ko]) (fun ⟨i, vo, ko⟩ => i ≤ c.nodes.length ∧ OArr vo encI 1 3 ko (ints (brokenTo c i))) (fun ⟨i, vo, ko⟩ => c.nodes.length - i) (0, .slice none 0 0, emp) [emp] rfl ⟨by omega, nI⟩ (.c rfl (.c rfl (.base 0 rfl rfl))) ?_
    rintro ⟨i, vo, ko⟩ ⟨hi, OO⟩ ih0
    dsimp only [List.cons_append, List.nil_append] at ih0 ⊢
    refine XK.seq ?_
    refine XK.seq ?_
    refine XK.region rfl ?_
    refine XO.q (Q.move rfl) ?_
    refine XO.q (Q.fieldAddr rfl) ?_
    refine XO.q (Q.ld rfl rfl) ?_
    refine XO.len rfl fun l17 => ?_
    refine XO.q (Q.lss rfl rfl) ?_
    refine XO.done ?_
    refine XK.if rfl (fun c1 => ?_) (fun c1 => ?_)
    · have _t1 := True.intro
      have bl := brokenTo_len c i
      have n2 := ok.n2
      refine XK.skip ?_
      refine XK.seq ?_
      refine XK.block ?_
      refine XK.seq ?_
      refine XK.region rfl ?_
      refine XO.q (Q.ldA [_, _] rfl rfl rfl) ?_
      refine XO.q (Q.move rfl) ?_
      refine XO.call Try.call98 rfl rfl rfl (Lost_spec c vn vv hn hv ok i (by omega)) fun v24 s24 R24 => ?_
      obtain ⟨rfl, rfl⟩ := R24
      dsimp only [List.cons_append, List.nil_append]
      refine XO.q (Q.move rfl) ?_
      refine XO.q (Q.extract rfl rfl) ?_
      refine XO.q (Q.extract rfl rfl) ?_
      refine XO.q (Q.assign rfl) ?_
      refine XO.q (Q.assign rfl) ?_
      refine XO.done ?_
      refine XK.seq ?_
      refine XK.drawn [0, 1, 2, 3, 4, 5, 6, 7, 8, 9, 10, 11, 12, 13, 14, 15, 17, 18] [b1] [] (.q 0 (.q 1 (.q 2 (.q 3 (.q 4 (.q 5 (.q 6 (.q 7 (.q 8 (.q 9 (.q 10 (.q 11 (.q 12 (.q 13 (.q 14 (.q 15 (.br 16 true (.q 17 (.q 18 .done)) .stop))))))))))))))))) Try.mixed rfl (by kernel_rfl) ?_
      refine XT.q rfl rfl (Q.move rfl) ?_
      refine XT.q rfl rfl (Q.gtr rfl rfl) ?_
      refine XT.q rfl rfl (Q.move rfl) ?_
      refine XT.q rfl rfl (Quiet.guardT rfl rfl fun g30 p30 => Q.move rfl) ?_
      refine XT.q rfl rfl (Quiet.guardT rfl rfl fun g31 p31 => Q.fieldAddr rfl) ?_
      refine XT.q rfl rfl (Quiet.guardT rfl rfl fun g32 p32 => Q.ld (lzv g32 rfl) rfl) ?_
      refine XT.q rfl rfl (Quiet.guardT rfl rfl fun g33 p33 => Q.move rfl) ?_
      refine XT.q rfl rfl (Quiet.guardT rfl rfl fun g34 p34 => Q.ix (lzv g34 rfl) (lzv g34 rfl) (by omega) (by omega)) ?_
      refine XT.q rfl rfl (Quiet.guardT rfl rfl fun g35 p35 => Q.fieldQ (lzv g35 rfl) (by first | assumption | omega)) ?_
      refine XT.q rfl rfl (Quiet.guardT rfl rfl fun g36 p36 => Q.ldE (lzv g36 rfl) (by first | assumption | omega) rfl) ?_
      refine XT.q rfl rfl (Quiet.guardT rfl rfl fun g37 p37 => Q.fieldAddr rfl) ?_
      refine XT.q rfl rfl (Quiet.guardT rfl rfl fun g38 p38 => Q.ld (lzv g38 rfl) rfl) ?_
      refine XT.q rfl rfl (Quiet.guardT rfl rfl fun g39 p39 => Q.move rfl) ?_
      refine XT.q rfl rfl (Quiet.guardT rfl rfl fun g40 p40 => Q.ix (lzv g40 rfl) (lzv g40 rfl) (by omega) (by omega)) ?_
      refine XT.q rfl rfl (Quiet.guardT rfl rfl fun g41 p41 => Q.fieldQ (lzv g41 rfl) (by first | assumption | omega)) ?_
      refine XT.q rfl rfl (Quiet.guardT rfl rfl fun g42 p42 => Q.ldE (lzv g42 rfl) (by first | assumption | omega) rfl) ?_
      refine XT.gcallT rfl rfl rfl rfl Try.call95 rfl (fun g43 => .c (lzv g43 rfl) (.c (lzv g43 rfl) (.c (lzv g43 rfl) .n))) rfl (fun g43 p43 => in11 _ _ _) ⟨inferInstance, ?_⟩ XT.stop
      refine XT.q rfl rfl (Quiet.guardT rfl rfl fun g44 p44 => Q.not (lzv g44 rfl)) ?_
      refine XT.q rfl rfl (Q.and rfl (fun hp => lzv hp rfl)) ?_
      refine XT.done ?_
      refine XK.if rfl (fun c2 => ?_) (fun c2 => ?_)
      · have _t2 := True.intro
        refine XK.region rfl ?_
        refine XO.q (Q.move rfl) ?_
        refine XO.q (Q.move rfl) ?_
        refine XO.lit [_] [_] [((i : Nat) : Int)] encI (by rfl) (by rfl) rfl (by rfl) (by exact .c 0 1 rfl rfl rfl (.n _)) (fun _ => rfl) (by rfl) rfl (by infer_instance) rfl fun v48 h48 O48 => ?_
        refine XO.append rfl rfl rfl rfl (by simp only [ints_len, List.length_cons, List.length_nil]; omega) fun v49 h49 O49 => ?_
        refine XO.q (Q.assign rfl) ?_
        refine XO.done ?_
        refine XK.inBlock ?_
        refine XK.region rfl ?_
        refine XO.q (Q.move rfl) ?_
        refine XO.q (Q.add rfl rfl ⟨by omega, by omega⟩) ?_
        refine XO.q (Q.assign rfl) ?_
        refine XO.done ?_
        exact ih0 (i + 1, v49, h49) _ _ ⟨by dsimp only; omega, by dsimp only; rw [brokenTo, if_pos (broken_ref.1 c2), ints_snoc]; exact O49⟩ (by first | omega | (dsimp only; omega)) (.c rfl (.c rfl (.base 82 rfl rfl))) inferInstance
      · have _t2 := True.intro
        refine XK.skip ?_
        refine XK.inBlock ?_
        refine XK.region rfl ?_
        refine XO.q (Q.move rfl) ?_
        refine XO.q (Q.add rfl rfl ⟨by omega, by omega⟩) ?_
        refine XO.q (Q.assign rfl) ?_
        refine XO.done ?_
        exact ih0 (i + 1, vo, ko) _ _ ⟨by dsimp only; omega, by dsimp only; rw [brokenTo, if_neg (fun h => c2 (broken_ref.2 h))]; exact OO⟩ (by first | omega | (dsimp only; omega)) (.c rfl (.c rfl (.base 77 rfl rfl))) inferInstance
    · have _t1 := True.intro
      refine XK.exit rfl ?_
      refine XK.seq ?_
      refine XK.region rfl ?_
      refine XO.q (Q.move rfl) ?_
      refine XO.q (Q.assign rfl) ?_
      refine XO.q (Q.assign rfl) ?_
      refine XO.done ?_
      refine XK.rt [ko] Try.func77 Try.results77 (.t rfl (.t rfl .n)) ?_
      have hin : i = c.nodes.length := by omega
      subst hin
      have hw0 : brokenG c = (ints (brokenTo c c.nodes.length), 0) := by rw [brokenG, if_neg c0]
      rw [hw0]
      exact ⟨vo, ko, rfl, rfl, OO⟩
end Go.X

set_option linter.unusedSimpArgs false
set_option linter.unusedVariables false
set_option maxRecDepth 20000
namespace Go.X
open Go.Proofs
/-- What the reference's bounds are. -/
structure MayIs (c : MCase) (set : List Int) (F L : List Int) : Prop where
  fl : F.length = c.nodes.length
  ll : L.length = c.nodes.length
  val : ∀ i, i < c.nodes.length → F.getD i 0 = (mayI c set i).first ∧ L.getD i 0 = (mayI c set i).last
theorem rmay_rng {c : MCase} (ok : MOk c) {set : List Int} {i : Nat} (h : ∀ k, i < k → k < c.nodes.length → okN c set k = true) {n : Nat} (hn : n ≤ c.nodes.length) : (0 ≤ hangF c (fun k => (mayI c set k).first) (i : Nat) n ∧ hangF c (fun k => (mayI c set k).first) (i : Nat) n ≤ n * 1000000000) ∧ 0 ≤ hangF c (fun k => (mayI c set k).last) (i : Nat) n ∧ hangF c (fun k => (mayI c set k).last) (i : Nat) n ≤ n * 1000000000 := by
  have r : ∀ k, k < n → (c.nodes.getD k default).up = (i : Int) → 0 ≤ (mayI c set k).first ∧ (mayI c set k).first ≤ (mayI c set k).last ∧ (mayI c set k).last ≤ 1000000000 := fun k hk hu => by
    have : ¬ k ≤ i := fun hki => up_low ok (by omega) hki hu
    exact may_rng ok set (by omega) (h k (by omega) (by omega))
  exact ⟨hangF_rng fun k hk hu => by have := r k hk hu; omega, hangF_rng fun k hk hu => by have := r k hk hu; omega⟩
set_option maxHeartbeats 2000000 in
theorem RMay_spec (c : MCase) (vn vv : Value) (hn hv : PHeap) [jn : Arr vn encNode 3 hn c.nodes] [jv : Arr vv encI 1 hv c.vals] (ok : MOk c) (set : List Int) (Bf : List Bool) (vb : Value) (hb : PHeap) [jb : Arr vb encB 1 hb Bf] (fr : FreeIs c set Bf) : Spec Try.prog 100 #[.agg #[vn, vv], vb] [] [hn, hv, hb] (fun v hs => ∃ v1 v2 k1 k2 L1 L2, v = .tuple #[v1, v2, .bool (okN c set 0)] ∧ hs = [k1, k2] ∧ OArr v1 encI 1 3 k1 L1 ∧ OArr v2 encI 1 3 k2 L2 ∧ (okN c set 0 = true → MayIs c set L1 L2)) := by
  have n1 := ok.n1
  have n2 := ok.n2
  have vl := ok.vl
  have bl := fr.len
  refine Spec.intro (fn := Try.f100) (N := 128) Try.func100 rfl Try.ntmps100 rfl fun B => ?_
  refine XK.seq ?_
  refine XK.region rfl ?_
  refine XO.box rfl fun b2 => ?_
  refine XO.q (Q.assign rfl) ?_
  refine XO.q (Q.assign rfl) ?_
  refine XO.q (Q.assign rfl) ?_
  refine XO.done ?_
  refine XK.seq ?_
  refine XK.region rfl ?_
  refine XO.q (Q.fieldAddr rfl) ?_
  refine XO.q (Q.ld rfl rfl) ?_
  refine XO.len rfl fun l17 => ?_
  refine XO.q (Q.assign rfl) ?_
  refine XO.done ?_
  refine XK.seq ?_
  refine XK.meet (X := Value × Value × PHeap × PHeap) [8, 9, 18, 19, 20, 21] (fun ⟨vF, vL, kF, kL⟩ => [(8, some (vF)), (9, some (vL))]) (fun ⟨vF, vL, kF, kL⟩ => [kF, kL]) (fun ⟨vF, vL, kF, kL⟩ => OArr vF encI 1 3 kF (List.replicate c.nodes.length 0) ∧ OArr vL encI 1 3 kL (List.replicate c.nodes.length 0)) [] ?_ ?_
  · rintro ⟨vF, vL, kF, kL⟩ ⟨OF0, OL0⟩
    dsimp only [List.cons_append, List.nil_append]
    refine XK.seq ?_
    refine XK.seq ?_
    refine XK.region rfl ?_
    refine XO.q (Q.move rfl) ?_
    refine XO.q (Q.sub rfl rfl ⟨by omega, by omega⟩) ?_
    refine XO.q (Q.assign rfl) ?_
    refine XO.done ?_
    refine XK.block ?_
    refine XK.while (X := Nat × PHeap × PHeap × List Int × List Int) [4, 5, 6, 10, 11, 12, 13, 14, 24, 25, 26, 27, 28, 29, 30, 31, 32, 33, 34, 35, 36, 37, 38, 39, 40, 41, 42, 43, 44, 45, 46, 47, 48, 49, 50, 51, 52, 53, 54, 55, 56, 57, 58, 59, 60, 61, 62, 63, 64, 65, 66, 67, 68, 69, 70, 71, 72, 73, 74, 75, 76, 77, 78, 79, 80, 81, 82, 83, 84, 85, 86, 87, 88, 89, 90, 91, 92, 93, 94, 95, 96, 97, 98, 99, 100, 101, 102, 103, 104, 105, 106, 107, 108, 109, 110, 111, 112, 113, 114, 115, 116, 117, 118, 119, 120, 121, 122, 123, 124, 125] (fun ⟨m, kf, kl, LF, LL⟩ => [(10, some (.int .i64 (((m : Nat) : Int) - 1)))]) (fun ⟨m, kf, kl, LF, LL⟩ => [kf, kl]) (fun ⟨m, kf, kl, LF, LL⟩ => m ≤ c.nodes.length ∧ OArr vF encI 1 3 kf LF ∧ OArr vL encI 1 3 kl LL ∧ LF.length = c.nodes.length ∧ LL.length = c.nodes.length ∧ (∀ k, m ≤ k → k < c.nodes.length → okN c set k = true) ∧ ∀ k, m ≤ k → k < c.nodes.length → LF.getD k 0 = (mayI c set k).first ∧ LL.getD k 0 = (mayI c set k).last) (fun ⟨m, kf, kl, LF, LL⟩ => m) (c.nodes.length, kF, kL, _, _) [kF, kL] rfl ⟨Nat.le_refl _, OF0, OL0, List.length_replicate, List.length_replicate, fun k h1 h2 => by omega, fun k h1 h2 => by omega⟩ (.c rfl (.base 0 rfl rfl)) ?_
    rintro ⟨m, kf, kl, LF, LL⟩ ⟨hm, OF, OL, lf, ll, hok, hval⟩ ih0
    dsimp only [List.cons_append, List.nil_append] at ih0 ⊢
    refine XK.seq ?_
    refine XK.seq ?_
    refine XK.region rfl ?_
    refine XO.q (Q.move rfl) ?_
    refine XO.q (Q.geq rfl rfl) ?_
    refine XO.done ?_
    refine XK.if rfl (fun c0 => ?_) (fun c0 => ?_)
    · have _t0 := True.intro
      obtain ⟨i, rfl⟩ : ∃ i, m = i + 1 := ⟨m - 1, by omega⟩
      rw [show (((i + 1 : Nat) : Int) - 1) = (i : Int) by omega]
      have hok1 : ∀ k, i < k → k < c.nodes.length → okN c set k = true := fun k h1 h2 => hok k (by omega) h2
      have nd := ok.node i (by omega)
      have dv : c.vals.getD i default = c.vals.getD i 0 := rfl
      refine XK.skip ?_
      refine XK.seq ?_
      refine XK.block ?_
      refine XK.seq ?_
      refine XK.region rfl ?_
      refine XO.q (Q.assign rfl) ?_
      refine XO.q (Q.assign rfl) ?_
      refine XO.q (Q.assign rfl) ?_
      refine XO.done ?_
      refine XK.seq ?_
      refine XK.seq ?_
      refine XK.region rfl ?_
      refine XO.q (Q.move rfl) ?_
      refine XO.q (Q.add rfl rfl ⟨by omega, by omega⟩) ?_
      refine XO.q (Q.assign rfl) ?_
      refine XO.done ?_
      refine XK.block ?_
      refine XK.while (X := Nat × Int × Int × Nat) [11, 12, 13, 14, 30, 31, 32, 33, 34, 35, 36, 37, 38, 39, 40, 41, 42, 43, 44, 45, 46, 47, 48, 49, 50, 51, 52, 53, 54, 55, 56] (fun ⟨k, lo, hh, cn⟩ => [(14, some (.int .i64 (k : Nat))), (11, some (.int .i64 lo)), (12, some (.int .i64 hh)), (13, some (.int .i64 (cn : Nat)))]) (fun ⟨k, lo, hh, cn⟩ => []) (fun ⟨k, lo, hh, cn⟩ => i + 1 ≤ k ∧ k ≤ c.nodes.length ∧ lo = hangF c (fun k => (mayI c set k).first) (i : Nat) k ∧ hh = hangF c (fun k => (mayI c set k).last) (i : Nat) k ∧ cn = (sonsTo c (i : Nat) k).length) (fun ⟨k, lo, hh, cn⟩ => c.nodes.length - k) (i + 1, 0, 0, 0) [] rfl ⟨Nat.le_refl _, by omega, (hangF_low ok _ (Nat.le_refl _) (by omega)).symm, (hangF_low ok _ (Nat.le_refl _) (by omega)).symm, by rw [sons_low ok (Nat.le_refl _) (by omega)]; rfl⟩ (.c rfl (.c rfl (.c rfl (.c rfl (.base 0 rfl rfl))))) ?_
      rintro ⟨k, lo, hh, cn⟩ ⟨hk1, hk2, elo, ehh, ecn⟩ ih1
      dsimp only [List.cons_append, List.nil_append] at ih1 ⊢
      refine XK.seq ?_
      refine XK.seq ?_
      refine XK.region rfl ?_
      refine XO.q (Q.move rfl) ?_
      refine XO.q (Q.move rfl) ?_
      refine XO.q (Q.lss rfl rfl) ?_
      refine XO.done ?_
      refine XK.if rfl (fun c1 => ?_) (fun c1 => ?_)
      · have _t1 := True.intro
        have rr := rmay_rng ok hok1 (n := k) (by omega)
        rw [← elo, ← ehh] at rr
        have slk := sonsTo_len (c := c) (i := ((i : Nat) : Int)) (n := k)
        have mk := may_rng ok set (i := k) (by omega) (hok1 k (by omega) (by omega))
        have vk := hval k (by omega) (by omega)
        have dk : LF.getD k default = LF.getD k 0 := rfl
        have dk2 : LL.getD k default = LL.getD k 0 := rfl
        refine XK.skip ?_
        refine XK.seq ?_
        refine XK.block ?_
        refine XK.seq ?_
        refine XK.region rfl ?_
        refine XO.q (Q.fieldAddr rfl) ?_
        refine XO.q (Q.ld rfl rfl) ?_
        refine XO.q (Q.move rfl) ?_
        refine XO.ix rfl rfl (by omega) (by omega) fun i38 => ?_
        refine XO.q (Q.fieldQ rfl (by first | assumption | omega)) ?_
        refine XO.q (Q.ldE rfl (by first | assumption | omega) rfl) ?_
        refine XO.q (Q.move rfl) ?_
        refine XO.q (Q.eql rfl rfl) ?_
        refine XO.done ?_
        refine XK.if rfl (fun c2 => ?_) (fun c2 => ?_)
        · have _t2 := True.intro
          refine XK.seq ?_
          refine XK.region rfl ?_
          refine XO.q (Q.move rfl) ?_
          refine XO.q (Q.move rfl) ?_
          refine XO.q (Q.move rfl) ?_
          refine XO.ix rfl rfl (by omega) (by omega) fun i46 => ?_
          refine XO.q (Q.ldE rfl (by first | assumption | omega) rfl) ?_
          refine XO.q (Q.add rfl rfl ⟨by omega, by omega⟩) ?_
          refine XO.q (Q.assign rfl) ?_
          refine XO.done ?_
          refine XK.seq ?_
          refine XK.region rfl ?_
          refine XO.q (Q.move rfl) ?_
          refine XO.q (Q.move rfl) ?_
          refine XO.q (Q.move rfl) ?_
          refine XO.ix rfl rfl (by omega) (by omega) fun i52 => ?_
          refine XO.q (Q.ldE rfl (by first | assumption | omega) rfl) ?_
          refine XO.q (Q.add rfl rfl ⟨by omega, by omega⟩) ?_
          refine XO.q (Q.assign rfl) ?_
          refine XO.done ?_
          refine XK.region rfl ?_
          refine XO.q (Q.move rfl) ?_
          refine XO.q (Q.add rfl rfl ⟨by omega, by omega⟩) ?_
          refine XO.q (Q.assign rfl) ?_
          refine XO.done ?_
          refine XK.inBlock ?_
          refine XK.region rfl ?_
          refine XO.q (Q.move rfl) ?_
          refine XO.q (Q.add rfl rfl ⟨by omega, by omega⟩) ?_
          refine XO.q (Q.assign rfl) ?_
          refine XO.done ?_
          exact ih1 (k + 1, lo + LF.getD k default, hh + LL.getD k default, cn + 1) _ _ ⟨by omega, by omega, by rw [hangF_yes c2, elo, ← (hval k (by omega) (by omega)).1]; rfl, by rw [hangF_yes c2, ehh, ← (hval k (by omega) (by omega)).2]; rfl, by rw [sons_yes c2, ecn]⟩ (by first | omega | (dsimp only; omega)) (.c rfl (.c rfl (.c rfl (.c rfl (.base 66 rfl rfl))))) inferInstance
        · have _t2 := True.intro
          refine XK.skip ?_
          refine XK.inBlock ?_
          refine XK.region rfl ?_
          refine XO.q (Q.move rfl) ?_
          refine XO.q (Q.add rfl rfl ⟨by omega, by omega⟩) ?_
          refine XO.q (Q.assign rfl) ?_
          refine XO.done ?_
          exact ih1 (k + 1, lo, hh, cn) _ _ ⟨by omega, by omega, by rw [hangF_no c2, elo], by rw [hangF_no c2, ehh], by rw [sons_no c2, ecn]⟩ (by first | omega | (dsimp only; omega)) (.c rfl (.c rfl (.c rfl (.c rfl (.base 49 rfl rfl))))) inferInstance
      · have _t1 := True.intro
        have hkn : k = c.nodes.length := by omega
        subst hkn
        have rr := rmay_rng ok hok1 (n := c.nodes.length) (Nat.le_refl _)
        rw [← elo, ← ehh] at rr
        have ow := own_rng ok set (i := i) (by omega)
        have slk := sonsTo_len (c := c) (i := ((i : Nat) : Int)) (n := c.nodes.length)
        have e0 := may_eq ok set (i := i) (by omega)
        rw [sums_first, sums_last, ← elo, ← ehh, show (sonsN c i).length = cn from ecn.symm] at e0
        have of := own_free fr (i := i) (by omega)
        clear ih1
        refine XK.exit rfl ?_
        refine XK.seq ?_
        refine XK.meet (X := PHeap × PHeap) [57, 58, 59, 60, 61, 62, 63, 64, 65, 66, 67, 68, 69, 70, 71, 72] (fun ⟨kf1, kl1⟩ => []) (fun ⟨kf1, kl1⟩ => [kf1, kl1]) (fun ⟨kf1, kl1⟩ => OArr vF encI 1 3 kf1 (LF.set i (c.vals.getD i default)) ∧ OArr vL encI 1 3 kl1 (LL.set i (c.vals.getD i default))) [kf, kl] ?_ ?_
        · rintro ⟨kf1, kl1⟩ ⟨OF1, OL1⟩
          dsimp only [List.cons_append, List.nil_append]
          have sv1 : (LF.set i (c.vals.getD i default)).length = LF.length := List.length_set
          have sv2 : (LL.set i (c.vals.getD i default)).length = LL.length := List.length_set
          refine XK.seq ?_
          refine XK.seq ?_
          refine XK.region rfl ?_
          refine XO.q (Q.move rfl) ?_
          refine XO.q (Q.move rfl) ?_
          refine XO.ix rfl rfl (by omega) (by omega) fun i75 => ?_
          refine XO.q (Q.ldE rfl (by first | assumption | omega) rfl) ?_
          refine XO.done ?_
          refine XK.meet (X := PHeap × PHeap) [77, 78, 79, 80, 81, 82] (fun ⟨kf2, kl2⟩ => []) (fun ⟨kf2, kl2⟩ => [kf2, kl2]) (fun ⟨kf2, kl2⟩ => OArr vF encI 1 3 kf2 (LF.set i (ownIv c set i).first) ∧ OArr vL encI 1 3 kl2 (LL.set i (ownIv c set i).last)) [kf1, kl1] ?_ ?_
          · rintro ⟨kf2, kl2⟩ ⟨OF2, OL2⟩
            dsimp only [List.cons_append, List.nil_append]
            refine XK.seq ?_
            refine XK.seq ?_
            refine XK.region rfl ?_
            refine XO.q (Q.move rfl) ?_
            refine XO.q (Q.gtr rfl rfl) ?_
            refine XO.done ?_
            refine XK.meet (X := PHeap × PHeap) [85, 86, 87, 88, 89, 90, 91, 92, 93, 94, 95, 96, 97, 98, 99, 100, 101, 102, 103, 104, 105, 106, 107, 108, 109, 110, 111, 112, 113, 114, 115, 116] (fun ⟨kf3, kl3⟩ => []) (fun ⟨kf3, kl3⟩ => [kf3, kl3]) (fun ⟨kf3, kl3⟩ => OArr vF encI 1 3 kf3 (LF.set i (mayI c set i).first) ∧ OArr vL encI 1 3 kl3 (LL.set i (mayI c set i).last)) [kf2, kl2] ?_ ?_
            · rintro ⟨kf3, kl3⟩ ⟨OF3, OL3⟩
              dsimp only [List.cons_append, List.nil_append]
              have sm1 : (LF.set i (mayI c set i).first).length = LF.length := List.length_set
              have sm2 : (LL.set i (mayI c set i).last).length = LL.length := List.length_set
              have g1 : (LF.set i (mayI c set i).first).getD i default = (mayI c set i).first := by rw [set_getDd (by omega), if_pos rfl]
              have g2 : (LL.set i (mayI c set i).last).getD i default = (mayI c set i).last := by rw [set_getDd (by omega), if_pos rfl]
              refine XK.seq ?_
              refine XK.drawn [0, 1, 2, 3, 4, 5, 6, 7, 8] [] [kf3, kl3] (.q 0 (.q 1 (.q 2 (.q 3 (.q 4 (.q 5 (.q 6 (.q 7 (.q 8 .done))))))))) Try.mixed rfl (by kernel_rfl) ?_
              refine XT.q rfl rfl (Q.move rfl) ?_
              refine XT.q rfl rfl (Q.move rfl) ?_
              refine XT.ix rfl rfl rfl rfl (by omega) (by omega) fun i119 => ?_
              refine XT.q rfl rfl (Q.ldE rfl (by first | assumption | omega) rfl) ?_
              refine XT.q rfl rfl (Q.move rfl) ?_
              refine XT.q rfl rfl (Q.move rfl) ?_
              refine XT.ix rfl rfl rfl rfl (by omega) (by omega) fun i123 => ?_
              refine XT.q rfl rfl (Q.ldE rfl (by first | assumption | omega) rfl) ?_
              refine XT.q rfl rfl (Q.gtr rfl rfl) ?_
              refine XT.done ?_
              refine XK.if rfl (fun c5 => ?_) (fun c5 => ?_)
              · have _t5 := True.intro
                refine XK.seq ?_
                refine XK.region rfl ?_
                refine XO.q (Q.assign rfl) ?_
                refine XO.q (Q.assign rfl) ?_
                refine XO.q (Q.assign rfl) ?_
                refine XO.done ?_
                refine XK.rt [emp, emp] Try.func100 Try.results100 (.t rfl (.t rfl (.t rfl .n))) ?_
                have oki := ok_here ok (set := set) (i := i) (by omega) hok1
                rw [g1, g2] at c5
                rw [decide_eq_true c5] at oki
                have z0 : okN c set 0 = false := Bool.eq_false_iff.2 fun h => by have := ok_all ok h i (by omega); rw [oki] at this; cases this
                rw [z0]
                exact ⟨.slice none 0 0, .slice none 0 0, emp, emp, [], [], rfl, rfl, OArr.nil (fun _ => rfl), OArr.nil (fun _ => rfl), fun h => (by cases h)⟩
              · have _t5 := True.intro
                have oki := ok_here ok (set := set) (i := i) (by omega) hok1
                rw [g1, g2] at c5
                rw [decide_eq_false c5] at oki
                have hok2 : ∀ k, i ≤ k → k < c.nodes.length → okN c set k = true := fun k h1 h2 => by
                  rcases Nat.lt_or_ge i k with h3 | h3
                  · exact hok1 k h3 h2
                  · rw [show k = i by omega, oki]; rfl
                have hval2 : ∀ k, i ≤ k → k < c.nodes.length → (LF.set i (mayI c set i).first).getD k 0 = (mayI c set k).first ∧ (LL.set i (mayI c set i).last).getD k 0 = (mayI c set k).last := fun k h1 h2 => by
                  rw [set_getD0 (by omega), set_getD0 (by omega)]
                  by_cases he : i = k
                  · subst he; rw [if_pos rfl, if_pos rfl]; exact ⟨rfl, rfl⟩
                  · rw [if_neg he, if_neg he]; exact hval k (by omega) h2
                refine XK.skip ?_
                refine XK.inBlock ?_
                refine XK.region rfl ?_
                refine XO.q (Q.move rfl) ?_
                refine XO.q (Q.sub rfl rfl ⟨by omega, by omega⟩) ?_
                refine XO.q (Q.assign rfl) ?_
                refine XO.done ?_
                exact ih0 (i, kf3, kl3, _, _) _ _ ⟨by omega, OF3, OL3, by simp only [List.length_set]; exact lf, by simp only [List.length_set]; exact ll, hok2, hval2⟩ (by first | omega | (dsimp only; omega)) (.c rfl (.base 229 rfl rfl)) inferInstance
            · intro mt4
              dsimp only [List.cons_append, List.nil_append] at mt4
              refine XK.if rfl (fun c4 => ?_) (fun c4 => ?_)
              · have _t4 := True.intro
                rw [if_pos (by omega)] at e0
                have so1 : (LF.set i (ownIv c set i).first).length = LF.length := List.length_set
                have so2 : (LL.set i (ownIv c set i).last).length = LL.length := List.length_set
                have q1 : (LF.set i (ownIv c set i).first).getD i default = (ownIv c set i).first := by rw [set_getDd (by omega), if_pos rfl]
                have q2 : (LL.set i (ownIv c set i).last).getD i default = (ownIv c set i).last := by rw [set_getDd (by omega), if_pos rfl]
                refine XK.seq ?_
                refine XK.drawn [0, 1, 2, 3, 4, 5, 6, 7, 8, 9, 10, 11, 12, 13, 14, 15] [b2] [kf2] (.q 0 (.q 1 (.q 2 (.q 3 (.q 4 (.q 5 (.q 6 (.q 7 (.q 8 (.q 9 (.q 10 (.q 11 (.q 12 (.q 13 (.q 14 (.q 15 (.br 16 false .done .stop))))))))))))))))) Try.mixed rfl (by kernel_rfl) ?_
                refine XT.q rfl rfl (Q.move rfl) ?_
                refine XT.q rfl rfl (Q.move rfl) ?_
                refine XT.q rfl rfl (Q.move rfl) ?_
                refine XT.q rfl rfl (Q.move rfl) ?_
                refine XT.ix rfl rfl rfl rfl (by omega) (by omega) fun i89 => ?_
                refine XT.q rfl rfl (Q.ldE rfl (by first | assumption | omega) rfl) ?_
                rw [q1]
                refine XT.q rfl rfl (Q.move rfl) ?_
                refine XT.q rfl rfl (Q.fieldAddr rfl) ?_
                refine XT.q rfl rfl (Q.ld rfl rfl) ?_
                refine XT.q rfl rfl (Q.move rfl) ?_
                refine XT.ix rfl rfl rfl rfl (by omega) (by omega) fun i95 => ?_
                refine XT.q rfl rfl (Q.fieldQ rfl (by first | assumption | omega)) ?_
                refine XT.q rfl rfl (Q.ldE rfl (by first | assumption | omega) rfl) ?_
                refine XT.q rfl rfl (Q.add rfl rfl ⟨by omega, by omega⟩) ?_
                refine XT.q rfl rfl (Q.max rfl rfl) ?_
                rw [show max (ownIv c set i).first (lo + (c.nodes.getD i default).low) = (mayI c set i).first by rw [e0]]
                refine XT.ix rfl rfl rfl rfl (by omega) (by omega) fun i100 => ?_
                refine XT.stE _ rfl rfl rfl rfl rfl (by assumption) rfl rfl (fun h18_16 O18_16 => ⟨inferInstance, ?_⟩) XT.stop
                refine XT.done ?_
                refine XK.drawn [0, 1, 2, 3, 4, 5, 6, 7, 8, 9, 10, 11, 12, 13, 14, 15] [b2] [kl2] (.q 0 (.q 1 (.q 2 (.q 3 (.q 4 (.q 5 (.q 6 (.q 7 (.q 8 (.q 9 (.q 10 (.q 11 (.q 12 (.q 13 (.q 14 (.q 15 (.br 16 false .done .stop))))))))))))))))) Try.mixed rfl (by kernel_rfl) ?_
                refine XT.q rfl rfl (Q.move rfl) ?_
                refine XT.q rfl rfl (Q.move rfl) ?_
                refine XT.q rfl rfl (Q.move rfl) ?_
                refine XT.q rfl rfl (Q.move rfl) ?_
                refine XT.ix rfl rfl rfl rfl (by omega) (by omega) fun i105 => ?_
                refine XT.q rfl rfl (Q.ldE rfl (by first | assumption | omega) rfl) ?_
                rw [q2]
                refine XT.q rfl rfl (Q.move rfl) ?_
                refine XT.q rfl rfl (Q.fieldAddr rfl) ?_
                refine XT.q rfl rfl (Q.ld rfl rfl) ?_
                refine XT.q rfl rfl (Q.move rfl) ?_
                refine XT.ix rfl rfl rfl rfl (by omega) (by omega) fun i111 => ?_
                refine XT.q rfl rfl (Q.fieldQ rfl (by first | assumption | omega)) ?_
                refine XT.q rfl rfl (Q.ldE rfl (by first | assumption | omega) rfl) ?_
                refine XT.q rfl rfl (Q.add rfl rfl ⟨by omega, by omega⟩) ?_
                refine XT.q rfl rfl (Q.min rfl rfl) ?_
                rw [show min (ownIv c set i).last (hh + (c.nodes.getD i default).high) = (mayI c set i).last by rw [e0]]
                refine XT.ix rfl rfl rfl rfl (by omega) (by omega) fun i116 => ?_
                refine XT.stE _ rfl rfl rfl rfl rfl (by assumption) rfl rfl (fun h19_16 O19_16 => ⟨inferInstance, ?_⟩) XT.stop
                refine XT.done ?_
                exact mt4 ((h18_16, h19_16)) _ _ ⟨by rw [List.set_set] at O18_16; exact O18_16, by rw [List.set_set] at O19_16; exact O19_16⟩ (.base 32 rfl rfl) inferInstance
              · have _t4 := True.intro
                rw [if_neg (by omega)] at e0
                refine XK.skip ?_
                exact mt4 ((kf2, kl2)) _ _ ⟨by rw [e0]; exact OF2, by rw [e0]; exact OL2⟩ (.base 0 rfl rfl) inferInstance
          · intro mt3
            dsimp only [List.cons_append, List.nil_append] at mt3
            refine XK.if rfl (fun c3 => ?_) (fun c3 => ?_)
            · have _t3 := True.intro
              refine XK.region rfl ?_
              refine XO.q (Q.move rfl) ?_
              refine XO.q (Q.move rfl) ?_
              refine XO.q (Q.move rfl) ?_
              refine XO.q (Q.move rfl) ?_
              refine XO.ix rfl rfl (by omega) (by omega) fun i81 => ?_
              refine XO.stE _ rfl rfl rfl (by assumption) rfl rfl fun h16_5 O16_5 => ?_
              refine XO.ix rfl rfl (by omega) (by omega) fun i82 => ?_
              refine XO.stE _ rfl rfl rfl (by assumption) rfl rfl fun h16_7 O16_7 => ?_
              refine XO.done ?_
              exact mt3 ((h16_5, h16_7)) _ _ ⟨by rw [List.set_set] at O16_5; rw [of, if_pos c3]; exact O16_5, by rw [List.set_set] at O16_7; rw [of, if_pos c3]; exact O16_7⟩ (.base 6 rfl rfl) inferInstance
            · have _t3 := True.intro
              refine XK.skip ?_
              exact mt3 ((kf1, kl1)) _ _ ⟨by rw [of, if_neg c3]; exact OF1, by rw [of, if_neg c3]; exact OL1⟩ (.base 0 rfl rfl) inferInstance
        · intro mtr14
          dsimp only [List.cons_append, List.nil_append] at mtr14
          refine XK.drawn [0, 1, 2, 3, 4, 5, 6, 7, 8, 9, 10, 11, 12, 13, 14, 16] [b2] [] (.q 0 (.q 1 (.q 2 (.q 3 (.q 4 (.q 5 (.q 6 (.q 7 (.q 8 (.q 9 (.q 10 (.q 11 (.q 12 (.q 13 (.q 14 (.br 15 true (.q 16 (.br 17 false .done .stop)) .stop)))))))))))))))) Try.mixed rfl (by kernel_rfl) ?_
          refine XT.q rfl rfl (Q.move rfl) ?_
          refine XT.q rfl rfl (Q.move rfl) ?_
          refine XT.q rfl rfl (Q.move rfl) ?_
          refine XT.q rfl rfl (Q.move rfl) ?_
          refine XT.q rfl rfl (Q.fieldAddr rfl) ?_
          refine XT.q rfl rfl (Q.ld rfl rfl) ?_
          refine XT.q rfl rfl (Q.move rfl) ?_
          refine XT.ix rfl rfl rfl rfl (by omega) (by omega) fun i64 => ?_
          refine XT.q rfl rfl (Q.ldE rfl (by first | assumption | omega) rfl) ?_
          refine XT.q rfl rfl (Q.fieldAddr rfl) ?_
          refine XT.q rfl rfl (Q.ld rfl rfl) ?_
          refine XT.q rfl rfl (Q.move rfl) ?_
          refine XT.ix rfl rfl rfl rfl (by omega) (by omega) fun i69 => ?_
          refine XT.q rfl rfl (Q.ldE rfl (by first | assumption | omega) rfl) ?_
          refine XT.ix rfl rfl rfl rfl (by omega) (by omega) fun i71 => ?_
          refine XT.stE _ rfl rfl rfl rfl rfl (by assumption) rfl rfl (fun h14_15 O14_15 => ⟨inferInstance, ?_⟩) XT.stop
          refine XT.ix rfl rfl rfl rfl (by omega) (by omega) fun i72 => ?_
          refine XT.stE _ rfl rfl rfl rfl rfl (by assumption) rfl rfl (fun h14_17 O14_17 => ⟨inferInstance, ?_⟩) XT.stop
          refine XT.done ?_
          exact mtr14 ((h14_15, h14_17)) _ _ ⟨O14_15, O14_17⟩ (.base 16 rfl rfl) inferInstance
    · have _t0 := True.intro
      have hm0 : m = 0 := by omega
      subst hm0
      refine XK.exit rfl ?_
      refine XK.seq ?_
      refine XK.region rfl ?_
      refine XO.q (Q.move rfl) ?_
      refine XO.q (Q.move rfl) ?_
      refine XO.q (Q.assign rfl) ?_
      refine XO.q (Q.assign rfl) ?_
      refine XO.q (Q.assign rfl) ?_
      refine XO.done ?_
      refine XK.rt [kf, kl] Try.func100 Try.results100 (.t rfl (.t rfl (.t rfl .n))) ?_
      exact ⟨vF, vL, kf, kl, LF, LL, by rw [hok 0 (Nat.le_refl _) n1], rfl, OF, OL, fun _ => ⟨lf, ll, fun i hi => hval i (Nat.zero_le _) hi⟩⟩
  · intro mtr2
    dsimp only [List.cons_append, List.nil_append] at mtr2
    refine XK.drawn [0, 2, 4, 5] [] [] (.q 0 (.q 2 (.br 1 true (.q 4 (.br 3 true (.q 5 .done) .stop)) (.br 3 true (.br 1 true (.q 4 (.q 5 .done)) .stop) .stop)))) Try.mixed rfl (by kernel_rfl) ?_
    refine XT.q rfl rfl (Q.move rfl) ?_
    refine XT.q rfl rfl (Q.move rfl) ?_
    refine XT.make encI (0) rfl rfl rfl rfl rfl (by omega) (by omega) (fun _ => rfl) rfl rfl rfl (by dsimp only [encI]; infer_instance) (fun v19 h19 O19 => ⟨inferInstance, ?_⟩) ?_
    · skip
      refine XT.q rfl rfl (Q.assign rfl) ?_
      refine XT.make encI (0) rfl rfl rfl rfl rfl (by omega) (by omega) (fun _ => rfl) rfl rfl rfl (by dsimp only [encI]; infer_instance) (fun v21 h21 O21 => ⟨inferInstance, ?_⟩) XT.stop
      refine XT.q rfl rfl (Q.assign rfl) ?_
      refine XT.done ?_
      exact mtr2 ((v19, v21, h19, h21)) _ _ ⟨by simpa using O19, by simpa using O21⟩ (.c rfl (.c rfl (.base 6 rfl rfl))) inferInstance
    · skip
      refine XT.make encI (0) rfl rfl rfl rfl rfl (by omega) (by omega) (fun _ => rfl) rfl rfl rfl (by dsimp only [encI]; infer_instance) (fun v21 h21 O21 => ⟨inferInstance, ?_⟩) XT.stop
      refine XT.make encI (0) rfl rfl rfl rfl rfl (by omega) (by omega) (fun _ => rfl) rfl rfl rfl (by dsimp only [encI]; infer_instance) (fun v19 h19 O19 => ⟨inferInstance, ?_⟩) XT.stop
      refine XT.q rfl rfl (Q.assign rfl) ?_
      refine XT.q rfl rfl (Q.assign rfl) ?_
      refine XT.done ?_
      exact mtr2 ((v19, v21, h19, h21)) _ _ ⟨by simpa using O19, by simpa using O21⟩ (.c rfl (.c rfl (.base 6 rfl rfl))) inferInstance
end Go.X
