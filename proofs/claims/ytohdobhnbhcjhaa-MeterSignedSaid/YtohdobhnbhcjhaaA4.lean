/- A part of the proof: a small program logic, plain laws and contracts of functions, each proved by a walk through its operations. No condition but those that stand in each theorem. -/
import Derived.Test.YtohdobhnbhcjhaaA3
set_option linter.unusedSimpArgs false
set_option linter.unusedVariables false
set_option maxRecDepth 20000
namespace Go.X
open Go.Proofs
theorem look_spec (c : MCase) (vn vv : Value) (hn hv : PHeap) [jn : Arr vn encNode 3 hn c.nodes] [jv : Arr vv encI 1 hv c.vals] (ok : MOk c) (set : List Int) (vs : Value) (hs_ : PHeap) [js : Arr vs encI 1 hs_ set] : Spec Try.prog 53 #[.agg #[vn, vv], vs] [] [hn, hv, hs_]
    (fun v hs => ∃ bt vm km ms, v = .tuple #[ptr bt 0, .bool (okN c set 0)] ∧ hs = [blk bt [vn, vv, vs, vm] 184, km] ∧ OArr vm encIv 2 186 km ms ∧ ms.length = c.nodes.length ∧ (okN c set 0 = true → ∀ i, i < c.nodes.length → ms.getD i default = mayI c set i)) := by
  have n1 := ok.n1
  have n2 := ok.n2
  refine Spec.intro (fn := Try.f53) (N := 20) Try.func53 rfl Try.ntmps53 rfl fun B => ?_
  refine XK.seq ?_
  refine XK.region rfl ?_
  refine XO.box rfl fun b2 => ?_
  refine XO.box rfl fun b3 => ?_
  refine XO.q (Q.assign rfl) ?_
  refine XO.q (Q.assign rfl) ?_
  refine XO.done ?_
  refine XK.seq ?_
  refine XK.meet (X := Nat × Nat × Value × PHeap) [6, 8, 9, 10, 11, 12, 13, 14, 15] (fun ⟨b6, bt, vm, km⟩ => [(6, some (ptr b6 0))]) (fun ⟨b6, bt, vm, km⟩ => [blk b6 [ptr bt 0] 122, blk bt [vn, vv, vs, vm] 184, km]) (fun ⟨b6, bt, vm, km⟩ => OArr vm encIv 2 186 km (List.replicate c.nodes.length (⟨0, 0⟩ : Iv))) [] ?_ ?_
  · rintro ⟨b6, bt, vm, km⟩ OM
    dsimp only [List.cons_append, List.nil_append]
    refine XK.seq ?_
    refine XK.region rfl ?_
    refine XO.alloc fun b7 => ?_
    refine XO.done ?_
    refine XK.seq ?_
    refine XK.region rfl ?_
    refine XO.q (Q.func (fun _ he => rfl) (fun _ he => evs_rel he rfl)) ?_
    refine XO.st rfl rfl rfl ?_
    refine XO.done ?_
    refine XK.seq ?_
    refine XK.drawn [0, 1, 3, 4] [b6, b7] [] (.q 0 (.q 1 (.br 2 true (.q 3 (.q 4 .done)) .stop))) Try.mixed rfl (by kernel_rfl) ?_
    refine XT.q rfl rfl (Q.ld rfl rfl) ?_
    refine XT.q rfl rfl (Q.ld rfl rfl) ?_
    refine XT.call rfl rfl Try.call90 rfl rfl rfl (behind_spec c vn vv hn hv ok set vs hs_ b3 b2 b7 b6 bt vm c.nodes.length 0 (by omega) (by omega) km (List.replicate c.nodes.length (⟨0, 0⟩ : Iv)) (fun _ => False) OM ⟨by simp, fun j h => h.elim, fun j h => h.elim, fun j h => h.elim, fun j h => h.elim⟩) (fun v19 s19 R19 => ?_) XT.stop
    obtain ⟨k19, ms, W, rfl, OM2, wr, _, rfl, w0⟩ := R19
    dsimp only [List.cons_append, List.nil_append]
    refine ⟨inferInstance, ?_⟩
    refine XT.q rfl rfl (Q.assign rfl) ?_
    refine XT.q rfl rfl (Q.assign rfl) ?_
    refine XT.done ?_
    refine XK.rt [blk bt [vn, vv, vs, vm] 184, k19] Try.func53 Try.results53 (.t rfl (.t rfl .n)) ?_
    exact ⟨bt, vm, k19, ms, rfl, rfl, OM2, wr.len, fun h i hi => wr.val i (wr.all ok (w0 h) i hi)⟩
  · intro mtr1
    dsimp only [List.cons_append, List.nil_append] at mtr1
    refine XK.drawn [0, 1, 2, 3, 4, 6] [b2, b3] [] (.q 0 (.q 1 (.q 2 (.q 3 (.q 4 (.br 5 true (.q 6 (.br 7 true (.br 8 true (.br 9 false .done .stop) .stop) (.br 8 true (.br 7 true (.br 9 false .done .stop) .stop) .stop))) (.br 8 true (.br 5 true (.q 6 (.br 7 true (.br 9 false .done .stop) .stop)) .stop) .stop))))))) Try.mixed rfl (by kernel_rfl) ?_
    refine XT.q rfl rfl (Q.ldA [_, _] rfl rfl rfl) ?_
    refine XT.q rfl rfl (Q.ld rfl rfl) ?_
    refine XT.q rfl rfl (Q.fieldAddr rfl) ?_
    refine XT.q rfl rfl (Q.ld rfl rfl) ?_
    refine XT.q rfl rfl (Q.len rfl) ?_
    refine XT.make encIv ((⟨0, 0⟩ : Iv)) rfl rfl rfl rfl rfl (by omega) (by omega) (fun _ => rfl) rfl rfl rfl (by dsimp only [encIv]; infer_instance) (fun v13 h13 O13 => ⟨inferInstance, ?_⟩) ?_
    · skip
      refine XT.q rfl rfl (Q.build [_, _, _, _] (.c 0 2 rfl rfl rfl (.c 2 1 rfl rfl rfl (.c 3 1 rfl rfl rfl (.n _))))) ?_
      refine XT.box rfl rfl rfl (fun b15 => ⟨inferInstance, ?_⟩) ?_
      · skip
        refine XT.alloc rfl rfl (fun b6 => ⟨inferInstance, ?_⟩) XT.stop
        refine XT.st rfl rfl rfl rfl rfl ⟨inferInstance, ?_⟩ XT.stop
        refine XT.done ?_
        exact mtr1 ((b6, b15, v13, h13)) _ _ (by have := O13; simpa using this) (.c rfl (.base 9 rfl rfl)) inferInstance
      · skip
        refine XT.alloc rfl rfl (fun b6 => ⟨inferInstance, ?_⟩) XT.stop
        refine XT.box rfl rfl rfl (fun b15 => ⟨inferInstance, ?_⟩) XT.stop
        refine XT.st rfl rfl rfl rfl rfl ⟨inferInstance, ?_⟩ XT.stop
        refine XT.done ?_
        exact mtr1 ((b6, b15, v13, h13)) _ _ (by have := O13; simpa using this) (.c rfl (.base 9 rfl rfl)) inferInstance
    · skip
      refine XT.alloc rfl rfl (fun b6 => ⟨inferInstance, ?_⟩) XT.stop
      refine XT.make encIv ((⟨0, 0⟩ : Iv)) rfl rfl rfl rfl rfl (by omega) (by omega) (fun _ => rfl) rfl rfl rfl (by dsimp only [encIv]; infer_instance) (fun v13 h13 O13 => ⟨inferInstance, ?_⟩) XT.stop
      refine XT.q rfl rfl (Q.build [_, _, _, _] (.c 0 2 rfl rfl rfl (.c 2 1 rfl rfl rfl (.c 3 1 rfl rfl rfl (.n _))))) ?_
      refine XT.box rfl rfl rfl (fun b15 => ⟨inferInstance, ?_⟩) XT.stop
      refine XT.st rfl rfl rfl rfl rfl ⟨inferInstance, ?_⟩ XT.stop
      refine XT.done ?_
      exact mtr1 ((b6, b15, v13, h13)) _ _ (by have := O13; simpa using this) (.c rfl (.base 9 rfl rfl)) inferInstance
theorem set_getD1 {l : List Int} {k : Nat} {x : Int} (hk : k < l.length) : (l.set k x).getD k default = x := by
  rw [List.getD_eq_getElem?_getD, List.getElem?_set, if_pos rfl, if_pos hk]; rfl
theorem repair_spec (c : MCase) (vn vv : Value) (hn hv : PHeap) [jn : Arr vn encNode 3 hn c.nodes] [jv : Arr vv encI 1 hv c.vals] (ok : MOk c) (set : List Int) (vs : Value) (hs_ : PHeap) [js : Arr vs encI 1 hs_ set] (h0 : okN c set 0 = true) (bt : Nat) (vm : Value) (km : PHeap) (ms : List Iv) [om : Arr vm encIv 2 km ms] (hml : ms.length = c.nodes.length) (hmv : ∀ i, i < c.nodes.length → ms.getD i default = mayI c set i) :
    Spec Try.prog 56 #[ptr bt 0] [] [blk bt [vn, vv, vs, vm] 184, hn, hv, hs_, km] (fun v hs => ∃ k, hs = [k] ∧ OArr v encI 1 3 k (repairL c set)) := by
  have n1 := ok.n1
  have n2 := ok.n2
  have hd := ok_all ok h0
  have m0 := may_rng ok set (i := 0) (by omega) h0
  refine Spec.intro (fn := Try.f56) (N := 159) Try.func56 rfl Try.ntmps56 rfl fun B => ?_
  refine XK.seq ?_
  refine XK.region rfl ?_
  refine XO.q (Q.assign rfl) ?_
  refine XO.done ?_
  refine XK.seq ?_
  refine XK.region rfl ?_
  refine XO.q (Q.move rfl) ?_
  refine XO.q (Q.nilCheck rfl) ?_
  refine XO.q (Q.fieldAddr rfl) ?_
  refine XO.q (Q.fieldAddr rfl) ?_
  refine XO.q (Q.ld rfl rfl) ?_
  refine XO.len rfl fun l18 => ?_
  refine XO.make encI (0) rfl rfl rfl (by omega) (by omega) (fun _ => rfl) rfl rfl rfl (by dsimp only [encI]; infer_instance) fun v19 h19 O19 => ?_
  refine XO.q (Q.assign rfl) ?_
  refine XO.done ?_
  refine XK.seq ?_
  refine XK.region rfl ?_
  refine XO.q (Q.move rfl) ?_
  refine XO.q (Q.move rfl) ?_
  refine XO.q (Q.nilCheck rfl) ?_
  refine XO.q (Q.fieldAddr rfl) ?_
  refine XO.q (Q.ld rfl rfl) ?_
  refine XO.ix rfl rfl (by omega) (by omega) fun i25 => ?_
  refine XO.q (Q.fieldQ rfl (by first | assumption | omega)) ?_
  refine XO.q (Q.ldE rfl (by first | assumption | omega) rfl) ?_
  refine XO.ix rfl rfl (by omega) (by simp only [List.length_replicate]; omega) fun i28 => ?_
  refine XO.stE _ rfl rfl rfl (by assumption) rfl rfl fun h2_9 O2_9 => ?_
  refine XO.done ?_
  refine XK.seq ?_
  refine XK.seq ?_
  refine XK.region rfl ?_
  refine XO.q (Q.move rfl) ?_
  refine XO.q (Q.nilCheck rfl) ?_
  refine XO.q (Q.fieldAddr rfl) ?_
  refine XO.q (Q.fieldAddr rfl) ?_
  refine XO.q (Q.ld rfl rfl) ?_
  refine XO.len rfl fun l34 => ?_
  refine XO.q (Q.move rfl) ?_
  refine XO.done ?_
  refine XK.block ?_
  refine XK.while (X := Nat × PHeap) [4, 5, 6, 7, 8, 10, 12, 35, 36, 37, 38, 39, 40, 41, 42, 43, 44, 45, 46, 47, 48, 49, 50, 51, 52, 53, 54, 55, 56, 57, 58, 59, 60, 61, 62, 63, 64, 65, 66, 67, 68, 69, 70, 71, 72, 73, 74, 75, 76, 77, 78, 79, 80, 81, 82, 83, 84, 85, 86, 87, 88, 89, 90, 91, 92, 93, 94, 95, 96, 97, 98, 99, 100, 101, 102, 103, 104, 105, 106, 107, 108, 109, 110, 111, 112, 113, 114, 115, 116, 117, 118, 119, 120, 121, 122, 123, 124, 125, 126, 127, 128, 129, 130, 131, 132, 133, 134, 135, 136, 137, 138, 139, 140, 141, 142, 143, 144, 145, 146, 147, 148, 149, 150, 151, 152, 153, 154, 155, 156, 157] (fun ⟨i, ko⟩ => [(35, some (.int .i64 (i : Nat)))]) (fun ⟨i, ko⟩ => [ko]) (fun ⟨i, ko⟩ => i ≤ c.nodes.length ∧ OArr v19 encI 1 3 ko (rTo c set i)) (fun ⟨i, ko⟩ => c.nodes.length - i) (0, h2_9) [h2_9] rfl ⟨by omega, by have := O2_9; rw [show Int.toNat 0 = 0 from rfl, hmv 0 (by omega)] at this; exact this⟩ (.c rfl (.base 0 rfl rfl)) ?_
  rintro ⟨i, ko⟩ ⟨hi, OT⟩ ih0
  dsimp only [List.cons_append, List.nil_append] at ih0 ⊢
  refine XK.seq ?_
  refine XK.region rfl ?_
  refine XO.q (Q.lss rfl rfl) ?_
  refine XO.done ?_
  refine XK.seq ?_
  refine XK.if rfl (fun c0 => ?_) (fun c0 => ?_)
  · have _t0 := True.intro
    have wv := rTo_vals ok hd i (by omega)
    have vi := wv.rng i (by omega)
    have vl := wv.len
    obtain ⟨nd1, _, nd2, _⟩ := ok.node i (by omega)
    have sl := sonsTo_len (c := c) (i := (i : Int)) (n := c.nodes.length)
    change (sonsN c i).length ≤ _ at sl
    have il := ints_len (l := (sonsN c i))
    change 0 ≤ (rTo c set i).getD i default ∧ (rTo c set i).getD i default ≤ _ at vi
    refine XK.skip ?_
    refine XK.seq ?_
    refine XK.block ?_
    refine XK.seq ?_
    refine XK.region rfl ?_
    refine XO.q (Q.move rfl) ?_
    refine XO.ix rfl rfl (by omega) (by omega) fun i38 => ?_
    refine XO.q (Q.ldEA [_, _, _] rfl (by first | assumption | omega) rfl rfl) ?_
    refine XO.alloc fun b5 => ?_
    refine XO.q (Q.assign rfl) ?_
    refine XO.st rfl rfl rfl ?_
    refine XO.done ?_
    refine XK.seq ?_
    refine XK.region rfl ?_
    refine XO.q (Q.move rfl) ?_
    refine XO.q (Q.nilCheck rfl) ?_
    refine XO.q (Q.fieldAddr rfl) ?_
    refine XO.q (Q.ldA [_, _] rfl rfl rfl) ?_
    refine XO.q (Q.move rfl) ?_
    refine XO.call Try.call57 rfl rfl rfl (sons_spec c vn vv hn n2 (i : Nat)) fun v45 s45 R45 => ?_
    obtain ⟨k45, rfl, O45⟩ := R45
    dsimp only [List.cons_append, List.nil_append]
    change OArr v45 encI 1 3 k45 (ints (sonsN c i)) at O45
    refine XO.q (Q.assign rfl) ?_
    refine XO.done ?_
    refine XK.seq ?_
    refine XK.drawn [0, 1, 2, 3, 4, 5, 6, 7, 8, 9, 10, 11, 12, 13, 14] [b5] [ko] (.q 0 (.q 1 (.q 2 (.q 3 (.q 4 (.q 5 (.q 6 (.q 7 (.q 8 (.q 9 (.q 10 (.q 11 (.q 12 (.q 13 (.q 14 (.br 15 true (.br 16 false .done .stop) .stop)))))))))))))))) Try.mixed rfl (by kernel_rfl) ?_
    refine XT.q rfl rfl (Q.move rfl) ?_
    refine XT.q rfl rfl (Q.move rfl) ?_
    refine XT.ix rfl rfl rfl rfl (by omega) (by omega) fun i48 => ?_
    refine XT.q rfl rfl (Q.ldE rfl (by first | assumption | omega) rfl) ?_
    refine XT.q rfl rfl (Q.fieldAddr rfl) ?_
    refine XT.q rfl rfl (Q.ld rfl rfl) ?_
    refine XT.q rfl rfl (Q.sub rfl rfl ⟨by omega, by omega⟩) ?_
    refine XT.q rfl rfl (Q.move rfl) ?_
    refine XT.q rfl rfl (Q.move rfl) ?_
    refine XT.ix rfl rfl rfl rfl (by omega) (by omega) fun i55 => ?_
    refine XT.q rfl rfl (Q.ldE rfl (by first | assumption | omega) rfl) ?_
    refine XT.q rfl rfl (Q.fieldAddr rfl) ?_
    refine XT.q rfl rfl (Q.ld rfl rfl) ?_
    refine XT.q rfl rfl (Q.sub rfl rfl ⟨by omega, by omega⟩) ?_
    refine XT.q rfl rfl (Q.build [_, _] (.c 0 1 rfl rfl rfl (.c 1 1 rfl rfl rfl (.n _)))) ?_
    refine XT.alloc rfl rfl (fun b7 => ⟨inferInstance, ?_⟩) XT.stop
    refine XT.st rfl rfl rfl rfl rfl ⟨inferInstance, ?_⟩ XT.stop
    refine XT.done ?_
    refine XK.seq ?_
    refine XK.region rfl ?_
    refine XO.q (Q.build [_, _] (.n _)) ?_
    refine XO.alloc fun b8 => ?_
    refine XO.st rfl rfl rfl ?_
    refine XO.done ?_
    refine XK.seq ?_
    refine XK.seq ?_
    refine XK.region rfl ?_
    refine XO.q (Q.move rfl) ?_
    refine XO.len rfl fun l63 => ?_
    rw [il]
    refine XO.q (Q.move rfl) ?_
    refine XO.done ?_
    refine XK.block ?_
    refine XK.while (X := Nat) [10, 64, 65, 66, 67, 68, 69, 70, 71, 72, 73, 74, 75, 76, 77, 78, 79, 80, 81, 82, 83, 84, 85, 86, 87, 88, 89, 90, 91, 92] (fun j => [(64, some (.int .i64 (j : Nat)))]) (fun j => [blk b8 [.int .i64 (sumFirst c set i j), .int .i64 (sumLast c set i j)] 186]) (fun j => j ≤ (sonsN c i).length) (fun j => (sonsN c i).length - j) (0) [blk b8 [.int .i64 0, .int .i64 0] 186] rfl (by omega) (.c rfl (.base 0 rfl rfl)) ?_
    rintro j hj ih1
    dsimp only [List.cons_append, List.nil_append] at ih1 ⊢
    refine XK.seq ?_
    refine XK.region rfl ?_
    refine XO.q (Q.lss rfl rfl) ?_
    refine XO.done ?_
    refine XK.seq ?_
    refine XK.if rfl (fun c1 => ?_) (fun c1 => ?_)
    · have _t1 := True.intro
      have rr := rest_rng ok hd (i := i) (j := j) (by omega)
      have rr2 := rest_rng ok hd (i := i) (j := j + 1) (by omega)
      refine XK.skip ?_
      refine XK.seq ?_
      refine XK.block ?_
      refine XK.seq ?_
      refine XK.region rfl ?_
      refine XO.ix rfl rfl (by omega) (by omega) fun i66 => ?_
      refine XO.q (Q.ldE rfl (by first | assumption | omega) rfl) ?_
      rw [ints_at (by omega)]
      obtain ⟨k, ek⟩ : ∃ k, k = (sonsN c i).getD j 0 := ⟨_, rfl⟩
      rw [← ek]
      obtain ⟨k1, k2, k3⟩ := ok.son (i := i) (k := k) (by rw [ek]; exact getD_mem0 (by omega))
      have mk := may_rng ok set k1 (hd k k1)
      have e1 := hmv k k1
      have s1 : sumFirst c set i (j + 1) = sumFirst c set i j + (mayI c set k).first := by rw [ek]; rfl
      have s2 : sumLast c set i (j + 1) = sumLast c set i j + (mayI c set k).last := by rw [ek]; rfl
      refine XO.q (Q.assign rfl) ?_
      refine XO.done ?_
      refine XK.seq ?_
      refine XK.drawn [0, 1, 2, 3, 4, 5, 6, 7, 8, 9, 10, 11] [b8, bt] [] (.q 0 (.q 1 (.q 2 (.q 3 (.q 4 (.q 5 (.q 6 (.q 7 (.q 8 (.q 9 (.q 10 (.q 11 (.br 12 false .done .stop))))))))))))) Try.mixed rfl (by kernel_rfl) ?_
      refine XT.q rfl rfl (Q.fieldAddr rfl) ?_
      refine XT.q rfl rfl (Q.ld rfl rfl) ?_
      refine XT.q rfl rfl (Q.move rfl) ?_
      refine XT.q rfl rfl (Q.nilCheck rfl) ?_
      refine XT.q rfl rfl (Q.fieldAddr rfl) ?_
      refine XT.q rfl rfl (Q.ld rfl rfl) ?_
      refine XT.q rfl rfl (Q.move rfl) ?_
      refine XT.ix rfl rfl rfl rfl (by omega) (by omega) fun i75 => ?_
      refine XT.q rfl rfl (Q.fieldQ rfl (by first | assumption | omega)) ?_
      refine XT.q rfl rfl (Q.ldE rfl (by first | assumption | omega) rfl) ?_
      rw [e1]
      refine XT.q rfl rfl (Q.add rfl rfl ⟨by omega, by omega⟩) ?_
      rw [← s1]
      refine XT.q rfl rfl (Q.fieldAddr rfl) ?_
      refine XT.st rfl rfl rfl rfl rfl ⟨inferInstance, ?_⟩ XT.stop
      refine XT.done ?_
      refine XK.drawn [0, 1, 2, 3, 4, 5, 6, 7, 8, 9, 10, 11] [b8, bt] [] (.q 0 (.q 1 (.q 2 (.q 3 (.q 4 (.q 5 (.q 6 (.q 7 (.q 8 (.q 9 (.q 10 (.q 11 (.br 12 false .done .stop))))))))))))) Try.mixed rfl (by kernel_rfl) ?_
      refine XT.q rfl rfl (Q.fieldAddr rfl) ?_
      refine XT.q rfl rfl (Q.ld rfl rfl) ?_
      refine XT.q rfl rfl (Q.move rfl) ?_
      refine XT.q rfl rfl (Q.nilCheck rfl) ?_
      refine XT.q rfl rfl (Q.fieldAddr rfl) ?_
      refine XT.q rfl rfl (Q.ld rfl rfl) ?_
      refine XT.q rfl rfl (Q.move rfl) ?_
      refine XT.ix rfl rfl rfl rfl (by omega) (by omega) fun i87 => ?_
      refine XT.q rfl rfl (Q.fieldQ rfl (by first | assumption | omega)) ?_
      refine XT.q rfl rfl (Q.ldE rfl (by first | assumption | omega) rfl) ?_
      rw [e1]
      refine XT.q rfl rfl (Q.add rfl rfl ⟨by omega, by omega⟩) ?_
      rw [← s2]
      refine XT.q rfl rfl (Q.fieldAddr rfl) ?_
      refine XT.st rfl rfl rfl rfl rfl ⟨inferInstance, ?_⟩ XT.stop
      refine XT.done ?_
      refine XK.inBlock ?_
      refine XK.region rfl ?_
      refine XO.q (Q.add rfl rfl ⟨by omega, by omega⟩) ?_
      refine XO.q (Q.move rfl) ?_
      refine XO.done ?_
      exact ih1 (j + 1) _ _ (by omega) (by first | omega | (dsimp only; omega)) (.c rfl (.base 61 rfl rfl)) inferInstance
    · have _t1 := True.intro
      have hjn : j = (sonsN c i).length := by omega
      rw [hjn]
      clear ih1 hj c1
      have rr := rest_rng ok hd (i := i) (j := 0) (by omega)
      refine XK.exit rfl ?_
      refine XK.seq ?_
      refine XK.region rfl ?_
      refine XO.q (Q.move rfl) ?_
      refine XO.len rfl fun l94 => ?_
      rw [il]
      refine XO.q (Q.move rfl) ?_
      refine XO.done ?_
      refine XK.block ?_
      refine XK.while (X := Nat × PHeap) [12, 95, 96, 97, 98, 99, 100, 101, 102, 103, 104, 105, 106, 107, 108, 109, 110, 111, 112, 113, 114, 115, 116, 117, 118, 119, 120, 121, 122, 123, 124, 125, 126, 127, 128, 129, 130, 131, 132, 133, 134, 135, 136, 137, 138, 139, 140, 141, 142, 143, 144, 145, 146, 147, 148, 149, 150, 151, 152, 153, 154, 155, 156] (fun ⟨j, kq⟩ => [(95, some (.int .i64 (j : Nat)))]) (fun ⟨j, kq⟩ => [kq, blk b7 [.int .i64 (rAt c set (rTo c set i) i j).nf, .int .i64 (rAt c set (rTo c set i) i j).nl] 186, blk b8 [.int .i64 (rAt c set (rTo c set i) i j).rf, .int .i64 (rAt c set (rTo c set i) i j).rl] 186]) (fun ⟨j, kq⟩ => j ≤ (sonsN c i).length ∧ OArr v19 encI 1 3 kq (rAt c set (rTo c set i) i j).out) (fun ⟨j, kq⟩ => (sonsN c i).length - j) (0, ko) [ko, blk b7 [.int .i64 ((rTo c set i).getD i default - (c.nodes.getD i default).high), .int .i64 ((rTo c set i).getD i default - (c.nodes.getD i default).low)] 186, blk b8 [.int .i64 (sumFirst c set i (sonsN c i).length), .int .i64 (sumLast c set i (sonsN c i).length)] 186] rfl ⟨by omega, OT⟩ (.c rfl (.base 0 rfl rfl)) ?_
      rintro ⟨j, kq⟩ ⟨hj, OO⟩ ih2
      dsimp only [List.cons_append, List.nil_append] at ih2 ⊢
      refine XK.seq ?_
      refine XK.region rfl ?_
      refine XO.q (Q.lss rfl rfl) ?_
      refine XO.done ?_
      refine XK.seq ?_
      refine XK.if rfl (fun c2 => ?_) (fun c2 => ?_)
      · have _t2 := True.intro
        have ri := rAt_inv ok hd (i := i) (by omega) wv j (by omega)
        have rr := rest_rng ok hd (i := i) (j := j) (by omega)
        have rr2 := rest_rng ok hd (i := i) (j := j + 1) (by omega)
        have r1 := ri.rf
        have r2 := ri.rl
        have r3 := ri.nf
        have r4 := ri.nl
        have r5 := ri.vals.len
        refine XK.skip ?_
        refine XK.seq ?_
        refine XK.block ?_
        refine XK.seq ?_
        refine XK.region rfl ?_
        refine XO.ix rfl rfl (by omega) (by omega) fun i97 => ?_
        refine XO.q (Q.ldE rfl (by first | assumption | omega) rfl) ?_
        rw [ints_at (by omega)]
        obtain ⟨k, ek⟩ : ∃ k, k = (sonsN c i).getD j 0 := ⟨_, rfl⟩
        rw [← ek]
        obtain ⟨k1, k2, k3⟩ := ok.son (i := i) (k := k) (by rw [ek]; exact getD_mem0 (by omega))
        have mk := may_rng ok set k1 (hd k k1)
        have e1 := hmv k k1
        have s1 : sumFirst c set i (j + 1) = sumFirst c set i j + (mayI c set k).first := by rw [ek]; rfl
        have s2 : sumLast c set i (j + 1) = sumLast c set i j + (mayI c set k).last := by rw [ek]; rfl
        have st : rAt c set (rTo c set i) i (j + 1) = rStep (mayI c set) (rAt c set (rTo c set i) i j) k := by rw [ek]; rfl
        have ri2 : RInv c set i (j + 1) (rStep (mayI c set) (rAt c set (rTo c set i) i j) k) := by rw [ek]; exact rInv_step ok hd (by omega) ri
        have q1 := ri2.rf
        have q2 := ri2.rl
        have q3 := ri2.nf
        have q4 := ri2.nl
        simp only [rStep] at q1 q2 q3 q4
        have ls : ((rAt c set (rTo c set i) i j).out.set k (max (mayI c set k).first ((rAt c set (rTo c set i) i j).nf - ((rAt c set (rTo c set i) i j).rl - (mayI c set k).last)))).length = c.nodes.length := by rw [List.length_set]; exact r5
        refine XO.q (Q.assign rfl) ?_
        refine XO.done ?_
        refine XK.seq ?_
        refine XK.drawn [0, 1, 2, 3, 4, 5, 6, 7, 8, 9, 10, 11] [b8, bt] [] (.q 0 (.q 1 (.q 2 (.q 3 (.q 4 (.q 5 (.q 6 (.q 7 (.q 8 (.q 9 (.q 10 (.q 11 (.br 12 false .done .stop))))))))))))) Try.mixed rfl (by kernel_rfl) ?_
        refine XT.q rfl rfl (Q.fieldAddr rfl) ?_
        refine XT.q rfl rfl (Q.ld rfl rfl) ?_
        refine XT.q rfl rfl (Q.move rfl) ?_
        refine XT.q rfl rfl (Q.nilCheck rfl) ?_
        refine XT.q rfl rfl (Q.fieldAddr rfl) ?_
        refine XT.q rfl rfl (Q.ld rfl rfl) ?_
        refine XT.q rfl rfl (Q.move rfl) ?_
        refine XT.ix rfl rfl rfl rfl (by omega) (by omega) fun i106 => ?_
        refine XT.q rfl rfl (Q.fieldQ rfl (by first | assumption | omega)) ?_
        refine XT.q rfl rfl (Q.ldE rfl (by first | assumption | omega) rfl) ?_
        rw [e1]
        refine XT.q rfl rfl (Q.sub rfl rfl ⟨by omega, by omega⟩) ?_
        refine XT.q rfl rfl (Q.fieldAddr rfl) ?_
        refine XT.st rfl rfl rfl rfl rfl ⟨inferInstance, ?_⟩ XT.stop
        refine XT.done ?_
        refine XK.seq ?_
        refine XK.drawn [0, 1, 2, 3, 4, 5, 6, 7, 8, 9, 10, 11] [b8, bt] [] (.q 0 (.q 1 (.q 2 (.q 3 (.q 4 (.q 5 (.q 6 (.q 7 (.q 8 (.q 9 (.q 10 (.q 11 (.br 12 false .done .stop))))))))))))) Try.mixed rfl (by kernel_rfl) ?_
        refine XT.q rfl rfl (Q.fieldAddr rfl) ?_
        refine XT.q rfl rfl (Q.ld rfl rfl) ?_
        refine XT.q rfl rfl (Q.move rfl) ?_
        refine XT.q rfl rfl (Q.nilCheck rfl) ?_
        refine XT.q rfl rfl (Q.fieldAddr rfl) ?_
        refine XT.q rfl rfl (Q.ld rfl rfl) ?_
        refine XT.q rfl rfl (Q.move rfl) ?_
        refine XT.ix rfl rfl rfl rfl (by omega) (by omega) fun i118 => ?_
        refine XT.q rfl rfl (Q.fieldQ rfl (by first | assumption | omega)) ?_
        refine XT.q rfl rfl (Q.ldE rfl (by first | assumption | omega) rfl) ?_
        rw [e1]
        refine XT.q rfl rfl (Q.sub rfl rfl ⟨by omega, by omega⟩) ?_
        refine XT.q rfl rfl (Q.fieldAddr rfl) ?_
        refine XT.st rfl rfl rfl rfl rfl ⟨inferInstance, ?_⟩ XT.stop
        refine XT.done ?_
        refine XK.seq ?_
        refine XK.drawn [0, 1, 2, 3, 4, 5, 6, 7, 8, 9, 10, 11, 12, 13, 14, 15, 16] [bt, b7, b8] [] (.q 0 (.q 1 (.q 2 (.q 3 (.q 4 (.q 5 (.q 6 (.q 7 (.q 8 (.q 9 (.q 10 (.q 11 (.q 12 (.q 13 (.q 14 (.q 15 (.q 16 (.br 17 false .done .stop)))))))))))))))))) Try.mixed rfl (by kernel_rfl) ?_
        refine XT.q rfl rfl (Q.move rfl) ?_
        refine XT.q rfl rfl (Q.move rfl) ?_
        refine XT.q rfl rfl (Q.move rfl) ?_
        refine XT.q rfl rfl (Q.nilCheck rfl) ?_
        refine XT.q rfl rfl (Q.fieldAddr rfl) ?_
        refine XT.q rfl rfl (Q.ld rfl rfl) ?_
        refine XT.q rfl rfl (Q.move rfl) ?_
        refine XT.ix rfl rfl rfl rfl (by omega) (by omega) fun i130 => ?_
        refine XT.q rfl rfl (Q.fieldQ rfl (by first | assumption | omega)) ?_
        refine XT.q rfl rfl (Q.ldE rfl (by first | assumption | omega) rfl) ?_
        rw [e1]
        refine XT.q rfl rfl (Q.fieldAddr rfl) ?_
        refine XT.q rfl rfl (Q.ld rfl rfl) ?_
        refine XT.q rfl rfl (Q.fieldAddr rfl) ?_
        refine XT.q rfl rfl (Q.ld rfl rfl) ?_
        refine XT.q rfl rfl (Q.sub rfl rfl ⟨by omega, by omega⟩) ?_
        refine XT.q rfl rfl (Q.max rfl rfl) ?_
        refine XT.ix rfl rfl rfl rfl (by omega) (by omega) fun i139 => ?_
        refine XT.stE _ rfl rfl rfl rfl rfl (by assumption) rfl rfl (fun h20_17 O20_17 => ⟨inferInstance, ?_⟩) XT.stop
        refine XT.done ?_
        refine XK.seq ?_
        refine XK.drawn [0, 1, 2, 3, 4, 5, 6, 7] [b7] [h20_17] (.q 0 (.q 1 (.q 2 (.q 3 (.q 4 (.q 5 (.q 6 (.q 7 (.br 8 false .done .stop))))))))) Try.mixed rfl (by kernel_rfl) ?_
        refine XT.q rfl rfl (Q.fieldAddr rfl) ?_
        refine XT.q rfl rfl (Q.ld rfl rfl) ?_
        refine XT.q rfl rfl (Q.move rfl) ?_
        refine XT.q rfl rfl (Q.move rfl) ?_
        refine XT.ix rfl rfl rfl rfl (by omega) (by omega) fun i144 => ?_
        refine XT.q rfl rfl (Q.ldE rfl (by first | assumption | omega) rfl) ?_
        rw [set_getD1 (by omega)]
        refine XT.q rfl rfl (Q.sub rfl rfl ⟨by omega, by omega⟩) ?_
        refine XT.q rfl rfl (Q.fieldAddr rfl) ?_
        refine XT.st rfl rfl rfl rfl rfl ⟨inferInstance, ?_⟩ XT.stop
        refine XT.done ?_
        refine XK.drawn [0, 1, 2, 3, 4, 5, 6, 7] [b7] [h20_17] (.q 0 (.q 1 (.q 2 (.q 3 (.q 4 (.q 5 (.q 6 (.q 7 (.br 8 false .done .stop))))))))) Try.mixed rfl (by kernel_rfl) ?_
        refine XT.q rfl rfl (Q.fieldAddr rfl) ?_
        refine XT.q rfl rfl (Q.ld rfl rfl) ?_
        refine XT.q rfl rfl (Q.move rfl) ?_
        refine XT.q rfl rfl (Q.move rfl) ?_
        refine XT.ix rfl rfl rfl rfl (by omega) (by omega) fun i152 => ?_
        refine XT.q rfl rfl (Q.ldE rfl (by first | assumption | omega) rfl) ?_
        rw [set_getD1 (by omega)]
        refine XT.q rfl rfl (Q.sub rfl rfl ⟨by omega, by omega⟩) ?_
        refine XT.q rfl rfl (Q.fieldAddr rfl) ?_
        refine XT.st rfl rfl rfl rfl rfl ⟨inferInstance, ?_⟩ XT.stop
        refine XT.done ?_
        refine XK.inBlock ?_
        refine XK.region rfl ?_
        refine XO.q (Q.add rfl rfl ⟨by omega, by omega⟩) ?_
        refine XO.q (Q.move rfl) ?_
        refine XO.done ?_
        rw [show (rAt c set (rTo c set i) i j).nf - max (mayI c set k).first ((rAt c set (rTo c set i) i j).nf - ((rAt c set (rTo c set i) i j).rl - (mayI c set k).last)) = (rAt c set (rTo c set i) i (j + 1)).nf by rw [st]; rfl, show (rAt c set (rTo c set i) i j).nl - max (mayI c set k).first ((rAt c set (rTo c set i) i j).nf - ((rAt c set (rTo c set i) i j).rl - (mayI c set k).last)) = (rAt c set (rTo c set i) i (j + 1)).nl by rw [st]; rfl, show (rAt c set (rTo c set i) i j).rf - (mayI c set k).first = (rAt c set (rTo c set i) i (j + 1)).rf by rw [st]; rfl, show (rAt c set (rTo c set i) i j).rl - (mayI c set k).last = (rAt c set (rTo c set i) i (j + 1)).rl by rw [st]; rfl]
        exact ih2 (j + 1, h20_17) _ _ ⟨by dsimp only; omega, by dsimp only; rw [st]; exact O20_17⟩ (by first | omega | (dsimp only; omega)) (.c rfl (.base 127 rfl rfl)) inferInstance
      · have _t2 := True.intro
        have hjn : j = (sonsN c i).length := by omega
        rw [hjn] at OO
        refine XK.exit rfl ?_
        refine XK.inBlock ?_
        refine XK.region rfl ?_
        refine XO.q (Q.add rfl rfl ⟨by omega, by omega⟩) ?_
        refine XO.q (Q.move rfl) ?_
        refine XO.done ?_
        exact ih0 (i + 1, kq) _ _ ⟨by dsimp only; omega, OO⟩ (by first | omega | (dsimp only; omega)) (.c rfl (.base 267 rfl rfl)) inferInstance
  · have _t0 := True.intro
    refine XK.exit rfl ?_
    refine XK.seq ?_
    refine XK.region rfl ?_
    refine XO.q (Q.move rfl) ?_
    refine XO.q (Q.assign rfl) ?_
    refine XO.done ?_
    refine XK.rt [ko] Try.func56 Try.results56 (.t rfl .n) ?_
    have hin : i = c.nodes.length := by omega
    subst hin
    exact ⟨ko, rfl, OT⟩
end Go.X

set_option linter.unusedSimpArgs false
set_option linter.unusedVariables false
set_option maxRecDepth 20000
namespace Go.X
open Go.Proofs
/-- What sets yields. -/
def SetY (items : List (List Nat)) (i : Nat) (K : PHeap) (vs : List Value) : Prop := ∃ sl, vs = [sl] ∧ Arr sl encI 1 K (ints (items.getD i []))
theorem sets1 (n size : Nat) (hn : n ≤ 14) (hs : size ≤ n) (items : List (List Nat)) (st : SetSteps n size items) (b1 b2 : Nat) (f : Value) (Hr : List PHeap) (Qc : Nat → PHeap → PHeap → Prop) (Xc : PHeap → PHeap → Prop)
    (mono : ∀ i K K' q, leH K K' → Qc i K q → Qc i K' q)
    (round : ∀ i, i < items.length → ∀ K vs q, SetY items i K vs → Qc i K q → VSpec Try.prog f vs [q] (K :: Hr) (fun v hs => ∃ b q', v = .bool b ∧ hs = [q'] ∧ (b = true → Qc (i + 1) K q') ∧ (b = false → Xc K q')))
    (q : PHeap) (hQ : Qc 0 emp q) : Spec Try.prog 93 #[f, ptr b1 0, ptr b2 0] [q, blk b1 [.int .i64 (size : Nat)] 3, blk b2 [.int .i64 (n : Nat)] 3] Hr (fun _ hs => ∃ q' K, hs = [q', K] ∧ (Qc items.length K q' ∨ Xc K q')) := by
  obtain ⟨hi0, he0⟩ := items_getD st.first
  refine Spec.intro (fn := Try.f93) (N := 70) Try.func93 rfl Try.ntmps93 rfl fun B => ?_
  refine XK.seq ?_
  refine XK.region rfl ?_
  refine XO.q (Q.ld rfl rfl) ?_
  refine XO.make encI (0) rfl rfl rfl (by omega) (by omega) (fun _ => rfl) rfl rfl rfl (by dsimp only [encI]; infer_instance) fun v9 h9 O9 => ?_
  refine XO.q (Q.assign rfl) ?_
  refine XO.done ?_
  refine XK.seq ?_
  refine XK.seq ?_
  refine XK.region rfl ?_
  refine XO.q (Q.move rfl) ?_
  refine XO.len rfl fun l11 => ?_
  rw [List.length_replicate]
  refine XO.q (Q.move rfl) ?_
  refine XO.done ?_
  refine XK.block ?_
  refine XK.while (X := Nat × PHeap × List Int) [5, 12, 13, 14, 15, 16, 17, 18, 19] (fun ⟨i, kx, x⟩ => [(12, some (.int .i64 (i : Nat)))]) (fun ⟨i, kx, x⟩ => [kx]) (fun ⟨i, kx, x⟩ => i ≤ size ∧ x.length = size ∧ (∀ j, j < i → x.getD j 0 = (j : Int)) ∧ OArr v9 encI 1 3 kx x) (fun ⟨i, kx, x⟩ => size - i) (0, h9, _) [h9] rfl ⟨by omega, by simp, fun j hj => by omega, O9⟩ (.c rfl (.base 0 rfl rfl)) ?_
  rintro ⟨i, kx, x⟩ ⟨hi, hxl, hx, OX⟩ ih0
  dsimp only [List.cons_append, List.nil_append] at ih0 ⊢
  refine XK.seq ?_
  refine XK.region rfl ?_
  refine XO.q (Q.lss rfl rfl) ?_
  refine XO.done ?_
  refine XK.seq ?_
  refine XK.if rfl (fun c0 => ?_) (fun c0 => ?_)
  · have _t0 := True.intro
    refine XK.skip ?_
    refine XK.seq ?_
    refine XK.block ?_
    refine XK.seq ?_
    refine XK.region rfl ?_
    refine XO.q (Q.move rfl) ?_
    refine XO.q (Q.assign rfl) ?_
    refine XO.done ?_
    refine XK.region rfl ?_
    refine XO.q (Q.move rfl) ?_
    refine XO.q (Q.move rfl) ?_
    refine XO.q (Q.move rfl) ?_
    refine XO.ix rfl rfl (by omega) (by omega) fun i18 => ?_
    refine XO.stE _ rfl rfl rfl (by assumption) rfl rfl fun h4_4 O4_4 => ?_
    refine XO.done ?_
    refine XK.inBlock ?_
    refine XK.region rfl ?_
    refine XO.q (Q.add rfl rfl ⟨by omega, by omega⟩) ?_
    refine XO.q (Q.move rfl) ?_
    refine XO.done ?_
    exact ih0 (i + 1, h4_4, _) _ _ ⟨by dsimp only; omega, by simp only [List.length_set]; exact hxl, mset_upto (by omega) hx, O4_4⟩ (by first | omega | (dsimp only; omega)) (.c rfl (.base 19 rfl rfl)) inferInstance
  · have _t0 := True.intro
    have hin : i = size := by omega
    rw [hin] at hx
    rw [meq_range hxl hx] at OX
    clear ih0
    refine XK.exit rfl ?_
    refine XK.block ?_
    refine XK.while (X := Nat × PHeap × PHeap × PHeap) [6, 7, 20, 21, 22, 23, 24, 25, 26, 27, 28, 29, 30, 31, 32, 33, 34, 35, 36, 37, 38, 39, 40, 41, 42, 43, 44, 45, 46, 47, 48, 49, 50, 51, 52, 53, 54, 55, 56, 57, 58, 59, 60, 61, 62, 63, 64, 65, 66, 67, 68, 69] (fun ⟨j, kn, K, q1⟩ => []) (fun ⟨j, kn, K, q1⟩ => [q1, kn, K, blk b1 [.int .i64 (size : Nat)] 3, blk b2 [.int .i64 (n : Nat)] 3]) (fun ⟨j, kn, K, q1⟩ => j < items.length ∧ OArr v9 encI 1 3 kn (ints (items.getD j [])) ∧ Qc j K q1) (fun ⟨j, kn, K, q1⟩ => items.length - j) (0, kx, emp, q) [q, kx, emp, blk b1 [.int .i64 (size : Nat)] 3, blk b2 [.int .i64 (n : Nat)] 3] rfl ⟨hi0, by rw [he0]; exact OX, hQ⟩ (.base 0 rfl rfl) ?_
    rintro ⟨j, kn, K, q1⟩ ⟨hj, ON, hq⟩ ih1
    dsimp only [List.cons_append, List.nil_append] at ih1 ⊢
    refine XK.seq ?_
    refine XK.seq ?_
    refine XK.region rfl ?_
    refine XO.q (Q.ld rfl rfl) ?_
    refine XO.q (Q.ld rfl rfl) ?_
    refine XO.q (Q.leq rfl rfl) ?_
    refine XO.done ?_
    refine XK.if rfl (fun c1 => ?_) (fun c1 => ?_)
    · have _t1 := True.intro
      have itr := st.rng j hj
      have nx := st.next j hj
      have il := ints_len (l := (items.getD j []))
      refine XK.skip ?_
      refine XK.block ?_
      refine XK.seq ?_
      refine XK.seq ?_
      refine XK.region rfl ?_
      refine XO.q (Q.move rfl) ?_
      refine XO.q (Q.move rfl) ?_
      refine XO.call Try.call20 rfl rfl rfl (cloneI v9 kn (ints (items.getD j [])) (by rw [ints_len, itr.1]; omega)) fun v25 s25 R25 => ?_
      obtain ⟨k25, rfl, O25⟩ := R25
      dsimp only [List.cons_append, List.nil_append]
      refine XO.cat K k25 fun leK le25 => ?_
      have A25 : Arr v25 encI 1 (cat K k25) (ints (items.getD j [])) := Arr.le_heap (OArr.arr (s := O25)) le25
      clear O25
      refine XO.vcall rfl rfl (round j hj (cat K k25) _ q1 ⟨v25, rfl, A25⟩ (mono j K (cat K k25) q1 leK hq)) fun v26 s26 R26 => ?_
      obtain ⟨bb, q2, rfl, rfl, hT, hF⟩ := R26
      dsimp only [List.cons_append, List.nil_append]
      refine XO.q (Q.not rfl) ?_
      refine XO.done ?_
      refine XK.if rfl (fun c2 => ?_) (fun c2 => ?_)
      · have _t2 := True.intro
        refine XK.rt [q2, cat K k25] Try.func93 Try.results93 (.n) ?_
        exact ⟨q2, cat K k25, rfl, .inr (hF (by simpa using c2))⟩
      · have _t2 := True.intro
        refine XK.skip ?_
        refine XK.seq ?_
        refine XK.region rfl ?_
        refine XO.q (Q.ld rfl rfl) ?_
        refine XO.q (Q.sub rfl rfl ⟨by omega, by omega⟩) ?_
        refine XO.q (Q.assign rfl) ?_
        refine XO.done ?_
        refine XK.seq ?_
        refine XK.block ?_
        refine XK.while (X := Nat) [6, 30, 31, 32, 33, 34, 35, 36, 37, 38, 39, 40, 41, 42, 43, 44, 45] (fun m => [(6, some (.int .i64 ((m : Int) - 1)))]) (fun m => []) (fun m => m ≤ size ∧ lastTo (freeAt n size (items.getD j [])) size = lastTo (freeAt n size (items.getD j [])) m) (fun m => m) (size) [] rfl ⟨Nat.le_refl _, rfl⟩ (.c rfl (.base 0 rfl rfl)) ?_
        rintro m ⟨hm, hlast⟩ ih2
        dsimp only [List.cons_append, List.nil_append] at ih2 ⊢
        refine XK.seq ?_
        refine XK.seq ?_
        refine XK.drawn [0, 1, 2, 3, 4, 5, 6, 7, 8, 9, 10, 11, 12, 13] [b2, b1] [kn] (.q 0 (.q 1 (.q 2 (.q 3 (.q 4 (.q 5 (.q 6 (.q 7 (.q 8 (.q 9 (.q 10 (.q 11 (.q 12 (.q 13 .done)))))))))))))) Try.mixed rfl (by kernel_rfl) ?_
        refine XT.q rfl rfl (Q.move rfl) ?_
        refine XT.q rfl rfl (Q.geq rfl rfl) ?_
        refine XT.q rfl rfl (Q.move rfl) ?_
        refine XT.q rfl rfl (Quiet.guardT rfl rfl fun g33 p33 => Q.move rfl) ?_
        refine XT.q rfl rfl (Quiet.guardT rfl rfl fun g34 p34 => Q.move rfl) ?_
        refine XT.q rfl rfl (Quiet.guardT rfl rfl fun g35 p35 => Q.ix (lzv g35 rfl) (lzv g35 rfl) (by omega) (by omega)) ?_
        refine XT.q rfl rfl (Quiet.guardT rfl rfl fun g36 p36 => Q.ldE (lzv g36 rfl) (by first | assumption | omega) rfl) ?_
        refine XT.q rfl rfl (Quiet.guardT rfl rfl fun g37 p37 => Q.ld rfl rfl) ?_
        refine XT.q rfl rfl (Quiet.guardT rfl rfl fun g38 p38 => Q.ld rfl rfl) ?_
        refine XT.q rfl rfl (Quiet.guardT rfl rfl fun g39 p39 => Q.sub (lzv g39 rfl) (lzv g39 rfl) ⟨by omega, by omega⟩) ?_
        refine XT.q rfl rfl (Quiet.guardT rfl rfl fun g40 p40 => Q.move rfl) ?_
        refine XT.q rfl rfl (Quiet.guardT rfl rfl fun g41 p41 => Q.add (lzv g41 rfl) (lzv g41 rfl) ⟨by omega, by omega⟩) ?_
        refine XT.q rfl rfl (Quiet.guardT rfl rfl fun g42 p42 => Q.eql (lzv g42 rfl) (lzv g42 rfl)) ?_
        refine XT.q rfl rfl (Q.and rfl (fun hp => lzv hp rfl)) ?_
        refine XT.done ?_
        refine XK.if rfl (fun c3 => ?_) (fun c3 => ?_)
        · have _t3 := True.intro
          have c32 := c3.2
          rw [show ((m : Int) - 1).toNat = m - 1 by omega, ints_at (by omega)] at c32
          have hf : freeAt n size (items.getD j []) (m - 1) = false := by unfold freeAt; rw [Bool.not_eq_false', decide_eq_true_eq]; omega
          refine XK.skip ?_
          refine XK.block ?_
          refine XK.region rfl ?_
          refine XO.q (Q.move rfl) ?_
          refine XO.q (Q.sub rfl rfl ⟨by omega, by omega⟩) ?_
          refine XO.q (Q.assign rfl) ?_
          refine XO.done ?_
          refine XK.inBlock ?_
          rw [show (m : Int) - 1 - 1 = ((m - 1 : Nat) : Int) - 1 by omega]
          exact ih2 (m - 1) _ _ ⟨by omega, by rw [hlast]; obtain ⟨m2, rfl⟩ : ∃ m2, m = m2 + 1 := ⟨m - 1, by omega⟩; rw [lastTo, if_neg (by rw [show m2 = m2 + 1 - 1 from rfl, hf]; decide)]; rfl⟩ (by first | omega | (dsimp only; omega)) (.c rfl (.base 35 rfl rfl)) inferInstance
        · have _t3 := True.intro
          refine XK.exit rfl ?_
          refine XK.seq ?_
          refine XK.seq ?_
          refine XK.region rfl ?_
          refine XO.q (Q.move rfl) ?_
          refine XO.q (Q.lss rfl rfl) ?_
          refine XO.done ?_
          refine XK.if rfl (fun c4 => ?_) (fun c4 => ?_)
          · have _t4 := True.intro
            have hm0 : m = 0 := by omega
            rw [hm0] at hlast
            rw [nextS, hlast] at nx
            have hend : j + 1 = items.length := by
              have := List.getElem?_eq_none_iff.1 nx.symm
              omega
            refine XK.rt [q2, cat K k25] Try.func93 Try.results93 (.n) ?_
            exact ⟨q2, cat K k25, rfl, .inl (by rw [← hend]; exact hT (by simpa using c2))⟩
          · have _t4 := True.intro
            obtain ⟨i, rfl⟩ : ∃ i, m = i + 1 := ⟨m - 1, by omega⟩
            rw [show ((i + 1 : Nat) : Int) - 1 = (i : Int) by omega]
            have hf : freeAt n size (items.getD j []) i = true := by
              unfold freeAt
              rw [Bool.not_eq_true', decide_eq_false_iff_not]
              intro hc
              refine c3 ⟨by omega, ?_⟩
              rw [show (((i + 1 : Nat) : Int) - 1).toNat = i by omega, ints_at (by omega)]
              omega
            have hli : lastTo (freeAt n size (items.getD j [])) size = some i := by rw [hlast, lastTo, if_pos hf]
            rw [nextS, hli, Option.map_some] at nx
            obtain ⟨nj, ne⟩ := items_getD nx.symm
            have li : (items.getD j []).getD i 0 < n := itr.2 _ (getD_mem0 (by omega))
            clear ih2 hlast c3 c4
            refine XK.skip ?_
            refine XK.seq ?_
            refine XK.region rfl ?_
            refine XO.q (Q.move rfl) ?_
            refine XO.q (Q.move rfl) ?_
            refine XO.ix rfl rfl (by omega) (by omega) fun i50 => ?_
            refine XO.q (Q.ldE rfl (by first | assumption | omega) rfl) ?_
            rw [ints_at (by omega)]
            refine XO.q (Q.add rfl rfl ⟨by omega, by omega⟩) ?_
            rw [show ((((items.getD j []).getD i 0 : Nat) : Int) + 1) = (((items.getD j []).getD i 0 + 1 : Nat) : Int) from rfl]
            refine XO.ix rfl rfl (by omega) (by omega) fun i53 => ?_
            refine XO.stE _ rfl rfl rfl (by assumption) rfl rfl fun h12_6 O12_6 => ?_
            rw [ints_set] at O12_6
            refine XO.done ?_
            refine XK.seq ?_
            refine XK.region rfl ?_
            refine XO.q (Q.move rfl) ?_
            refine XO.q (Q.add rfl rfl ⟨by omega, by omega⟩) ?_
            rw [show ((i : Int) + 1) = ((i + 1 : Nat) : Int) from rfl]
            refine XO.q (Q.assign rfl) ?_
            refine XO.done ?_
            refine XK.block ?_
            refine XK.while (X := Nat × PHeap) [7, 56, 57, 58, 59, 60, 61, 62, 63, 64, 65, 66, 67, 68, 69] (fun ⟨t, kb⟩ => [(7, some (.int .i64 ((i + 1 + t : Nat) : Int)))]) (fun ⟨t, kb⟩ => [kb]) (fun ⟨t, kb⟩ => i + 1 + t ≤ size ∧ OArr v9 encI 1 3 kb (ints (bumpTo (items.getD j []) i t))) (fun ⟨t, kb⟩ => size - t) (0, h12_6) [h12_6] rfl ⟨by omega, O12_6⟩ (.c rfl (.base 0 rfl rfl)) ?_
            rintro ⟨t, kb⟩ ⟨ht, OB⟩ ih3
            dsimp only [List.cons_append, List.nil_append] at ih3 ⊢
            refine XK.seq ?_
            refine XK.seq ?_
            refine XK.region rfl ?_
            refine XO.q (Q.move rfl) ?_
            refine XO.q (Q.ld rfl rfl) ?_
            refine XO.q (Q.lss rfl rfl) ?_
            refine XO.done ?_
            refine XK.if rfl (fun c5 => ?_) (fun c5 => ?_)
            · have _t5 := True.intro
              have hb := bumpTo_at (l := (items.getD j [])) (i := i) (t := t) (by omega)
              have bl := bumpTo_len (items.getD j []) i t
              have bil := ints_len (l := bumpTo (items.getD j []) i t)
              refine XK.skip ?_
              refine XK.seq ?_
              refine XK.block ?_
              refine XK.region rfl ?_
              refine XO.q (Q.move rfl) ?_
              refine XO.q (Q.move rfl) ?_
              refine XO.q (Q.move rfl) ?_
              refine XO.q (Q.move rfl) ?_
              refine XO.q (Q.sub rfl rfl ⟨by omega, by omega⟩) ?_
              rw [show ((i + 1 + t : Nat) : Int) - 1 = ((i + t : Nat) : Int) by omega]
              refine XO.ix rfl rfl (by omega) (by omega) fun i66 => ?_
              refine XO.q (Q.ldE rfl (by first | assumption | omega) rfl) ?_
              rw [ints_at (by omega)]
              refine XO.q (Q.add rfl rfl ⟨by omega, by omega⟩) ?_
              rw [show (((bumpTo (items.getD j []) i t).getD (i + t) 0 : Nat) : Int) + 1 = (((bumpTo (items.getD j []) i t).getD (i + t) 0 + 1 : Nat) : Int) from rfl]
              refine XO.ix rfl rfl (by omega) (by omega) fun i69 => ?_
              refine XO.stE _ rfl rfl rfl (by assumption) rfl rfl fun h16_9 O16_9 => ?_
              rw [ints_set] at O16_9
              refine XO.done ?_
              refine XK.inBlock ?_
              refine XK.region rfl ?_
              refine XO.q (Q.move rfl) ?_
              refine XO.q (Q.add rfl rfl ⟨by omega, by omega⟩) ?_
              rw [show ((i + 1 + t : Nat) : Int) + 1 = ((i + 1 + (t + 1) : Nat) : Int) by omega]
              refine XO.q (Q.assign rfl) ?_
              refine XO.done ?_
              exact ih3 (t + 1, h16_9) _ _ ⟨by dsimp only; omega, O16_9⟩ (by first | omega | (dsimp only; omega)) (.c rfl (.base 31 rfl rfl)) inferInstance
            · have _t5 := True.intro
              have hts : t = size - 1 - i := by omega
              rw [hts] at OB
              refine XK.exit rfl ?_
              refine XK.inBlock ?_
              exact ih1 (j + 1, kb, cat K k25, q2) _ _ ⟨nj, by dsimp only; rw [ne]; exact OB, hT (by simpa using c2)⟩ (by first | omega | (dsimp only; omega)) (.base 125 rfl rfl) inferInstance
    · have _t1 := True.intro
      exact absurd hs (by omega)
theorem sets_spec (n size : Nat) (hn : n ≤ 14) (hs : size ≤ n) (items : List (List Nat)) (st : SetSteps n size items) : Spec Try.prog 55 #[.int .i64 (n : Nat), .int .i64 (size : Nat)] [] [] (fun v hs => ∃ k1 k2, hs = [k1, k2] ∧ ItK Try.prog v items.length (SetY items) [k1, k2] []) := by
  refine Spec.intro (fn := Try.f55) (N := 6) Try.func55 rfl Try.ntmps55 rfl fun B => ?_
  refine XK.seq ?_
  refine XK.region rfl ?_
  refine XO.box rfl fun b2 => ?_
  refine XO.box rfl fun b3 => ?_
  refine XO.q (Q.assign rfl) ?_
  refine XO.done ?_
  refine XK.seq ?_
  refine XK.region rfl ?_
  refine XO.q (Q.func (fun _ he => rfl) (fun _ he => evs_rel he rfl)) ?_
  refine XO.q (Q.assign rfl) ?_
  refine XO.done ?_
  refine XK.rt [blk b3 [.int .i64 (size : Nat)] 3, blk b2 [.int .i64 (n : Nat)] 3] Try.func55 Try.results55 (.t rfl .n) ?_
  exact ⟨_, _, rfl, fun f Hr Qc Xc mono round q hQ => VSpec.fn (fst := []) (cap := [ptr b3 0, ptr b2 0]) Try.call93 rfl (sets1 n size hn hs items st b3 b2 f Hr Qc Xc mono round q hQ)⟩
end Go.X

set_option linter.unusedSimpArgs false
set_option linter.unusedVariables false
set_option maxRecDepth 20000
namespace Go.X
open Go.Proofs
theorem listed_spec (c : MCase) (vn vv : Value) (hn hv : PHeap) [jn : Arr vn encNode 3 hn c.nodes] [jv : Arr vv encI 1 hv c.vals] (set : List Int) (vs : Value) (hs_ : PHeap) [js : Arr vs encI 1 hs_ set] : Spec Try.prog 52 #[.agg #[vn, vv], vs] [] [hn, hv, hs_] (fun v hs => v = .int .i64 (listedG c set) ∧ hs = []) := by
  have ln := jn.le
  refine Spec.intro (fn := Try.f52) (N := 42) Try.func52 rfl Try.ntmps52 rfl fun B => ?_
  refine XK.seq ?_
  refine XK.region rfl ?_
  refine XO.box rfl fun b2 => ?_
  refine XO.q (Q.assign rfl) ?_
  refine XO.done ?_
  refine XK.seq ?_
  refine XK.seq ?_
  refine XK.region rfl ?_
  refine XO.q (Q.ldA [_, _] rfl rfl rfl) ?_
  refine XO.call Try.call54 rfl rfl rfl (Check_spec11 c vn vv hn hv) fun v9 s9 R9 => ?_
  obtain ⟨rfl, rfl⟩ := R9
  dsimp only [List.cons_append, List.nil_append]
  refine XO.q (Q.assign rfl) ?_
  refine XO.done ?_
  refine XK.seq ?_
  refine XK.region rfl ?_
  refine XO.q (Q.move rfl) ?_
  refine XO.q (Q.neq rfl rfl) ?_
  refine XO.done ?_
  refine XK.if rfl (fun c0 => ?_) (fun c0 => ?_)
  · have _t0 := True.intro
    refine XK.seq ?_
    refine XK.region rfl ?_
    refine XO.q (Q.move rfl) ?_
    refine XO.q (Q.assign rfl) ?_
    refine XO.done ?_
    refine XK.rt [] Try.func52 Try.results52 (.t rfl .n) ?_
    exact ⟨by rw [listedG, if_pos c0], rfl⟩
  · have _t0 := True.intro
    refine XK.skip ?_
    refine XK.seq ?_
    refine XK.seq ?_
    refine XK.region rfl ?_
    refine XO.q (Q.move rfl) ?_
    refine XO.len rfl fun l14 => ?_
    refine XO.q (Q.move rfl) ?_
    refine XO.done ?_
    refine XK.block ?_
    refine XK.while (X := Nat) [4, 6, 7, 15, 16, 17, 18, 19, 20, 21, 22, 23, 24, 25, 26, 27, 28, 29, 30, 31, 32, 33, 34, 35, 36, 37, 38, 39, 40, 41] (fun i => [(15, some (.int .i64 (i : Nat)))]) (fun i => []) (fun i => i ≤ set.length ∧ listedP c set i = true) (fun i => set.length - i) (0) [] rfl ⟨by omega, rfl⟩ (.c rfl (.base 0 rfl rfl)) ?_
    rintro i ⟨hi, hall⟩ ih0
    dsimp only [List.cons_append, List.nil_append] at ih0 ⊢
    refine XK.seq ?_
    refine XK.region rfl ?_
    refine XO.q (Q.lss rfl rfl) ?_
    refine XO.done ?_
    refine XK.seq ?_
    refine XK.if rfl (fun c1 => ?_) (fun c1 => ?_)
    · have _t1 := True.intro
      refine XK.skip ?_
      refine XK.seq ?_
      refine XK.block ?_
      refine XK.seq ?_
      refine XK.region rfl ?_
      refine XO.q (Q.move rfl) ?_
      refine XO.ix rfl rfl (by omega) (by omega) fun i18 => ?_
      refine XO.q (Q.ldE rfl (by first | assumption | omega) rfl) ?_
      refine XO.q (Q.assign rfl) ?_
      refine XO.q (Q.assign rfl) ?_
      refine XO.done ?_
      refine XK.seq ?_
      refine XK.region rfl ?_
      refine XO.q (Q.fieldAddr rfl) ?_
      refine XO.q (Q.ld rfl rfl) ?_
      refine XO.len rfl fun l22 => ?_
      refine XO.q (Q.sub rfl rfl ⟨by omega, by omega⟩) ?_
      refine XO.q (Q.move rfl) ?_
      refine XO.lit [_] [_] [set.getD i default] encI (by rfl) (by rfl) rfl (by rfl) (by exact .c 0 1 rfl rfl rfl (.n _)) (fun _ => rfl) (by rfl) rfl (by infer_instance) rfl fun v25 h25 O25 => ?_
      refine XO.call Try.call47 rfl rfl rfl (in_spec11 ((c.nodes.length : Nat) - 1 : Int) v25 h25 [set.getD i default]) fun v26 s26 R26 => ?_
      obtain ⟨rfl, rfl⟩ := R26
      dsimp only [List.cons_append, List.nil_append]
      refine XO.q (Q.not rfl) ?_
      refine XO.q (Q.move rfl) ?_
      refine XO.q (Quiet.guardF rfl rfl fun g29 p29 => Q.move rfl) ?_
      refine XO.q (Quiet.guardF rfl rfl fun g30 p30 => Q.gtr (lzv g30 rfl) rfl) ?_
      refine XO.q (Quiet.guardF rfl rfl fun g31 p31 => Q.move (lzv g31 rfl)) ?_
      refine XO.q (Quiet.guard2 rfl rfl fun g32a g32b => have p32a := bpF g32a; have p32b := bpT g32b; Q.move rfl) ?_
      refine XO.q (Quiet.guard2 rfl rfl fun g33a g33b => have p33a := bpF g33a; have p33b := bpT g33b; Q.move rfl) ?_
      refine XO.q (Quiet.guard2 rfl rfl fun g34a g34b => have p34a := bpF g34a; have p34b := bpT g34b; Q.move rfl) ?_
      refine XO.q (Quiet.guard2 rfl rfl fun g35a g35b => have p35a := bpF g35a; have p35b := bpT g35b; Q.sub (lzv g35b (lzv g35a rfl)) rfl ⟨by omega, by omega⟩) ?_
      refine XO.q (Quiet.guard2 rfl rfl fun g36a g36b => have p36a := bpF g36a; have p36b := bpT g36b; Q.ix (lzv g36b (lzv g36a rfl)) (lzv g36b (lzv g36a rfl)) (by omega) (by omega)) ?_
      refine XO.q (Quiet.guard2 rfl rfl fun g37a g37b => have p37a := bpF g37a; have p37b := bpT g37b; Q.ldE (lzv g37b (lzv g37a rfl)) (by first | assumption | omega) rfl) ?_
      refine XO.q (Quiet.guard2 rfl rfl fun g38a g38b => have p38a := bpF g38a; have p38b := bpT g38b; Q.leq (lzv g38b (lzv g38a rfl)) (lzv g38b (lzv g38a rfl))) ?_
      refine XO.q (Quiet.guardF rfl rfl fun g39 p39 => Q.and (lzv g39 rfl) (fun hp => (lzv hp (lzv g39 rfl)))) ?_
      refine XO.q (Q.or rfl (fun hp => lzv hp rfl)) ?_
      refine XO.done ?_
      refine XK.if rfl (fun c2 => ?_) (fun c2 => ?_)
      · have _t2 := True.intro
        refine XK.seq ?_
        refine XK.region rfl ?_
        refine XO.q (Q.assign rfl) ?_
        refine XO.done ?_
        refine XK.rt [] Try.func52 Try.results52 (.t rfl .n) ?_
        exact ⟨by rw [listedG, if_neg c0, if_neg (by rw [listedP, allTo_false (s := i) (by omega) (by rw [Bool.not_eq_false', decide_eq_true_eq]; exact c2)]; decide)], rfl⟩
      · have _t2 := True.intro
        refine XK.skip ?_
        refine XK.inBlock ?_
        refine XK.region rfl ?_
        refine XO.q (Q.add rfl rfl ⟨by omega, by omega⟩) ?_
        refine XO.q (Q.move rfl) ?_
        refine XO.done ?_
        exact ih0 (i + 1) _ _ ⟨by omega, by rw [listedP, allTo_succ]; rw [listedP] at hall; rw [hall, Bool.true_and, Bool.not_eq_true', decide_eq_false_iff_not]; exact c2⟩ (by first | omega | (dsimp only; omega)) (.c rfl (.base 60 rfl rfl)) inferInstance
    · have _t1 := True.intro
      refine XK.exit rfl ?_
      refine XK.seq ?_
      refine XK.region rfl ?_
      refine XO.q (Q.assign rfl) ?_
      refine XO.done ?_
      refine XK.rt [] Try.func52 Try.results52 (.t rfl .n) ?_
      have hin : i = set.length := by omega
      rw [hin] at hall
      exact ⟨by rw [listedG, if_neg c0, if_pos hall], rfl⟩
theorem Explains_spec (c : MCase) (vn vv : Value) (hn hv : PHeap) [jn : Arr vn encNode 3 hn c.nodes] [jv : Arr vv encI 1 hv c.vals] (set : List Int) (vs : Value) (hs_ : PHeap) [js : Arr vs encI 1 hs_ set] : Spec Try.prog 15 #[.agg #[vn, vv], vs] [] [hn, hv, hs_] (fun v hs => v = .tuple #[.bool (explainsG c set).1, .int .i64 (explainsG c set).2] ∧ hs = []) := by
  refine Spec.intro (fn := Try.f15) (N := 22) Try.func15 rfl Try.ntmps15 rfl fun B => ?_
  refine XK.seq ?_
  refine XK.region rfl ?_
  refine XO.box rfl fun b2 => ?_
  refine XO.q (Q.assign rfl) ?_
  refine XO.q (Q.assign rfl) ?_
  refine XO.done ?_
  refine XK.seq ?_
  refine XK.seq ?_
  refine XK.region rfl ?_
  refine XO.q (Q.ldA [_, _] rfl rfl rfl) ?_
  refine XO.q (Q.move rfl) ?_
  refine XO.call Try.call52 rfl rfl rfl (listed_spec c vn vv hn hv set vs hs_) fun v11 s11 R11 => ?_
  obtain ⟨rfl, rfl⟩ := R11
  dsimp only [List.cons_append, List.nil_append]
  refine XO.q (Q.assign rfl) ?_
  refine XO.done ?_
  refine XK.seq ?_
  refine XK.region rfl ?_
  refine XO.q (Q.move rfl) ?_
  refine XO.q (Q.neq rfl rfl) ?_
  refine XO.done ?_
  refine XK.if rfl (fun c0 => ?_) (fun c0 => ?_)
  · have _t0 := True.intro
    refine XK.seq ?_
    refine XK.region rfl ?_
    refine XO.q (Q.move rfl) ?_
    refine XO.q (Q.assign rfl) ?_
    refine XO.q (Q.assign rfl) ?_
    refine XO.done ?_
    refine XK.rt [] Try.func15 Try.results15 (.t rfl (.t rfl .n)) ?_
    exact ⟨by rw [explainsG, if_pos c0], rfl⟩
  · have _t0 := True.intro
    have ok := mcheck_ok (listed_check (Decidable.of_not_not c0))
    refine XK.skip ?_
    refine XK.seq ?_
    refine XK.region rfl ?_
    refine XO.q (Q.ldA [_, _] rfl rfl rfl) ?_
    refine XO.q (Q.move rfl) ?_
    refine XO.call Try.call53 rfl rfl rfl (look_spec c vn vv hn hv ok set vs hs_) fun v18 s18 R18 => ?_
    obtain ⟨bt, vm, km, ms, rfl, rfl, OM, hml, hmv⟩ := R18
    dsimp only [List.cons_append, List.nil_append]
    refine XO.q (Q.move rfl) ?_
    refine XO.q (Q.extract rfl rfl) ?_
    refine XO.q (Q.extract rfl rfl) ?_
    refine XO.q (Q.assign rfl) ?_
    refine XO.q (Q.assign rfl) ?_
    refine XO.done ?_
    refine XK.seq ?_
    refine XK.region rfl ?_
    refine XO.q (Q.move rfl) ?_
    refine XO.q (Q.assign rfl) ?_
    refine XO.q (Q.assign rfl) ?_
    refine XO.done ?_
    refine XK.rt [] Try.func15 Try.results15 (.t rfl (.t rfl .n)) ?_
    exact ⟨by rw [explainsG, if_neg c0], rfl⟩
theorem Repair_spec (c : MCase) (vn vv : Value) (hn hv : PHeap) [jn : Arr vn encNode 3 hn c.nodes] [jv : Arr vv encI 1 hv c.vals] (set : List Int) (vs : Value) (hs_ : PHeap) [js : Arr vs encI 1 hs_ set] : Spec Try.prog 17 #[.agg #[vn, vv], vs] [] [hn, hv, hs_] (fun v hs => ∃ v1 k1, v = .tuple #[v1, .int .i64 (repairG c set).2] ∧ hs = [k1] ∧ OArr v1 encI 1 3 k1 (repairG c set).1) := by
  refine Spec.intro (fn := Try.f17) (N := 25) Try.func17 rfl Try.ntmps17 rfl fun B => ?_
  refine XK.seq ?_
  refine XK.region rfl ?_
  refine XO.box rfl fun b2 => ?_
  refine XO.q (Q.assign rfl) ?_
  refine XO.q (Q.assign rfl) ?_
  refine XO.done ?_
  refine XK.seq ?_
  refine XK.seq ?_
  refine XK.region rfl ?_
  refine XO.q (Q.ldA [_, _] rfl rfl rfl) ?_
  refine XO.q (Q.move rfl) ?_
  refine XO.call Try.call52 rfl rfl rfl (listed_spec c vn vv hn hv set vs hs_) fun v11 s11 R11 => ?_
  obtain ⟨rfl, rfl⟩ := R11
  dsimp only [List.cons_append, List.nil_append]
  refine XO.q (Q.assign rfl) ?_
  refine XO.done ?_
  refine XK.seq ?_
  refine XK.region rfl ?_
  refine XO.q (Q.move rfl) ?_
  refine XO.q (Q.neq rfl rfl) ?_
  refine XO.done ?_
  refine XK.if rfl (fun c0 => ?_) (fun c0 => ?_)
  · have _t0 := True.intro
    refine XK.seq ?_
    refine XK.region rfl ?_
    refine XO.q (Q.move rfl) ?_
    refine XO.q (Q.assign rfl) ?_
    refine XO.q (Q.assign rfl) ?_
    refine XO.done ?_
    refine XK.rt [emp] Try.func17 Try.results17 (.t rfl (.t rfl .n)) ?_
    have hw0 : repairG c set = ([], listedG c set) := by rw [repairG, if_pos c0]
    rw [hw0]
    exact ⟨.slice none 0 0, emp, rfl, rfl, OArr.nil (fun _ => rfl)⟩
  · have _t0 := True.intro
    have ok := mcheck_ok (listed_check (Decidable.of_not_not c0))
    refine XK.skip ?_
    refine XK.seq ?_
    refine XK.region rfl ?_
    refine XO.q (Q.ldA [_, _] rfl rfl rfl) ?_
    refine XO.q (Q.move rfl) ?_
    refine XO.call Try.call53 rfl rfl rfl (look_spec c vn vv hn hv ok set vs hs_) fun v18 s18 R18 => ?_
    obtain ⟨bt, vm, km, ms, rfl, rfl, OM, hml, hmv⟩ := R18
    dsimp only [List.cons_append, List.nil_append]
    refine XO.q (Q.move rfl) ?_
    refine XO.q (Q.extract rfl rfl) ?_
    refine XO.q (Q.extract rfl rfl) ?_
    refine XO.q (Q.assign rfl) ?_
    refine XO.q (Q.assign rfl) ?_
    refine XO.done ?_
    refine XK.seq ?_
    refine XK.seq ?_
    refine XK.region rfl ?_
    refine XO.q (Q.move rfl) ?_
    refine XO.q (Q.not rfl) ?_
    refine XO.done ?_
    refine XK.if rfl (fun c1 => ?_) (fun c1 => ?_)
    · have _t1 := True.intro
      refine XK.seq ?_
      refine XK.region rfl ?_
      refine XO.q (Q.assign rfl) ?_
      refine XO.q (Q.assign rfl) ?_
      refine XO.done ?_
      refine XK.rt [emp] Try.func17 Try.results17 (.t rfl (.t rfl .n)) ?_
      have hw0 : repairG c set = ([], 4) := by rw [repairG, if_neg c0, if_pos c1]
      rw [hw0]
      exact ⟨.slice none 0 0, emp, rfl, rfl, OArr.nil (fun _ => rfl)⟩
    · have _t1 := True.intro
      refine XK.skip ?_
      refine XK.seq ?_
      refine XK.region rfl ?_
      refine XO.q (Q.move rfl) ?_
      refine XO.call Try.call56 rfl rfl rfl (repair_spec c vn vv hn hv ok set vs hs_ (Decidable.of_not_not c1) bt vm km ms hml (hmv (Decidable.of_not_not c1))) fun v24 s24 R24 => ?_
      obtain ⟨k24, rfl, O24⟩ := R24
      dsimp only [List.cons_append, List.nil_append]
      refine XO.q (Q.assign rfl) ?_
      refine XO.q (Q.assign rfl) ?_
      refine XO.done ?_
      refine XK.rt [k24] Try.func17 Try.results17 (.t rfl (.t rfl .n)) ?_
      have hw0 : repairG c set = (repairL c set, 0) := by rw [repairG, if_neg c0, if_neg c1]
      rw [hw0]
      exact ⟨_, k24, rfl, rfl, O24⟩
theorem keepTo_succ {p : List Nat → Bool} {items : List (List Nat)} {i : Nat} : keepTo p items (i + 1) = if p (items.getD i []) = true then keepTo p items i ++ [items.getD i []] else keepTo p items i := rfl
theorem Least_spec (c : MCase) (vn vv : Value) (hn hv : PHeap) [jn : Arr vn encNode 3 hn c.nodes] [jv : Arr vv encI 1 hv c.vals] (hst : mcheck c = 0 → ∀ s, s ≤ c.nodes.length → SetSteps c.nodes.length s (combos s c.nodes.length 0)) : Spec Try.prog 16 #[.agg #[vn, vv]] [] [hn, hv]
    (fun v hs => ∃ v1 k1 K us, v = .tuple #[v1, .int .i64 (leastG c).2] ∧ hs = [k1, K] ∧ OArr v1 encV 1 24 k1 us ∧ RowsK us K ((leastG c).1.map ints)) := by
  have hnil : OArr (.slice none 0 0) encV 1 24 emp ([] : List Value) := OArr.nil (fun _ => rfl)
  refine Spec.intro (fn := Try.f16) (N := 44) Try.func16 rfl Try.ntmps16 rfl fun B => ?_
  refine XK.seq ?_
  refine XK.region rfl ?_
  refine XO.box rfl fun b1 => ?_
  refine XO.q (Q.assign rfl) ?_
  refine XO.q (Q.assign rfl) ?_
  refine XO.done ?_
  refine XK.seq ?_
  refine XK.seq ?_
  refine XK.region rfl ?_
  refine XO.q (Q.ldA [_, _] rfl rfl rfl) ?_
  refine XO.call Try.call54 rfl rfl rfl (Check_spec11 c vn vv hn hv) fun v11 s11 R11 => ?_
  obtain ⟨rfl, rfl⟩ := R11
  dsimp only [List.cons_append, List.nil_append]
  refine XO.q (Q.assign rfl) ?_
  refine XO.done ?_
  refine XK.seq ?_
  refine XK.region rfl ?_
  refine XO.q (Q.move rfl) ?_
  refine XO.q (Q.neq rfl rfl) ?_
  refine XO.done ?_
  refine XK.if rfl (fun c0 => ?_) (fun c0 => ?_)
  · have _t0 := True.intro
    refine XK.seq ?_
    refine XK.region rfl ?_
    refine XO.q (Q.move rfl) ?_
    refine XO.q (Q.assign rfl) ?_
    refine XO.q (Q.assign rfl) ?_
    refine XO.done ?_
    refine XK.rt [emp, emp] Try.func16 Try.results16 (.t rfl (.t rfl .n)) ?_
    have hw0 : leastG c = ([], mcheck c) := by rw [leastG, if_pos c0]
    rw [hw0]
    exact ⟨.slice none 0 0, emp, emp, [], rfl, rfl, OArr.nil (fun _ => rfl), RowsK.nil⟩
  · have _t0 := True.intro
    have ok0 := Decidable.of_not_not c0
    have ok := mcheck_ok ok0
    refine XK.skip ?_
    refine XK.seq ?_
    refine XK.seq ?_
    refine XK.region rfl ?_
    refine XO.q (Q.fieldAddr rfl) ?_
    refine XO.q (Q.ld rfl rfl) ?_
    refine XO.len rfl fun l17 => ?_
    refine XO.q (Q.add rfl rfl ⟨by omega, by omega⟩) ?_
    rw [show ((c.nodes.length : Nat) : Int) + 1 = ((c.nodes.length + 1 : Nat) : Int) from rfl]
    refine XO.q (Q.move rfl) ?_
    refine XO.done ?_
    refine XK.block ?_
    refine XK.while (X := Nat) [2, 3, 5, 6, 7, 8, 9, 19, 20, 21, 22, 23, 24, 25, 26, 28, 29, 30, 31, 32, 33, 34, 35, 36, 37, 38, 39, 40, 41, 42, 43] (fun s => [(19, some (.int .i64 (s : Nat)))]) (fun s => []) (fun s => s ≤ c.nodes.length + 1 ∧ leastS c (c.nodes.length + 1) 0 = leastS c (c.nodes.length + 1 - s) s) (fun s => c.nodes.length + 1 - s) (0) [] rfl ⟨by omega, rfl⟩ (.c rfl (.base 0 rfl rfl)) ?_
    rintro s ⟨hs, hls⟩ ih0
    dsimp only [List.cons_append, List.nil_append] at ih0 ⊢
    refine XK.seq ?_
    refine XK.region rfl ?_
    refine XO.q (Q.lss rfl rfl) ?_
    refine XO.done ?_
    refine XK.seq ?_
    refine XK.if rfl (fun c1 => ?_) (fun c1 => ?_)
    · have _t1 := True.intro
      refine XK.skip ?_
      refine XK.seq ?_
      refine XK.block ?_
      refine XK.seq ?_
      refine XK.region rfl ?_
      refine XO.q (Q.move rfl) ?_
      refine XO.q (Q.assign rfl) ?_
      refine XO.done ?_
      refine XK.seq ?_
      refine XK.region rfl ?_
      refine XO.alloc fun b6 => ?_
      refine XO.done ?_
      refine XK.seq ?_
      refine XK.seq ?_
      refine XK.region rfl ?_
      refine XO.q (Q.fieldAddr rfl) ?_
      refine XO.q (Q.ld rfl rfl) ?_
      refine XO.len rfl fun l24 => ?_
      refine XO.q (Q.move rfl) ?_
      refine XO.call Try.call55 rfl rfl rfl (sets_spec c.nodes.length s (by have := ok.n2; omega) (by omega) (combos s c.nodes.length 0) (hst ok0 s (by omega))) fun v26 s26 R26 => ?_
      obtain ⟨k1, k2, rfl, hit⟩ := R26
      dsimp only [List.cons_append, List.nil_append]
      refine XO.done ?_
      refine XK.block ?_
      refine XK.rangeK (X := Value × PHeap × List Value) (ps := [27]) (fun ⟨vo, ko, us⟩ => [blk b6 [vo] 54, ko]) (fun i ⟨vo, ko, us⟩ K0 => OArr vo encV 1 24 ko us ∧ RowsK us K0 ((keepTo (expl c) (combos s c.nodes.length 0) i).map ints) ∧ us.length ≤ i) (fun j0 ⟨vo, ko, us⟩ K0 => False) (.slice none 0 0, emp, []) [blk b6 [.slice none 0 0] 54, emp] rfl (hit) rfl (fun i x K K' hle hI => ⟨hI.1, hI.2.1.mono hle, hI.2.2⟩) (⟨hnil, RowsK.nil, Nat.le_refl _⟩) rfl (fun i K vs hY => by obtain ⟨sl, rfl, _⟩ := hY; rfl) ?_ ?_ (fun _ _ _ hJ => hJ.elim)
      · rintro l rec B' i ⟨vo, ko, us⟩ K0 vs hi ⟨v27, rfl, a27⟩ ⟨OO, rK, hui⟩
        dsimp only [List.cons_append, List.nil_append]
        refine XK.region rfl ?_
        refine XO.q (Q.assign rfl) ?_
        refine XO.done ?_
        refine XK.beginRound ?_
        refine XK.block ?_
        refine XK.seq ?_
        refine XK.region rfl ?_
        refine XO.q (Q.ldA [_, _] rfl rfl rfl) ?_
        refine XO.q (Q.move rfl) ?_
        refine XO.call Try.call53 rfl rfl rfl (look_spec c vn vv hn hv ok (ints ((combos s c.nodes.length 0).getD i [])) v27 K0) fun v31 s31 R31 => ?_
        obtain ⟨bt, vm, km, ms, rfl, rfl, OM, hml, hmv⟩ := R31
        dsimp only [List.cons_append, List.nil_append]
        refine XO.q (Q.move rfl) ?_
        refine XO.q (Q.extract rfl rfl) ?_
        refine XO.q (Q.extract rfl rfl) ?_
        refine XO.q (Q.assign rfl) ?_
        refine XO.q (Q.assign rfl) ?_
        refine XO.done ?_
        refine XK.seq ?_
        refine XK.region rfl ?_
        refine XO.q (Q.move rfl) ?_
        refine XO.done ?_
        refine XK.if rfl (fun c2 => ?_) (fun c2 => ?_)
        · have _t2 := True.intro
          refine XK.region rfl ?_
          refine XO.q (Q.ld rfl rfl) ?_
          refine XO.q (Q.move rfl) ?_
          refine XO.lit [_] [_] [v27] encV (by rfl) (by rfl) rfl (by rfl) (by exact .c 0 1 rfl rfl rfl (.n _)) (fun _ => rfl) (by rfl) rfl (by infer_instance) rfl fun v37 h37 O37 => ?_
          refine XO.append rfl rfl rfl rfl (by have := combos_len c.nodes.length s ok.n2; simp only [List.length_cons, List.length_nil]; omega) fun v38 h38 O38 => ?_
          refine XO.st rfl rfl rfl ?_
          refine XO.done ?_
          refine XK.inBlock ?_
          exact XK.leave (j := none) [blk b6 [v38] 54, h38] trivial ⟨(v38, h38, us ++ [v27]), ⟨O38, by rw [keepTo_succ, if_pos (show expl c _ = true from c2), List.map_append]; exact rK.snoc a27, by dsimp only; rw [List.length_append]; simp; omega⟩, rfl⟩
        · have _t2 := True.intro
          refine XK.skip ?_
          refine XK.inBlock ?_
          exact XK.leave (j := none) [blk b6 [vo] 54, ko] trivial ⟨(vo, ko, us), ⟨OO, by rw [keepTo_succ, if_neg (show ¬ expl c _ = true from c2)]; exact rK, by dsimp only; omega⟩, rfl⟩
      · rintro ⟨vo, ko, us⟩ K0 ⟨OO, rK, hui⟩
        dsimp only [List.cons_append, List.nil_append]
        refine XK.inBlock ?_
        refine XK.seq ?_
        refine XK.region rfl ?_
        refine XO.q (Q.ld rfl rfl) ?_
        refine XO.len rfl fun l40 => ?_
        have hul := rK.1
        rw [List.length_map] at hul
        rw [hul]
        refine XO.q (Q.gtr rfl rfl) ?_
        refine XO.done ?_
        refine XK.if rfl (fun c3 => ?_) (fun c3 => ?_)
        · have _t3 := True.intro
          refine XK.seq ?_
          refine XK.region rfl ?_
          refine XO.q (Q.ld rfl rfl) ?_
          refine XO.q (Q.assign rfl) ?_
          refine XO.q (Q.assign rfl) ?_
          refine XO.done ?_
          refine XK.rt [ko, K0] Try.func16 Try.results16 (.t rfl (.t rfl .n)) ?_
          have e1 : leastS c (c.nodes.length + 1) 0 = leastAt c s := by rw [hls, show c.nodes.length + 1 - s = (c.nodes.length - s) + 1 by omega, leastS, if_pos (by rw [leastAt]; omega)]
          have hw0 : leastG c = (leastAt c s, 0) := by rw [leastG, if_neg c0, e1, if_pos (by rw [leastAt]; omega)]
          rw [hw0]
          exact ⟨_, ko, K0, us, rfl, rfl, OO, rK⟩
        · have _t3 := True.intro
          refine XK.skip ?_
          refine XK.inBlock ?_
          refine XK.region rfl ?_
          refine XO.q (Q.add rfl rfl ⟨by omega, by omega⟩) ?_
          refine XO.q (Q.move rfl) ?_
          refine XO.done ?_
          exact ih0 (s + 1) _ _ ⟨by omega, by rw [hls, show c.nodes.length + 1 - s = (c.nodes.length + 1 - (s + 1)) + 1 by omega, leastS, if_neg (by rw [leastAt]; omega)]⟩ (by first | omega | (dsimp only; omega)) (.c rfl (.base 46 rfl rfl)) inferInstance
    · have _t1 := True.intro
      have hsn : s = c.nodes.length + 1 := by omega
      subst hsn
      refine XK.exit rfl ?_
      refine XK.seq ?_
      refine XK.region rfl ?_
      refine XO.q (Q.assign rfl) ?_
      refine XO.q (Q.assign rfl) ?_
      refine XO.done ?_
      refine XK.rt [emp, emp] Try.func16 Try.results16 (.t rfl (.t rfl .n)) ?_
      have hw0 : leastG c = ([], 4) := by rw [leastG, if_neg c0, hls, Nat.sub_self, leastS, if_neg (by decide)]
      rw [hw0]
      exact ⟨.slice none 0 0, emp, emp, [], rfl, rfl, OArr.nil (fun _ => rfl), RowsK.nil⟩
end Go.X

set_option linter.unusedSimpArgs false
set_option linter.unusedVariables false
set_option maxRecDepth 20000
namespace Go.X
open Go.Proofs
def encTier (x : MTier) : List Value := [.int .i64 x.min, .int .i64 x.pct]
def encBill (x : MBill) : List Value := [.int .i64 x.energy, .int .i64 x.amount, .int .i64 x.credit, .int .i64 x.due]
def encUse (x : Value × MUse) : List Value := [x.1, .int .i64 x.2.out]
instance : Inhabited (Value × MUse) := ⟨(.slice none 0 0, default)⟩
theorem right_spec (t : MTariff) (vp vt : Value) (hp ht : PHeap) [jp : Arr vp encI 1 hp t.price] [jt : Arr vt encTier 2 ht t.tiers] : Spec Try.prog 46 #[.agg #[vp, .int .i64 t.base, vt, .int .i64 t.credit]] [] [hp, ht] (fun v hs => v = .int .i64 (rightG t) ∧ hs = []) := by
  have lp := jp.le
  have lt := jt.le
  refine Spec.intro (fn := Try.f46) (N := 91) Try.func46 rfl Try.ntmps46 rfl fun B => ?_
  refine XK.seq ?_
  refine XK.region rfl ?_
  refine XO.box rfl fun b1 => ?_
  refine XO.q (Q.assign rfl) ?_
  refine XO.done ?_
  refine XK.seq ?_
  refine XK.block ?_
  refine XK.seq ?_
  refine XK.region rfl ?_
  refine XO.q (Q.fieldAddr rfl) ?_
  refine XO.q (Q.fieldAddr rfl) ?_
  refine XO.q (Q.ld rfl rfl) ?_
  refine XO.len rfl fun l9 => ?_
  refine XO.q (Q.neq rfl rfl) ?_
  refine XO.q (Q.assign rfl) ?_
  refine XO.done ?_
  refine XK.if rfl (fun c0 => ?_) (fun c0 => ?_)
  · have _t0 := True.intro
    refine XK.seq ?_
    refine XK.region rfl ?_
    refine XO.q (Q.assign rfl) ?_
    refine XO.done ?_
    refine XK.rt [] Try.func46 Try.results46 (.t rfl .n) ?_
    exact ⟨by rw [rightG, if_pos c0], rfl⟩
  · have _t0 := True.intro
    refine XK.seq ?_
    refine XK.region rfl ?_
    refine XO.q (Q.fieldAddr rfl) ?_
    refine XO.q (Q.fieldAddr rfl) ?_
    refine XO.q (Q.ld rfl rfl) ?_
    refine XO.len rfl fun l15 => ?_
    refine XO.q (Q.gtr rfl rfl) ?_
    refine XO.q (Q.assign rfl) ?_
    refine XO.done ?_
    refine XK.if rfl (fun c1 => ?_) (fun c1 => ?_)
    · have _t1 := True.intro
      refine XK.seq ?_
      refine XK.region rfl ?_
      refine XO.q (Q.assign rfl) ?_
      refine XO.done ?_
      refine XK.rt [] Try.func46 Try.results46 (.t rfl .n) ?_
      exact ⟨by rw [rightG, if_neg c0, if_pos c1], rfl⟩
    · have _t1 := True.intro
      refine XK.seq ?_
      refine XK.region rfl ?_
      refine XO.q (Q.fieldAddr rfl) ?_
      refine XO.q (Q.fieldAddr rfl) ?_
      refine XO.q (Q.ld rfl rfl) ?_
      refine XO.call Try.call47 rfl rfl rfl (in_spec11 1000 vp hp t.price) fun v21 s21 R21 => ?_
      obtain ⟨rfl, rfl⟩ := R21
      dsimp only [List.cons_append, List.nil_append]
      refine XO.q (Q.not rfl) ?_
      refine XO.q (Q.move rfl) ?_
      refine XO.q (Quiet.guardF rfl rfl fun g24 p24 => Q.fieldAddr rfl) ?_
      refine XO.q (Quiet.guardF rfl rfl fun g25 p25 => Q.fieldAddr (lzv g25 rfl)) ?_
      refine XO.q (Quiet.guardF rfl rfl fun g26 p26 => Q.ld (lzv g26 rfl) rfl) ?_
      refine XO.lit1 [_] [_] [t.base] encI rfl rfl (by rfl) (by rfl) rfl (by rfl) (fun g27 => by exact .c 0 1 (lzv g27 rfl) rfl rfl (.n _)) (fun _ => rfl) (by rfl) rfl (fun _ => by infer_instance) rfl (fun v27 h27 O27 => ?_)
      refine XO.gcallF rfl rfl Try.call47 rfl (fun g28 => .c rfl (.c (lzv g28 rfl) .n)) rfl (fun g28 p28 => by haveI := O27 g28; exact in_spec11 1000000000 v27 h27 [t.base]) ?_
      refine XO.q (Quiet.guardF rfl rfl fun g29 p29 => Q.not (lzv g29 rfl)) ?_
      refine XO.q (Q.or rfl (fun hp => lzv hp rfl)) ?_
      refine XO.q (Q.move rfl) ?_
      refine XO.q (Quiet.guardF rfl rfl fun g32 p32 => Q.fieldAddr rfl) ?_
      refine XO.q (Quiet.guardF rfl rfl fun g33 p33 => Q.fieldAddr (lzv g33 rfl)) ?_
      refine XO.q (Quiet.guardF rfl rfl fun g34 p34 => Q.ld (lzv g34 rfl) rfl) ?_
      refine XO.lit1 [_] [_] [t.credit] encI rfl rfl (by rfl) (by rfl) rfl (by rfl) (fun g35 => by exact .c 0 1 (lzv g35 rfl) rfl rfl (.n _)) (fun _ => rfl) (by rfl) rfl (fun _ => by infer_instance) rfl (fun v35 h35 O35 => ?_)
      refine XO.gcallF rfl rfl Try.call47 rfl (fun g36 => .c rfl (.c (lzv g36 rfl) .n)) rfl (fun g36 p36 => by haveI := O35 g36; exact in_spec11 100 v35 h35 [t.credit]) ?_
      refine XO.q (Quiet.guardF rfl rfl fun g37 p37 => Q.not (lzv g37 rfl)) ?_
      refine XO.q (Q.or rfl (fun hp => lzv hp rfl)) ?_
      refine XO.q (Q.assign rfl) ?_
      refine XO.done ?_
      refine XK.if rfl (fun c2 => ?_) (fun c2 => ?_)
      · have _t2 := True.intro
        refine XK.seq ?_
        refine XK.region rfl ?_
        refine XO.q (Q.assign rfl) ?_
        refine XO.done ?_
        refine XK.rt [] Try.func46 Try.results46 (.t rfl .n) ?_
        exact ⟨by rw [rightG, if_neg c0, if_neg c1, if_pos c2], rfl⟩
      · have _t2 := True.intro
        refine XK.skip ?_
        refine XK.inBlock ?_
        refine XK.seq ?_
        refine XK.seq ?_
        refine XK.region rfl ?_
        refine XO.q (Q.fieldAddr rfl) ?_
        refine XO.q (Q.fieldAddr rfl) ?_
        refine XO.q (Q.ld rfl rfl) ?_
        refine XO.len rfl fun l42 => ?_
        refine XO.q (Q.move rfl) ?_
        refine XO.done ?_
        refine XK.block ?_
        refine XK.while (X := Nat) [2, 3, 4, 43, 44, 45, 46, 47, 48, 49, 50, 51, 52, 53, 54, 55, 56, 57, 58, 59, 60, 61, 62, 63, 64, 65, 66, 67, 68, 69, 70, 71, 72, 73, 74, 75, 76, 77, 78, 79, 80, 81, 82, 83, 84, 85, 86, 87, 88, 89, 90] (fun i => [(43, some (.int .i64 (i : Nat)))]) (fun i => []) (fun i => i ≤ t.tiers.length ∧ tiersOk t i = true) (fun i => t.tiers.length - i) (0) [] rfl ⟨by omega, rfl⟩ (.c rfl (.base 0 rfl rfl)) ?_
        rintro i ⟨hi, hall⟩ ih0
        dsimp only [List.cons_append, List.nil_append] at ih0 ⊢
        refine XK.seq ?_
        refine XK.region rfl ?_
        refine XO.q (Q.lss rfl rfl) ?_
        refine XO.done ?_
        refine XK.seq ?_
        refine XK.if rfl (fun c3 => ?_) (fun c3 => ?_)
        · have _t3 := True.intro
          refine XK.skip ?_
          refine XK.seq ?_
          refine XK.block ?_
          refine XK.seq ?_
          refine XK.region rfl ?_
          refine XO.q (Q.move rfl) ?_
          refine XO.ix rfl rfl (by omega) (by omega) fun i46 => ?_
          refine XO.q (Q.ldEA [_, _] rfl (by first | assumption | omega) rfl rfl) ?_
          refine XO.alloc fun b4 => ?_
          refine XO.q (Q.assign rfl) ?_
          refine XO.st rfl rfl rfl ?_
          refine XO.done ?_
          refine XK.seq ?_
          refine XK.drawn [0, 1, 4, 5, 6, 7, 10, 11, 12, 13, 14, 15, 16, 17, 18, 19, 20, 21, 22, 23, 24, 25, 26, 27, 28, 29, 30, 31, 32, 33, 34, 35, 36, 37, 38, 39, 40, 41] [b4, b1] [] (.q 0 (.q 1 (.br 2 true (.br 3 true (.q 4 (.q 5 (.q 6 (.q 7 (.br 8 true (.br 9 true (.q 10 (.q 11 (.q 12 (.q 13 (.q 14 (.q 15 (.q 16 (.q 17 (.q 18 (.q 19 (.q 20 (.q 21 (.q 22 (.q 23 (.q 24 (.q 25 (.q 26 (.q 27 (.q 28 (.q 29 (.q 30 (.q 31 (.q 32 (.q 33 (.q 34 (.q 35 (.q 36 (.q 37 (.q 38 (.q 39 (.q 40 (.q 41 .done)))))))))))))))))))))))))))))))) .stop) .stop))))) .stop) .stop))) Try.mixed rfl (by kernel_rfl) ?_
          refine XT.q rfl rfl (Q.fieldAddr rfl) ?_
          refine XT.q rfl rfl (Q.ld rfl rfl) ?_
          refine XT.lit [_] [_] [(t.tiers.getD i default).min] encI rfl rfl (by rfl) (by rfl) rfl (by rfl) (by exact .c 0 1 rfl rfl rfl (.n _)) (fun _ => rfl) (by rfl) rfl (by infer_instance) rfl (fun v50 h50 O50 => ⟨inferInstance, ?_⟩) XT.stop
          refine XT.call rfl rfl Try.call47 rfl rfl rfl (in_spec11 50000 v50 h50 [(t.tiers.getD i default).min]) (fun v51 s51 R51 => ?_) XT.stop
          obtain ⟨rfl, rfl⟩ := R51
          dsimp only [List.cons_append, List.nil_append]
          refine ⟨inferInstance, ?_⟩
          refine XT.q rfl rfl (Q.not rfl) ?_
          refine XT.q rfl rfl (Q.move rfl) ?_
          refine XT.q rfl rfl (Quiet.guardF rfl rfl fun g54 p54 => Q.fieldAddr rfl) ?_
          refine XT.q rfl rfl (Quiet.guardF rfl rfl fun g55 p55 => Q.ld (lzv g55 rfl) rfl) ?_
          refine XT.lit1 [_] [_] [(t.tiers.getD i default).pct] encI rfl rfl rfl rfl (by rfl) (by rfl) rfl (by rfl) (fun g56 => by exact .c 0 1 (lzv g56 rfl) rfl rfl (.n _)) (fun _ => rfl) (by rfl) rfl (fun _ => by infer_instance) rfl (fun v56 h56 O56 => ⟨inferInstance, ?_⟩) XT.stop
          refine XT.gcallF rfl rfl rfl rfl Try.call47 rfl (fun g57 => .c rfl (.c (lzv g57 rfl) .n)) rfl (fun g57 p57 => by haveI := O56 g57; exact in_spec11 100 v56 h56 [(t.tiers.getD i default).pct]) ⟨inferInstance, ?_⟩ XT.stop
          refine XT.q rfl rfl (Quiet.guardF rfl rfl fun g58 p58 => Q.not (lzv g58 rfl)) ?_
          refine XT.q rfl rfl (Q.or rfl (fun hp => lzv hp rfl)) ?_
          refine XT.q rfl rfl (Q.move rfl) ?_
          refine XT.q rfl rfl (Quiet.guardF rfl rfl fun g61 p61 => Q.move rfl) ?_
          refine XT.q rfl rfl (Quiet.guardF rfl rfl fun g62 p62 => Q.gtr (lzv g62 rfl) rfl) ?_
          refine XT.q rfl rfl (Quiet.guardF rfl rfl fun g63 p63 => Q.move (lzv g63 rfl)) ?_
          refine XT.q rfl rfl (Quiet.guard2 rfl rfl fun g64a g64b => have p64a := bpF g64a; have p64b := bpT g64b; Q.fieldAddr rfl) ?_
          refine XT.q rfl rfl (Quiet.guard2 rfl rfl fun g65a g65b => have p65a := bpF g65a; have p65b := bpT g65b; Q.ld (lzv g65b (lzv g65a rfl)) rfl) ?_
          refine XT.q rfl rfl (Quiet.guard2 rfl rfl fun g66a g66b => have p66a := bpF g66a; have p66b := bpT g66b; Q.fieldAddr rfl) ?_
          refine XT.q rfl rfl (Quiet.guard2 rfl rfl fun g67a g67b => have p67a := bpF g67a; have p67b := bpT g67b; Q.fieldAddr (lzv g67b (lzv g67a rfl))) ?_
          refine XT.q rfl rfl (Quiet.guard2 rfl rfl fun g68a g68b => have p68a := bpF g68a; have p68b := bpT g68b; Q.ld (lzv g68b (lzv g68a rfl)) rfl) ?_
          refine XT.q rfl rfl (Quiet.guard2 rfl rfl fun g69a g69b => have p69a := bpF g69a; have p69b := bpT g69b; Q.move rfl) ?_
          refine XT.q rfl rfl (Quiet.guard2 rfl rfl fun g70a g70b => have p70a := bpF g70a; have p70b := bpT g70b; Q.sub (lzv g70b (lzv g70a rfl)) rfl ⟨by omega, by omega⟩) ?_
          refine XT.q rfl rfl (Quiet.guard2 rfl rfl fun g71a g71b => have p71a := bpF g71a; have p71b := bpT g71b; Q.ix (lzv g71b (lzv g71a rfl)) (lzv g71b (lzv g71a rfl)) (by omega) (by omega)) ?_
          refine XT.q rfl rfl (Quiet.guard2 rfl rfl fun g72a g72b => have p72a := bpF g72a; have p72b := bpT g72b; Q.fieldQ (lzv g72b (lzv g72a rfl)) (by first | assumption | omega)) ?_
          refine XT.q rfl rfl (Quiet.guard2 rfl rfl fun g73a g73b => have p73a := bpF g73a; have p73b := bpT g73b; Q.ldE (lzv g73b (lzv g73a rfl)) (by first | assumption | omega) rfl) ?_
          refine XT.q rfl rfl (Quiet.guard2 rfl rfl fun g74a g74b => have p74a := bpF g74a; have p74b := bpT g74b; Q.leq (lzv g74b (lzv g74a rfl)) (lzv g74b (lzv g74a rfl))) ?_
          refine XT.q rfl rfl (Quiet.guard2 rfl rfl fun g75a g75b => have p75a := bpF g75a; have p75b := bpT g75b; Q.move (lzv g75b (lzv g75a rfl))) ?_
          refine XT.q rfl rfl (Quiet.guard3 rfl rfl fun g76a g76b g76c => have p76a := bpF g76a; have p76b := bpT g76b; have p76c := bpF g76c; Q.fieldAddr rfl) ?_
          refine XT.q rfl rfl (Quiet.guard3 rfl rfl fun g77a g77b g77c => have p77a := bpF g77a; have p77b := bpT g77b; have p77c := bpF g77c; Q.ld (lzv g77c (lzv g77b (lzv g77a rfl))) rfl) ?_
          refine XT.q rfl rfl (Quiet.guard3 rfl rfl fun g78a g78b g78c => have p78a := bpF g78a; have p78b := bpT g78b; have p78c := bpF g78c; Q.fieldAddr rfl) ?_
          refine XT.q rfl rfl (Quiet.guard3 rfl rfl fun g79a g79b g79c => have p79a := bpF g79a; have p79b := bpT g79b; have p79c := bpF g79c; Q.fieldAddr (lzv g79c (lzv g79b (lzv g79a rfl)))) ?_
          refine XT.q rfl rfl (Quiet.guard3 rfl rfl fun g80a g80b g80c => have p80a := bpF g80a; have p80b := bpT g80b; have p80c := bpF g80c; Q.ld (lzv g80c (lzv g80b (lzv g80a rfl))) rfl) ?_
          refine XT.q rfl rfl (Quiet.guard3 rfl rfl fun g81a g81b g81c => have p81a := bpF g81a; have p81b := bpT g81b; have p81c := bpF g81c; Q.move rfl) ?_
          refine XT.q rfl rfl (Quiet.guard3 rfl rfl fun g82a g82b g82c => have p82a := bpF g82a; have p82b := bpT g82b; have p82c := bpF g82c; Q.sub (lzv g82c (lzv g82b (lzv g82a rfl))) rfl ⟨by omega, by omega⟩) ?_
          refine XT.q rfl rfl (Quiet.guard3 rfl rfl fun g83a g83b g83c => have p83a := bpF g83a; have p83b := bpT g83b; have p83c := bpF g83c; Q.ix (lzv g83c (lzv g83b (lzv g83a rfl))) (lzv g83c (lzv g83b (lzv g83a rfl))) (by omega) (by omega)) ?_
          refine XT.q rfl rfl (Quiet.guard3 rfl rfl fun g84a g84b g84c => have p84a := bpF g84a; have p84b := bpT g84b; have p84c := bpF g84c; Q.fieldQ (lzv g84c (lzv g84b (lzv g84a rfl))) (by first | assumption | omega)) ?_
          refine XT.q rfl rfl (Quiet.guard3 rfl rfl fun g85a g85b g85c => have p85a := bpF g85a; have p85b := bpT g85b; have p85c := bpF g85c; Q.ldE (lzv g85c (lzv g85b (lzv g85a rfl))) (by first | assumption | omega) rfl) ?_
          refine XT.q rfl rfl (Quiet.guard3 rfl rfl fun g86a g86b g86c => have p86a := bpF g86a; have p86b := bpT g86b; have p86c := bpF g86c; Q.lss (lzv g86c (lzv g86b (lzv g86a rfl))) (lzv g86c (lzv g86b (lzv g86a rfl)))) ?_
          refine XT.q rfl rfl (Quiet.guard2 rfl rfl fun g87a g87b => have p87a := bpF g87a; have p87b := bpT g87b; Q.or (lzv g87b (lzv g87a rfl)) (fun hp => (lzv hp (lzv g87b (lzv g87a rfl))))) ?_
          refine XT.q rfl rfl (Quiet.guardF rfl rfl fun g88 p88 => Q.and (lzv g88 rfl) (fun hp => (lzv hp (lzv g88 rfl)))) ?_
          refine XT.q rfl rfl (Q.or rfl (fun hp => lzv hp rfl)) ?_
          refine XT.done ?_
          refine XK.if rfl (fun c4 => ?_) (fun c4 => ?_)
          · have _t4 := True.intro
            refine XK.seq ?_
            refine XK.region rfl ?_
            refine XO.q (Q.assign rfl) ?_
            refine XO.done ?_
            refine XK.rt [] Try.func46 Try.results46 (.t rfl .n) ?_
            exact ⟨by rw [rightG, if_neg c0, if_neg c1, if_neg c2, if_neg (by rw [tiersOk, allTo_false (s := i) (by omega) (by rw [Bool.not_eq_false', decide_eq_true_eq]; exact c4)]; decide)], rfl⟩
          · have _t4 := True.intro
            refine XK.skip ?_
            refine XK.inBlock ?_
            refine XK.region rfl ?_
            refine XO.q (Q.add rfl rfl ⟨by omega, by omega⟩) ?_
            refine XO.q (Q.move rfl) ?_
            refine XO.done ?_
            exact ih0 (i + 1) _ _ ⟨by omega, by rw [tiersOk, allTo_succ]; rw [tiersOk] at hall; rw [hall, Bool.true_and, Bool.not_eq_true', decide_eq_false_iff_not]; exact c4⟩ (by first | omega | (dsimp only; omega)) (.c rfl (.base 102 rfl rfl)) inferInstance
        · have _t3 := True.intro
          refine XK.exit rfl ?_
          refine XK.seq ?_
          refine XK.region rfl ?_
          refine XO.q (Q.assign rfl) ?_
          refine XO.done ?_
          refine XK.rt [] Try.func46 Try.results46 (.t rfl .n) ?_
          have hin : i = t.tiers.length := by omega
          rw [hin] at hall
          exact ⟨by rw [rightG, if_neg c0, if_neg c1, if_neg c2, if_pos hall], rfl⟩
theorem percent_spec (t : MTariff) (vp vt : Value) (hp ht : PHeap) [jp : Arr vp encI 1 hp t.price] [jt : Arr vt encTier 2 ht t.tiers] (out : Int) : Spec Try.prog 48 #[.agg #[vp, .int .i64 t.base, vt, .int .i64 t.credit], .int .i64 out] [] [hp, ht] (fun v hs => v = .int .i64 (percentL t out) ∧ hs = []) := by
  have lt := jt.le
  refine Spec.intro (fn := Try.f48) (N := 28) Try.func48 rfl Try.ntmps48 rfl fun B => ?_
  refine XK.seq ?_
  refine XK.region rfl ?_
  refine XO.box rfl fun b2 => ?_
  refine XO.q (Q.assign rfl) ?_
  refine XO.done ?_
  refine XK.seq ?_
  refine XK.region rfl ?_
  refine XO.q (Q.assign rfl) ?_
  refine XO.done ?_
  refine XK.seq ?_
  refine XK.seq ?_
  refine XK.region rfl ?_
  refine XO.q (Q.fieldAddr rfl) ?_
  refine XO.q (Q.fieldAddr rfl) ?_
  refine XO.q (Q.ld rfl rfl) ?_
  refine XO.len rfl fun l11 => ?_
  refine XO.q (Q.move rfl) ?_
  refine XO.done ?_
  refine XK.block ?_
  refine XK.while (X := Nat) [5, 7, 12, 13, 14, 15, 16, 17, 18, 19, 20, 21, 22] (fun i => [(12, some (.int .i64 (i : Nat))), (5, some (.int .i64 (pctTo t out i)))]) (fun i => []) (fun i => i ≤ t.tiers.length) (fun i => t.tiers.length - i) (0) [] rfl (by omega) (.c rfl (.c rfl (.base 0 rfl rfl))) ?_
  rintro i hi ih0
  dsimp only [List.cons_append, List.nil_append] at ih0 ⊢
  refine XK.seq ?_
  refine XK.region rfl ?_
  refine XO.q (Q.lss rfl rfl) ?_
  refine XO.done ?_
  refine XK.seq ?_
  refine XK.if rfl (fun c0 => ?_) (fun c0 => ?_)
  · have _t0 := True.intro
    refine XK.skip ?_
    refine XK.seq ?_
    refine XK.block ?_
    refine XK.seq ?_
    refine XK.region rfl ?_
    refine XO.ix rfl rfl (by omega) (by omega) fun i14 => ?_
    refine XO.q (Q.ldEA [_, _] rfl (by first | assumption | omega) rfl rfl) ?_
    refine XO.alloc fun b7 => ?_
    refine XO.st rfl rfl rfl ?_
    refine XO.done ?_
    refine XK.seq ?_
    refine XK.region rfl ?_
    refine XO.q (Q.fieldAddr rfl) ?_
    refine XO.q (Q.ld rfl rfl) ?_
    refine XO.q (Q.move rfl) ?_
    refine XO.q (Q.leq rfl rfl) ?_
    refine XO.done ?_
    refine XK.if rfl (fun c1 => ?_) (fun c1 => ?_)
    · have _t1 := True.intro
      refine XK.region rfl ?_
      refine XO.q (Q.fieldAddr rfl) ?_
      refine XO.q (Q.ld rfl rfl) ?_
      refine XO.q (Q.assign rfl) ?_
      refine XO.done ?_
      refine XK.inBlock ?_
      refine XK.region rfl ?_
      refine XO.q (Q.add rfl rfl ⟨by omega, by omega⟩) ?_
      refine XO.q (Q.move rfl) ?_
      refine XO.done ?_
      rw [show (t.tiers.getD i default).pct = pctTo t out (i + 1) by rw [pctTo, if_pos c1]]
      exact ih0 (i + 1) _ _ (by omega) (by first | omega | (dsimp only; omega)) (.c rfl (.c rfl (.base 28 rfl rfl))) inferInstance
    · have _t1 := True.intro
      refine XK.skip ?_
      refine XK.inBlock ?_
      refine XK.region rfl ?_
      refine XO.q (Q.add rfl rfl ⟨by omega, by omega⟩) ?_
      refine XO.q (Q.move rfl) ?_
      refine XO.done ?_
      rw [show pctTo t out i = pctTo t out (i + 1) by rw [pctTo, if_neg c1]]
      exact ih0 (i + 1) _ _ (by omega) (by first | omega | (dsimp only; omega)) (.c rfl (.c rfl (.base 25 rfl rfl))) inferInstance
  · have _t0 := True.intro
    refine XK.exit rfl ?_
    refine XK.seq ?_
    refine XK.region rfl ?_
    refine XO.q (Q.move rfl) ?_
    refine XO.q (Q.fieldAddr rfl) ?_
    refine XO.q (Q.fieldAddr rfl) ?_
    refine XO.q (Q.ld rfl rfl) ?_
    refine XO.q (Q.min rfl rfl) ?_
    refine XO.q (Q.assign rfl) ?_
    refine XO.done ?_
    refine XK.rt [] Try.func48 Try.results48 (.t rfl .n) ?_
    have hin : i = t.tiers.length := by omega
    rw [hin]
    exact ⟨rfl, rfl⟩
theorem Make_spec (t : MTariff) (vp vt : Value) (hp ht : PHeap) [jp : Arr vp encI 1 hp t.price] [jt : Arr vt encTier 2 ht t.tiers] (u : MUse) (vu : Value) (hu : PHeap) [ju : Arr vu encI 1 hu u.values] : Spec Try.prog 11 #[.agg #[vp, .int .i64 t.base, vt, .int .i64 t.credit], .agg #[vu, .int .i64 u.out]] [] [hp, ht, hu] (fun v hs => v = .tuple #[.agg #[.int .i64 (makeG t u).1.energy, .int .i64 (makeG t u).1.amount, .int .i64 (makeG t u).1.credit, .int .i64 (makeG t u).1.due], .int .i64 (makeG t u).2] ∧ hs = []) := by
  have lu := ju.le
  refine Spec.intro (fn := Try.f11) (N := 86) Try.func11 rfl Try.ntmps11 rfl fun B => ?_
  refine XK.seq ?_
  refine XK.region rfl ?_
  refine XO.box rfl fun b2 => ?_
  refine XO.box rfl fun b3 => ?_
  refine XO.alloc fun b4 => ?_
  refine XO.q (Q.assign rfl) ?_
  refine XO.done ?_
  refine XK.seq ?_
  refine XK.region rfl ?_
  refine XO.q (Q.ldA [_, _, _, _] rfl rfl rfl) ?_
  refine XO.q (Q.build [_, _, _, _] (.c 0 4 rfl rfl rfl (.n _))) ?_
  refine XO.alloc fun b6 => ?_
  refine XO.st rfl rfl rfl ?_
  refine XO.done ?_
  refine XK.seq ?_
  refine XK.seq ?_
  refine XK.region rfl ?_
  refine XO.q (Q.ldA [_, _, _, _] rfl rfl rfl) ?_
  refine XO.call Try.call46 rfl rfl rfl (right_spec t vp vt hp ht) fun v14 s14 R14 => ?_
  obtain ⟨rfl, rfl⟩ := R14
  dsimp only [List.cons_append, List.nil_append]
  refine XO.q (Q.assign rfl) ?_
  refine XO.done ?_
  refine XK.seq ?_
  refine XK.region rfl ?_
  refine XO.q (Q.move rfl) ?_
  refine XO.q (Q.neq rfl rfl) ?_
  refine XO.done ?_
  refine XK.if rfl (fun c0 => ?_) (fun c0 => ?_)
  · have _t0 := True.intro
    refine XK.seq ?_
    refine XK.region rfl ?_
    refine XO.q (Q.build [_, _, _, _] (.n _)) ?_
    refine XO.q (Q.move rfl) ?_
    refine XO.st rfl rfl rfl ?_
    refine XO.q (Q.assign rfl) ?_
    refine XO.done ?_
    refine XK.rt [] Try.func11 Try.results11 (.cell [_, _, _, _] rfl rfl rfl (.t rfl .n)) ?_
    have hw0 : makeG t u = (default, rightG t) := by rw [makeG, if_pos c0]
    rw [hw0]
    exact ⟨rfl, rfl⟩
  · have _t0 := True.intro
    have k := right_ok (Decidable.of_not_not c0)
    have pl := k.len
    have bs := k.base
    refine XK.skip ?_
    refine XK.seq ?_
    refine XK.block ?_
    refine XK.seq ?_
    refine XK.region rfl ?_
    refine XO.q (Q.fieldAddr rfl) ?_
    refine XO.q (Q.ld rfl rfl) ?_
    refine XO.len rfl fun l22 => ?_
    refine XO.q (Q.gtr rfl rfl) ?_
    refine XO.q (Q.assign rfl) ?_
    refine XO.done ?_
    refine XK.if rfl (fun c1 => ?_) (fun c1 => ?_)
    · have _t1 := True.intro
      refine XK.seq ?_
      refine XK.region rfl ?_
      refine XO.q (Q.build [_, _, _, _] (.n _)) ?_
      refine XO.st rfl rfl rfl ?_
      refine XO.q (Q.assign rfl) ?_
      refine XO.done ?_
      refine XK.rt [] Try.func11 Try.results11 (.cell [_, _, _, _] rfl rfl rfl (.t rfl .n)) ?_
      have hw0 : makeG t u = (default, 2) := by rw [makeG, if_neg c0, if_pos c1]
      rw [hw0]
      exact ⟨rfl, rfl⟩
    · have _t1 := True.intro
      refine XK.seq ?_
      refine XK.region rfl ?_
      refine XO.q (Q.fieldAddr rfl) ?_
      refine XO.q (Q.ld rfl rfl) ?_
      refine XO.call Try.call47 rfl rfl rfl (in_spec11 100000 vu hu u.values) fun v28 s28 R28 => ?_
      obtain ⟨rfl, rfl⟩ := R28
      dsimp only [List.cons_append, List.nil_append]
      refine XO.q (Q.not rfl) ?_
      refine XO.q (Q.move rfl) ?_
      refine XO.q (Quiet.guardF rfl rfl fun g31 p31 => Q.fieldAddr rfl) ?_
      refine XO.q (Quiet.guardF rfl rfl fun g32 p32 => Q.ld (lzv g32 rfl) rfl) ?_
      refine XO.lit1 [_] [_] [u.out] encI rfl rfl (by rfl) (by rfl) rfl (by rfl) (fun g33 => by exact .c 0 1 (lzv g33 rfl) rfl rfl (.n _)) (fun _ => rfl) (by rfl) rfl (fun _ => by infer_instance) rfl (fun v33 h33 O33 => ?_)
      refine XO.gcallF rfl rfl Try.call47 rfl (fun g34 => .c rfl (.c (lzv g34 rfl) .n)) rfl (fun g34 p34 => by haveI := O33 g34; exact in_spec11 50000 v33 h33 [u.out]) ?_
      refine XO.q (Quiet.guardF rfl rfl fun g35 p35 => Q.not (lzv g35 rfl)) ?_
      refine XO.q (Q.or rfl (fun hp => lzv hp rfl)) ?_
      refine XO.q (Q.assign rfl) ?_
      refine XO.done ?_
      refine XK.if rfl (fun c2 => ?_) (fun c2 => ?_)
      · have _t2 := True.intro
        refine XK.seq ?_
        refine XK.region rfl ?_
        refine XO.q (Q.build [_, _, _, _] (.n _)) ?_
        refine XO.st rfl rfl rfl ?_
        refine XO.q (Q.assign rfl) ?_
        refine XO.done ?_
        refine XK.rt [] Try.func11 Try.results11 (.cell [_, _, _, _] rfl rfl rfl (.t rfl .n)) ?_
        have hw0 : makeG t u = (default, 6) := by rw [makeG, if_neg c0, if_neg c1, if_pos c2]
        rw [hw0]
        exact ⟨rfl, rfl⟩
      · have _t2 := True.intro
        have q := make_use (t := t) c1 c2
        refine XK.skip ?_
        refine XK.inBlock ?_
        refine XK.seq ?_
        refine XK.region rfl ?_
        refine XO.q (Q.fieldAddr rfl) ?_
        refine XO.q (Q.fieldAddr rfl) ?_
        refine XO.q (Q.ld rfl rfl) ?_
        refine XO.q (Q.build [_, _, _, _] (.c 1 1 rfl rfl rfl (.n _))) ?_
        refine XO.alloc fun b8 => ?_
        refine XO.st rfl rfl rfl ?_
        refine XO.done ?_
        refine XK.seq ?_
        refine XK.seq ?_
        refine XK.region rfl ?_
        refine XO.q (Q.fieldAddr rfl) ?_
        refine XO.q (Q.ld rfl rfl) ?_
        refine XO.len rfl fun l44 => ?_
        refine XO.q (Q.move rfl) ?_
        refine XO.done ?_
        refine XK.block ?_
        refine XK.while (X := Nat) [9, 10, 45, 46, 47, 48, 49, 50, 51, 52, 53, 54, 55, 56, 57, 58, 59, 60, 61, 62, 63, 64, 65, 66, 67, 68] (fun i => [(45, some (.int .i64 (i : Nat)))]) (fun i => [blk b8 [.int .i64 (energyTo u.values i), .int .i64 (amtTo t u.values i), .int .i64 0, .int .i64 0] 37]) (fun i => i ≤ u.values.length) (fun i => u.values.length - i) (0) [blk b8 [.int .i64 0, .int .i64 t.base, .int .i64 0, .int .i64 0] 37] rfl (by omega) (.c rfl (.base 0 rfl rfl)) ?_
        rintro i hi ih0
        dsimp only [List.cons_append, List.nil_append] at ih0 ⊢
        refine XK.seq ?_
        refine XK.region rfl ?_
        refine XO.q (Q.lss rfl rfl) ?_
        refine XO.done ?_
        refine XK.seq ?_
        refine XK.if rfl (fun c3 => ?_) (fun c3 => ?_)
        · have _t3 := True.intro
          have cr := cost_rng k q.vals (n := i) (by omega)
          have ae := amtTo_eq t u.values i
          have er := energy_rng q.vals (n := i) (by omega)
          have co := cost_one k q.vals (i := i) (by omega)
          have va := vals_at q.vals (i := i) (by omega)
          have pa := price_at k i
          change 0 ≤ u.values.getD i default ∧ u.values.getD i default ≤ _ at va
          change 0 ≤ t.price.getD (i % 24) default ∧ t.price.getD (i % 24) default ≤ _ at pa
          change 0 ≤ u.values.getD i default * t.price.getD (i % 24) default ∧ u.values.getD i default * t.price.getD (i % 24) default ≤ _ at co
          refine XK.skip ?_
          refine XK.seq ?_
          refine XK.block ?_
          refine XK.seq ?_
          refine XK.region rfl ?_
          refine XO.q (Q.move rfl) ?_
          refine XO.ix rfl rfl (by omega) (by omega) fun i48 => ?_
          refine XO.q (Q.ldE rfl (by first | assumption | omega) rfl) ?_
          refine XO.q (Q.assign rfl) ?_
          refine XO.q (Q.assign rfl) ?_
          refine XO.done ?_
          refine XK.seq ?_
          refine XK.region rfl ?_
          refine XO.q (Q.fieldAddr rfl) ?_
          refine XO.q (Q.ld rfl rfl) ?_
          refine XO.q (Q.move rfl) ?_
          refine XO.q (Q.add rfl rfl ⟨by omega, by omega⟩) ?_
          rw [show (energyTo u.values i) + u.values.getD i default = energyTo u.values (i + 1) from rfl]
          refine XO.q (Q.fieldAddr rfl) ?_
          refine XO.st rfl rfl rfl ?_
          refine XO.done ?_
          refine XK.drawn [0, 1, 2, 3, 4, 5, 6, 7, 8, 9, 10, 11, 12] [b8, b6] [] (.q 0 (.q 1 (.q 2 (.q 3 (.q 4 (.q 5 (.q 6 (.q 7 (.q 8 (.q 9 (.q 10 (.q 11 (.q 12 (.br 13 false .done .stop)))))))))))))) Try.mixed rfl (by kernel_rfl) ?_
          refine XT.q rfl rfl (Q.fieldAddr rfl) ?_
          refine XT.q rfl rfl (Q.ld rfl rfl) ?_
          refine XT.q rfl rfl (Q.move rfl) ?_
          refine XT.q rfl rfl (Q.fieldAddr rfl) ?_
          refine XT.q rfl rfl (Q.fieldAddr rfl) ?_
          refine XT.q rfl rfl (Q.ld rfl rfl) ?_
          refine XT.q rfl rfl (Q.move rfl) ?_
          refine XT.q rfl rfl (Q.rem rfl rfl (by omega) (by omega)) ?_
          rw [show ((i : Int) % 24) = ((i % 24 : Nat) : Int) from rfl]
          refine XT.ix rfl rfl rfl rfl (by omega) (by omega) fun i63 => ?_
          refine XT.q rfl rfl (Q.ldE rfl (by first | assumption | omega) rfl) ?_
          refine XT.q rfl rfl (Q.mul rfl rfl ⟨by omega, by omega⟩) ?_
          refine XT.q rfl rfl (Q.add rfl rfl ⟨by omega, by omega⟩) ?_
          rw [show (amtTo t u.values i) + u.values.getD i default * t.price.getD (i % 24) default = amtTo t u.values (i + 1) from rfl]
          refine XT.q rfl rfl (Q.fieldAddr rfl) ?_
          refine XT.st rfl rfl rfl rfl rfl ⟨inferInstance, ?_⟩ XT.stop
          refine XT.done ?_
          refine XK.inBlock ?_
          refine XK.region rfl ?_
          refine XO.q (Q.add rfl rfl ⟨by omega, by omega⟩) ?_
          refine XO.q (Q.move rfl) ?_
          refine XO.done ?_
          exact ih0 (i + 1) _ _ (by omega) (by first | omega | (dsimp only; omega)) (.c rfl (.base 53 rfl rfl)) inferInstance
        · have _t3 := True.intro
          have hin : i = u.values.length := by omega
          rw [hin]
          rw [show amtTo t u.values u.values.length = amountL t u from amtTo_eq ..]
          have ar := amount_rng k q
          have crr := credit_rng k q
          clear ih0
          refine XK.exit rfl ?_
          refine XK.seq ?_
          refine XK.drawn [0, 1, 2, 3, 4, 6, 7, 8, 9] [b8, b6, b3] [] (.q 0 (.q 1 (.q 2 (.q 3 (.q 4 (.br 5 true (.q 6 (.q 7 (.q 8 (.q 9 (.br 10 false .done .stop))))) .stop)))))) Try.mixed rfl (by kernel_rfl) ?_
          refine XT.q rfl rfl (Q.fieldAddr rfl) ?_
          refine XT.q rfl rfl (Q.ld rfl rfl) ?_
          refine XT.q rfl rfl (Q.ldA [_, _, _, _] rfl rfl rfl) ?_
          refine XT.q rfl rfl (Q.fieldAddr rfl) ?_
          refine XT.q rfl rfl (Q.ld rfl rfl) ?_
          refine XT.call rfl rfl Try.call48 rfl rfl rfl (percent_spec t vp vt hp ht u.out) (fun v74 s74 R74 => ?_) XT.stop
          obtain ⟨rfl, rfl⟩ := R74
          dsimp only [List.cons_append, List.nil_append]
          refine ⟨inferInstance, ?_⟩
          refine XT.q rfl rfl (Q.mul rfl rfl ⟨by omega, by omega⟩) ?_
          refine XT.q rfl rfl (Q.add rfl rfl ⟨by omega, by omega⟩) ?_
          refine XT.q rfl rfl (Q.quo rfl rfl (by omega) (by omega) (by omega)) ?_
          rw [show (amountL t u * percentL t u.out + 50) / 100 = creditL t u from rfl]
          refine XT.q rfl rfl (Q.fieldAddr rfl) ?_
          refine XT.st rfl rfl rfl rfl rfl ⟨inferInstance, ?_⟩ XT.stop
          refine XT.done ?_
          refine XK.seq ?_
          refine XK.region rfl ?_
          refine XO.q (Q.fieldAddr rfl) ?_
          refine XO.q (Q.ld rfl rfl) ?_
          refine XO.q (Q.fieldAddr rfl) ?_
          refine XO.q (Q.ld rfl rfl) ?_
          refine XO.q (Q.sub rfl rfl ⟨by omega, by omega⟩) ?_
          refine XO.q (Q.fieldAddr rfl) ?_
          refine XO.st rfl rfl rfl ?_
          refine XO.done ?_
          refine XK.seq ?_
          refine XK.region rfl ?_
          refine XO.q (Q.ldA [_, _, _, _] rfl rfl rfl) ?_
          refine XO.st rfl rfl rfl ?_
          refine XO.q (Q.assign rfl) ?_
          refine XO.done ?_
          refine XK.rt [] Try.func11 Try.results11 (.cell [_, _, _, _] rfl rfl rfl (.t rfl .n)) ?_
          have hw0 : makeG t u = (billL t u, 0) := by rw [makeG, if_neg c0, if_neg c1, if_neg c2]
          rw [hw0]
          exact ⟨rfl, rfl⟩
theorem clip_spec (v : Value) (h : PHeap) (xs : List MBill) [s : Arr v encBill 4 h xs] : Spec Try.prog 49 #[v] [] [h] (fun v' hs => v' = clipv v 4 ∧ hs = []) := by
  refine Spec.intro (fn := Try.f49) (N := 9) Try.func49 rfl Try.ntmps49 rfl fun B => ?_
  refine XK.seq ?_
  refine XK.region rfl ?_
  refine XO.q (Q.assign rfl) ?_
  refine XO.done ?_
  refine XK.seq ?_
  refine XK.region rfl ?_
  refine XO.q (Q.move rfl) ?_
  refine XO.q (Q.move rfl) ?_
  refine XO.len rfl fun l5 => ?_
  refine XO.q (Q.move rfl) ?_
  refine XO.len rfl fun l7 => ?_
  refine XO.q (Q.clip rfl rfl rfl) ?_
  refine XO.q (Q.assign rfl) ?_
  refine XO.done ?_
  refine XK.rt [] Try.func49 Try.results49 (.t rfl .n) ?_
  exact ⟨rfl, rfl⟩
theorem map_snd_at {l : List (Value × MUse)} (i : Nat) : (l.map Prod.snd).getD i default = (l.getD i default).2 := by
  rw [List.getD_eq_getElem?_getD, List.getElem?_map, List.getD_eq_getElem?_getD]
  cases l[i]? <;> rfl
theorem bills_snoc (t : MTariff) (l : List MUse) (n : Nat) : (List.range (n + 1)).map (billAt t l) = (List.range n).map (billAt t l) ++ [billAt t l n] := by
  rw [List.range_succ, List.map_append]; rfl
theorem Total_spec (t : MTariff) (vp vt : Value) (hp ht : PHeap) [jp : Arr vp encI 1 hp t.price] [jt : Arr vt encTier 2 ht t.tiers] (l : List (Value × MUse)) (vl : Value) (hl hL : PHeap) [jl : Arr vl encUse 2 hl l] (aL : ∀ i, i < l.length → Arr (l.getD i default).1 encI 1 hL (l.getD i default).2.values) :
    Spec Try.prog 12 #[.agg #[vp, .int .i64 t.base, vt, .int .i64 t.credit], vl] [] [hp, ht, hl, hL] (fun v hs => ∃ v1 k1, v = .tuple #[v1, .agg #[.int .i64 (totalG t (l.map Prod.snd)).2.1.energy, .int .i64 (totalG t (l.map Prod.snd)).2.1.amount, .int .i64 (totalG t (l.map Prod.snd)).2.1.credit, .int .i64 (totalG t (l.map Prod.snd)).2.1.due], .int .i64 (totalG t (l.map Prod.snd)).2.2] ∧ hs = [k1] ∧ Arr v1 encBill 4 k1 (totalG t (l.map Prod.snd)).1) := by
  have hnil : OArr (.slice none 0 0) encBill 4 37 emp ([] : List MBill) := OArr.nil (fun _ => rfl)
  have ll := jl.le
  have hml : (l.map Prod.snd).length = l.length := List.length_map ..
  refine Spec.intro (fn := Try.f12) (N := 62) Try.func12 rfl Try.ntmps12 rfl fun B => ?_
  refine XK.seq ?_
  refine XK.region rfl ?_
  refine XO.box rfl fun b2 => ?_
  refine XO.q (Q.assign rfl) ?_
  refine XO.alloc fun b5 => ?_
  refine XO.q (Q.assign rfl) ?_
  refine XO.done ?_
  refine XK.seq ?_
  refine XK.seq ?_
  refine XK.region rfl ?_
  refine XO.q (Q.move rfl) ?_
  refine XO.len rfl fun l14 => ?_
  refine XO.q (Q.gtr rfl rfl) ?_
  refine XO.done ?_
  refine XK.if rfl (fun c0 => ?_) (fun c0 => ?_)
  · have _t0 := True.intro
    refine XK.seq ?_
    refine XK.region rfl ?_
    refine XO.q (Q.build [_, _, _, _] (.n _)) ?_
    refine XO.q (Q.assign rfl) ?_
    refine XO.st rfl rfl rfl ?_
    refine XO.q (Q.assign rfl) ?_
    refine XO.done ?_
    refine XK.rt [emp] Try.func12 Try.results12 (.t rfl (.cell [_, _, _, _] rfl rfl rfl (.t rfl .n))) ?_
    have hw0 : totalG t (l.map Prod.snd) = ([], default, 2) := by rw [totalG, if_pos (by omega)]
    rw [hw0]
    exact ⟨.slice none 0 0, emp, rfl, rfl, Arr.nil (fun _ => rfl)⟩
  · have _t0 := True.intro
    refine XK.skip ?_
    refine XK.seq ?_
    refine XK.region rfl ?_
    refine XO.q (Q.assign rfl) ?_
    refine XO.done ?_
    refine XK.seq ?_
    refine XK.region rfl ?_
    refine XO.alloc fun b8 => ?_
    refine XO.done ?_
    refine XK.seq ?_
    refine XK.seq ?_
    refine XK.region rfl ?_
    refine XO.q (Q.move rfl) ?_
    refine XO.len rfl fun l18 => ?_
    refine XO.q (Q.move rfl) ?_
    refine XO.done ?_
    refine XK.block ?_
    refine XK.while (X := Nat × Value × PHeap) [4, 6, 7, 10, 11, 12, 19, 20, 21, 22, 23, 24, 25, 26, 27, 28, 29, 30, 31, 32, 33, 34, 35, 36, 37, 38, 39, 40, 41, 42, 43, 44, 45, 46, 47, 48, 49, 50, 51, 52, 53, 54, 55, 56, 57, 58] (fun ⟨i, vo, ko⟩ => [(19, some (.int .i64 (i : Nat))), (7, some (vo))]) (fun ⟨i, vo, ko⟩ => [ko, blk b8 [.int .i64 (sumBill t (l.map Prod.snd) i).energy, .int .i64 (sumBill t (l.map Prod.snd) i).amount, .int .i64 (sumBill t (l.map Prod.snd) i).credit, .int .i64 (sumBill t (l.map Prod.snd) i).due] 37]) (fun ⟨i, vo, ko⟩ => i ≤ l.length ∧ OArr vo encBill 4 37 ko ((List.range i).map (billAt t (l.map Prod.snd))) ∧ errTo t (l.map Prod.snd) i = 0) (fun ⟨i, vo, ko⟩ => l.length - i) (0, .slice none 0 0, emp) [emp, blk b8 [.int .i64 0, .int .i64 0, .int .i64 0, .int .i64 0] 37] rfl ⟨by omega, hnil, rfl⟩ (.c rfl (.c rfl (.base 0 rfl rfl))) ?_
    rintro ⟨i, vo, ko⟩ ⟨hi, OO, he⟩ ih0
    dsimp only [List.cons_append, List.nil_append] at ih0 ⊢
    refine XK.seq ?_
    refine XK.region rfl ?_
    refine XO.q (Q.lss rfl rfl) ?_
    refine XO.done ?_
    refine XK.seq ?_
    refine XK.if rfl (fun c1 => ?_) (fun c1 => ?_)
    · have _t1 := True.intro
      have ai := aL i (by omega)
      have br := make_rng t (l.getD i default).2
      have b1 := br.e
      have b2 := br.a
      have b3 := br.c
      have b4 := br.d
      obtain ⟨s1, s2, s3, s4⟩ := sumBill_rng t (l.map Prod.snd) i
      have eb : billAt t (l.map Prod.snd) i = (makeG t (l.getD i default).2).1 := by rw [billAt, map_snd_at]
      refine XK.skip ?_
      refine XK.seq ?_
      refine XK.block ?_
      refine XK.seq ?_
      refine XK.region rfl ?_
      refine XO.ix rfl rfl (by omega) (by omega) fun i21 => ?_
      refine XO.q (Q.ldEA [_, _] rfl (by first | assumption | omega) rfl rfl) ?_
      refine XO.alloc fun b10 => ?_
      refine XO.st rfl rfl rfl ?_
      refine XO.done ?_
      refine XK.seq ?_
      refine XK.region rfl ?_
      refine XO.q (Q.ldA [_, _, _, _] rfl rfl rfl) ?_
      refine XO.q (Q.ldA [_, _] rfl rfl rfl) ?_
      refine XO.call Try.call11 rfl rfl rfl (Make_spec t vp vt hp ht (l.getD i default).2 (l.getD i default).1 hL) fun v26 s26 R26 => ?_
      obtain ⟨rfl, rfl⟩ := R26
      dsimp only [List.cons_append, List.nil_append]
      refine XO.q (Q.move rfl) ?_
      refine XO.q (Q.extract rfl rfl) ?_
      refine XO.q (Q.extract rfl rfl) ?_
      refine XO.alloc fun b11 => ?_
      refine XO.st rfl rfl rfl ?_
      refine XO.q (Q.assign rfl) ?_
      refine XO.done ?_
      refine XK.seq ?_
      refine XK.seq ?_
      refine XK.region rfl ?_
      refine XO.q (Q.move rfl) ?_
      refine XO.q (Q.neq rfl rfl) ?_
      refine XO.done ?_
      refine XK.if rfl (fun c2 => ?_) (fun c2 => ?_)
      · have _t2 := True.intro
        refine XK.seq ?_
        refine XK.region rfl ?_
        refine XO.q (Q.build [_, _, _, _] (.n _)) ?_
        refine XO.q (Q.move rfl) ?_
        refine XO.q (Q.assign rfl) ?_
        refine XO.st rfl rfl rfl ?_
        refine XO.q (Q.assign rfl) ?_
        refine XO.done ?_
        refine XK.rt [emp] Try.func12 Try.results12 (.t rfl (.cell [_, _, _, _] rfl rfl rfl (.t rfl .n))) ?_
        have hw0 : totalG t (l.map Prod.snd) = ([], default, (makeG t (l.getD i default).2).2) := by
          have e1 : errTo t (l.map Prod.snd) (i + 1) = (makeG t (l.getD i default).2).2 := by rw [errTo, he, if_neg (by decide), map_snd_at]
          have e2 : errTo t (l.map Prod.snd) (l.map Prod.snd).length = (makeG t (l.getD i default).2).2 := by rw [errTo_stay (n := i + 1) (by rw [e1]; exact c2) (by omega), e1]
          rw [totalG, if_neg (by omega), e2, if_pos c2]
        rw [hw0]
        exact ⟨.slice none 0 0, emp, rfl, rfl, Arr.nil (fun _ => rfl)⟩
      · have _t2 := True.intro
        refine XK.skip ?_
        refine XK.seq ?_
        refine XK.region rfl ?_
        refine XO.q (Q.move rfl) ?_
        refine XO.q (Q.ldA [_, _, _, _] rfl rfl rfl) ?_
        refine XO.lit [_, _, _, _] [_, _, _, _] [(makeG t (l.getD i default).2).1] encBill (by rfl) (by rfl) rfl (by rfl) (by exact .c 0 4 rfl rfl rfl (.n _)) (fun _ => rfl) (by rfl) rfl (by infer_instance) rfl fun v35 h35 O35 => ?_
        refine XO.append rfl rfl rfl rfl (by simp only [List.length_map, List.length_range, List.length_cons, List.length_nil]; omega) fun v36 h36 O36 => ?_
        refine XO.q (Q.assign rfl) ?_
        refine XO.done ?_
        refine XK.region rfl ?_
        refine XO.q (Q.fieldAddr rfl) ?_
        refine XO.q (Q.ld rfl rfl) ?_
        refine XO.q (Q.fieldAddr rfl) ?_
        refine XO.q (Q.ld rfl rfl) ?_
        refine XO.q (Q.add rfl rfl ⟨by omega, by omega⟩) ?_
        refine XO.q (Q.fieldAddr rfl) ?_
        refine XO.q (Q.ld rfl rfl) ?_
        refine XO.q (Q.fieldAddr rfl) ?_
        refine XO.q (Q.ld rfl rfl) ?_
        refine XO.q (Q.add rfl rfl ⟨by omega, by omega⟩) ?_
        refine XO.q (Q.fieldAddr rfl) ?_
        refine XO.q (Q.ld rfl rfl) ?_
        refine XO.q (Q.fieldAddr rfl) ?_
        refine XO.q (Q.ld rfl rfl) ?_
        refine XO.q (Q.add rfl rfl ⟨by omega, by omega⟩) ?_
        refine XO.q (Q.fieldAddr rfl) ?_
        refine XO.q (Q.ld rfl rfl) ?_
        refine XO.q (Q.fieldAddr rfl) ?_
        refine XO.q (Q.ld rfl rfl) ?_
        refine XO.q (Q.add rfl rfl ⟨by omega, by omega⟩) ?_
        refine XO.q (Q.build [_, _, _, _] (.c 0 1 rfl rfl rfl (.c 1 1 rfl rfl rfl (.c 2 1 rfl rfl rfl (.c 3 1 rfl rfl rfl (.n _)))))) ?_
        refine XO.st rfl rfl rfl ?_
        refine XO.done ?_
        refine XK.inBlock ?_
        refine XK.region rfl ?_
        refine XO.q (Q.add rfl rfl ⟨by omega, by omega⟩) ?_
        refine XO.q (Q.move rfl) ?_
        refine XO.done ?_
        rw [show (sumBill t (l.map Prod.snd) i).energy + (makeG t (l.getD i default).2).1.energy = (sumBill t (l.map Prod.snd) (i + 1)).energy by rw [← eb]; rfl, show (sumBill t (l.map Prod.snd) i).amount + (makeG t (l.getD i default).2).1.amount = (sumBill t (l.map Prod.snd) (i + 1)).amount by rw [← eb]; rfl, show (sumBill t (l.map Prod.snd) i).credit + (makeG t (l.getD i default).2).1.credit = (sumBill t (l.map Prod.snd) (i + 1)).credit by rw [← eb]; rfl, show (sumBill t (l.map Prod.snd) i).due + (makeG t (l.getD i default).2).1.due = (sumBill t (l.map Prod.snd) (i + 1)).due by rw [← eb]; rfl]
        exact ih0 (i + 1, v36, h36) _ _ ⟨by dsimp only; omega, by dsimp only; rw [bills_snoc, eb]; exact O36, by dsimp only; rw [errTo, he, if_neg (by decide), map_snd_at]; exact Decidable.of_not_not c2⟩ (by first | omega | (dsimp only; omega)) (.c rfl (.c rfl (.base 90 rfl rfl))) inferInstance
    · have _t1 := True.intro
      have hin : i = l.length := by omega
      subst hin
      have cA := Arr.clip (OArr.arr (s := OO))
      refine XK.exit rfl ?_
      refine XK.seq ?_
      refine XK.drawn [0, 2, 3, 5] [b8] [] (.q 0 (.q 2 (.br 1 true (.q 3 (.br 4 true (.q 5 .done) .stop)) .stop))) Try.mixed rfl (by kernel_rfl) ?_
      refine XT.q rfl rfl (Q.move rfl) ?_
      refine XT.q rfl rfl (Q.ldA [_, _, _, _] rfl rfl rfl) ?_
      refine XT.call rfl rfl Try.call49 rfl rfl rfl (clip_spec vo ko ((List.range l.length).map (billAt t (l.map Prod.snd)))) (fun v60 s60 R60 => ?_) XT.stop
      obtain ⟨rfl, rfl⟩ := R60
      dsimp only [List.cons_append, List.nil_append]
      refine ⟨inferInstance, ?_⟩
      refine XT.q rfl rfl (Q.assign rfl) ?_
      refine XT.st rfl rfl rfl rfl rfl ⟨inferInstance, ?_⟩ XT.stop
      refine XT.q rfl rfl (Q.assign rfl) ?_
      refine XT.done ?_
      refine XK.rt [ko] Try.func12 Try.results12 (.t rfl (.cell [_, _, _, _] rfl rfl rfl (.t rfl .n))) ?_
      have hw0 : totalG t (l.map Prod.snd) = ((List.range l.length).map (billAt t (l.map Prod.snd)), sumBill t (l.map Prod.snd) l.length, 0) := by rw [totalG, if_neg (by omega), hml, he, if_neg (by decide)]
      rw [hw0]
      exact ⟨_, ko, rfl, rfl, cA⟩
end Go.X

set_option linter.unusedSimpArgs false
set_option linter.unusedVariables false
set_option maxRecDepth 20000
namespace Go.X
open Go.Proofs
theorem sameInts (va vb : Value) (ha hb : PHeap) (a b : List Int) [ia : Arr va encI 1 ha a] [ib : Arr vb encI 1 hb b] : Spec Try.prog 118 #[va, vb] [] [ha, hb] (fun v hs => v = .bool (decide (a = b)) ∧ hs = []) := by
  have la := ia.le
  refine Spec.intro (fn := Try.f118) (N := 26) Try.func118 rfl Try.ntmps118 rfl fun B => ?_
  refine XK.seq ?_
  refine XK.region rfl ?_
  refine XO.q (Q.assign rfl) ?_
  refine XO.done ?_
  refine XK.seq ?_
  refine XK.seq ?_
  refine XK.region rfl ?_
  refine XO.q (Q.move rfl) ?_
  refine XO.len rfl fun l7 => ?_
  refine XO.q (Q.move rfl) ?_
  refine XO.len rfl fun l9 => ?_
  refine XO.q (Q.neq rfl rfl) ?_
  refine XO.done ?_
  refine XK.if rfl (fun c0 => ?_) (fun c0 => ?_)
  · have _t0 := True.intro
    refine XK.seq ?_
    refine XK.region rfl ?_
    refine XO.q (Q.assign rfl) ?_
    refine XO.done ?_
    refine XK.rt [] Try.func118 Try.results118 (.t rfl .n) ?_
    exact ⟨by rw [decide_eq_false (fun h => c0 (by rw [h]))], rfl⟩
  · have _t0 := True.intro
    refine XK.skip ?_
    refine XK.seq ?_
    refine XK.seq ?_
    refine XK.region rfl ?_
    refine XO.q (Q.assign rfl) ?_
    refine XO.done ?_
    refine XK.block ?_
    refine XK.while (X := Nat) [4, 5, 11, 12, 13, 14, 15, 16, 17, 18, 19, 20, 21, 22, 23, 24, 25] (fun i => [(5, some (.int .i64 (i : Nat)))]) (fun i => []) (fun i => i ≤ a.length ∧ a.take i = b.take i) (fun i => a.length - i) (0) [] rfl ⟨by omega, rfl⟩ (.c rfl (.base 0 rfl rfl)) ?_
    rintro i ⟨hi, ht⟩ ih0
    dsimp only [List.cons_append, List.nil_append] at ih0 ⊢
    refine XK.seq ?_
    refine XK.seq ?_
    refine XK.region rfl ?_
    refine XO.q (Q.move rfl) ?_
    refine XO.q (Q.move rfl) ?_
    refine XO.len rfl fun l13 => ?_
    refine XO.q (Q.lss rfl rfl) ?_
    refine XO.done ?_
    refine XK.if rfl (fun c1 => ?_) (fun c1 => ?_)
    · have _t1 := True.intro
      refine XK.skip ?_
      refine XK.seq ?_
      refine XK.block ?_
      refine XK.seq ?_
      refine XK.drawn [0, 1, 2, 3, 4, 5, 6, 7, 8] [] [] (.q 0 (.q 1 (.q 2 (.q 3 (.q 4 (.q 5 (.q 6 (.q 7 (.q 8 .done))))))))) Try.mixed rfl (by kernel_rfl) ?_
      refine XT.q rfl rfl (Q.move rfl) ?_
      refine XT.q rfl rfl (Q.move rfl) ?_
      refine XT.ix rfl rfl rfl rfl (by omega) (by omega) fun i19 => ?_
      refine XT.q rfl rfl (Q.ldE rfl (by first | assumption | omega) rfl) ?_
      refine XT.q rfl rfl (Q.move rfl) ?_
      refine XT.q rfl rfl (Q.move rfl) ?_
      refine XT.ix rfl rfl rfl rfl (by omega) (by omega) fun i23 => ?_
      refine XT.q rfl rfl (Q.ldE rfl (by first | assumption | omega) rfl) ?_
      refine XT.q rfl rfl (Q.neq rfl rfl) ?_
      refine XT.done ?_
      refine XK.if rfl (fun c2 => ?_) (fun c2 => ?_)
      · have _t2 := True.intro
        refine XK.seq ?_
        refine XK.region rfl ?_
        refine XO.q (Q.assign rfl) ?_
        refine XO.done ?_
        refine XK.rt [] Try.func118 Try.results118 (.t rfl .n) ?_
        exact ⟨by rw [decide_eq_false (fun h => c2 (by rw [h]))], rfl⟩
      · have _t2 := True.intro
        refine XK.skip ?_
        refine XK.inBlock ?_
        refine XK.region rfl ?_
        refine XO.q (Q.move rfl) ?_
        refine XO.q (Q.add rfl rfl ⟨by omega, by omega⟩) ?_
        refine XO.q (Q.assign rfl) ?_
        refine XO.done ?_
        exact ih0 (i + 1) _ _ ⟨by omega, take_step ht (by omega) (by omega) (Decidable.of_not_not c2)⟩ (by first | omega | (dsimp only; omega)) (.c rfl (.base 34 rfl rfl)) inferInstance
    · have _t1 := True.intro
      refine XK.exit rfl ?_
      refine XK.seq ?_
      refine XK.region rfl ?_
      refine XO.q (Q.assign rfl) ?_
      refine XO.done ?_
      refine XK.rt [] Try.func118 Try.results118 (.t rfl .n) ?_
      exact ⟨by rw [decide_eq_true (take_all ht c1 (by omega))], rfl⟩
theorem sameList (va vb : Value) (ha hb : PHeap) (a b : List Int) [ia : Arr va encI 1 ha a] [ib : Arr vb encI 1 hb b] : Spec Try.prog 89 #[va, vb] [] [ha, hb] (fun v hs => v = .bool (decide (a = b)) ∧ hs = []) := by
  refine Spec.intro (fn := Try.f89) (N := 8) Try.func89 rfl Try.ntmps89 rfl fun B => ?_
  refine XK.seq ?_
  refine XK.region rfl ?_
  refine XO.q (Q.assign rfl) ?_
  refine XO.done ?_
  refine XK.seq ?_
  refine XK.region rfl ?_
  refine XO.q (Q.move rfl) ?_
  refine XO.q (Q.move rfl) ?_
  refine XO.call Try.call118 rfl rfl rfl (sameInts va vb ha hb a b) fun v7 s7 R7 => ?_
  obtain ⟨rfl, rfl⟩ := R7
  dsimp only [List.cons_append, List.nil_append]
  refine XO.q (Q.assign rfl) ?_
  refine XO.done ?_
  refine XK.rt [] Try.func89 Try.results89 (.t rfl .n) ?_
  exact ⟨rfl, rfl⟩
theorem sameLists (va vb : Value) (ha hb Ka Kb : PHeap) (us ws : List Value) [ia : Arr va encV 1 ha us] [ib : Arr vb encV 1 hb ws] (a b : List (List Int)) (ra : RowsK us Ka a) (rb : RowsK ws Kb b) : Spec Try.prog 50 #[va, vb] [] [ha, hb, Ka, Kb] (fun v hs => v = .bool (decide (a = b)) ∧ hs = []) := by
  have la := ia.le
  have l1 := ra.1
  have l2 := rb.1
  refine Spec.intro (fn := Try.f50) (N := 27) Try.func50 rfl Try.ntmps50 rfl fun B => ?_
  refine XK.seq ?_
  refine XK.region rfl ?_
  refine XO.q (Q.assign rfl) ?_
  refine XO.done ?_
  refine XK.seq ?_
  refine XK.seq ?_
  refine XK.region rfl ?_
  refine XO.q (Q.move rfl) ?_
  refine XO.len rfl fun l7 => ?_
  refine XO.q (Q.move rfl) ?_
  refine XO.len rfl fun l9 => ?_
  refine XO.q (Q.neq rfl rfl) ?_
  refine XO.done ?_
  refine XK.if rfl (fun c0 => ?_) (fun c0 => ?_)
  · have _t0 := True.intro
    refine XK.seq ?_
    refine XK.region rfl ?_
    refine XO.q (Q.assign rfl) ?_
    refine XO.done ?_
    refine XK.rt [] Try.func50 Try.results50 (.t rfl .n) ?_
    exact ⟨by rw [decide_eq_false (fun h => c0 (by rw [l1, l2, h]))], rfl⟩
  · have _t0 := True.intro
    refine XK.skip ?_
    refine XK.seq ?_
    refine XK.seq ?_
    refine XK.region rfl ?_
    refine XO.q (Q.assign rfl) ?_
    refine XO.done ?_
    refine XK.block ?_
    refine XK.while (X := Nat) [4, 5, 11, 12, 13, 14, 15, 16, 17, 18, 19, 20, 21, 22, 23, 24, 25, 26] (fun i => [(5, some (.int .i64 (i : Nat)))]) (fun i => []) (fun i => i ≤ us.length ∧ a.take i = b.take i) (fun i => us.length - i) (0) [] rfl ⟨by omega, rfl⟩ (.c rfl (.base 0 rfl rfl)) ?_
    rintro i ⟨hi, ht⟩ ih0
    dsimp only [List.cons_append, List.nil_append] at ih0 ⊢
    refine XK.seq ?_
    refine XK.seq ?_
    refine XK.region rfl ?_
    refine XO.q (Q.move rfl) ?_
    refine XO.q (Q.move rfl) ?_
    refine XO.len rfl fun l13 => ?_
    refine XO.q (Q.lss rfl rfl) ?_
    refine XO.done ?_
    refine XK.if rfl (fun c1 => ?_) (fun c1 => ?_)
    · have _t1 := True.intro
      have aa := ra.2 i (by omega)
      have ab := rb.2 i (by omega)
      refine XK.skip ?_
      refine XK.seq ?_
      refine XK.block ?_
      refine XK.seq ?_
      refine XK.drawn [0, 1, 2, 3, 4, 5, 6, 7, 9] [] [] (.q 0 (.q 1 (.q 2 (.q 3 (.q 4 (.q 5 (.q 6 (.q 7 (.br 8 true (.q 9 .done) .stop))))))))) Try.mixed rfl (by kernel_rfl) ?_
      refine XT.q rfl rfl (Q.move rfl) ?_
      refine XT.q rfl rfl (Q.move rfl) ?_
      refine XT.ix rfl rfl rfl rfl (by omega) (by omega) fun i19 => ?_
      refine XT.q rfl rfl (Q.ldE rfl (by first | assumption | omega) rfl) ?_
      refine XT.q rfl rfl (Q.move rfl) ?_
      refine XT.q rfl rfl (Q.move rfl) ?_
      refine XT.ix rfl rfl rfl rfl (by omega) (by omega) fun i23 => ?_
      refine XT.q rfl rfl (Q.ldE rfl (by first | assumption | omega) rfl) ?_
      refine XT.call rfl rfl Try.call89 rfl rfl rfl (sameList (us.getD i default) (ws.getD i default) Ka Kb (a.getD i default) (b.getD i default)) (fun v25 s25 R25 => ?_) XT.stop
      obtain ⟨rfl, rfl⟩ := R25
      dsimp only [List.cons_append, List.nil_append]
      refine ⟨inferInstance, ?_⟩
      refine XT.q rfl rfl (Q.not rfl) ?_
      refine XT.done ?_
      refine XK.if rfl (fun c2 => ?_) (fun c2 => ?_)
      · have _t2 := True.intro
        refine XK.seq ?_
        refine XK.region rfl ?_
        refine XO.q (Q.assign rfl) ?_
        refine XO.done ?_
        refine XK.rt [] Try.func50 Try.results50 (.t rfl .n) ?_
        exact ⟨by rw [decide_eq_false (fun h => c2 (by rw [h]))], rfl⟩
      · have _t2 := True.intro
        refine XK.skip ?_
        refine XK.inBlock ?_
        refine XK.region rfl ?_
        refine XO.q (Q.move rfl) ?_
        refine XO.q (Q.add rfl rfl ⟨by omega, by omega⟩) ?_
        refine XO.q (Q.assign rfl) ?_
        refine XO.done ?_
        exact ih0 (i + 1) _ _ ⟨by omega, take_step ht (by omega) (by omega) (Decidable.of_not_not c2)⟩ (by first | omega | (dsimp only; omega)) (.c rfl (.base 36 rfl rfl)) inferInstance
    · have _t1 := True.intro
      refine XK.exit rfl ?_
      refine XK.seq ?_
      refine XK.region rfl ?_
      refine XO.q (Q.assign rfl) ?_
      refine XO.done ?_
      refine XK.rt [] Try.func50 Try.results50 (.t rfl .n) ?_
      exact ⟨by rw [decide_eq_true (take_all ht (by omega) (by omega))], rfl⟩
theorem mul64_one (n : Nat) (h : n ≤ 4294967295) : Spec Try.prog 104 #[.int .u64 1, .int .u64 (n : Nat)] [] [] (fun v hs => v = .tuple #[.int .u64 0, .int .u64 (n : Nat)] ∧ hs = []) := by
  have h1 : (1 : Int) % 4294967296 = 1 := by decide
  have h2 : (1 : Int) / 4294967296 = 0 := by decide
  have h3 : (n : Int) % 4294967296 = n := by omega
  have h4 : (n : Int) / 4294967296 = 0 := by omega
  have h5 : (0 : Int) % 4294967296 = 0 := by decide
  have h6 : (0 : Int) / 4294967296 = 0 := by decide
  refine Spec.intro (fn := Try.f104) (N := 51) Try.func104 rfl Try.ntmps104 rfl fun B => ?_
  refine XK.seq ?_
  refine XK.region rfl ?_
  refine XO.q (Q.assign rfl) ?_
  refine XO.q (Q.assign rfl) ?_
  refine XO.done ?_
  refine XK.seq ?_
  refine XK.region rfl ?_
  refine XO.q (Q.move rfl) ?_
  refine XO.q (Q.mask32 rfl rfl (by omega)) ?_
  rw [h1]
  refine XO.q (Q.assign rfl) ?_
  refine XO.done ?_
  refine XK.seq ?_
  refine XK.region rfl ?_
  refine XO.q (Q.move rfl) ?_
  refine XO.q (Q.shr32 rfl rfl) ?_
  rw [h2]
  refine XO.q (Q.assign rfl) ?_
  refine XO.done ?_
  refine XK.seq ?_
  refine XK.region rfl ?_
  refine XO.q (Q.move rfl) ?_
  refine XO.q (Q.mask32 rfl rfl (by omega)) ?_
  rw [h3]
  refine XO.q (Q.assign rfl) ?_
  refine XO.done ?_
  refine XK.seq ?_
  refine XK.region rfl ?_
  refine XO.q (Q.move rfl) ?_
  refine XO.q (Q.shr32 rfl rfl) ?_
  rw [h4]
  refine XO.q (Q.assign rfl) ?_
  refine XO.done ?_
  refine XK.seq ?_
  refine XK.region rfl ?_
  refine XO.q (Q.move rfl) ?_
  refine XO.q (Q.move rfl) ?_
  refine XO.q (Q.mulU rfl rfl (by omega)) ?_
  rw [Int.one_mul]
  refine XO.q (Q.assign rfl) ?_
  refine XO.done ?_
  refine XK.seq ?_
  refine XK.region rfl ?_
  refine XO.q (Q.move rfl) ?_
  refine XO.q (Q.move rfl) ?_
  refine XO.q (Q.mulU rfl rfl (by omega)) ?_
  rw [Int.zero_mul]
  refine XO.q (Q.move rfl) ?_
  refine XO.q (Q.shr32 rfl rfl) ?_
  rw [h4]
  refine XO.q (Q.addU rfl rfl (by omega)) ?_
  rw [Int.add_zero]
  refine XO.q (Q.assign rfl) ?_
  refine XO.done ?_
  refine XK.seq ?_
  refine XK.region rfl ?_
  refine XO.q (Q.move rfl) ?_
  refine XO.q (Q.mask32 rfl rfl (by omega)) ?_
  rw [h5]
  refine XO.q (Q.assign rfl) ?_
  refine XO.done ?_
  refine XK.seq ?_
  refine XK.region rfl ?_
  refine XO.q (Q.move rfl) ?_
  refine XO.q (Q.shr32 rfl rfl) ?_
  rw [h6]
  refine XO.q (Q.assign rfl) ?_
  refine XO.done ?_
  refine XK.seq ?_
  refine XK.region rfl ?_
  refine XO.q (Q.move rfl) ?_
  refine XO.q (Q.move rfl) ?_
  refine XO.q (Q.move rfl) ?_
  refine XO.q (Q.mulU rfl rfl (by omega)) ?_
  rw [Int.mul_zero]
  refine XO.q (Q.addU rfl rfl (by omega)) ?_
  rw [Int.add_zero]
  refine XO.q (Q.assign rfl) ?_
  refine XO.done ?_
  refine XK.seq ?_
  refine XK.region rfl ?_
  refine XO.q (Q.move rfl) ?_
  refine XO.q (Q.move rfl) ?_
  refine XO.q (Q.mulU rfl rfl (by omega)) ?_
  rw [Int.mul_zero]
  refine XO.q (Q.move rfl) ?_
  refine XO.q (Q.addU rfl rfl (by omega)) ?_
  rw [Int.add_zero]
  refine XO.q (Q.move rfl) ?_
  refine XO.q (Q.shr32 rfl rfl) ?_
  rw [h6]
  refine XO.q (Q.addU rfl rfl (by omega)) ?_
  rw [Int.add_zero]
  refine XO.q (Q.assign rfl) ?_
  refine XO.done ?_
  refine XK.seq ?_
  refine XK.region rfl ?_
  refine XO.q (Q.move rfl) ?_
  refine XO.q (Q.move rfl) ?_
  refine XO.q (Q.mulU rfl rfl (by omega)) ?_
  rw [Int.one_mul]
  refine XO.q (Q.assign rfl) ?_
  refine XO.done ?_
  refine XK.rt [] Try.func104 Try.results104 (.t rfl (.t rfl .n)) ?_
  exact ⟨rfl, rfl⟩
theorem mul_one' (n : Nat) (h : n ≤ 4294967295) : Spec Try.prog 82 #[.int .u64 1, .int .u64 (n : Nat)] [] [] (fun v hs => v = .tuple #[.int .u64 0, .int .u64 (n : Nat)] ∧ hs = []) := by
  refine Spec.intro (fn := Try.f82) (N := 30) Try.func82 rfl Try.ntmps82 rfl fun B => ?_
  refine XK.seq ?_
  refine XK.region rfl ?_
  refine XO.q (Q.assign rfl) ?_
  refine XO.q (Q.assign rfl) ?_
  refine XO.done ?_
  refine XK.seq ?_
  refine XK.if rfl (fun c0 => ?_) (fun c0 => ?_)
  · have _t0 := True.intro
    exact c0.elim
  · have _t0 := True.intro
    refine XK.skip ?_
    refine XK.seq ?_
    refine XK.region rfl ?_
    refine XO.q (Q.move rfl) ?_
    refine XO.q (Q.move rfl) ?_
    refine XO.call Try.call104 rfl rfl rfl (mul64_one n h) fun v25 s25 R25 => ?_
    obtain ⟨rfl, rfl⟩ := R25
    dsimp only [List.cons_append, List.nil_append]
    refine XO.q (Q.move rfl) ?_
    refine XO.q (Q.extract rfl rfl) ?_
    refine XO.q (Q.extract rfl rfl) ?_
    refine XO.q (Q.assign rfl) ?_
    refine XO.q (Q.assign rfl) ?_
    refine XO.done ?_
    refine XK.seq ?_
    refine XK.region rfl ?_
    refine XO.q (Q.move rfl) ?_
    refine XO.q (Q.move rfl) ?_
    refine XO.q (Q.assign rfl) ?_
    refine XO.q (Q.assign rfl) ?_
    refine XO.done ?_
    refine XK.rt [] Try.func82 Try.results82 (.t rfl (.t rfl .n)) ?_
    exact ⟨rfl, rfl⟩
theorem repeatI (v : Value) (h : PHeap) (x : Int) [s : Arr v encI 1 h [x]] (n : Nat) (hn : n ≤ 4294967295) : Spec Try.prog 40 #[v, .int .i64 (n : Nat)] [] [h] (fun v' hs => ∃ h', hs = [h'] ∧ OArr v' encI 1 3 h' (List.replicate n x)) := by
  have hw1 : IntKind.u64.wrap ((([x] : List Int).length : Nat) : Int) = 1 := rfl
  have hw2 : IntKind.u64.wrap ((n : Nat) : Int) = n := wrapu64 (by omega)
  have hw3 : IntKind.i64.wrap ((n : Nat) : Int) = n := wrap64_of ⟨by omega, by omega⟩
  have hl1 : ([x] : List Int).length = 1 := rfl
  refine Spec.intro (fn := Try.f40) (N := 48) Try.func40 rfl Try.ntmps40 rfl fun B => ?_
  refine XK.seq ?_
  refine XK.region rfl ?_
  refine XO.q (Q.assign rfl) ?_
  refine XO.done ?_
  refine XK.seq ?_
  refine XK.seq ?_
  refine XK.region rfl ?_
  refine XO.q (Q.move rfl) ?_
  refine XO.q (Q.lss rfl rfl) ?_
  refine XO.done ?_
  refine XK.if rfl (fun c0 => ?_) (fun c0 => ?_)
  · have _t0 := True.intro
    exact absurd c0 (by omega)
  · have _t0 := True.intro
    refine XK.skip ?_
    refine XK.seq ?_
    refine XK.region rfl ?_
    refine XO.q (Q.move rfl) ?_
    refine XO.len rfl fun l14 => ?_
    refine XO.q (Q.conv rfl) ?_
    rw [hw1]
    refine XO.q (Q.move rfl) ?_
    refine XO.q (Q.conv rfl) ?_
    rw [hw2]
    refine XO.call Try.call82 rfl rfl rfl (mul_one' n hn) fun v18 s18 R18 => ?_
    obtain ⟨rfl, rfl⟩ := R18
    dsimp only [List.cons_append, List.nil_append]
    refine XO.q (Q.move rfl) ?_
    refine XO.q (Q.extract rfl rfl) ?_
    refine XO.q (Q.extract rfl rfl) ?_
    refine XO.q (Q.assign rfl) ?_
    refine XO.q (Q.assign rfl) ?_
    refine XO.done ?_
    refine XK.seq ?_
    refine XK.seq ?_
    refine XK.region rfl ?_
    refine XO.q (Q.move rfl) ?_
    refine XO.q (Q.gtr rfl rfl) ?_
    refine XO.q (Q.move rfl) ?_
    refine XO.q (Quiet.guardF rfl rfl fun g24 p24 => Q.move rfl) ?_
    refine XO.q (Quiet.guardF rfl rfl fun g25 p25 => Q.gtr (lzv g25 rfl) rfl) ?_
    refine XO.q (Q.or rfl (fun hp => lzv hp rfl)) ?_
    refine XO.done ?_
    refine XK.if rfl (fun c1 => ?_) (fun c1 => ?_)
    · have _t1 := True.intro
      exact absurd c1 (by omega)
    · have _t1 := True.intro
      refine XK.skip ?_
      refine XK.seq ?_
      refine XK.region rfl ?_
      refine XO.q (Q.move rfl) ?_
      refine XO.q (Q.conv rfl) ?_
      rw [hw3]
      refine XO.make encI (0) rfl rfl rfl (by omega) (by omega) (fun _ => rfl) rfl rfl rfl (by dsimp only [encI]; infer_instance) fun v30 h30 O30 => ?_
      refine XO.q (Q.assign rfl) ?_
      refine XO.done ?_
      refine XK.seq ?_
      refine XK.region rfl ?_
      refine XO.q (Q.move rfl) ?_
      refine XO.q (Q.move rfl) ?_
      refine XO.copy rfl (tailv_zero (s := O30)).symm rfl (by omega) fun h33 O33 => ?_
      rw [show min ([x] : List Int).length ((List.replicate n (0 : Int)).length - 0) = min 1 n by simp]
      refine XO.q (Q.assign rfl) ?_
      refine XO.done ?_
      refine XK.seq ?_
      refine XK.block ?_
      refine XK.while (X := Nat × PHeap) [8, 34, 35, 36, 37, 38, 39, 40, 41, 42, 43, 44, 45, 46] (fun ⟨m, hM⟩ => [(8, some (.int .i64 (m : Nat)))]) (fun ⟨m, hM⟩ => [hM]) (fun ⟨m, hM⟩ => m ≤ n ∧ (0 < n → 0 < m) ∧ OArr v30 encI 1 3 hM (List.replicate m x ++ List.replicate (n - m) 0)) (fun ⟨m, hM⟩ => n - m) (min 1 n, h33) [h33] rfl ⟨by omega, by omega, by have := O33; rw [repeat_first] at this; exact this⟩ (.c rfl (.base 0 rfl rfl)) ?_
      rintro ⟨m, hM⟩ ⟨hm, hm0, OM⟩ ih0
      dsimp only [List.cons_append, List.nil_append] at ih0 ⊢
      have hlm : (List.replicate m x ++ List.replicate (n - m) 0).length = n := by rw [List.length_append, List.length_replicate, List.length_replicate]; omega
      have hmm : min (((List.replicate m x ++ List.replicate (n - m) (0 : Int)).drop 0).take (m - 0)).length ((List.replicate m x ++ List.replicate (n - m) (0 : Int)).length - m) = min m (n - m) := by
        rw [hlm, List.drop_zero, List.length_take, hlm]; omega
      refine XK.seq ?_
      refine XK.seq ?_
      refine XK.region rfl ?_
      refine XO.q (Q.move rfl) ?_
      refine XO.q (Q.move rfl) ?_
      refine XO.len rfl fun l36 => ?_
      refine XO.q (Q.lss rfl rfl) ?_
      refine XO.done ?_
      refine XK.if rfl (fun c2 => ?_) (fun c2 => ?_)
      · have _t2 := True.intro
        refine XK.skip ?_
        refine XK.block ?_
        refine XK.drawn [0, 1, 2, 3, 4, 5, 6, 8, 9] [] [] (.q 0 (.q 1 (.q 2 (.q 3 (.q 4 (.q 5 (.q 6 (.br 7 true (.q 8 (.q 9 .done)) .stop)))))))) Try.mixed rfl (by kernel_rfl) ?_
        refine XT.q rfl rfl (Q.move rfl) ?_
        refine XT.q rfl rfl (Q.move rfl) ?_
        refine XT.q rfl rfl (Q.move rfl) ?_
        refine XT.q rfl rfl (Q.tail (i := m) rfl (.s rfl (by omega)) (by omega)) ?_
        refine XT.q rfl rfl (Q.move rfl) ?_
        refine XT.q rfl rfl (Q.move rfl) ?_
        refine XT.q rfl rfl (Q.cut (i := 0) (j := m) rfl .n (.s rfl (by omega)) (by omega) (by omega)) ?_
        have A44 := Arr.cut (v := v30) (i := 0) (j := m) inferInstance (by omega) (by omega)
        refine XT.copy rfl rfl rfl rfl rfl (by omega) (fun h45 O45 => ⟨inferInstance, ?_⟩) XT.stop
        rw [hmm]
        refine XT.q rfl rfl (Q.add rfl rfl ⟨by omega, by omega⟩) ?_
        rw [show ((m : Int) + ((min m (n - m) : Nat) : Int)) = ((m + min m (n - m) : Nat) : Int) from rfl]
        refine XT.q rfl rfl (Q.assign rfl) ?_
        refine XT.done ?_
        refine XK.inBlock ?_
        exact ih0 (m + min m (n - m), h45) _ _ ⟨by omega, by omega, by have := O45; rw [repeat_step x 0 hm] at this; exact this⟩ (by first | omega | (dsimp only; omega)) (.c rfl (.base 29 rfl rfl)) inferInstance
      · have _t2 := True.intro
        refine XK.exit rfl ?_
        refine XK.seq ?_
        refine XK.region rfl ?_
        refine XO.q (Q.move rfl) ?_
        refine XO.q (Q.assign rfl) ?_
        refine XO.done ?_
        refine XK.rt [hM] Try.func40 Try.results40 (.t rfl .n) ?_
        have hmn : m = n := by omega
        subst hmn
        exact ⟨hM, rfl, by simpa using OM⟩
theorem example11 : Spec Try.prog 38 #[] [] [] (fun v hs => ∃ vn vv kn kv, v = .agg #[vn, vv] ∧ hs = [kn, kv] ∧ OArr vn encNode 3 97 kn exC.nodes ∧ OArr vv encI 1 3 kv exC.vals) := by
  refine Spec.intro (fn := Try.f38) (N := 7) Try.func38 rfl Try.ntmps38 rfl fun B => ?_
  refine XK.seq ?_
  refine XK.region rfl ?_
  refine XO.alloc fun b0 => ?_
  refine XO.done ?_
  refine XK.seq ?_
  refine XK.region rfl ?_
  refine XO.q (Q.build [_, _, _] (.c 0 1 rfl rfl rfl (.c 2 1 rfl rfl rfl (.n _)))) ?_
  refine XO.q (Q.build [_, _, _] (.n _)) ?_
  refine XO.q (Q.build [_, _, _] (.n _)) ?_
  refine XO.lit [_, _, _, _, _, _, _, _, _] [_, _, _, _, _, _, _, _, _] [⟨-1, 0, 5⟩, ⟨0, 0, 0⟩, ⟨0, 0, 0⟩] encNode (by rfl) (by rfl) rfl (by rfl) (by exact .c 0 3 rfl rfl rfl (.c 3 3 rfl rfl rfl (.c 6 3 rfl rfl rfl (.n _)))) (fun _ => rfl) (by rfl) rfl (by infer_instance) rfl fun v4 h4 O4 => ?_
  refine XO.lit [_, _, _] [_, _, _] [100, 60, 50] encI (by rfl) (by rfl) rfl (by rfl) (by exact .c 0 1 rfl rfl rfl (.c 1 1 rfl rfl rfl (.c 2 1 rfl rfl rfl (.n _)))) (fun _ => rfl) (by rfl) rfl (by infer_instance) rfl fun v5 h5 O5 => ?_
  refine XO.q (Q.build [_, _] (.c 0 1 rfl rfl rfl (.c 1 1 rfl rfl rfl (.n _)))) ?_
  refine XO.st rfl rfl rfl ?_
  refine XO.done ?_
  refine XK.rt [h4, h5] Try.func38 Try.results38 (.cell [_, _] rfl rfl rfl (.n)) ?_
  exact ⟨v4, v5, h4, h5, rfl, rfl, O4, O5⟩
theorem tariff11 : Spec Try.prog 39 #[] [] [] (fun v hs => ∃ vp vt kp kt, v = .agg #[vp, .int .i64 exT.base, vt, .int .i64 exT.credit] ∧ hs = [kp, kt] ∧ OArr vp encI 1 3 kp exT.price ∧ OArr vt encTier 2 33 kt exT.tiers) := by
  refine Spec.intro (fn := Try.f39) (N := 7) Try.func39 rfl Try.ntmps39 rfl fun B => ?_
  refine XK.seq ?_
  refine XK.region rfl ?_
  refine XO.alloc fun b0 => ?_
  refine XO.done ?_
  refine XK.seq ?_
  refine XK.region rfl ?_
  refine XO.lit [_] [_] [10] encI (by rfl) (by rfl) rfl (by rfl) (by exact .c 0 1 rfl rfl rfl (.n _)) (fun _ => rfl) (by rfl) rfl (by infer_instance) rfl fun v1 h1 O1 => ?_
  refine XO.call Try.call40 rfl rfl rfl (repeatI v1 h1 10 24 (by decide)) fun v2 s2 R2 => ?_
  obtain ⟨k2, rfl, O2⟩ := R2
  dsimp only [List.cons_append, List.nil_append]
  refine XO.q (Q.build [_, _] (.c 0 1 rfl rfl rfl (.c 1 1 rfl rfl rfl (.n _)))) ?_
  refine XO.q (Q.build [_, _] (.c 0 1 rfl rfl rfl (.c 1 1 rfl rfl rfl (.n _)))) ?_
  refine XO.lit [_, _, _, _] [_, _, _, _] [⟨30, 10⟩, ⟨120, 25⟩] encTier (by rfl) (by rfl) rfl (by rfl) (by exact .c 0 2 rfl rfl rfl (.c 2 2 rfl rfl rfl (.n _))) (fun _ => rfl) (by rfl) rfl (by infer_instance) rfl fun v5 h5 O5 => ?_
  refine XO.q (Q.build [_, _, _, _] (.c 0 1 rfl rfl rfl (.c 1 1 rfl rfl rfl (.c 2 1 rfl rfl rfl (.c 3 1 rfl rfl rfl (.n _)))))) ?_
  refine XO.st rfl rfl rfl ?_
  refine XO.done ?_
  refine XK.rt [k2, h5] Try.func39 Try.results39 (.cell [_, _, _, _] rfl rfl rfl (.n)) ?_
  exact ⟨v2, v5, k2, h5, rfl, rfl, O2, O5⟩
theorem awake11 : Spec Try.prog 13 #[] [] [] (fun v hs => v = .bool true ∧ hs = []) := by
  refine Spec.intro (fn := Try.f13) (N := 54) Try.func13 rfl Try.ntmps13 rfl fun B => ?_
  refine XK.seq ?_
  refine XK.region rfl ?_
  refine XO.q (Q.assign rfl) ?_
  refine XO.done ?_
  refine XK.seq ?_
  refine XK.region rfl ?_
  refine XO.call Try.call38 rfl rfl rfl (example11) fun v8 s8 R8 => ?_
  obtain ⟨vn8, vv8, kn8, kv8, rfl, rfl, On8, Ov8⟩ := R8
  dsimp only [List.cons_append, List.nil_append]
  refine XO.call Try.call16 rfl rfl rfl (Least_spec exC vn8 vv8 kn8 kv8 (fun _ s hs => steps3 s hs)) fun v9 s9 R9 => ?_
  obtain ⟨x9, y9, K9, us9, rfl, rfl, O9, R9⟩ := R9
  dsimp only [List.cons_append, List.nil_append]
  rw [exC_least] at R9 ⊢
  dsimp only at R9 ⊢
  refine XO.q (Q.move rfl) ?_
  refine XO.q (Q.extract rfl rfl) ?_
  refine XO.q (Q.extract rfl rfl) ?_
  refine XO.q (Q.assign rfl) ?_
  refine XO.q (Q.assign rfl) ?_
  refine XO.done ?_
  refine XK.seq ?_
  refine XK.region rfl ?_
  refine XO.call Try.call38 rfl rfl rfl (example11) fun v13 s13 R13 => ?_
  obtain ⟨vn13, vv13, kn13, kv13, rfl, rfl, On13, Ov13⟩ := R13
  dsimp only [List.cons_append, List.nil_append]
  refine XO.lit [_] [_] [1] encI (by rfl) (by rfl) rfl (by rfl) (by exact .c 0 1 rfl rfl rfl (.n _)) (fun _ => rfl) (by rfl) rfl (by infer_instance) rfl fun v14 h14 O14 => ?_
  refine XO.call Try.call17 rfl rfl rfl (Repair_spec exC vn13 vv13 kn13 kv13 [1] v14 h14) fun v15 s15 R15 => ?_
  obtain ⟨x15, y15, rfl, rfl, O15⟩ := R15
  dsimp only [List.cons_append, List.nil_append]
  rw [exC_repair] at O15 ⊢
  dsimp only at O15 ⊢
  refine XO.q (Q.move rfl) ?_
  refine XO.q (Q.extract rfl rfl) ?_
  refine XO.q (Q.extract rfl rfl) ?_
  refine XO.q (Q.assign rfl) ?_
  refine XO.q (Q.assign rfl) ?_
  refine XO.done ?_
  refine XK.seq ?_
  refine XK.region rfl ?_
  refine XO.call Try.call39 rfl rfl rfl (tariff11) fun v19 s19 R19 => ?_
  obtain ⟨vp, vt, kp, kt, rfl, rfl, Op, Ot⟩ := R19
  dsimp only [List.cons_append, List.nil_append]
  refine XO.lit [_] [_] [5] encI (by rfl) (by rfl) rfl (by rfl) (by exact .c 0 1 rfl rfl rfl (.n _)) (fun _ => rfl) (by rfl) rfl (by infer_instance) rfl fun v20 h20 O20 => ?_
  refine XO.call Try.call40 rfl rfl rfl (repeatI v20 h20 5 24 (by decide)) fun v21 s21 R21 => ?_
  obtain ⟨k21, rfl, O21⟩ := R21
  dsimp only [List.cons_append, List.nil_append]
  refine XO.q (Q.build [_, _] (.c 0 1 rfl rfl rfl (.c 1 1 rfl rfl rfl (.n _)))) ?_
  refine XO.call Try.call11 rfl rfl rfl (Make_spec exT vp vt kp kt exU v21 k21) fun v23 s23 R23 => ?_
  obtain ⟨rfl, rfl⟩ := R23
  dsimp only [List.cons_append, List.nil_append]
  rw [exT_make]
  dsimp only
  refine XO.q (Q.move rfl) ?_
  refine XO.q (Q.extract rfl rfl) ?_
  refine XO.q (Q.extract rfl rfl) ?_
  refine XO.alloc fun b5 => ?_
  refine XO.st rfl rfl rfl ?_
  refine XO.q (Q.assign rfl) ?_
  refine XO.done ?_
  refine XK.seq ?_
  refine XK.region rfl ?_
  refine XO.q (Q.move rfl) ?_
  refine XO.q (Q.eql rfl rfl) ?_
  refine XO.q (Q.move rfl) ?_
  refine XO.q (Quiet.guardT rfl rfl fun g29 p29 => Q.move rfl) ?_
  refine XO.q (Quiet.guardT rfl rfl fun g30 p30 => Q.eql (lzv rfl rfl) rfl) ?_
  refine XO.q (Q.and rfl (fun hp => lzv hp rfl)) ?_
  refine XO.q (Q.move rfl) ?_
  refine XO.q (Quiet.guardT rfl rfl fun g33 p33 => Q.move rfl) ?_
  refine XO.q (Quiet.guardT rfl rfl fun g34 p34 => Q.eql (lzv rfl rfl) rfl) ?_
  refine XO.q (Q.and rfl (fun hp => lzv hp rfl)) ?_
  refine XO.q (Q.move rfl) ?_
  refine XO.q (Quiet.guardT rfl rfl fun g37 p37 => Q.move rfl) ?_
  refine XO.litG [_] [_] [0] encI rfl rfl rfl (by rfl) (by rfl) rfl (by rfl) (by exact .c 0 1 rfl rfl rfl (.n _)) (fun _ => rfl) (by rfl) rfl (by infer_instance) rfl fun v38 h38 O38 => ?_
  refine XO.litG [_] [_] [1] encI rfl rfl rfl (by rfl) (by rfl) rfl (by rfl) (by exact .c 0 1 rfl rfl rfl (.n _)) (fun _ => rfl) (by rfl) rfl (by infer_instance) rfl fun v39 h39 O39 => ?_
  refine XO.litG [_] [_] [2] encI rfl rfl rfl (by rfl) (by rfl) rfl (by rfl) (by exact .c 0 1 rfl rfl rfl (.n _)) (fun _ => rfl) (by rfl) rfl (by infer_instance) rfl fun v40 h40 O40 => ?_
  refine XO.litG [_, _, _] [_, _, _] [v38, v39, v40] encV rfl rfl rfl (by rfl) (by rfl) rfl (by rfl) (by exact .c 0 1 rfl rfl rfl (.c 1 1 rfl rfl rfl (.c 2 1 rfl rfl rfl (.n _)))) (fun _ => rfl) (by rfl) rfl (by infer_instance) rfl fun v41 h41 O41 => ?_
  refine XO.cat h39 h40 fun l39 l40 => ?_
  refine XO.cat h38 (cat h39 h40) fun l38 l3940 => ?_
  have r41 : RowsK [v38, v39, v40] (cat h38 (cat h39 h40)) [[0], [1], [2]] := ⟨rfl, fun i hi => by
      match i, hi with
      | 0, _ => exact Arr.le_heap (OArr.arr (s := O38)) l38
      | 1, _ => exact Arr.le_heap (OArr.arr (s := O39)) (l39.trans l3940)
      | 2, _ => exact Arr.le_heap (OArr.arr (s := O40)) (l40.trans l3940)⟩
  refine XO.callS rfl rfl rfl Try.call50 rfl (.c (lzv rfl rfl) (.c rfl .n)) rfl (sameLists x9 v41 y9 h41 K9 (cat h38 (cat h39 h40)) us9 [v38, v39, v40] [[0], [1], [2]] [[0], [1], [2]] R9 r41) fun v42 s42 R42 => ?_
  obtain ⟨rfl, rfl⟩ := R42
  dsimp only [List.cons_append, List.nil_append]
  refine XO.q (Q.and rfl (fun _ => rfl)) ?_
  refine XO.q (Q.move rfl) ?_
  refine XO.q (Quiet.guardT rfl rfl fun g45 p45 => Q.move rfl) ?_
  refine XO.litG [_, _, _] [_, _, _] [100, 45, 50] encI rfl rfl rfl (by rfl) (by rfl) rfl (by rfl) (by exact .c 0 1 rfl rfl rfl (.c 1 1 rfl rfl rfl (.c 2 1 rfl rfl rfl (.n _)))) (fun _ => rfl) (by rfl) rfl (by infer_instance) rfl fun v46 h46 O46 => ?_
  refine XO.callS rfl rfl rfl Try.call51 rfl (.c (lzv rfl rfl) (.c rfl .n)) rfl (equalI x15 v46 y15 h46 [100, 45, 50] [100, 45, 50]) fun v47 s47 R47 => ?_
  obtain ⟨rfl, rfl⟩ := R47
  dsimp only [List.cons_append, List.nil_append]
  refine XO.q (Q.and rfl (fun _ => rfl)) ?_
  refine XO.q (Q.move rfl) ?_
  refine XO.q (Quiet.guardT rfl rfl fun g50 p50 => Q.ldA [_, _, _, _] rfl rfl rfl) ?_
  refine XO.q (Quiet.guardT rfl rfl fun g51 p51 => Q.build [_, _, _, _] (.c 0 1 rfl rfl rfl (.c 1 1 rfl rfl rfl (.c 2 1 rfl rfl rfl (.c 3 1 rfl rfl rfl (.n _)))))) ?_
  refine XO.q (Quiet.guardT rfl rfl fun g52 p52 => Q.eqlS (us := [_, _, _, _]) (vs := [_, _, _, _]) (lzv rfl rfl) (lzv rfl rfl) inferInstance (by kernel_rfl) (by kernel_rfl) (.c rfl inferInstance inferInstance rfl rfl (.c rfl inferInstance inferInstance rfl rfl (.c rfl inferInstance inferInstance rfl rfl (.c rfl inferInstance inferInstance rfl rfl .n))))) ?_
  refine XO.q (Q.and rfl (fun hp => lzv hp rfl)) ?_
  refine XO.q (Q.assign rfl) ?_
  refine XO.done ?_
  refine XK.rt [] Try.func13 Try.results13 (.t rfl .n) ?_
  exact ⟨rfl, rfl⟩
end Go.X

set_option linter.unusedSimpArgs false
set_option linter.unusedVariables false
set_option maxRecDepth 20000
namespace Go.X
open Go.Proofs
def encRd (x : MRd) : List Value := [.int .i64 x.meter, .int .i64 x.hour, .int .i64 x.value]
def encLink (x : MLink) : List Value := [.int .i64 x.rd.meter, .int .i64 x.rd.hour, .int .i64 x.rd.value, .int .u64 x.sign]
def encU64 (x : Int) : List Value := [.int .u64 x]
instance : KeyT Try.prog 161 encK2 := KeyT.pair Try.underlying161 inferInstance inferInstance inferInstance inferInstance
instance : KeyT Try.prog 3 encK1 := KeyT.int Try.underlying3
theorem Mix_spec (x y : Int) : Spec Try.prog 29 #[.int .u64 x, .int .u64 y] [] [] (fun v hs => v = .int .u64 (mixP x y) ∧ hs = []) := by
  refine Spec.intro (fn := Try.f29) (N := 19) Try.func29 rfl Try.ntmps29 rfl fun B => ?_
  refine XK.seq ?_
  refine XK.region rfl ?_
  refine XO.q (Q.assign rfl) ?_
  refine XO.done ?_
  refine XK.seq ?_
  refine XK.region rfl ?_
  refine XO.q (Q.move rfl) ?_
  refine XO.q (Q.move rfl) ?_
  refine XO.q (Q.xorW rfl rfl) ?_
  refine XO.q (Q.mulW rfl rfl) ?_
  refine XO.q (Q.assign rfl) ?_
  refine XO.done ?_
  refine XK.seq ?_
  refine XK.region rfl ?_
  refine XO.q (Q.move rfl) ?_
  refine XO.q (Q.move rfl) ?_
  refine XO.q (Q.shrW rfl rfl (by omega)) ?_
  refine XO.q (Q.xorW rfl rfl) ?_
  refine XO.q (Q.mulW rfl rfl) ?_
  refine XO.q (Q.assign rfl) ?_
  refine XO.done ?_
  refine XK.seq ?_
  refine XK.region rfl ?_
  refine XO.q (Q.move rfl) ?_
  refine XO.q (Q.move rfl) ?_
  refine XO.q (Q.shrW rfl rfl (by omega)) ?_
  refine XO.q (Q.xorW rfl rfl) ?_
  refine XO.q (Q.assign rfl) ?_
  refine XO.done ?_
  refine XK.rt [] Try.func29 Try.results29 (.t rfl .n) ?_
  exact ⟨rfl, rfl⟩
theorem begin_spec (key : Int) : Spec Try.prog 67 #[.int .u64 key] [] [] (fun v hs => ∃ b m, v = ptr b 0 ∧ hs = [blk b [.int .u64 key, .int .u64 (mixP key 1), .map (some m)] 193, mapH m encK2 (seenL [])]) := by
  refine Spec.intro (fn := Try.f67) (N := 9) Try.func67 rfl Try.ntmps67 rfl fun B => ?_
  refine XK.seq ?_
  refine XK.region rfl ?_
  refine XO.q (Q.assign rfl) ?_
  refine XO.done ?_
  refine XK.seq ?_
  refine XK.region rfl ?_
  refine XO.q (Q.move rfl) ?_
  refine XO.q (Q.move rfl) ?_
  refine XO.call Try.call29 rfl rfl rfl (Mix_spec _ _) fun v5 s5 R5 => ?_
  obtain ⟨rfl, rfl⟩ := R5
  dsimp only [List.cons_append, List.nil_append]
  refine XO.map encK2 fun b6 => ?_
  refine XO.q (Q.build [_, _, _] (.c 0 1 rfl rfl rfl (.c 1 1 rfl rfl rfl (.c 2 1 rfl rfl rfl (.n _))))) ?_
  refine XO.box rfl fun b8 => ?_
  refine XO.q (Q.assign rfl) ?_
  refine XO.done ?_
  refine XK.rt [blk b8 [.int .u64 key, .int .u64 (mixP key 1), .map (some b6)] 193, mapH b6 encK2 []] Try.func67 Try.results67 (.t rfl .n) ?_
  exact ⟨b8, b6, rfl, rfl⟩
def partR (key : Int) (r : MRd) : List Int := [u64 r.meter, u64 r.hour, u64 r.value, key]
def mixTo (last key : Int) (r : MRd) : Nat → Int
  | 0 => last
  | j + 1 => mixP (mixTo last key r j) ((partR key r).getD j default)
theorem mixTo_all (last key : Int) (r : MRd) : mixTo last key r 4 = sigP key last r := rfl
theorem put_spec (b m : Nat) (key last : Int) (rs : List MRd) (r : MRd) : Spec Try.prog 68 #[ptr b 0, .agg #[.int .i64 r.meter, .int .i64 r.hour, .int .i64 r.value]] [blk b [.int .u64 key, .int .u64 last, .map (some m)] 193, mapH m encK2 (seenL rs)] []
    (fun v hs => v = .tuple #[.int .u64 (if errR rs r = 0 then sigP key last r else 0), .int .i64 (errR rs r)] ∧ hs = [blk b [.int .u64 key, .int .u64 (if errR rs r = 0 then sigP key last r else last), .map (some m)] 193, mapH m encK2 (seenL (if errR rs r = 0 then rs ++ [r] else rs))]) := by
  have pl : (partR key r).length = 4 := rfl
  refine Spec.intro (fn := Try.f68) (N := 72) Try.func68 rfl Try.ntmps68 rfl fun B => ?_
  refine XK.seq ?_
  refine XK.region rfl ?_
  refine XO.box rfl fun b3 => ?_
  refine XO.q (Q.assign rfl) ?_
  refine XO.q (Q.assign rfl) ?_
  refine XO.done ?_
  refine XK.seq ?_
  refine XK.seq ?_
  refine XK.region rfl ?_
  refine XO.q (Q.fieldAddr rfl) ?_
  refine XO.q (Q.ld rfl rfl) ?_
  refine XO.lit [_] [_] [r.meter] encI (by rfl) (by rfl) rfl (by rfl) (by exact .c 0 1 rfl rfl rfl (.n _)) (fun _ => rfl) (by rfl) rfl (by infer_instance) rfl fun v11 h11 O11 => ?_
  refine XO.call Try.call47 rfl rfl rfl (in_spec11 63 v11 h11 [r.meter]) fun v12 s12 R12 => ?_
  obtain ⟨rfl, rfl⟩ := R12
  dsimp only [List.cons_append, List.nil_append]
  refine XO.q (Q.not rfl) ?_
  refine XO.q (Q.move rfl) ?_
  refine XO.q (Quiet.guardF rfl rfl fun g15 p15 => Q.fieldAddr rfl) ?_
  refine XO.q (Quiet.guardF rfl rfl fun g16 p16 => Q.ld (lzv g16 rfl) rfl) ?_
  refine XO.q (Quiet.guardF rfl rfl fun g17 p17 => Q.fieldAddr rfl) ?_
  refine XO.q (Quiet.guardF rfl rfl fun g18 p18 => Q.ld (lzv g18 rfl) rfl) ?_
  refine XO.lit1 [_, _] [_, _] [r.hour, r.value] encI rfl rfl (by rfl) (by rfl) rfl (by rfl) (fun g19 => by exact .c 0 1 (lzv g19 rfl) rfl rfl (.c 1 1 (lzv g19 rfl) rfl rfl (.n _))) (fun _ => rfl) (by rfl) rfl (fun _ => by infer_instance) rfl (fun v19 h19 O19 => ?_)
  refine XO.gcallF rfl rfl Try.call47 rfl (fun g20 => .c rfl (.c (lzv g20 rfl) .n)) rfl (fun g20 p20 => by haveI := O19 g20; exact in_spec11 1000000000 v19 h19 [r.hour, r.value]) ?_
  refine XO.q (Quiet.guardF rfl rfl fun g21 p21 => Q.not (lzv g21 rfl)) ?_
  refine XO.q (Q.or rfl (fun hp => lzv hp rfl)) ?_
  refine XO.done ?_
  refine XK.if rfl (fun c0 => ?_) (fun c0 => ?_)
  · have _t0 := True.intro
    refine XK.seq ?_
    refine XK.region rfl ?_
    refine XO.q (Q.assign rfl) ?_
    refine XO.q (Q.assign rfl) ?_
    refine XO.done ?_
    refine XK.rt [blk b [.int .u64 key, .int .u64 last, .map (some m)] 193, mapH m encK2 (seenL rs)] Try.func68 Try.results68 (.t rfl (.t rfl .n)) ?_
    have e : errR rs r = 6 := by rw [errR, if_pos (show badRd r from c0)]
    rw [e]
    exact ⟨rfl, rfl⟩
  · have _t0 := True.intro
    refine XK.skip ?_
    refine XK.seq ?_
    refine XK.region rfl ?_
    refine XO.q (Q.fieldAddr rfl) ?_
    refine XO.q (Q.ld rfl rfl) ?_
    refine XO.q (Q.fieldAddr rfl) ?_
    refine XO.q (Q.ld rfl rfl) ?_
    refine XO.q (Q.build [_, _] (.c 0 1 rfl rfl rfl (.c 1 1 rfl rfl rfl (.n _)))) ?_
    refine XO.alloc fun b6 => ?_
    refine XO.st rfl rfl rfl ?_
    refine XO.done ?_
    refine XK.seq ?_
    refine XK.seq ?_
    refine XK.drawn [0, 1, 2, 3, 4] [b, b6] [] (.q 0 (.q 1 (.q 2 (.q 3 (.q 4 (.br 5 true .done .stop)))))) Try.mixed rfl (by kernel_rfl) ?_
    refine XT.q rfl rfl (Q.move rfl) ?_
    refine XT.q rfl rfl (Q.nilCheck rfl) ?_
    refine XT.q rfl rfl (Q.fieldAddr rfl) ?_
    refine XT.q rfl rfl (Q.ld rfl rfl) ?_
    refine XT.q rfl rfl (Q.ldA [_, _] rfl rfl rfl) ?_
    refine XT.qs rfl rfl (Q.lookup _ Try.zeroValue4 (keyR r) rfl rfl) ⟨inferInstance, ?_⟩ XT.stop
    rw [get_seen]
    refine XT.done ?_
    refine XK.if rfl (fun c1 => ?_) (fun c1 => ?_)
    · have _t1 := True.intro
      refine XK.seq ?_
      refine XK.region rfl ?_
      refine XO.q (Q.assign rfl) ?_
      refine XO.q (Q.assign rfl) ?_
      refine XO.done ?_
      refine XK.rt [blk b [.int .u64 key, .int .u64 last, .map (some m)] 193, mapH m encK2 (seenL rs)] Try.func68 Try.results68 (.t rfl (.t rfl .n)) ?_
      have e : errR rs r = 110 := by rw [errR, if_neg (show ¬ badRd r from c0), if_pos c1]
      rw [e]
      exact ⟨rfl, rfl⟩
    · have _t1 := True.intro
      refine XK.skip ?_
      refine XK.seq ?_
      refine XK.drawn [0, 1, 2, 3, 4] [b, b6] [] (.q 0 (.q 1 (.q 2 (.q 3 (.q 4 (.br 5 false .done .stop)))))) Try.mixed rfl (by kernel_rfl) ?_
      refine XT.q rfl rfl (Q.move rfl) ?_
      refine XT.q rfl rfl (Q.nilCheck rfl) ?_
      refine XT.q rfl rfl (Q.fieldAddr rfl) ?_
      refine XT.q rfl rfl (Q.ld rfl rfl) ?_
      refine XT.q rfl rfl (Q.ldA [_, _] rfl rfl rfl) ?_
      refine XT.mapUpdate rfl rfl (keyR r) rfl rfl rfl ⟨inferInstance, ?_⟩ XT.stop
      rw [put_seen (Bool.eq_false_iff.2 c1)]
      refine XT.done ?_
      refine XK.seq ?_
      refine XK.seq ?_
      refine XK.drawn [0, 1, 2, 3, 4, 5, 6, 7, 8, 9, 10, 11, 12, 15, 14] [b3, b] [] (.q 0 (.q 1 (.q 2 (.q 3 (.q 4 (.q 5 (.q 6 (.q 7 (.q 8 (.q 9 (.q 10 (.q 11 (.q 12 (.q 15 (.br 13 true (.q 14 .done) .stop))))))))))))))) Try.mixed rfl (by kernel_rfl) ?_
      refine XT.q rfl rfl (Q.fieldAddr rfl) ?_
      refine XT.q rfl rfl (Q.ld rfl rfl) ?_
      refine XT.q rfl rfl (Q.conv rfl) ?_
      refine XT.q rfl rfl (Q.fieldAddr rfl) ?_
      refine XT.q rfl rfl (Q.ld rfl rfl) ?_
      refine XT.q rfl rfl (Q.conv rfl) ?_
      refine XT.q rfl rfl (Q.fieldAddr rfl) ?_
      refine XT.q rfl rfl (Q.ld rfl rfl) ?_
      refine XT.q rfl rfl (Q.conv rfl) ?_
      refine XT.q rfl rfl (Q.move rfl) ?_
      refine XT.q rfl rfl (Q.nilCheck rfl) ?_
      refine XT.q rfl rfl (Q.fieldAddr rfl) ?_
      refine XT.q rfl rfl (Q.ld rfl rfl) ?_
      refine XT.q rfl rfl (Q.move rfl) ?_
      refine XT.lit [_, _, _, _] [_, _, _, _] (partR key r) encU64 rfl rfl (by rfl) (by rfl) rfl (by rfl) (by exact .c 0 1 rfl rfl rfl (.c 1 1 rfl rfl rfl (.c 2 1 rfl rfl rfl (.c 3 1 rfl rfl rfl (.n _))))) (fun _ => rfl) (by rfl) rfl (by infer_instance) rfl (fun v52 h52 O52 => ⟨inferInstance, ?_⟩) XT.stop
      refine XT.q rfl rfl (Q.len rfl) ?_
      refine XT.done ?_
      refine XK.block ?_
      refine XK.while (X := Nat) [8, 54, 55, 56, 57, 58, 59, 60, 61, 62, 63, 64, 65, 66, 67] (fun i => [(54, some (.int .i64 (i : Nat)))]) (fun i => [blk b [.int .u64 key, .int .u64 (mixTo last key r (i)), .map (some m)] 193]) (fun i => i ≤ 4) (fun i => 4 - i) (0) [blk b [.int .u64 key, .int .u64 last, .map (some m)] 193] rfl (by omega) (.c rfl (.base 0 rfl rfl)) ?_
      rintro i hi ih0
      dsimp only [List.cons_append, List.nil_append] at ih0 ⊢
      refine XK.seq ?_
      refine XK.region rfl ?_
      refine XO.q (Q.lss rfl rfl) ?_
      refine XO.done ?_
      refine XK.seq ?_
      refine XK.if rfl (fun c2 => ?_) (fun c2 => ?_)
      · have _t2 := True.intro
        refine XK.skip ?_
        refine XK.seq ?_
        refine XK.block ?_
        refine XK.seq ?_
        refine XK.region rfl ?_
        refine XO.ix rfl rfl (by omega) (by omega) fun i56 => ?_
        refine XO.q (Q.ldE rfl (by first | assumption | omega) rfl) ?_
        refine XO.q (Q.assign rfl) ?_
        refine XO.done ?_
        refine XK.region rfl ?_
        refine XO.q (Q.move rfl) ?_
        refine XO.q (Q.move rfl) ?_
        refine XO.q (Q.nilCheck rfl) ?_
        refine XO.q (Q.fieldAddr rfl) ?_
        refine XO.q (Q.ld rfl rfl) ?_
        refine XO.q (Q.move rfl) ?_
        refine XO.call Try.call29 rfl rfl rfl (Mix_spec _ _) fun v64 s64 R64 => ?_
        obtain ⟨rfl, rfl⟩ := R64
        dsimp only [List.cons_append, List.nil_append]
        rw [show mixP (mixTo last key r (i)) ((partR key r).getD i default) = (mixTo last key r (i + 1)) from rfl]
        refine XO.q (Q.nilCheck rfl) ?_
        refine XO.q (Q.fieldAddr rfl) ?_
        refine XO.st rfl rfl rfl ?_
        refine XO.done ?_
        refine XK.inBlock ?_
        refine XK.region rfl ?_
        refine XO.q (Q.add rfl rfl ⟨by omega, by omega⟩) ?_
        refine XO.q (Q.move rfl) ?_
        refine XO.done ?_
        exact ih0 (i + 1) _ _ (by omega) (by first | omega | (dsimp only; omega)) (.c rfl (.base 31 rfl rfl)) inferInstance
      · have _t2 := True.intro
        have hi4 : i = 4 := by omega
        subst hi4
        rw [mixTo_all]
        refine XK.exit rfl ?_
        refine XK.seq ?_
        refine XK.region rfl ?_
        refine XO.q (Q.move rfl) ?_
        refine XO.q (Q.nilCheck rfl) ?_
        refine XO.q (Q.fieldAddr rfl) ?_
        refine XO.q (Q.ld rfl rfl) ?_
        refine XO.q (Q.assign rfl) ?_
        refine XO.q (Q.assign rfl) ?_
        refine XO.done ?_
        refine XK.rt [blk b [.int .u64 key, .int .u64 (sigP key last r), .map (some m)] 193, mapH m encK2 (seenL (rs ++ [r]))] Try.func68 Try.results68 (.t rfl (.t rfl .n)) ?_
        have e : errR rs r = 0 := by rw [errR, if_neg (show ¬ badRd r from c0), if_neg c1]
        rw [e, if_pos rfl, if_pos rfl, if_pos rfl]
        exact ⟨rfl, rfl⟩
end Go.X

set_option linter.unusedSimpArgs false
set_option linter.unusedVariables false
set_option maxRecDepth 20000
namespace Go.X
open Go.Proofs
theorem lastS_succ (key : Int) (l : List MRd) (i : Nat) : lastS key l (i + 1) = sigP key (lastS key l i) (l.getD i default) := by rw [lastS]
theorem rds_len (ls : List MLink) : (rdsL ls).length = ls.length := by rw [rdsL, List.length_map]
theorem badRd_rng {r : MRd} (h : ¬ badRd r) : (0 ≤ r.meter ∧ r.meter ≤ 63) ∧ (0 ≤ r.hour ∧ r.hour ≤ 1000000000) ∧ 0 ≤ r.value ∧ r.value ≤ 1000000000 := by
  unfold badRd at h
  simp only [not_or, Classical.not_not] at h
  exact ⟨inA_one.1 h.1, inA_two.1 h.2⟩
theorem errAt_rng {l : List MRd} {i : Nat} (h : errAt l i = 0) : 0 ≤ (l.getD i default).value ∧ (l.getD i default).value ≤ 1000000000 := by
  unfold errAt errR at h
  split at h
  · cases h
  · rename_i h2
    exact (badRd_rng h2).2.2
theorem sumM_rng {rs : List MRd} {m : Int} {n : Nat} (h : ∀ j, j < n → 0 ≤ (rs.getD j default).value ∧ (rs.getD j default).value ≤ 1000000000) : 0 ≤ sumM rs m n ∧ sumM rs m n ≤ n * 1000000000 := by
  have h1 : ∀ j, j < n → 0 ≤ meterV rs m j ∧ meterV rs m j ≤ 1000000000 := fun j hj => by
    have := h j hj
    unfold meterV; split <;> omega
  exact ⟨sum_nonneg fun j hj => (h1 j hj).1, sum_le fun j hj => (h1 j hj).2⟩
theorem chk_err {key : Int} {ls : List MLink} {sg : Bool} {i : Nat} (h : chkF key ls sg i = 0) : errAt (rdsL ls) i = 0 := by
  unfold chkF at h
  split at h
  · rename_i h1; exact absurd h h1
  · rename_i h1; exact Decidable.of_not_not h1
theorem check_fine {key : Int} {ls : List MLink} {sg : Bool} (h : (checkG key ls sg).2 = 0) : ls.length ≤ 4096 ∧ ∀ j, j < ls.length → chkF key ls sg j = 0 := by
  unfold checkG at h
  split at h
  · cases h
  · rename_i h1
    split at h
    · rename_i i hi
      exfalso
      have key2 : ∀ {n : Nat}, scanTo (chkF key ls sg) n = some i → chkF key ls sg i ≠ 0 := by
        intro n
        induction n with
        | zero => intro h; cases h
        | succ n ih =>
          intro h
          rw [scanTo] at h
          split at h
          · rename_i j hj; cases h; exact ih hj
          · split at h
            · rename_i h3; cases h; exact h3
            · cases h
      exact key2 hi h
    · rename_i h2
      exact ⟨by omega, scan_none h2⟩
theorem Sign_spec (key : Int) (l : List MRd) (vl : Value) (hl : PHeap) [jl : Arr vl encRd 3 hl l] : Spec Try.prog 23 #[.int .u64 key, vl] [] [hl] (fun v hs => ∃ v1 k1, v = .tuple #[v1, .int .i64 (signG key l).2] ∧ hs = [k1] ∧ OArr v1 encLink 4 76 k1 (signG key l).1) := by
  have ll := jl.le
  have nL : OArr (.slice none 0 0) encLink 4 76 emp ([] : List MLink) := OArr.nil (fun _ => rfl)
  refine Spec.intro (fn := Try.f23) (N := 40) Try.func23 rfl Try.ntmps23 rfl fun B => ?_
  refine XK.seq ?_
  refine XK.region rfl ?_
  refine XO.q (Q.assign rfl) ?_
  refine XO.q (Q.assign rfl) ?_
  refine XO.done ?_
  refine XK.seq ?_
  refine XK.seq ?_
  refine XK.region rfl ?_
  refine XO.q (Q.move rfl) ?_
  refine XO.len rfl fun l13 => ?_
  refine XO.q (Q.gtr rfl rfl) ?_
  refine XO.done ?_
  refine XK.if rfl (fun c0 => ?_) (fun c0 => ?_)
  · have _t0 := True.intro
    refine XK.seq ?_
    refine XK.region rfl ?_
    refine XO.q (Q.assign rfl) ?_
    refine XO.q (Q.assign rfl) ?_
    refine XO.done ?_
    refine XK.rt [emp] Try.func23 Try.results23 (.t rfl (.t rfl .n)) ?_
    have e : signG key l = ([], 2) := by rw [signG, if_pos (by omega)]
    rw [e]
    exact ⟨.slice none 0 0, emp, rfl, rfl, nL⟩
  · have _t0 := True.intro
    refine XK.skip ?_
    refine XK.seq ?_
    refine XK.region rfl ?_
    refine XO.q (Q.move rfl) ?_
    refine XO.call Try.call67 rfl rfl rfl (begin_spec key) fun v16 s16 R16 => ?_
    obtain ⟨bS, mS, rfl, rfl⟩ := R16
    dsimp only [List.cons_append, List.nil_append]
    refine XO.q (Q.assign rfl) ?_
    refine XO.done ?_
    refine XK.seq ?_
    refine XK.region rfl ?_
    refine XO.q (Q.assign rfl) ?_
    refine XO.done ?_
    refine XK.seq ?_
    refine XK.seq ?_
    refine XK.region rfl ?_
    refine XO.q (Q.move rfl) ?_
    refine XO.len rfl fun l18 => ?_
    refine XO.q (Q.move rfl) ?_
    refine XO.done ?_
    refine XK.block ?_
    refine XK.while (X := Nat × Value × PHeap) [4, 5, 7, 9, 10, 11, 19, 20, 21, 22, 23, 24, 25, 26, 27, 28, 29, 30, 31, 32, 33, 34, 35, 36, 37, 38] (fun ⟨i, vo, ko⟩ => [(7, some (vo)), (19, some (.int .i64 (i : Nat)))]) (fun ⟨i, vo, ko⟩ => [blk bS [.int .u64 key, .int .u64 (lastS key l (i)), .map (some mS)] 193, mapH mS encK2 (seenL (l.take i)), ko]) (fun ⟨i, vo, ko⟩ => i ≤ l.length ∧ OArr vo encLink 4 76 ko (links key l i) ∧ ∀ j, j < i → errAt l j = 0) (fun ⟨i, vo, ko⟩ => l.length - i) (0, .slice none 0 0, emp) [blk bS [.int .u64 key, .int .u64 (mixP key 1), .map (some mS)] 193, mapH mS encK2 (seenL []), emp] rfl ⟨by omega, nL, fun j hj => by omega⟩ (.c rfl (.c rfl (.base 0 rfl rfl))) ?_
    rintro ⟨i, vo, ko⟩ ⟨hi, OO, he⟩ ih0
    dsimp only [List.cons_append, List.nil_append] at ih0 ⊢
    have kl := links_len key l i
    refine XK.seq ?_
    refine XK.region rfl ?_
    refine XO.q (Q.lss rfl rfl) ?_
    refine XO.done ?_
    refine XK.seq ?_
    refine XK.if rfl (fun c1 => ?_) (fun c1 => ?_)
    · have _t1 := True.intro
      refine XK.skip ?_
      refine XK.seq ?_
      refine XK.block ?_
      refine XK.seq ?_
      refine XK.region rfl ?_
      refine XO.ix rfl rfl (by omega) (by omega) fun i21 => ?_
      refine XO.q (Q.ldEA [_, _, _] rfl (by first | assumption | omega) rfl rfl) ?_
      refine XO.alloc fun b9 => ?_
      refine XO.st rfl rfl rfl ?_
      refine XO.done ?_
      refine XK.seq ?_
      refine XK.region rfl ?_
      refine XO.q (Q.move rfl) ?_
      refine XO.q (Q.ldA [_, _, _] rfl rfl rfl) ?_
      refine XO.call Try.call68 rfl rfl rfl (put_spec bS mS key (lastS key l (i)) (l.take i) (l.getD i default)) fun v26 s26 R26 => ?_
      obtain ⟨rfl, rfl⟩ := R26
      dsimp only [List.cons_append, List.nil_append]
      rw [show errR (l.take i) (l.getD i default) = errAt l i from rfl]
      refine XO.q (Q.move rfl) ?_
      refine XO.q (Q.extract rfl rfl) ?_
      refine XO.q (Q.extract rfl rfl) ?_
      refine XO.q (Q.assign rfl) ?_
      refine XO.q (Q.assign rfl) ?_
      refine XO.done ?_
      refine XK.seq ?_
      refine XK.seq ?_
      refine XK.region rfl ?_
      refine XO.q (Q.move rfl) ?_
      refine XO.q (Q.neq rfl rfl) ?_
      refine XO.done ?_
      refine XK.if rfl (fun c2 => ?_) (fun c2 => ?_)
      · have _t2 := True.intro
        refine XK.seq ?_
        refine XK.region rfl ?_
        refine XO.q (Q.move rfl) ?_
        refine XO.q (Q.assign rfl) ?_
        refine XO.q (Q.assign rfl) ?_
        refine XO.done ?_
        refine XK.rt [emp] Try.func23 Try.results23 (.t rfl (.t rfl .n)) ?_
        have e : signG key l = ([], errAt l i) := by rw [signG, if_neg (by omega), scan_here he c2 (by omega)]
        rw [e]
        exact ⟨.slice none 0 0, emp, rfl, rfl, nL⟩
      · have _t2 := True.intro
        have ez := Decidable.of_not_not c2
        rw [if_pos ez, if_pos ez, if_pos ez, ← lastS_succ, ← take_snocR (show i < l.length by omega)]
        refine XK.skip ?_
        refine XK.region rfl ?_
        refine XO.q (Q.move rfl) ?_
        refine XO.q (Q.ldA [_, _, _] rfl rfl rfl) ?_
        refine XO.q (Q.move rfl) ?_
        refine XO.q (Q.build [_, _, _, _] (.c 0 3 rfl rfl rfl (.c 3 1 rfl rfl rfl (.n _)))) ?_
        refine XO.lit [_, _, _, _] [_, _, _, _] [linkAt key l i] encLink (by rfl) (by rfl) rfl (by rfl) (by exact .c 0 4 rfl rfl rfl (.n _)) (fun _ => rfl) (by rfl) rfl (by infer_instance) rfl fun v36 h36 O36 => ?_
        refine XO.append rfl rfl rfl rfl (by first | omega | (simp; omega)) fun v37 h37 O37 => ?_
        refine XO.q (Q.assign rfl) ?_
        refine XO.done ?_
        refine XK.inBlock ?_
        refine XK.region rfl ?_
        refine XO.q (Q.add rfl rfl ⟨by omega, by omega⟩) ?_
        refine XO.q (Q.move rfl) ?_
        refine XO.done ?_
        exact ih0 (i + 1, v37, h37) _ _ ⟨by dsimp only; omega, by dsimp only; rw [links_snoc]; exact O37, fun j hj => (by rcases Nat.lt_or_ge j i with h3 | h3; exact he j h3; obtain rfl : j = i := (by dsimp only at hj; omega); exact ez)⟩ (by first | omega | (dsimp only; omega)) (.c rfl (.c rfl (.base 51 rfl rfl))) inferInstance
    · have _t1 := True.intro
      refine XK.exit rfl ?_
      refine XK.seq ?_
      refine XK.region rfl ?_
      refine XO.q (Q.move rfl) ?_
      refine XO.q (Q.assign rfl) ?_
      refine XO.q (Q.assign rfl) ?_
      refine XO.done ?_
      refine XK.rt [ko] Try.func23 Try.results23 (.t rfl (.t rfl .n)) ?_
      have hin : i = l.length := by omega
      subst hin
      have e : signG key l = (links key l l.length, 0) := by rw [signG, if_neg (by omega), scan_all he]
      rw [e]
      exact ⟨vo, ko, rfl, rfl, OO⟩
theorem check_spec (key : Int) (ls : List MLink) (vl : Value) (hl : PHeap) [jl : Arr vl encLink 4 hl ls] (sg : Bool) : Spec Try.prog 69 #[.int .u64 key, vl, .bool sg] [] [hl] (fun v hs => v = .tuple #[.int .i64 (checkG key ls sg).1, .int .i64 (checkG key ls sg).2] ∧ hs = []) := by
  have ll := jl.le
  have rl := rds_len ls
  refine Spec.intro (fn := Try.f69) (N := 50) Try.func69 rfl Try.ntmps69 rfl fun B => ?_
  refine XK.seq ?_
  refine XK.region rfl ?_
  refine XO.q (Q.assign rfl) ?_
  refine XO.q (Q.assign rfl) ?_
  refine XO.done ?_
  refine XK.seq ?_
  refine XK.seq ?_
  refine XK.region rfl ?_
  refine XO.q (Q.move rfl) ?_
  refine XO.len rfl fun l14 => ?_
  refine XO.q (Q.gtr rfl rfl) ?_
  refine XO.done ?_
  refine XK.if rfl (fun c0 => ?_) (fun c0 => ?_)
  · have _t0 := True.intro
    refine XK.seq ?_
    refine XK.region rfl ?_
    refine XO.q (Q.assign rfl) ?_
    refine XO.q (Q.assign rfl) ?_
    refine XO.done ?_
    refine XK.rt [] Try.func69 Try.results69 (.t rfl (.t rfl .n)) ?_
    have e : checkG key ls sg = (0, 2) := by rw [checkG, if_pos (by omega)]
    rw [e]
    exact ⟨rfl, rfl⟩
  · have _t0 := True.intro
    refine XK.skip ?_
    refine XK.seq ?_
    refine XK.region rfl ?_
    refine XO.q (Q.move rfl) ?_
    refine XO.call Try.call67 rfl rfl rfl (begin_spec key) fun v17 s17 R17 => ?_
    obtain ⟨bS, mS, rfl, rfl⟩ := R17
    dsimp only [List.cons_append, List.nil_append]
    refine XO.q (Q.assign rfl) ?_
    refine XO.done ?_
    refine XK.seq ?_
    refine XK.seq ?_
    refine XK.region rfl ?_
    refine XO.q (Q.move rfl) ?_
    refine XO.len rfl fun l19 => ?_
    refine XO.q (Q.move rfl) ?_
    refine XO.done ?_
    refine XK.block ?_
    refine XK.while (X := Nat) [6, 7, 9, 10, 11, 12, 20, 21, 22, 23, 24, 25, 26, 27, 28, 29, 30, 31, 32, 33, 34, 35, 36, 37, 38, 39, 40, 41, 42, 43, 44, 45, 46, 47] (fun i => [(20, some (.int .i64 (i : Nat)))]) (fun i => [blk bS [.int .u64 key, .int .u64 (lastS key (rdsL ls) (i)), .map (some mS)] 193, mapH mS encK2 (seenL ((rdsL ls).take i))]) (fun i => i ≤ ls.length ∧ ∀ j, j < i → (chkF key ls sg (j)) = 0) (fun i => ls.length - i) (0) [blk bS [.int .u64 key, .int .u64 (mixP key 1), .map (some mS)] 193, mapH mS encK2 (seenL [])] rfl ⟨by omega, fun j hj => by omega⟩ (.c rfl (.base 0 rfl rfl)) ?_
    rintro i ⟨hi, he⟩ ih0
    dsimp only [List.cons_append, List.nil_append] at ih0 ⊢
    refine XK.seq ?_
    refine XK.region rfl ?_
    refine XO.q (Q.lss rfl rfl) ?_
    refine XO.done ?_
    refine XK.seq ?_
    refine XK.if rfl (fun c1 => ?_) (fun c1 => ?_)
    · have _t1 := True.intro
      refine XK.skip ?_
      refine XK.seq ?_
      refine XK.block ?_
      refine XK.seq ?_
      refine XK.region rfl ?_
      refine XO.q (Q.move rfl) ?_
      refine XO.ix rfl rfl (by omega) (by omega) fun i23 => ?_
      refine XO.q (Q.ldEA [_, _, _, _] rfl (by first | assumption | omega) rfl rfl) ?_
      refine XO.alloc fun b10 => ?_
      refine XO.q (Q.assign rfl) ?_
      refine XO.st rfl rfl rfl ?_
      refine XO.done ?_
      refine XK.seq ?_
      refine XK.region rfl ?_
      refine XO.q (Q.move rfl) ?_
      refine XO.q (Q.fieldAddr rfl) ?_
      refine XO.q (Q.ldA [_, _, _] rfl rfl rfl) ?_
      refine XO.call Try.call68 rfl rfl rfl (put_spec bS mS key (lastS key (rdsL ls) (i)) ((rdsL ls).take i) (ls.getD i default).rd) fun v29 s29 R29 => ?_
      obtain ⟨rfl, rfl⟩ := R29
      dsimp only [List.cons_append, List.nil_append]
      rw [show errR ((rdsL ls).take i) (ls.getD i default).rd = errAt (rdsL ls) i by rw [errAt, rds_at (by omega)]]
      rw [show sigP key (lastS key (rdsL ls) (i)) (ls.getD i default).rd = (lastS key (rdsL ls) (i + 1)) by rw [lastS_succ, rds_at (by omega)]]
      rw [show (rdsL ls).take i ++ [(ls.getD i default).rd] = (rdsL ls).take (i + 1) by rw [take_snocR (by omega), rds_at (by omega)]]
      refine XO.q (Q.move rfl) ?_
      refine XO.q (Q.extract rfl rfl) ?_
      refine XO.q (Q.extract rfl rfl) ?_
      refine XO.q (Q.assign rfl) ?_
      refine XO.q (Q.assign rfl) ?_
      refine XO.done ?_
      refine XK.seq ?_
      refine XK.seq ?_
      refine XK.region rfl ?_
      refine XO.q (Q.move rfl) ?_
      refine XO.q (Q.eql rfl rfl) ?_
      refine XO.q (Q.move rfl) ?_
      refine XO.q (Quiet.guardT rfl rfl fun g35 p35 => Q.move rfl) ?_
      refine XO.q (Q.and rfl (fun hp => lzv hp rfl)) ?_
      refine XO.q (Q.move rfl) ?_
      refine XO.q (Quiet.guardT rfl rfl fun g38 p38 => Q.move rfl) ?_
      refine XO.q (Quiet.guardT rfl rfl fun g39 p39 => Q.fieldAddr rfl) ?_
      refine XO.q (Quiet.guardT rfl rfl fun g40 p40 => Q.ld (lzv g40 rfl) rfl) ?_
      refine XO.q (Quiet.guardT rfl rfl fun g41 p41 => Q.neq (lzv g41 rfl) (lzv g41 rfl)) ?_
      refine XO.q (Q.and rfl (fun hp => lzv hp rfl)) ?_
      refine XO.done ?_
      refine XK.if rfl (fun c2 => ?_) (fun c2 => ?_)
      · have _t2 := True.intro
        have c2a := c2.1.1
        have ck : (chkF key ls sg (i)) = 7 := by
          have h2 := c2.2
          rw [if_pos c2a] at h2
          rw [chkF, if_neg (fun h => h c2a), if_pos ⟨c2.1.2, h2⟩]
        refine XK.region rfl ?_
        refine XO.q (Q.assign rfl) ?_
        refine XO.done ?_
        refine XK.seq ?_
        refine XK.region rfl ?_
        refine XO.q (Q.move rfl) ?_
        refine XO.q (Q.neq rfl rfl) ?_
        refine XO.done ?_
        refine XK.if rfl (fun c3 => ?_) (fun c3 => ?_)
        · have _t3 := True.intro
          refine XK.seq ?_
          refine XK.region rfl ?_
          refine XO.q (Q.move rfl) ?_
          refine XO.q (Q.move rfl) ?_
          refine XO.q (Q.assign rfl) ?_
          refine XO.q (Q.assign rfl) ?_
          refine XO.done ?_
          refine XK.rt [] Try.func69 Try.results69 (.t rfl (.t rfl .n)) ?_
          have e : checkG key ls sg = ((i : Int), 7) := by rw [checkG, if_neg (by omega), scan_here he (by rw [ck]; decide) (by omega)]; dsimp only; rw [ck]
          rw [e]
          exact ⟨rfl, rfl⟩
        · have _t3 := True.intro
          exact absurd (by decide) c3
      · have _t2 := True.intro
        refine XK.skip ?_
        refine XK.seq ?_
        refine XK.region rfl ?_
        refine XO.q (Q.move rfl) ?_
        refine XO.q (Q.neq rfl rfl) ?_
        refine XO.done ?_
        refine XK.if rfl (fun c4 => ?_) (fun c4 => ?_)
        · have _t4 := True.intro
          have ck : (chkF key ls sg (i)) = errAt (rdsL ls) i := by rw [chkF, if_pos c4]
          refine XK.seq ?_
          refine XK.region rfl ?_
          refine XO.q (Q.move rfl) ?_
          refine XO.q (Q.move rfl) ?_
          refine XO.q (Q.assign rfl) ?_
          refine XO.q (Q.assign rfl) ?_
          refine XO.done ?_
          refine XK.rt [] Try.func69 Try.results69 (.t rfl (.t rfl .n)) ?_
          have e : checkG key ls sg = ((i : Int), errAt (rdsL ls) i) := by rw [checkG, if_neg (by omega), scan_here he (by rw [ck]; exact c4) (by omega)]; dsimp only; rw [ck]
          rw [e]
          exact ⟨rfl, rfl⟩
        · have _t4 := True.intro
          have ez := Decidable.of_not_not c4
          have ck : (chkF key ls sg (i)) = 0 := by
            rw [chkF, if_neg c4, if_neg]
            intro h
            exact c2 ⟨⟨ez, h.1⟩, by rw [if_pos ez]; exact h.2⟩
          rw [if_pos ez, if_pos ez, if_pos ez]
          refine XK.skip ?_
          refine XK.inBlock ?_
          refine XK.region rfl ?_
          refine XO.q (Q.add rfl rfl ⟨by omega, by omega⟩) ?_
          refine XO.q (Q.move rfl) ?_
          refine XO.done ?_
          exact ih0 (i + 1) _ _ ⟨by omega, fun j hj => (by rcases Nat.lt_or_ge j i with h3 | h3; exact he j h3; obtain rfl : j = i := (by omega); exact ck)⟩ (by first | omega | (dsimp only; omega)) (.c rfl (.base 65 rfl rfl)) inferInstance
    · have _t1 := True.intro
      refine XK.exit rfl ?_
      refine XK.seq ?_
      refine XK.region rfl ?_
      refine XO.q (Q.move rfl) ?_
      refine XO.len rfl fun l49 => ?_
      refine XO.q (Q.assign rfl) ?_
      refine XO.q (Q.assign rfl) ?_
      refine XO.done ?_
      refine XK.rt [] Try.func69 Try.results69 (.t rfl (.t rfl .n)) ?_
      have hin : i = ls.length := by omega
      subst hin
      have e : checkG key ls sg = ((ls.length : Int), 0) := by rw [checkG, if_neg (by omega), scan_all he]
      rw [e]
      exact ⟨rfl, rfl⟩
theorem Verify_spec (key : Int) (ls : List MLink) (vl : Value) (hl : PHeap) [jl : Arr vl encLink 4 hl ls] : Spec Try.prog 24 #[.int .u64 key, vl] [] [hl] (fun v hs => v = .tuple #[.int .i64 (checkG key ls true).1, .int .i64 (checkG key ls true).2] ∧ hs = []) := by
  refine Spec.intro (fn := Try.f24) (N := 11) Try.func24 rfl Try.ntmps24 rfl fun B => ?_
  refine XK.seq ?_
  refine XK.region rfl ?_
  refine XO.q (Q.assign rfl) ?_
  refine XO.q (Q.assign rfl) ?_
  refine XO.done ?_
  refine XK.seq ?_
  refine XK.region rfl ?_
  refine XO.q (Q.move rfl) ?_
  refine XO.q (Q.move rfl) ?_
  refine XO.call Try.call69 rfl rfl rfl (check_spec key ls vl hl true) fun v8 s8 R8 => ?_
  obtain ⟨rfl, rfl⟩ := R8
  dsimp only [List.cons_append, List.nil_append]
  refine XO.q (Q.extract rfl rfl) ?_
  refine XO.q (Q.extract rfl rfl) ?_
  refine XO.q (Q.assign rfl) ?_
  refine XO.q (Q.assign rfl) ?_
  refine XO.done ?_
  refine XK.rt [] Try.func24 Try.results24 (.t rfl (.t rfl .n)) ?_
  exact ⟨rfl, rfl⟩
end Go.X

set_option linter.unusedSimpArgs false
set_option linter.unusedVariables false
set_option maxRecDepth 20000
namespace Go.X
open Go.Proofs
theorem in11 (n a b : Int) : Spec Try.prog 95 #[.int .i64 n, .int .i64 a, .int .i64 b] [] [] (fun v hs => v = .bool (inF n a b) ∧ hs = []) := by
  refine Spec.intro (fn := Try.f95) (N := 15) Try.func95 rfl Try.ntmps95 rfl fun B => ?_
  refine XK.seq ?_
  refine XK.region rfl ?_
  refine XO.q (Q.assign rfl) ?_
  refine XO.done ?_
  refine XK.seq ?_
  refine XK.region rfl ?_
  refine XO.q (Q.move rfl) ?_
  refine XO.q (Q.move rfl) ?_
  refine XO.q (Q.geq rfl rfl) ?_
  refine XO.q (Q.move rfl) ?_
  refine XO.q (Quiet.guardT rfl rfl fun g11 p11 => Q.move rfl) ?_
  refine XO.q (Quiet.guardT rfl rfl fun g12 p12 => Q.move rfl) ?_
  refine XO.q (Quiet.guardT rfl rfl fun g13 p13 => Q.leq (lzv g13 rfl) (lzv g13 rfl)) ?_
  refine XO.q (Q.and rfl (fun hp => lzv hp rfl)) ?_
  refine XO.q (Q.assign rfl) ?_
  refine XO.done ?_
  refine XK.rt [] Try.func95 Try.results95 (.t rfl .n) ?_
  exact ⟨rfl, rfl⟩
theorem rtariff11 (t : MTariff) (vp vt : Value) (hp ht : PHeap) [jp : Arr vp encI 1 hp t.price] [jt : Arr vt encTier 2 ht t.tiers] : Spec Try.prog 94 #[.agg #[vp, .int .i64 t.base, vt, .int .i64 t.credit]] [] [hp, ht] (fun v hs => v = .int .i64 (rightG t) ∧ hs = []) := by
  have lp := jp.le
  have lt := jt.le
  refine Spec.intro (fn := Try.f94) (N := 76) Try.func94 rfl Try.ntmps94 rfl fun B => ?_
  refine XK.seq ?_
  refine XK.region rfl ?_
  refine XO.box rfl fun b1 => ?_
  refine XO.q (Q.assign rfl) ?_
  refine XO.done ?_
  refine XK.seq ?_
  refine XK.seq ?_
  refine XK.region rfl ?_
  refine XO.q (Q.fieldAddr rfl) ?_
  refine XO.q (Q.ld rfl rfl) ?_
  refine XO.len rfl fun l9 => ?_
  refine XO.q (Q.neq rfl rfl) ?_
  refine XO.done ?_
  refine XK.if rfl (fun c0 => ?_) (fun c0 => ?_)
  · have _t0 := True.intro
    refine XK.seq ?_
    refine XK.region rfl ?_
    refine XO.q (Q.assign rfl) ?_
    refine XO.done ?_
    refine XK.rt [] Try.func94 Try.results94 (.t rfl .n) ?_
    exact ⟨by rw [rightG, if_pos c0], rfl⟩
  · have _t0 := True.intro
    refine XK.skip ?_
    refine XK.seq ?_
    refine XK.seq ?_
    refine XK.region rfl ?_
    refine XO.q (Q.fieldAddr rfl) ?_
    refine XO.q (Q.ld rfl rfl) ?_
    refine XO.len rfl fun l13 => ?_
    refine XO.q (Q.gtr rfl rfl) ?_
    refine XO.done ?_
    refine XK.if rfl (fun c1 => ?_) (fun c1 => ?_)
    · have _t1 := True.intro
      refine XK.seq ?_
      refine XK.region rfl ?_
      refine XO.q (Q.assign rfl) ?_
      refine XO.done ?_
      refine XK.rt [] Try.func94 Try.results94 (.t rfl .n) ?_
      exact ⟨by rw [rightG, if_neg c0, if_pos c1], rfl⟩
    · have _t1 := True.intro
      have pl : t.price.length = 24 := by omega
      refine XK.skip ?_
      refine XK.seq ?_
      refine XK.seq ?_
      refine XK.region rfl ?_
      refine XO.q (Q.assign rfl) ?_
      refine XO.done ?_
      refine XK.block ?_
      refine XK.while (X := Nat) [2, 3, 15, 16, 17, 18, 19, 20, 21, 22, 23, 24, 25] (fun i => [(3, some (.int .i64 (i : Nat)))]) (fun i => []) (fun i => i ≤ 24 ∧ ∀ j, j < i → 0 ≤ t.price.getD j 0 ∧ t.price.getD j 0 ≤ 1000) (fun i => 24 - i) (0) [] rfl ⟨by omega, fun j hj => by omega⟩ (.c rfl (.base 0 rfl rfl)) ?_
      rintro i ⟨hi, hv⟩ ih0
      dsimp only [List.cons_append, List.nil_append] at ih0 ⊢
      refine XK.seq ?_
      refine XK.seq ?_
      refine XK.region rfl ?_
      refine XO.q (Q.move rfl) ?_
      refine XO.q (Q.lss rfl rfl) ?_
      refine XO.done ?_
      refine XK.if rfl (fun c2 => ?_) (fun c2 => ?_)
      · have _t2 := True.intro
        refine XK.skip ?_
        refine XK.seq ?_
        refine XK.block ?_
        refine XK.seq ?_
        refine XK.region rfl ?_
        refine XO.q (Q.fieldAddr rfl) ?_
        refine XO.q (Q.ld rfl rfl) ?_
        refine XO.q (Q.move rfl) ?_
        refine XO.ix rfl rfl (by omega) (by omega) fun i22 => ?_
        refine XO.q (Q.ldE rfl (by first | assumption | omega) rfl) ?_
        refine XO.call Try.call95 rfl rfl rfl (in11 _ _ _) fun v24 s24 R24 => ?_
        obtain ⟨rfl, rfl⟩ := R24
        dsimp only [List.cons_append, List.nil_append]
        refine XO.q (Q.not rfl) ?_
        refine XO.done ?_
        refine XK.if rfl (fun c3 => ?_) (fun c3 => ?_)
        · have _t3 := True.intro
          refine XK.seq ?_
          refine XK.region rfl ?_
          refine XO.q (Q.assign rfl) ?_
          refine XO.done ?_
          refine XK.rt [] Try.func94 Try.results94 (.t rfl .n) ?_
          exact ⟨by rw [right_price c0 c1 (by omega) c3], rfl⟩
        · have _t3 := True.intro
          refine XK.skip ?_
          refine XK.inBlock ?_
          refine XK.region rfl ?_
          refine XO.q (Q.move rfl) ?_
          refine XO.q (Q.add rfl rfl ⟨by omega, by omega⟩) ?_
          refine XO.q (Q.assign rfl) ?_
          refine XO.done ?_
          exact ih0 (i + 1) _ _ ⟨by omega, fun j hj => (by rcases Nat.lt_or_ge j i with h3 | h3; exact hv j h3; obtain rfl : j = i := (by omega); exact inF_iff.1 (Decidable.of_not_not c3))⟩ (by first | omega | (dsimp only; omega)) (.c rfl (.base 26 rfl rfl)) inferInstance
      · have _t2 := True.intro
        have hi24 : i = 24 := by omega
        subst hi24
        refine XK.exit rfl ?_
        refine XK.seq ?_
        refine XK.region rfl ?_
        refine XO.q (Q.assign rfl) ?_
        refine XO.q (Q.assign rfl) ?_
        refine XO.done ?_
        refine XK.seq ?_
        refine XK.seq ?_
        refine XK.region rfl ?_
        refine XO.q (Q.assign rfl) ?_
        refine XO.done ?_
        refine XK.block ?_
        refine XK.while (X := Nat) [2, 4, 5, 6, 26, 27, 28, 29, 30, 31, 32, 33, 34, 35, 36, 37, 38, 39, 40, 41, 42, 43, 44, 45, 46, 47, 48, 49, 50, 51, 52, 53, 54, 55, 56, 57, 58, 59, 60, 61, 62, 63, 64, 65] (fun i => [(4, some (.int .i64 (pminT t i))), (5, some (.int .i64 (ppctT t i))), (6, some (.int .i64 (i : Nat)))]) (fun i => []) (fun i => i ≤ t.tiers.length ∧ tiersOk t i = true) (fun i => t.tiers.length - i) (0) [] rfl ⟨by omega, rfl⟩ (.c rfl (.c rfl (.c rfl (.base 0 rfl rfl)))) ?_
        rintro i ⟨hi, hall⟩ ih1
        dsimp only [List.cons_append, List.nil_append] at ih1 ⊢
        have pm := pm_ok hall
        refine XK.seq ?_
        refine XK.seq ?_
        refine XK.region rfl ?_
        refine XO.q (Q.move rfl) ?_
        refine XO.q (Q.fieldAddr rfl) ?_
        refine XO.q (Q.ld rfl rfl) ?_
        refine XO.len rfl fun l29 => ?_
        refine XO.q (Q.lss rfl rfl) ?_
        refine XO.done ?_
        refine XK.if rfl (fun c4 => ?_) (fun c4 => ?_)
        · have _t4 := True.intro
          refine XK.skip ?_
          refine XK.seq ?_
          refine XK.block ?_
          refine XK.seq ?_
          refine XK.seq ?_
          refine XK.region rfl ?_
          refine XO.q (Q.fieldAddr rfl) ?_
          refine XO.q (Q.ld rfl rfl) ?_
          refine XO.q (Q.move rfl) ?_
          refine XO.ix rfl rfl (by omega) (by omega) fun i36 => ?_
          refine XO.q (Q.fieldQ rfl (by first | assumption | omega)) ?_
          refine XO.q (Q.ldE rfl (by first | assumption | omega) rfl) ?_
          refine XO.q (Q.move rfl) ?_
          refine XO.q (Q.add rfl rfl ⟨by omega, by omega⟩) ?_
          refine XO.call Try.call95 rfl rfl rfl (in11 _ _ _) fun v41 s41 R41 => ?_
          obtain ⟨rfl, rfl⟩ := R41
          dsimp only [List.cons_append, List.nil_append]
          refine XO.q (Q.not rfl) ?_
          refine XO.q (Q.move rfl) ?_
          refine XO.q (Quiet.guardF rfl rfl fun g44 p44 => Q.fieldAddr rfl) ?_
          refine XO.q (Quiet.guardF rfl rfl fun g45 p45 => Q.ld (lzv g45 rfl) rfl) ?_
          refine XO.q (Quiet.guardF rfl rfl fun g46 p46 => Q.move rfl) ?_
          refine XO.q (Quiet.guardF rfl rfl fun g47 p47 => Q.ix (lzv g47 rfl) (lzv g47 rfl) (by omega) (by omega)) ?_
          refine XO.q (Quiet.guardF rfl rfl fun g48 p48 => Q.fieldQ (lzv g48 rfl) (by first | assumption | omega)) ?_
          refine XO.q (Quiet.guardF rfl rfl fun g49 p49 => Q.ldE (lzv g49 rfl) (by first | assumption | omega) rfl) ?_
          refine XO.q (Quiet.guardF rfl rfl fun g50 p50 => Q.move rfl) ?_
          refine XO.gcallF rfl rfl Try.call95 rfl (fun g51 => .c (lzv g51 rfl) (.c (lzv g51 rfl) (.c rfl .n))) rfl (fun g51 p51 => in11 _ _ _) ?_
          refine XO.q (Quiet.guardF rfl rfl fun g52 p52 => Q.not (lzv g52 rfl)) ?_
          refine XO.q (Q.or rfl (fun hp => lzv hp rfl)) ?_
          refine XO.done ?_
          refine XK.if rfl (fun c5 => ?_) (fun c5 => ?_)
          · have _t5 := True.intro
            refine XK.seq ?_
            refine XK.region rfl ?_
            refine XO.q (Q.assign rfl) ?_
            refine XO.done ?_
            refine XK.rt [] Try.func94 Try.results94 (.t rfl .n) ?_
            exact ⟨by rw [right_tier c0 c1 (by omega) ((tier_ref hall).1 c5)], rfl⟩
          · have _t5 := True.intro
            have nb : ¬ badTier t i := fun hb => c5 ((tier_ref hall).2 hb)
            refine XK.skip ?_
            refine XK.seq ?_
            refine XK.region rfl ?_
            refine XO.q (Q.fieldAddr rfl) ?_
            refine XO.q (Q.ld rfl rfl) ?_
            refine XO.q (Q.move rfl) ?_
            refine XO.ix rfl rfl (by omega) (by omega) fun i57 => ?_
            refine XO.q (Q.fieldQ rfl (by first | assumption | omega)) ?_
            refine XO.q (Q.ldE rfl (by first | assumption | omega) rfl) ?_
            refine XO.q (Q.assign rfl) ?_
            refine XO.done ?_
            refine XK.region rfl ?_
            refine XO.q (Q.fieldAddr rfl) ?_
            refine XO.q (Q.ld rfl rfl) ?_
            refine XO.q (Q.move rfl) ?_
            refine XO.ix rfl rfl (by omega) (by omega) fun i63 => ?_
            refine XO.q (Q.fieldQ rfl (by first | assumption | omega)) ?_
            refine XO.q (Q.ldE rfl (by first | assumption | omega) rfl) ?_
            refine XO.q (Q.assign rfl) ?_
            refine XO.done ?_
            refine XK.inBlock ?_
            refine XK.region rfl ?_
            refine XO.q (Q.move rfl) ?_
            refine XO.q (Q.add rfl rfl ⟨by omega, by omega⟩) ?_
            refine XO.q (Q.assign rfl) ?_
            refine XO.done ?_
            exact ih1 (i + 1) _ _ ⟨by omega, by rw [tiersOk, allTo_succ]; rw [tiersOk] at hall; rw [hall, Bool.true_and, Bool.not_eq_true', decide_eq_false_iff_not]; exact nb⟩ (by first | omega | (dsimp only; omega)) (.c rfl (.c rfl (.c rfl (.base 90 rfl rfl)))) inferInstance
        · have _t4 := True.intro
          refine XK.exit rfl ?_
          refine XK.seq ?_
          refine XK.seq ?_
          refine XK.region rfl ?_
          refine XO.q (Q.fieldAddr rfl) ?_
          refine XO.q (Q.ld rfl rfl) ?_
          refine XO.call Try.call95 rfl rfl rfl (in11 _ _ _) fun v68 s68 R68 => ?_
          obtain ⟨rfl, rfl⟩ := R68
          dsimp only [List.cons_append, List.nil_append]
          refine XO.q (Q.not rfl) ?_
          refine XO.q (Q.move rfl) ?_
          refine XO.q (Quiet.guardF rfl rfl fun g71 p71 => Q.fieldAddr rfl) ?_
          refine XO.q (Quiet.guardF rfl rfl fun g72 p72 => Q.ld (lzv g72 rfl) rfl) ?_
          refine XO.gcallF rfl rfl Try.call95 rfl (fun g73 => .c (lzv g73 rfl) (.c rfl (.c rfl .n))) rfl (fun g73 p73 => in11 _ _ _) ?_
          refine XO.q (Quiet.guardF rfl rfl fun g74 p74 => Q.not (lzv g74 rfl)) ?_
          refine XO.q (Q.or rfl (fun hp => lzv hp rfl)) ?_
          refine XO.done ?_
          refine XK.if rfl (fun c6 => ?_) (fun c6 => ?_)
          · have _t6 := True.intro
            refine XK.seq ?_
            refine XK.region rfl ?_
            refine XO.q (Q.assign rfl) ?_
            refine XO.done ?_
            refine XK.rt [] Try.func94 Try.results94 (.t rfl .n) ?_
            exact ⟨by rw [right_rest c0 c1 c6], rfl⟩
          · have _t6 := True.intro
            refine XK.skip ?_
            refine XK.seq ?_
            refine XK.region rfl ?_
            refine XO.q (Q.assign rfl) ?_
            refine XO.done ?_
            refine XK.rt [] Try.func94 Try.results94 (.t rfl .n) ?_
            have hin : i = t.tiers.length := by omega
            subst hin
            exact ⟨by rw [right_all c0 c1 (fun j hj => hv j (by omega)) hall c6], rfl⟩
theorem RMake_spec (t : MTariff) (vp vt : Value) (hp ht : PHeap) [jp : Arr vp encI 1 hp t.price] [jt : Arr vt encTier 2 ht t.tiers] (u : MUse) (vu : Value) (hu : PHeap) [ju : Arr vu encI 1 hu u.values] : Spec Try.prog 60 #[.agg #[vp, .int .i64 t.base, vt, .int .i64 t.credit], .agg #[vu, .int .i64 u.out]] [] [hp, ht, hu] (fun v hs => v = .tuple #[.agg #[.int .i64 (makeG t u).1.energy, .int .i64 (makeG t u).1.amount, .int .i64 (makeG t u).1.credit, .int .i64 (makeG t u).1.due], .int .i64 (makeG t u).2] ∧ hs = []) := by
  have lu := ju.le
  have lt := jt.le
  refine Spec.intro (fn := Try.f60) (N := 118) Try.func60 rfl Try.ntmps60 rfl fun B => ?_
  refine XK.seq ?_
  refine XK.region rfl ?_
  refine XO.box rfl fun b2 => ?_
  refine XO.box rfl fun b3 => ?_
  refine XO.alloc fun b4 => ?_
  refine XO.q (Q.assign rfl) ?_
  refine XO.done ?_
  refine XK.seq ?_
  refine XK.seq ?_
  refine XK.region rfl ?_
  refine XO.q (Q.ldA [_, _, _, _] rfl rfl rfl) ?_
  refine XO.call Try.call94 rfl rfl rfl (rtariff11 t vp vt hp ht) fun v12 s12 R12 => ?_
  obtain ⟨rfl, rfl⟩ := R12
  dsimp only [List.cons_append, List.nil_append]
  refine XO.q (Q.assign rfl) ?_
  refine XO.done ?_
  refine XK.seq ?_
  refine XK.region rfl ?_
  refine XO.q (Q.move rfl) ?_
  refine XO.q (Q.neq rfl rfl) ?_
  refine XO.done ?_
  refine XK.if rfl (fun c0 => ?_) (fun c0 => ?_)
  · have _t0 := True.intro
    refine XK.seq ?_
    refine XK.region rfl ?_
    refine XO.q (Q.build [_, _, _, _] (.n _)) ?_
    refine XO.q (Q.move rfl) ?_
    refine XO.st rfl rfl rfl ?_
    refine XO.q (Q.assign rfl) ?_
    refine XO.done ?_
    refine XK.rt [] Try.func60 Try.results60 (.cell [_, _, _, _] rfl rfl rfl (.t rfl .n)) ?_
    have hw0 : makeG t u = (default, rightG t) := by rw [makeG, if_pos c0]
    rw [hw0]
    exact ⟨rfl, rfl⟩
  · have _t0 := True.intro
    have k := right_ok (Decidable.of_not_not c0)
    have pl := k.len
    have bs := k.base
    have kc := k.credit
    refine XK.skip ?_
    refine XK.seq ?_
    refine XK.seq ?_
    refine XK.region rfl ?_
    refine XO.q (Q.fieldAddr rfl) ?_
    refine XO.q (Q.ld rfl rfl) ?_
    refine XO.len rfl fun l19 => ?_
    refine XO.q (Q.gtr rfl rfl) ?_
    refine XO.done ?_
    refine XK.if rfl (fun c1 => ?_) (fun c1 => ?_)
    · have _t1 := True.intro
      refine XK.seq ?_
      refine XK.region rfl ?_
      refine XO.q (Q.build [_, _, _, _] (.n _)) ?_
      refine XO.st rfl rfl rfl ?_
      refine XO.q (Q.assign rfl) ?_
      refine XO.done ?_
      refine XK.rt [] Try.func60 Try.results60 (.cell [_, _, _, _] rfl rfl rfl (.t rfl .n)) ?_
      have hw0 : makeG t u = (default, 2) := by rw [makeG, if_neg c0, if_pos c1]
      rw [hw0]
      exact ⟨rfl, rfl⟩
    · have _t1 := True.intro
      refine XK.skip ?_
      refine XK.seq ?_
      refine XK.region rfl ?_
      refine XO.q (Q.fieldAddr rfl) ?_
      refine XO.q (Q.ld rfl rfl) ?_
      refine XO.q (Q.build [_, _, _, _] (.c 1 1 rfl rfl rfl (.n _))) ?_
      refine XO.alloc fun b7 => ?_
      refine XO.st rfl rfl rfl ?_
      refine XO.done ?_
      refine XK.seq ?_
      refine XK.seq ?_
      refine XK.region rfl ?_
      refine XO.q (Q.assign rfl) ?_
      refine XO.done ?_
      refine XK.block ?_
      refine XK.while (X := Nat) [5, 8, 25, 26, 27, 28, 29, 30, 31, 32, 33, 34, 35, 36, 37, 38, 39, 40, 41, 42, 43, 44, 45, 46, 47, 48, 49, 50, 51, 52, 53, 54, 55, 56, 57, 58, 59, 60, 61, 62, 63, 64] (fun i => [(8, some (.int .i64 (i : Nat)))]) (fun i => [blk b7 [.int .i64 (energyTo u.values i), .int .i64 (amtTo t u.values i), .int .i64 0, .int .i64 0] 139]) (fun i => i ≤ u.values.length ∧ ∀ j, j < i → 0 ≤ u.values.getD j 0 ∧ u.values.getD j 0 ≤ 100000) (fun i => u.values.length - i) (0) [blk b7 [.int .i64 0, .int .i64 t.base, .int .i64 0, .int .i64 0] 139] rfl ⟨by omega, fun j hj => by omega⟩ (.c rfl (.base 0 rfl rfl)) ?_
      rintro i ⟨hi, hv⟩ ih0
      dsimp only [List.cons_append, List.nil_append] at ih0 ⊢
      refine XK.seq ?_
      refine XK.seq ?_
      refine XK.region rfl ?_
      refine XO.q (Q.move rfl) ?_
      refine XO.q (Q.fieldAddr rfl) ?_
      refine XO.q (Q.ld rfl rfl) ?_
      refine XO.len rfl fun l28 => ?_
      refine XO.q (Q.lss rfl rfl) ?_
      refine XO.done ?_
      refine XK.if rfl (fun c2 => ?_) (fun c2 => ?_)
      · have _t2 := True.intro
        refine XK.skip ?_
        refine XK.seq ?_
        refine XK.block ?_
        refine XK.seq ?_
        refine XK.seq ?_
        refine XK.region rfl ?_
        refine XO.q (Q.fieldAddr rfl) ?_
        refine XO.q (Q.ld rfl rfl) ?_
        refine XO.q (Q.move rfl) ?_
        refine XO.ix rfl rfl (by omega) (by omega) fun i35 => ?_
        refine XO.q (Q.ldE rfl (by first | assumption | omega) rfl) ?_
        refine XO.call Try.call95 rfl rfl rfl (in11 _ _ _) fun v37 s37 R37 => ?_
        obtain ⟨rfl, rfl⟩ := R37
        dsimp only [List.cons_append, List.nil_append]
        refine XO.q (Q.not rfl) ?_
        refine XO.done ?_
        refine XK.if rfl (fun c3 => ?_) (fun c3 => ?_)
        · have _t3 := True.intro
          refine XK.seq ?_
          refine XK.region rfl ?_
          refine XO.q (Q.build [_, _, _, _] (.n _)) ?_
          refine XO.st rfl rfl rfl ?_
          refine XO.q (Q.assign rfl) ?_
          refine XO.done ?_
          refine XK.rt [] Try.func60 Try.results60 (.cell [_, _, _, _] rfl rfl rfl (.t rfl .n)) ?_
          have hw0 : makeG t u = (default, 6) := make_bad_value c0 c1 (by omega) c3
          rw [hw0]
          exact ⟨rfl, rfl⟩
        · have _t3 := True.intro
          have xi := inF_iff.1 (Decidable.of_not_not c3)
          have rr := ref_rng k (n := i) hv
          have ro := ref_one k xi i
          change 0 ≤ u.values.getD i default * t.price.getD (i % 24) default ∧ u.values.getD i default * t.price.getD (i % 24) default ≤ _ at ro
          have ae := amtTo_eq t u.values i
          refine XK.skip ?_
          refine XK.seq ?_
          refine XK.drawn [0, 1, 2, 3, 4, 5, 6, 7, 8] [b7, b3] [] (.q 0 (.q 1 (.q 2 (.q 3 (.q 4 (.q 5 (.q 6 (.q 7 (.q 8 (.br 9 false .done .stop)))))))))) Try.mixed rfl (by kernel_rfl) ?_
          refine XT.q rfl rfl (Q.fieldAddr rfl) ?_
          refine XT.q rfl rfl (Q.ld rfl rfl) ?_
          refine XT.q rfl rfl (Q.fieldAddr rfl) ?_
          refine XT.q rfl rfl (Q.ld rfl rfl) ?_
          refine XT.q rfl rfl (Q.move rfl) ?_
          refine XT.ix rfl rfl rfl rfl (by omega) (by omega) fun i45 => ?_
          refine XT.q rfl rfl (Q.ldE rfl (by first | assumption | omega) rfl) ?_
          refine XT.q rfl rfl (Q.add rfl rfl ⟨by omega, by omega⟩) ?_
          rw [show (energyTo u.values i) + u.values.getD i default = energyTo u.values (i + 1) from rfl]
          refine XT.q rfl rfl (Q.fieldAddr rfl) ?_
          refine XT.st rfl rfl rfl rfl rfl ⟨inferInstance, ?_⟩ XT.stop
          refine XT.done ?_
          refine XK.drawn [0, 1, 2, 3, 4, 5, 6, 7, 8, 9, 10, 11, 12, 13, 14, 15] [b7, b3, b2] [] (.q 0 (.q 1 (.q 2 (.q 3 (.q 4 (.q 5 (.q 6 (.q 7 (.q 8 (.q 9 (.q 10 (.q 11 (.q 12 (.q 13 (.q 14 (.q 15 (.br 16 false .done .stop))))))))))))))))) Try.mixed rfl (by kernel_rfl) ?_
          refine XT.q rfl rfl (Q.fieldAddr rfl) ?_
          refine XT.q rfl rfl (Q.ld rfl rfl) ?_
          refine XT.q rfl rfl (Q.fieldAddr rfl) ?_
          refine XT.q rfl rfl (Q.ld rfl rfl) ?_
          refine XT.q rfl rfl (Q.move rfl) ?_
          refine XT.ix rfl rfl rfl rfl (by omega) (by omega) fun i54 => ?_
          refine XT.q rfl rfl (Q.ldE rfl (by first | assumption | omega) rfl) ?_
          refine XT.q rfl rfl (Q.fieldAddr rfl) ?_
          refine XT.q rfl rfl (Q.ld rfl rfl) ?_
          refine XT.q rfl rfl (Q.move rfl) ?_
          refine XT.q rfl rfl (Q.rem rfl rfl (by omega) (by omega)) ?_
          rw [show ((i : Int) % 24) = ((i % 24 : Nat) : Int) from rfl]
          refine XT.ix rfl rfl rfl rfl (by omega) (by omega) fun i60 => ?_
          refine XT.q rfl rfl (Q.ldE rfl (by first | assumption | omega) rfl) ?_
          refine XT.q rfl rfl (Q.mul rfl rfl ⟨by omega, by omega⟩) ?_
          refine XT.q rfl rfl (Q.add rfl rfl ⟨by omega, by omega⟩) ?_
          rw [show (amtTo t u.values i) + u.values.getD i default * t.price.getD (i % 24) default = amtTo t u.values (i + 1) from rfl]
          refine XT.q rfl rfl (Q.fieldAddr rfl) ?_
          refine XT.st rfl rfl rfl rfl rfl ⟨inferInstance, ?_⟩ XT.stop
          refine XT.done ?_
          refine XK.inBlock ?_
          refine XK.region rfl ?_
          refine XO.q (Q.move rfl) ?_
          refine XO.q (Q.add rfl rfl ⟨by omega, by omega⟩) ?_
          refine XO.q (Q.assign rfl) ?_
          refine XO.done ?_
          exact ih0 (i + 1) _ _ ⟨by omega, fun j hj => (by rcases Nat.lt_or_ge j i with h3 | h3; exact hv j h3; obtain rfl : j = i := (by omega); exact xi)⟩ (by first | omega | (dsimp only; omega)) (.c rfl (.base 83 rfl rfl)) inferInstance
      · have _t2 := True.intro
        have hin : i = u.values.length := by omega
        have uv := ref_vals (v := u.values) (by rw [hin] at hv; exact hv)
        rw [hin]
        rw [show amtTo t u.values u.values.length = amountL t u from amtTo_eq ..]
        clear ih0
        refine XK.exit rfl ?_
        refine XK.seq ?_
        refine XK.seq ?_
        refine XK.region rfl ?_
        refine XO.q (Q.fieldAddr rfl) ?_
        refine XO.q (Q.ld rfl rfl) ?_
        refine XO.call Try.call95 rfl rfl rfl (in11 _ _ _) fun v67 s67 R67 => ?_
        obtain ⟨rfl, rfl⟩ := R67
        dsimp only [List.cons_append, List.nil_append]
        refine XO.q (Q.not rfl) ?_
        refine XO.done ?_
        refine XK.if rfl (fun c4 => ?_) (fun c4 => ?_)
        · have _t4 := True.intro
          refine XK.seq ?_
          refine XK.region rfl ?_
          refine XO.q (Q.build [_, _, _, _] (.n _)) ?_
          refine XO.st rfl rfl rfl ?_
          refine XO.q (Q.assign rfl) ?_
          refine XO.done ?_
          refine XK.rt [] Try.func60 Try.results60 (.cell [_, _, _, _] rfl rfl rfl (.t rfl .n)) ?_
          have hw0 : makeG t u = (default, 6) := make_bad_out c0 c1 c4
          rw [hw0]
          exact ⟨rfl, rfl⟩
        · have _t4 := True.intro
          have q : UOk11 u := ⟨by omega, uv, inF_iff.1 (Decidable.of_not_not c4)⟩
          have ar := amount_rng k q
          have crr := credit_rng k q
          refine XK.skip ?_
          refine XK.seq ?_
          refine XK.region rfl ?_
          refine XO.q (Q.assign rfl) ?_
          refine XO.done ?_
          refine XK.seq ?_
          refine XK.seq ?_
          refine XK.region rfl ?_
          refine XO.q (Q.assign rfl) ?_
          refine XO.done ?_
          refine XK.block ?_
          refine XK.while (X := Nat) [9, 10, 70, 71, 72, 73, 74, 75, 76, 77, 78, 79, 80, 81, 82, 83, 84, 85, 86, 87, 88, 89, 90, 91, 92, 93, 94] (fun m => [(9, some (.int .i64 (pctR t u.out m))), (10, some (.int .i64 (m : Nat)))]) (fun m => []) (fun m => m ≤ t.tiers.length) (fun m => t.tiers.length - m) (0) [] rfl (by omega) (.c rfl (.c rfl (.base 0 rfl rfl))) ?_
          rintro m hm ih1
          dsimp only [List.cons_append, List.nil_append] at ih1 ⊢
          refine XK.seq ?_
          refine XK.seq ?_
          refine XK.region rfl ?_
          refine XO.q (Q.move rfl) ?_
          refine XO.q (Q.fieldAddr rfl) ?_
          refine XO.q (Q.ld rfl rfl) ?_
          refine XO.len rfl fun l73 => ?_
          refine XO.q (Q.lss rfl rfl) ?_
          refine XO.done ?_
          refine XK.if rfl (fun c5 => ?_) (fun c5 => ?_)
          · have _t5 := True.intro
            refine XK.skip ?_
            refine XK.seq ?_
            refine XK.block ?_
            refine XK.seq ?_
            refine XK.drawn [0, 1, 2, 3, 4, 5, 6, 7, 8] [b3, b2] [] (.q 0 (.q 1 (.q 2 (.q 3 (.q 4 (.q 5 (.q 6 (.q 7 (.q 8 .done))))))))) Try.mixed rfl (by kernel_rfl) ?_
            refine XT.q rfl rfl (Q.fieldAddr rfl) ?_
            refine XT.q rfl rfl (Q.ld rfl rfl) ?_
            refine XT.q rfl rfl (Q.fieldAddr rfl) ?_
            refine XT.q rfl rfl (Q.ld rfl rfl) ?_
            refine XT.q rfl rfl (Q.move rfl) ?_
            refine XT.ix rfl rfl rfl rfl (by omega) (by omega) fun i82 => ?_
            refine XT.q rfl rfl (Q.fieldQ rfl (by first | assumption | omega)) ?_
            refine XT.q rfl rfl (Q.ldE rfl (by first | assumption | omega) rfl) ?_
            refine XT.q rfl rfl (Q.geq rfl rfl) ?_
            refine XT.done ?_
            refine XK.if rfl (fun c6 => ?_) (fun c6 => ?_)
            · have _t6 := True.intro
              refine XK.drawn [0, 1, 2, 3, 4, 5, 6, 7, 8, 9] [b2] [] (.q 0 (.q 1 (.q 2 (.q 3 (.q 4 (.q 5 (.q 6 (.q 7 (.q 8 (.q 9 .done)))))))))) Try.mixed rfl (by kernel_rfl) ?_
              refine XT.q rfl rfl (Q.fieldAddr rfl) ?_
              refine XT.q rfl rfl (Q.ld rfl rfl) ?_
              refine XT.q rfl rfl (Q.move rfl) ?_
              refine XT.ix rfl rfl rfl rfl (by omega) (by omega) fun i89 => ?_
              refine XT.q rfl rfl (Q.fieldQ rfl (by first | assumption | omega)) ?_
              refine XT.q rfl rfl (Q.ldE rfl (by first | assumption | omega) rfl) ?_
              refine XT.q rfl rfl (Q.fieldAddr rfl) ?_
              refine XT.q rfl rfl (Q.ld rfl rfl) ?_
              refine XT.q rfl rfl (Q.min rfl rfl) ?_
              refine XT.q rfl rfl (Q.assign rfl) ?_
              refine XT.done ?_
              refine XK.inBlock ?_
              refine XK.region rfl ?_
              refine XO.q (Q.move rfl) ?_
              refine XO.q (Q.add rfl rfl ⟨by omega, by omega⟩) ?_
              refine XO.q (Q.assign rfl) ?_
              refine XO.done ?_
              rw [show min (t.tiers.getD m default).pct t.credit = pctR t u.out (m + 1) by rw [pctR, if_pos c6]]
              exact ih1 (m + 1) _ _ (by omega) (by first | omega | (dsimp only; omega)) (.c rfl (.c rfl (.base 56 rfl rfl))) inferInstance
            · have _t6 := True.intro
              refine XK.skip ?_
              refine XK.inBlock ?_
              refine XK.region rfl ?_
              refine XO.q (Q.move rfl) ?_
              refine XO.q (Q.add rfl rfl ⟨by omega, by omega⟩) ?_
              refine XO.q (Q.assign rfl) ?_
              refine XO.done ?_
              rw [show pctR t u.out m = pctR t u.out (m + 1) by rw [pctR, if_neg c6]]
              exact ih1 (m + 1) _ _ (by omega) (by first | omega | (dsimp only; omega)) (.c rfl (.c rfl (.base 46 rfl rfl))) inferInstance
          · have _t5 := True.intro
            have hin2 : m = t.tiers.length := by omega
            rw [hin2, pctR_all k]
            clear ih1
            refine XK.exit rfl ?_
            refine XK.seq ?_
            refine XK.region rfl ?_
            refine XO.q (Q.fieldAddr rfl) ?_
            refine XO.q (Q.ld rfl rfl) ?_
            refine XO.q (Q.move rfl) ?_
            refine XO.q (Q.mul rfl rfl ⟨by omega, by omega⟩) ?_
            refine XO.q (Q.quo rfl rfl (by omega) (by omega) (by omega)) ?_
            refine XO.q (Q.fieldAddr rfl) ?_
            refine XO.st rfl rfl rfl ?_
            refine XO.done ?_
            refine XK.seq ?_
            refine XK.seq ?_
            refine XK.region rfl ?_
            refine XO.q (Q.fieldAddr rfl) ?_
            refine XO.q (Q.ld rfl rfl) ?_
            refine XO.q (Q.move rfl) ?_
            refine XO.q (Q.mul rfl rfl ⟨by omega, by omega⟩) ?_
            refine XO.q (Q.rem rfl rfl (by omega) (by omega)) ?_
            refine XO.q (Q.geq rfl rfl) ?_
            refine XO.done ?_
            refine XK.if rfl (fun c7 => ?_) (fun c7 => ?_)
            · have _t7 := True.intro
              refine XK.region rfl ?_
              refine XO.q (Q.fieldAddr rfl) ?_
              refine XO.q (Q.ld rfl rfl) ?_
              refine XO.q (Q.add rfl rfl ⟨by omega, by omega⟩) ?_
              rw [credit_up crr.1 c7]
              refine XO.q (Q.fieldAddr rfl) ?_
              refine XO.st rfl rfl rfl ?_
              refine XO.done ?_
              refine XK.seq ?_
              refine XK.region rfl ?_
              refine XO.q (Q.fieldAddr rfl) ?_
              refine XO.q (Q.ld rfl rfl) ?_
              refine XO.q (Q.fieldAddr rfl) ?_
              refine XO.q (Q.ld rfl rfl) ?_
              refine XO.q (Q.sub rfl rfl ⟨by omega, by omega⟩) ?_
              refine XO.q (Q.fieldAddr rfl) ?_
              refine XO.st rfl rfl rfl ?_
              refine XO.done ?_
              refine XK.seq ?_
              refine XK.region rfl ?_
              refine XO.q (Q.ldA [_, _, _, _] rfl rfl rfl) ?_
              refine XO.st rfl rfl rfl ?_
              refine XO.q (Q.assign rfl) ?_
              refine XO.done ?_
              refine XK.rt [] Try.func60 Try.results60 (.cell [_, _, _, _] rfl rfl rfl (.t rfl .n)) ?_
              have hw0 : makeG t u = (billL t u, 0) := make_fine k q
              rw [hw0]
              exact ⟨rfl, rfl⟩
            · have _t7 := True.intro
              rw [credit_down crr.1 c7]
              refine XK.skip ?_
              refine XK.seq ?_
              refine XK.region rfl ?_
              refine XO.q (Q.fieldAddr rfl) ?_
              refine XO.q (Q.ld rfl rfl) ?_
              refine XO.q (Q.fieldAddr rfl) ?_
              refine XO.q (Q.ld rfl rfl) ?_
              refine XO.q (Q.sub rfl rfl ⟨by omega, by omega⟩) ?_
              refine XO.q (Q.fieldAddr rfl) ?_
              refine XO.st rfl rfl rfl ?_
              refine XO.done ?_
              refine XK.seq ?_
              refine XK.region rfl ?_
              refine XO.q (Q.ldA [_, _, _, _] rfl rfl rfl) ?_
              refine XO.st rfl rfl rfl ?_
              refine XO.q (Q.assign rfl) ?_
              refine XO.done ?_
              refine XK.rt [] Try.func60 Try.results60 (.cell [_, _, _, _] rfl rfl rfl (.t rfl .n)) ?_
              have hw0 : makeG t u = (billL t u, 0) := make_fine k q
              rw [hw0]
              exact ⟨rfl, rfl⟩
theorem RTotal_spec (t : MTariff) (vp vt : Value) (hp ht : PHeap) [jp : Arr vp encI 1 hp t.price] [jt : Arr vt encTier 2 ht t.tiers] (l : List (Value × MUse)) (vl : Value) (hl hL : PHeap) [jl : Arr vl encUse 2 hl l] (aL : ∀ i, i < l.length → Arr (l.getD i default).1 encI 1 hL (l.getD i default).2.values) :
    Spec Try.prog 61 #[.agg #[vp, .int .i64 t.base, vt, .int .i64 t.credit], vl] [] [hp, ht, hl, hL] (fun v hs => ∃ v1 k1, v = .tuple #[v1, .agg #[.int .i64 (totalG t (l.map Prod.snd)).2.1.energy, .int .i64 (totalG t (l.map Prod.snd)).2.1.amount, .int .i64 (totalG t (l.map Prod.snd)).2.1.credit, .int .i64 (totalG t (l.map Prod.snd)).2.1.due], .int .i64 (totalG t (l.map Prod.snd)).2.2] ∧ hs = [k1] ∧ OArr v1 encBill 4 139 k1 (totalG t (l.map Prod.snd)).1) := by
  have hnil : OArr (.slice none 0 0) encBill 4 139 emp ([] : List MBill) := OArr.nil (fun _ => rfl)
  have ll := jl.le
  have hml : (l.map Prod.snd).length = l.length := List.length_map ..
  refine Spec.intro (fn := Try.f61) (N := 62) Try.func61 rfl Try.ntmps61 rfl fun B => ?_
  refine XK.seq ?_
  refine XK.region rfl ?_
  refine XO.box rfl fun b2 => ?_
  refine XO.q (Q.assign rfl) ?_
  refine XO.alloc fun b5 => ?_
  refine XO.q (Q.assign rfl) ?_
  refine XO.done ?_
  refine XK.seq ?_
  refine XK.seq ?_
  refine XK.region rfl ?_
  refine XO.q (Q.move rfl) ?_
  refine XO.len rfl fun l13 => ?_
  refine XO.q (Q.gtr rfl rfl) ?_
  refine XO.done ?_
  refine XK.if rfl (fun c0 => ?_) (fun c0 => ?_)
  · have _t0 := True.intro
    refine XK.seq ?_
    refine XK.region rfl ?_
    refine XO.q (Q.build [_, _, _, _] (.n _)) ?_
    refine XO.q (Q.assign rfl) ?_
    refine XO.st rfl rfl rfl ?_
    refine XO.q (Q.assign rfl) ?_
    refine XO.done ?_
    refine XK.rt [emp] Try.func61 Try.results61 (.t rfl (.cell [_, _, _, _] rfl rfl rfl (.t rfl .n))) ?_
    have hw0 : totalG t (l.map Prod.snd) = ([], default, 2) := by rw [totalG, if_pos (by omega)]
    rw [hw0]
    exact ⟨.slice none 0 0, emp, rfl, rfl, OArr.nil (fun _ => rfl)⟩
  · have _t0 := True.intro
    refine XK.skip ?_
    refine XK.seq ?_
    refine XK.region rfl ?_
    refine XO.q (Q.assign rfl) ?_
    refine XO.done ?_
    refine XK.seq ?_
    refine XK.region rfl ?_
    refine XO.alloc fun b8 => ?_
    refine XO.done ?_
    refine XK.seq ?_
    refine XK.seq ?_
    refine XK.region rfl ?_
    refine XO.q (Q.assign rfl) ?_
    refine XO.done ?_
    refine XK.block ?_
    refine XK.while (X := Nat × Value × PHeap) [4, 6, 7, 9, 10, 11, 16, 17, 18, 19, 20, 21, 22, 23, 24, 25, 26, 27, 28, 29, 30, 31, 32, 33, 34, 35, 36, 37, 38, 39, 40, 41, 42, 43, 44, 45, 46, 47, 48, 49, 50, 51, 52, 53, 54, 55, 56, 57, 58, 59] (fun ⟨i, vo, ko⟩ => [(9, some (.int .i64 (i : Nat))), (7, some (vo))]) (fun ⟨i, vo, ko⟩ => [ko, blk b8 [.int .i64 (sumBill t (l.map Prod.snd) i).energy, .int .i64 (sumBill t (l.map Prod.snd) i).amount, .int .i64 (sumBill t (l.map Prod.snd) i).credit, .int .i64 (sumBill t (l.map Prod.snd) i).due] 139]) (fun ⟨i, vo, ko⟩ => i ≤ l.length ∧ OArr vo encBill 4 139 ko ((List.range i).map (billAt t (l.map Prod.snd))) ∧ errTo t (l.map Prod.snd) i = 0) (fun ⟨i, vo, ko⟩ => l.length - i) (0, .slice none 0 0, emp) [emp, blk b8 [.int .i64 0, .int .i64 0, .int .i64 0, .int .i64 0] 139] rfl ⟨by omega, hnil, rfl⟩ (.c rfl (.c rfl (.base 0 rfl rfl))) ?_
    rintro ⟨i, vo, ko⟩ ⟨hi, OO, he⟩ ih0
    dsimp only [List.cons_append, List.nil_append] at ih0 ⊢
    refine XK.seq ?_
    refine XK.seq ?_
    refine XK.region rfl ?_
    refine XO.q (Q.move rfl) ?_
    refine XO.q (Q.move rfl) ?_
    refine XO.len rfl fun l18 => ?_
    refine XO.q (Q.lss rfl rfl) ?_
    refine XO.done ?_
    refine XK.if rfl (fun c1 => ?_) (fun c1 => ?_)
    · have _t1 := True.intro
      have ai := aL i (by omega)
      have br := make_rng t (l.getD i default).2
      have br1 := br.e
      have br2 := br.a
      have br3 := br.c
      have br4 := br.d
      obtain ⟨s1, s2, s3, s4⟩ := sumBill_rng t (l.map Prod.snd) i
      have eb : billAt t (l.map Prod.snd) i = (makeG t (l.getD i default).2).1 := by rw [billAt, map_snd_at]
      refine XK.skip ?_
      refine XK.seq ?_
      refine XK.block ?_
      refine XK.seq ?_
      refine XK.meet (X := Nat) [10, 11, 22, 23, 24, 25, 26, 27, 28, 29, 30] (fun b10 => [(10, some (ptr b10 0)), (11, some (.int .i64 (makeG t (l.getD i default).2).2))]) (fun b10 => [blk b10 [.int .i64 (makeG t (l.getD i default).2).1.energy, .int .i64 (makeG t (l.getD i default).2).1.amount, .int .i64 (makeG t (l.getD i default).2).1.credit, .int .i64 (makeG t (l.getD i default).2).1.due] 139]) (fun b10 => True) [] ?_ ?_
      · rintro b10 _
        dsimp only [List.cons_append, List.nil_append]
        refine XK.seq ?_
        refine XK.seq ?_
        refine XK.region rfl ?_
        refine XO.q (Q.move rfl) ?_
        refine XO.q (Q.neq rfl rfl) ?_
        refine XO.done ?_
        refine XK.if rfl (fun c2 => ?_) (fun c2 => ?_)
        · have _t2 := True.intro
          refine XK.seq ?_
          refine XK.region rfl ?_
          refine XO.q (Q.build [_, _, _, _] (.n _)) ?_
          refine XO.q (Q.move rfl) ?_
          refine XO.q (Q.assign rfl) ?_
          refine XO.st rfl rfl rfl ?_
          refine XO.q (Q.assign rfl) ?_
          refine XO.done ?_
          refine XK.rt [emp] Try.func61 Try.results61 (.t rfl (.cell [_, _, _, _] rfl rfl rfl (.t rfl .n))) ?_
          have hw0 : totalG t (l.map Prod.snd) = ([], default, (makeG t (l.getD i default).2).2) := by
            have e1 : errTo t (l.map Prod.snd) (i + 1) = (makeG t (l.getD i default).2).2 := by rw [errTo, he, if_neg (by decide), map_snd_at]
            have e2 : errTo t (l.map Prod.snd) (l.map Prod.snd).length = (makeG t (l.getD i default).2).2 := by rw [errTo_stay (n := i + 1) (by rw [e1]; exact c2) (by omega), e1]
            rw [totalG, if_neg (by omega), e2, if_pos c2]
          rw [hw0]
          exact ⟨.slice none 0 0, emp, rfl, rfl, OArr.nil (fun _ => rfl)⟩
        · have _t2 := True.intro
          refine XK.skip ?_
          refine XK.seq ?_
          refine XK.region rfl ?_
          refine XO.q (Q.move rfl) ?_
          refine XO.q (Q.ldA [_, _, _, _] rfl rfl rfl) ?_
          refine XO.lit [_, _, _, _] [_, _, _, _] [(makeG t (l.getD i default).2).1] encBill (by rfl) (by rfl) rfl (by rfl) (by exact .c 0 4 rfl rfl rfl (.n _)) (fun _ => rfl) (by rfl) rfl (by infer_instance) rfl fun v37 h37 O37 => ?_
          refine XO.append rfl rfl rfl rfl (by simp only [List.length_map, List.length_range, List.length_cons, List.length_nil]; omega) fun v38 h38 O38 => ?_
          refine XO.q (Q.assign rfl) ?_
          refine XO.done ?_
          refine XK.region rfl ?_
          refine XO.q (Q.fieldAddr rfl) ?_
          refine XO.q (Q.ld rfl rfl) ?_
          refine XO.q (Q.fieldAddr rfl) ?_
          refine XO.q (Q.ld rfl rfl) ?_
          refine XO.q (Q.add rfl rfl ⟨by omega, by omega⟩) ?_
          refine XO.q (Q.fieldAddr rfl) ?_
          refine XO.q (Q.ld rfl rfl) ?_
          refine XO.q (Q.fieldAddr rfl) ?_
          refine XO.q (Q.ld rfl rfl) ?_
          refine XO.q (Q.add rfl rfl ⟨by omega, by omega⟩) ?_
          refine XO.q (Q.fieldAddr rfl) ?_
          refine XO.q (Q.ld rfl rfl) ?_
          refine XO.q (Q.fieldAddr rfl) ?_
          refine XO.q (Q.ld rfl rfl) ?_
          refine XO.q (Q.add rfl rfl ⟨by omega, by omega⟩) ?_
          refine XO.q (Q.fieldAddr rfl) ?_
          refine XO.q (Q.ld rfl rfl) ?_
          refine XO.q (Q.fieldAddr rfl) ?_
          refine XO.q (Q.ld rfl rfl) ?_
          refine XO.q (Q.add rfl rfl ⟨by omega, by omega⟩) ?_
          refine XO.q (Q.build [_, _, _, _] (.c 0 1 rfl rfl rfl (.c 1 1 rfl rfl rfl (.c 2 1 rfl rfl rfl (.c 3 1 rfl rfl rfl (.n _)))))) ?_
          refine XO.st rfl rfl rfl ?_
          refine XO.done ?_
          refine XK.inBlock ?_
          refine XK.region rfl ?_
          refine XO.q (Q.move rfl) ?_
          refine XO.q (Q.add rfl rfl ⟨by omega, by omega⟩) ?_
          refine XO.q (Q.assign rfl) ?_
          refine XO.done ?_
          rw [show (sumBill t (l.map Prod.snd) i).energy + (makeG t (l.getD i default).2).1.energy = (sumBill t (l.map Prod.snd) (i + 1)).energy by rw [← eb]; rfl, show (sumBill t (l.map Prod.snd) i).amount + (makeG t (l.getD i default).2).1.amount = (sumBill t (l.map Prod.snd) (i + 1)).amount by rw [← eb]; rfl, show (sumBill t (l.map Prod.snd) i).credit + (makeG t (l.getD i default).2).1.credit = (sumBill t (l.map Prod.snd) (i + 1)).credit by rw [← eb]; rfl, show (sumBill t (l.map Prod.snd) i).due + (makeG t (l.getD i default).2).1.due = (sumBill t (l.map Prod.snd) (i + 1)).due by rw [← eb]; rfl]
          exact ih0 (i + 1, v38, h38) _ _ ⟨by dsimp only; omega, by dsimp only; rw [bills_snoc, eb]; exact O38, by dsimp only; rw [errTo, he, if_neg (by decide), map_snd_at]; exact Decidable.of_not_not c2⟩ (by first | omega | (dsimp only; omega)) (.c rfl (.c rfl (.base 100 rfl rfl))) inferInstance
      · intro mtr8
        dsimp only [List.cons_append, List.nil_append] at mtr8
        refine XK.drawn [0, 1, 2, 3, 4, 6, 7, 8, 11] [b2] [] (.q 0 (.q 1 (.q 2 (.q 3 (.q 4 (.br 5 true (.q 6 (.q 7 (.q 8 (.br 9 true (.br 10 true (.q 11 .done) .stop) .stop)))) (.br 9 true (.br 5 true (.q 6 (.q 7 (.q 8 (.br 10 true (.q 11 .done) .stop)))) .stop) .stop))))))) Try.mixed rfl (by kernel_rfl) ?_
        refine XT.q rfl rfl (Q.ldA [_, _, _, _] rfl rfl rfl) ?_
        refine XT.q rfl rfl (Q.move rfl) ?_
        refine XT.q rfl rfl (Q.move rfl) ?_
        refine XT.ix rfl rfl rfl rfl (by omega) (by omega) fun i26 => ?_
        refine XT.q rfl rfl (Q.ldEA [_, _] rfl (by first | assumption | omega) rfl rfl) ?_
        refine XT.call rfl rfl Try.call60 rfl rfl rfl (RMake_spec t vp vt hp ht (l.getD i default).2 (l.getD i default).1 hL) (fun v28 s28 R28 => ?_) ?_
        · skip
          obtain ⟨rfl, rfl⟩ := R28
          dsimp only [List.cons_append, List.nil_append]
          refine ⟨inferInstance, ?_⟩
          refine XT.q rfl rfl (Q.move rfl) ?_
          refine XT.q rfl rfl (Q.extract rfl rfl) ?_
          refine XT.q rfl rfl (Q.extract rfl rfl) ?_
          refine XT.alloc rfl rfl (fun b10 => ⟨inferInstance, ?_⟩) XT.stop
          refine XT.st rfl rfl rfl rfl rfl ⟨inferInstance, ?_⟩ XT.stop
          refine XT.q rfl rfl (Q.assign rfl) ?_
          refine XT.done ?_
          exact mtr8 (b10) _ _ trivial (.c rfl (.c rfl (.base 11 rfl rfl))) inferInstance
        · skip
          refine XT.alloc rfl rfl (fun b10 => ⟨inferInstance, ?_⟩) XT.stop
          refine XT.call rfl rfl Try.call60 rfl rfl rfl (RMake_spec t vp vt hp ht (l.getD i default).2 (l.getD i default).1 hL) (fun v28 s28 R28 => ?_) XT.stop
          obtain ⟨rfl, rfl⟩ := R28
          dsimp only [List.cons_append, List.nil_append]
          refine ⟨inferInstance, ?_⟩
          refine XT.q rfl rfl (Q.move rfl) ?_
          refine XT.q rfl rfl (Q.extract rfl rfl) ?_
          refine XT.q rfl rfl (Q.extract rfl rfl) ?_
          refine XT.st rfl rfl rfl rfl rfl ⟨inferInstance, ?_⟩ XT.stop
          refine XT.q rfl rfl (Q.assign rfl) ?_
          refine XT.done ?_
          exact mtr8 (b10) _ _ trivial (.c rfl (.c rfl (.base 11 rfl rfl))) inferInstance
    · have _t1 := True.intro
      have hin : i = l.length := by omega
      subst hin
      refine XK.exit rfl ?_
      refine XK.seq ?_
      refine XK.drawn [0, 1, 2, 4] [b8] [] (.q 0 (.q 1 (.q 2 (.br 3 true (.q 4 .done) .stop)))) Try.mixed rfl (by kernel_rfl) ?_
      refine XT.q rfl rfl (Q.move rfl) ?_
      refine XT.q rfl rfl (Q.ldA [_, _, _, _] rfl rfl rfl) ?_
      refine XT.q rfl rfl (Q.assign rfl) ?_
      refine XT.st rfl rfl rfl rfl rfl ⟨inferInstance, ?_⟩ XT.stop
      refine XT.q rfl rfl (Q.assign rfl) ?_
      refine XT.done ?_
      refine XK.rt [ko] Try.func61 Try.results61 (.t rfl (.cell [_, _, _, _] rfl rfl rfl (.t rfl .n))) ?_
      have hw0 : totalG t (l.map Prod.snd) = ((List.range l.length).map (billAt t (l.map Prod.snd)), sumBill t (l.map Prod.snd) l.length, 0) := by rw [totalG, if_neg (by omega), hml, he, if_neg (by decide)]
      rw [hw0]
      exact ⟨_, ko, rfl, rfl, OO⟩
end Go.X

set_option linter.unusedSimpArgs false
set_option linter.unusedVariables false
set_option maxRecDepth 20000
namespace Go.X
open Go.Proofs
theorem tab_len (rs : List MRd) : ∀ m, (tabTo rs m).length ≤ m
  | 0 => by simp [tabTo]
  | m + 1 => by
    have := tab_len rs m
    rw [tabTo]
    split
    · rw [List.length_append]; simp; omega
    · omega
set_option maxHeartbeats 1000000 in
theorem Table_spec (ls : List MLink) (vl : Value) (hl : PHeap) [jl : Arr vl encLink 4 hl ls] : Spec Try.prog 41 #[vl] [] [hl] (fun v hs => ∃ v1 k1, v = .tuple #[v1, .int .i64 (tableG ls).2] ∧ hs = [k1] ∧ OArr v1 encP 2 161 k1 (tableG ls).1) := by
  have ll := jl.le
  have rl := rds_len ls
  have nP : OArr (.slice none 0 0) encP 2 161 emp ([] : List (Int × Int)) := OArr.nil (fun _ => rfl)
  refine Spec.intro (fn := Try.f41) (N := 56) Try.func41 rfl Try.ntmps41 rfl fun B => ?_
  refine XK.seq ?_
  refine XK.region rfl ?_
  refine XO.q (Q.assign rfl) ?_
  refine XO.q (Q.assign rfl) ?_
  refine XO.done ?_
  refine XK.seq ?_
  refine XK.seq ?_
  refine XK.region rfl ?_
  refine XO.q (Q.move rfl) ?_
  refine XO.call Try.call69 rfl rfl rfl (check_spec 0 ls vl hl false) fun v15 s15 R15 => ?_
  obtain ⟨rfl, rfl⟩ := R15
  dsimp only [List.cons_append, List.nil_append]
  refine XO.q (Q.move rfl) ?_
  refine XO.q (Q.extract rfl rfl) ?_
  refine XO.q (Q.extract rfl rfl) ?_
  refine XO.q (Q.assign rfl) ?_
  refine XO.q (Q.assign rfl) ?_
  refine XO.done ?_
  refine XK.seq ?_
  refine XK.region rfl ?_
  refine XO.q (Q.move rfl) ?_
  refine XO.q (Q.neq rfl rfl) ?_
  refine XO.done ?_
  refine XK.if rfl (fun c0 => ?_) (fun c0 => ?_)
  · have _t0 := True.intro
    refine XK.seq ?_
    refine XK.region rfl ?_
    refine XO.q (Q.move rfl) ?_
    refine XO.q (Q.assign rfl) ?_
    refine XO.q (Q.assign rfl) ?_
    refine XO.done ?_
    refine XK.rt [emp] Try.func41 Try.results41 (.t rfl (.t rfl .n)) ?_
    have e : tableG ls = ([], (checkG 0 ls false).2) := by rw [tableG, if_pos c0]
    rw [e]
    exact ⟨.slice none 0 0, emp, rfl, rfl, nP⟩
  · have _t0 := True.intro
    have cf := check_fine (Decidable.of_not_not c0)
    have vr : ∀ j, j < ls.length → 0 ≤ ((rdsL ls).getD j default).value ∧ ((rdsL ls).getD j default).value ≤ 1000000000 := fun j hj => errAt_rng (chk_err (cf.2 j hj))
    refine XK.skip ?_
    refine XK.seq ?_
    refine XK.region rfl ?_
    refine XO.map encK1 fun b21 => ?_
    refine XO.q (Q.assign rfl) ?_
    refine XO.done ?_
    refine XK.seq ?_
    refine XK.seq ?_
    refine XK.region rfl ?_
    refine XO.q (Q.move rfl) ?_
    refine XO.len rfl fun l23 => ?_
    refine XO.q (Q.move rfl) ?_
    refine XO.done ?_
    refine XK.block ?_
    refine XK.while (X := Nat) [8, 24, 25, 26, 27, 28, 29, 30, 31, 32, 33, 34, 35, 36, 37] (fun i => [(24, some (.int .i64 (i : Nat)))]) (fun i => [mapH b21 encK1 (msumTo (rdsL ls) (i))]) (fun i => i ≤ ls.length) (fun i => ls.length - i) (0) [mapH b21 encK1 []] rfl (by omega) (.c rfl (.base 0 rfl rfl)) ?_
    rintro i hi ih0
    dsimp only [List.cons_append, List.nil_append] at ih0 ⊢
    refine XK.seq ?_
    refine XK.region rfl ?_
    refine XO.q (Q.lss rfl rfl) ?_
    refine XO.done ?_
    refine XK.seq ?_
    refine XK.if rfl (fun c1 => ?_) (fun c1 => ?_)
    · have _t1 := True.intro
      have er := rds_at (ls := ls) (i := i) (by omega)
      have sr := sumM_rng (rs := (rdsL ls)) (m := (ls.getD i default).rd.meter) (n := i) (fun j hj => vr j (by omega))
      have vi := vr i (by omega)
      rw [er] at vi
      refine XK.skip ?_
      refine XK.seq ?_
      refine XK.block ?_
      refine XK.seq ?_
      refine XK.region rfl ?_
      refine XO.ix rfl rfl (by omega) (by omega) fun i26 => ?_
      refine XO.q (Q.ldEA [_, _, _, _] rfl (by first | assumption | omega) rfl rfl) ?_
      refine XO.alloc fun b8 => ?_
      refine XO.st rfl rfl rfl ?_
      refine XO.done ?_
      refine XK.region rfl ?_
      refine XO.q (Q.move rfl) ?_
      refine XO.q (Q.fieldAddr rfl) ?_
      refine XO.q (Q.fieldAddr rfl) ?_
      refine XO.q (Q.ld rfl rfl) ?_
      refine XO.q (Q.lookup (enc := encK1) _ Try.zeroValue3 ((ls.getD i default).rd.meter) rfl rfl) ?_
      rw [get_msum0 (by omega)]
      refine XO.q (Q.fieldAddr rfl) ?_
      refine XO.q (Q.fieldAddr rfl) ?_
      refine XO.q (Q.ld rfl rfl) ?_
      refine XO.q (Q.add rfl rfl ⟨by omega, by omega⟩) ?_
      refine XO.mapUpdate (enc := encK1) ((ls.getD i default).rd.meter) rfl rfl rfl ?_
      rw [show putM (ls.getD i default).rd.meter (.int .i64 (sumM (rdsL ls) (ls.getD i default).rd.meter i + (ls.getD i default).rd.value)) (msumTo (rdsL ls) (i)) = (msumTo (rdsL ls) (i + 1)) by rw [msumTo, er]]
      refine XO.done ?_
      refine XK.inBlock ?_
      refine XK.region rfl ?_
      refine XO.q (Q.add rfl rfl ⟨by omega, by omega⟩) ?_
      refine XO.q (Q.move rfl) ?_
      refine XO.done ?_
      exact ih0 (i + 1) _ _ (by omega) (by first | omega | (dsimp only; omega)) (.c rfl (.base 31 rfl rfl)) inferInstance
    · have _t1 := True.intro
      have hin : i = ls.length := by omega
      rw [hin, ← rl]
      clear ih0
      refine XK.exit rfl ?_
      refine XK.seq ?_
      refine XK.region rfl ?_
      refine XO.q (Q.assign rfl) ?_
      refine XO.done ?_
      refine XK.seq ?_
      refine XK.seq ?_
      refine XK.region rfl ?_
      refine XO.q (Q.move rfl) ?_
      refine XO.done ?_
      refine XK.block ?_
      refine XK.while (X := Nat × Value × PHeap) [9, 10, 11, 12, 38, 39, 40, 41, 42, 43, 44, 45, 46, 47, 48, 49, 50, 51, 52, 53, 54] (fun ⟨m, vo, ko⟩ => [(9, some (vo)), (38, some (.int .i64 (m : Nat)))]) (fun ⟨m, vo, ko⟩ => [ko]) (fun ⟨m, vo, ko⟩ => m ≤ 64 ∧ OArr vo encP 2 161 ko (tabTo (rdsL ls) m)) (fun ⟨m, vo, ko⟩ => 64 - m) (0, .slice none 0 0, emp) [emp] rfl ⟨by omega, nP⟩ (.c rfl (.c rfl (.base 0 rfl rfl))) ?_
      rintro ⟨m, vo, ko⟩ ⟨hm, OO⟩ ih1
      dsimp only [List.cons_append, List.nil_append] at ih1 ⊢
      refine XK.seq ?_
      refine XK.region rfl ?_
      refine XO.q (Q.lss rfl rfl) ?_
      refine XO.done ?_
      refine XK.seq ?_
      refine XK.if rfl (fun c2 => ?_) (fun c2 => ?_)
      · have _t2 := True.intro
        have tl := tab_len (rdsL ls) m
        refine XK.skip ?_
        refine XK.seq ?_
        refine XK.block ?_
        refine XK.seq ?_
        refine XK.region rfl ?_
        refine XO.q (Q.move rfl) ?_
        refine XO.q (Q.assign rfl) ?_
        refine XO.done ?_
        refine XK.seq ?_
        refine XK.region rfl ?_
        refine XO.q (Q.move rfl) ?_
        refine XO.q (Q.move rfl) ?_
        refine XO.q (Q.lookup2 (enc := encK1) _ Try.zeroValue3 (((m : Nat) : Int)) rfl rfl) ?_
        rw [get_msum0 (by omega), has_some]
        refine XO.q (Q.move rfl) ?_
        refine XO.q (Q.extract rfl rfl) ?_
        refine XO.q (Q.extract rfl rfl) ?_
        refine XO.q (Q.assign rfl) ?_
        refine XO.q (Q.assign rfl) ?_
        refine XO.done ?_
        refine XK.seq ?_
        refine XK.region rfl ?_
        refine XO.q (Q.move rfl) ?_
        refine XO.done ?_
        refine XK.if rfl (fun c3 => ?_) (fun c3 => ?_)
        · have _t3 := True.intro
          refine XK.region rfl ?_
          refine XO.q (Q.move rfl) ?_
          refine XO.q (Q.move rfl) ?_
          refine XO.q (Q.move rfl) ?_
          refine XO.q (Q.build [_, _] (.c 0 1 rfl rfl rfl (.c 1 1 rfl rfl rfl (.n _)))) ?_
          refine XO.lit [_, _] [_, _] [(((m : Nat) : Int), sumM (rdsL ls) m (rdsL ls).length)] encP (by rfl) (by rfl) rfl (by rfl) (by exact .c 0 2 rfl rfl rfl (.n _)) (fun _ => rfl) (by rfl) rfl (by infer_instance) rfl fun v52 h52 O52 => ?_
          refine XO.append rfl rfl rfl rfl (by first | omega | (simp; omega)) fun v53 h53 O53 => ?_
          refine XO.q (Q.assign rfl) ?_
          refine XO.done ?_
          refine XK.inBlock ?_
          refine XK.region rfl ?_
          refine XO.q (Q.add rfl rfl ⟨by omega, by omega⟩) ?_
          refine XO.q (Q.move rfl) ?_
          refine XO.done ?_
          exact ih1 (m + 1, v53, h53) _ _ ⟨by dsimp only; omega, by dsimp only; rw [tabTo, if_pos c3]; exact O53⟩ (by first | omega | (dsimp only; omega)) (.c rfl (.c rfl (.base 44 rfl rfl))) inferInstance
        · have _t3 := True.intro
          refine XK.skip ?_
          refine XK.inBlock ?_
          refine XK.region rfl ?_
          refine XO.q (Q.add rfl rfl ⟨by omega, by omega⟩) ?_
          refine XO.q (Q.move rfl) ?_
          refine XO.done ?_
          exact ih1 (m + 1, vo, ko) _ _ ⟨by dsimp only; omega, by dsimp only; rw [tabTo, if_neg c3]; exact OO⟩ (by first | omega | (dsimp only; omega)) (.c rfl (.c rfl (.base 37 rfl rfl))) inferInstance
      · have _t2 := True.intro
        have hm64 : m = 64 := by omega
        subst hm64
        refine XK.exit rfl ?_
        refine XK.seq ?_
        refine XK.region rfl ?_
        refine XO.q (Q.move rfl) ?_
        refine XO.q (Q.assign rfl) ?_
        refine XO.q (Q.assign rfl) ?_
        refine XO.done ?_
        refine XK.rt [ko] Try.func41 Try.results41 (.t rfl (.t rfl .n)) ?_
        have e : tableG ls = (tabTo (rdsL ls) 64, 0) := by rw [tableG, if_neg c0]
        rw [e]
        exact ⟨vo, ko, rfl, rfl, OO⟩
end Go.X
