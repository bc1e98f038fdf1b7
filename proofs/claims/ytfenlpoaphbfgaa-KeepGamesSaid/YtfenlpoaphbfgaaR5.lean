/- The row of KeepGames: Check, Solve, Verify, Play and Force return what the reference returns, for any game, certificate, state, shocks and controls of the sizes that the statement asks. No condition. -/
import Derived.Test.YtfenlpoaphbfgaaA5
import Derived.OpenShut
import Derived.ChangeOld
import Derived.ShutString
import Derived.Test.YtfenlpoaphbfgaaRows
namespace Go.Proofs.Ytfenlpoaphbfgaa
open Go.ChangeShapes Go.WideShapes Go.ChangeAt Go.RowKit Go.X
set_option linter.unusedVariables false

theorem keepGames_own : ownKnob Try.prog.godebug = none := by kernel_rfl
theorem keepGames_laidOut : laidOutB Try.prog = true := by kernel_rfl
theorem keepGames_cells3 : Try.prog.cellsOf 3 = 1 := by kernel_rfl
theorem keepGames_bytes3 : Try.prog.bytesOf 3 = 8 := by kernel_rfl
theorem keepGames_sc25_3 : Try.prog.cellsOf 3 = 1 := by kernel_rfl
theorem keepGames_sc25_22 : Try.prog.cellsOf 22 = 1 := by kernel_rfl
theorem keepGames_sc25_23 : Try.prog.cellsOf 23 = 1 := by kernel_rfl
theorem keepGames_sc25_25 : Try.prog.cellsOf 25 = 5 := by kernel_rfl
theorem keepGames_se25_3 : Try.prog.cellsOf 3 = 1 := by kernel_rfl
theorem keepGames_sb25_3 : Try.prog.bytesOf 3 = 8 := by kernel_rfl
theorem keepGames_se25_4 : Try.prog.cellsOf 4 = 1 := by kernel_rfl
theorem keepGames_sb25_4 : Try.prog.bytesOf 4 = 1 := by kernel_rfl
set_option maxRecDepth 100000 in
theorem keepGames_open25 {H : Type} {enc : TypeId × Value → H} {W : World} {base : Nat} {v : Value} {d : DataW H} {p : List MemPlace} (hv : Value.okWide Try.prog W .any base 25 v) (h : DataW.Trod enc Try.prog W 0 (fun _ => true) true 25 v d p)
    (hw : ∀ n ∈ d.weights Try.prog 25, n ≤ reachBytes) : ∃ (n0 : Int) (n1 : Int) (n2 : Int) (w3 : Value) (x3 : List Int) (w4 : Value) (x4 : List Bool), v = .agg #[.int .i64 n0, .int .i64 n1, .int .i64 n2, w3, w4] ∧ in64 n0 ∧ in64 n1 ∧ in64 n2 ∧ Arr w3 encI 1 (heapOf W) x3 ∧ Arr w4 encB 1 (heapOf W) x4 := by
  obtain ⟨cs, rfl, hsz⟩ := okWide_struct Try.underlying25 hv
  obtain ⟨fuel, hf⟩ := h
  obtain ⟨xs, n, _, hx, _, hlen, hg⟩ := DataW.trod_struct Try.underlying25 hf
  obtain ⟨l⟩ := cs
  have hl : l.length = 5 := hsz.trans keepGames_sc25_25
  match l, hl with
  | [c0, c1, c2, c3, c4], _ =>
    match xs, hlen with
    | [y0, y1, y2, y3, y4], _ =>
      have g0 : DataW.trod enc Try.prog W 0 (fun _ => true) true n 3 [c0] = some y0 := by simpa [Value.cells, keepGames_sc25_3] using hg 0 _ rfl
      have g1 : DataW.trod enc Try.prog W 0 (fun _ => true) true n 3 [c1] = some y1 := by simpa [Value.cells, keepGames_sc25_3] using hg 1 _ rfl
      have g2 : DataW.trod enc Try.prog W 0 (fun _ => true) true n 3 [c2] = some y2 := by simpa [Value.cells, keepGames_sc25_3] using hg 2 _ rfl
      have g3 : DataW.trod enc Try.prog W 0 (fun _ => true) true n 22 [c3] = some y3 := by simpa [Value.cells, keepGames_sc25_22] using hg 3 _ rfl
      have g4 : DataW.trod enc Try.prog W 0 (fun _ => true) true n 23 [c4] = some y4 := by simpa [Value.cells, keepGames_sc25_23] using hg 4 _ rfl
      have hr : reachBytes = 140737488351232 := rfl
      obtain ⟨m0, e0, _, wf0⟩ := DataW.trod_int Try.underlying3 g0
      simp only [List.cons.injEq, and_true] at e0
      subst e0
      obtain ⟨m1, e1, _, wf1⟩ := DataW.trod_int Try.underlying3 g1
      simp only [List.cons.injEq, and_true] at e1
      subst e1
      obtain ⟨m2, e2, _, wf2⟩ := DataW.trod_int Try.underlying3 g2
      simp only [List.cons.injEq, and_true] at e2
      subst e2
      simp only [Prod.mk.injEq] at hx
      obtain ⟨rfl, _⟩ := hx
      have w3 : ∀ elems spare, y3.1 = .slice elems spare → elems.length + spare.length ≤ 140737488355328 := fun elems spare he => by
        have := hw ((elems.length + spare.length) * Try.prog.bytesOf 3) (by
          simp [DataW.weights, DataW.weightsEach, Try.underlying22, Try.underlying23, Try.underlying25, he])
        rw [keepGames_sb25_3, hr] at this
        omega
      obtain ⟨u3, l3, e3, a3⟩ := arr_ints Try.underlying22 Try.underlying3 keepGames_se25_3 g3 w3
      simp only [List.cons.injEq, and_true] at e3
      subst e3
      have w4 : ∀ elems spare, y4.1 = .slice elems spare → elems.length + spare.length ≤ 140737488355328 := fun elems spare he => by
        have := hw ((elems.length + spare.length) * Try.prog.bytesOf 4) (by
          simp [DataW.weights, DataW.weightsEach, Try.underlying22, Try.underlying23, Try.underlying25, he])
        rw [keepGames_sb25_4, hr] at this
        omega
      obtain ⟨u4, l4, e4, a4⟩ := arr_bools Try.underlying23 Try.underlying4 keepGames_se25_4 g4 w4
      simp only [List.cons.injEq, and_true] at e4
      subst e4
      exact ⟨m0, m1, m2, c3, l3, c4, l4, rfl, bounds_i64 wf0, bounds_i64 wf1, bounds_i64 wf2, a3, a4⟩

theorem keepGames_sc44_22 : Try.prog.cellsOf 22 = 1 := by kernel_rfl
theorem keepGames_sc44_23 : Try.prog.cellsOf 23 = 1 := by kernel_rfl
theorem keepGames_sc44_44 : Try.prog.cellsOf 44 = 3 := by kernel_rfl
theorem keepGames_se44_3 : Try.prog.cellsOf 3 = 1 := by kernel_rfl
theorem keepGames_sb44_3 : Try.prog.bytesOf 3 = 8 := by kernel_rfl
theorem keepGames_se44_4 : Try.prog.cellsOf 4 = 1 := by kernel_rfl
theorem keepGames_sb44_4 : Try.prog.bytesOf 4 = 1 := by kernel_rfl
set_option maxRecDepth 100000 in
theorem keepGames_open44 {H : Type} {enc : TypeId × Value → H} {W : World} {base : Nat} {v : Value} {d : DataW H} {p : List MemPlace} (hv : Value.okWide Try.prog W .any base 44 v) (h : DataW.Trod enc Try.prog W 0 (fun _ => true) true 44 v d p)
    (hw : ∀ n ∈ d.weights Try.prog 44, n ≤ reachBytes) : ∃ (w0 : Value) (x0 : List Bool) (w1 : Value) (x1 : List Int) (w2 : Value) (x2 : List Int), v = .agg #[w0, w1, w2] ∧ Arr w0 encB 1 (heapOf W) x0 ∧ Arr w1 encI 1 (heapOf W) x1 ∧ Arr w2 encI 1 (heapOf W) x2 := by
  obtain ⟨cs, rfl, hsz⟩ := okWide_struct Try.underlying44 hv
  obtain ⟨fuel, hf⟩ := h
  obtain ⟨xs, n, _, hx, _, hlen, hg⟩ := DataW.trod_struct Try.underlying44 hf
  obtain ⟨l⟩ := cs
  have hl : l.length = 3 := hsz.trans keepGames_sc44_44
  match l, hl with
  | [c0, c1, c2], _ =>
    match xs, hlen with
    | [y0, y1, y2], _ =>
      have g0 : DataW.trod enc Try.prog W 0 (fun _ => true) true n 23 [c0] = some y0 := by simpa [Value.cells, keepGames_sc44_23] using hg 0 _ rfl
      have g1 : DataW.trod enc Try.prog W 0 (fun _ => true) true n 22 [c1] = some y1 := by simpa [Value.cells, keepGames_sc44_22] using hg 1 _ rfl
      have g2 : DataW.trod enc Try.prog W 0 (fun _ => true) true n 22 [c2] = some y2 := by simpa [Value.cells, keepGames_sc44_22] using hg 2 _ rfl
      have hr : reachBytes = 140737488351232 := rfl
      simp only [Prod.mk.injEq] at hx
      obtain ⟨rfl, _⟩ := hx
      have w0 : ∀ elems spare, y0.1 = .slice elems spare → elems.length + spare.length ≤ 140737488355328 := fun elems spare he => by
        have := hw ((elems.length + spare.length) * Try.prog.bytesOf 4) (by
          simp [DataW.weights, DataW.weightsEach, Try.underlying22, Try.underlying23, Try.underlying44, he])
        rw [keepGames_sb44_4, hr] at this
        omega
      obtain ⟨u0, l0, e0, a0⟩ := arr_bools Try.underlying23 Try.underlying4 keepGames_se44_4 g0 w0
      simp only [List.cons.injEq, and_true] at e0
      subst e0
      have w1 : ∀ elems spare, y1.1 = .slice elems spare → elems.length + spare.length ≤ 140737488355328 := fun elems spare he => by
        have := hw ((elems.length + spare.length) * Try.prog.bytesOf 3) (by
          simp [DataW.weights, DataW.weightsEach, Try.underlying22, Try.underlying23, Try.underlying44, he])
        rw [keepGames_sb44_3, hr] at this
        omega
      obtain ⟨u1, l1, e1, a1⟩ := arr_ints Try.underlying22 Try.underlying3 keepGames_se44_3 g1 w1
      simp only [List.cons.injEq, and_true] at e1
      subst e1
      have w2 : ∀ elems spare, y2.1 = .slice elems spare → elems.length + spare.length ≤ 140737488355328 := fun elems spare he => by
        have := hw ((elems.length + spare.length) * Try.prog.bytesOf 3) (by
          simp [DataW.weights, DataW.weightsEach, Try.underlying22, Try.underlying23, Try.underlying44, he])
        rw [keepGames_sb44_3, hr] at this
        omega
      obtain ⟨u2, l2, e2, a2⟩ := arr_ints Try.underlying22 Try.underlying3 keepGames_se44_3 g2 w2
      simp only [List.cons.injEq, and_true] at e2
      subst e2
      exact ⟨c0, l0, c1, l1, c2, l2, rfl, a0, a1, a2⟩

set_option maxRecDepth 100000 in
theorem keepGames_lifted (os : Os) (started : os.Started) (H : Type) (enc : TypeId × Value → H) :
    ReturnsInHanded {} Try.checked os 6 .any (Rows.keepGamesSpec.pre6 enc Try.prog Try.f6 Rows.keepGamesRow.domain false) (Rows.keepGamesSpec.post enc Try.prog Try.f6 false true false false) := by
  refine returnsInHanded_of_change_sized (C := Try.checked) keepGames_own started (by kernel_rfl) Try.func6
    (ChangeSpec.witness6 (enc := enc) (C := Try.checked) false ⟨#[], #[.agg #[.int .i64 0, .int .i64 0, .int .i64 0, .slice none 0 0, .slice none 0 0], .agg #[.slice none 0 0, .slice none 0 0, .slice none 0 0], .int .i64 0, .slice none 0 0, .int .i64 0, .int .i64 0], []⟩ 8 (by kernel_rfl) (by kernel_rfl) (by kernel_rfl) (by kernel_rfl)) ?_
  intro W base args ds gs before hval0 hW hcnd hsz0 _
  have hval : ∀ (j : Nat) t v, Try.f6.params[j]? = some t → args[j]? = some v → Value.okWide Try.prog W .any base t v := hval0
  have hsz : (DataW.weightsEach Try.prog (Try.f6.params.toList ++ Rows.keepGamesSpec.plain.varTypes Try.prog) (ds ++ gs)).all (· ≤ reachBytes) = true := hsz0
  have hW' := hW
  obtain ⟨p, q, hA0, hV, rfl, hfz, hnd⟩ := hW
  have hA : DataW.TrodAll enc Try.prog W 0 (fun _ => true) true Try.f6.params.toList args.toList ds p := hA0
  rw [Try.params6] at hA hval hsz
  obtain ⟨v0, vs0, d0, ds0, p0, q0, hargs, rfl, rfl, h0, r0⟩ := trodAll_cons hA
  obtain ⟨v1, vs1, d1, ds1, p1, q1, rfl, rfl, rfl, h1, r1⟩ := trodAll_cons r0
  obtain ⟨v2, vs2, d2, ds2, p2, q2, rfl, rfl, rfl, h2, r2⟩ := trodAll_cons r1
  obtain ⟨v3, vs3, d3, ds3, p3, q3, rfl, rfl, rfl, h3, r3⟩ := trodAll_cons r2
  obtain ⟨v4, vs4, d4, ds4, p4, q4, rfl, rfl, rfl, h4, r4⟩ := trodAll_cons r3
  obtain ⟨v5, vs5, d5, ds5, p5, q5, rfl, rfl, rfl, h5, r5⟩ := trodAll_cons r4
  obtain ⟨rfl, rfl, rfl⟩ := trodAll_nil r5
  obtain rfl : args = #[v0, v1, v2, v3, v4, v5] := by cases args; simp_all
  obtain ⟨rfl, rfl⟩ := trodVars_none hV
  have k0 := h0
  have lt0 : ∀ x ∈ p0, x.block < W.heap.size := by obtain ⟨m, hm⟩ := k0; exact DataW.trod_lt m _ _ _ hm
  have s0 : ∀ n ∈ d0.weights Try.prog 25, n ≤ reachBytes := fun n hn => by
    simpa using List.all_eq_true.1 hsz _ (DataW.weights_mem_each (j := 0) (t := 25) rfl rfl n hn)
  have k1 := h1
  have lt1 : ∀ x ∈ p1, x.block < W.heap.size := by obtain ⟨m, hm⟩ := k1; exact DataW.trod_lt m _ _ _ hm
  have s1 : ∀ n ∈ d1.weights Try.prog 44, n ≤ reachBytes := fun n hn => by
    simpa using List.all_eq_true.1 hsz _ (DataW.weights_mem_each (j := 1) (t := 44) rfl rfl n hn)
  have k3 := h3
  have lt3 : ∀ x ∈ p3, x.block < W.heap.size := by obtain ⟨m, hm⟩ := k3; exact DataW.trod_lt m _ _ _ hm
  have s3 : ∀ n ∈ d3.weights Try.prog 22, n ≤ reachBytes := fun n hn => by
    simpa using List.all_eq_true.1 hsz _ (DataW.weights_mem_each (j := 3) (t := 22) rfl rfl n hn)
  obtain ⟨n0_0, n0_1, n0_2, w0_3, x0_3, w0_4, x0_4, rfl, b0_0, b0_1, b0_2, I0_3, I0_4⟩ := keepGames_open25 (hval 0 25 v0 rfl rfl) h0 s0
  obtain ⟨w1_0, x1_0, w1_1, x1_1, w1_2, x1_2, rfl, I1_0, I1_1, I1_2⟩ := keepGames_open44 (hval 1 44 v1 rfl rfl) h1 s1
  obtain ⟨n2, b2, rfl, rfl, rfl, wf2⟩ := open_i64 Try.underlying3 (hval 2 3 v2 rfl rfl) h2
  obtain ⟨x3, I3⟩ := open_i64s Try.underlying22 Try.underlying3 keepGames_cells3 (by rw [keepGames_bytes3]; decide) (hval 3 22 v3 rfl rfl) h3 s3
  obtain ⟨n4, b4, rfl, rfl, rfl, wf4⟩ := open_i64 Try.underlying3 (hval 4 3 v4 rfl rfl) h4
  obtain ⟨n5, b5, rfl, rfl, rfl, wf5⟩ := open_i64 Try.underlying3 (hval 5 3 v5 rfl rfl) h5
  clear hA0 hval0
  refine (calls_of_spec (KeepGames_spec ⟨n0_0, n0_1, n0_2, x0_3, x0_4⟩ w0_3 w0_4 (heapOf W) (heapOf W) w1_0 w1_1 w1_2 (heapOf W) (heapOf W) (heapOf W) x1_0 x1_1 x1_2 n2 v3 (heapOf W) x3 n4 n5 b4 b5) (fun h hh => by simpa using hh)).mono fun e W' ⟨v, hs, he, ⟨hv, _⟩, bel⟩ => ?_
  subst hv; subst he
  exact ⟨_, rfl, _, _, _, [], _, [], hW', trodAll_mk1 (shut_bool Try.underlying4 _), (trodAll_cons_mk (Stays.trod keepGames_laidOut (by kernel_rfl) (of_decide_eq_true (by kernel_rfl)) k0 bel lt0) (trodAll_cons_mk (Stays.trod keepGames_laidOut (by kernel_rfl) (of_decide_eq_true (by kernel_rfl)) k1 bel lt1) (trodAll_cons_mk (shut_int Try.underlying3 wf2) (trodAll_cons_mk (Stays.trod keepGames_laidOut (by kernel_rfl) (of_decide_eq_true (by kernel_rfl)) k3 bel lt3) (trodAll_cons_mk (shut_int Try.underlying3 wf4) (trodAll_cons_mk (shut_int Try.underlying3 wf5) trodAll_mk0)))))), rfl, bel.frame _, fun h => by cases h⟩

theorem keepGames_over : Rows.KeepGamesSaid :=
  OpenClaim.holds_of_wide 6 Try.f6 rfl rfl rfl rfl rfl rfl rfl ⟨rfl, rfl, rfl, rfl, rfl⟩ rfl rfl rfl rfl rfl (by kernel_rfl) Try.func6 (by kernel_rfl)
    (of_decide_eq_true (by kernel_rfl)) (by unfold Func.isWrapper; first | (rw [if_pos (by decide +kernel)]; kernel_rfl) | (rw [if_neg (by decide +kernel)]; exact ⟨rfl, rfl⟩))
    (fun os started H enc _ => keepGames_lifted os started H enc)
end Go.Proofs.Ytfenlpoaphbfgaa
