/- The row of MarketPlans: plans, costs, ledgers and proofs are as the document says. No condition. -/
import Derived.Test.YtbeieafhcephmaaA7
import Derived.OpenShut
import Derived.ChangeOld
import Derived.ShutString
import Derived.Test.YtbeieafhcephmaaRows
namespace Go.Proofs.Ytbeieafhcephmaa
open Go.ChangeShapes Go.WideShapes Go.ChangeAt Go.RowKit Go.X
set_option linter.unusedVariables false
set_option linter.unusedSimpArgs false

theorem marketPlans_own : ownKnob Try.prog.godebug = none := by kernel_rfl
theorem marketPlans_laidOut : laidOutB Try.prog = true := by kernel_rfl
theorem marketPlans_rc39_3 : Try.prog.cellsOf 3 = 1 := by kernel_rfl
theorem marketPlans_rc39_39 : Try.prog.cellsOf 39 = 6 := by kernel_rfl
theorem marketPlans_one39 : ∀ (x : KHour), ∀ c ∈ encHour x, one c = true := fun x c hc => by
  unfold encHour at hc
  simp only [List.mem_cons, List.not_mem_nil, or_false] at hc
  rcases hc with rfl | rfl | rfl | rfl | rfl | rfl <;> rfl
set_option maxRecDepth 100000 in
theorem marketPlans_dec39 {H : Type} {enc : TypeId × Value → H} {W : World} {held : Bool} {n : Nat} {cs : List Value} {y : DataW H × List MemPlace} (h : DataW.trod enc Try.prog W 0 (fun _ => true) held n 39 cs = some y) : ∃ r, cs = encHour r := by
  obtain ⟨xs, m, _, _, hlen0, hlen, hg⟩ := DataW.trod_struct Try.underlying39 h
  have hl : cs.length = 6 := hlen0.trans marketPlans_rc39_39
  match cs, hl with
  | [c0, c1, c2, c3, c4, c5], _ =>
    match xs, hlen with
    | [y0, y1, y2, y3, y4, y5], _ =>
      have g_0 : DataW.trod enc Try.prog W 0 (fun _ => true) held m 3 [c0] = some y0 := by simpa [marketPlans_rc39_3] using hg 0 _ rfl
      obtain ⟨w0, e0, _, _⟩ := DataW.trod_int Try.underlying3 g_0
      simp only [List.cons.injEq, and_true] at e0
      subst e0
      have g_1 : DataW.trod enc Try.prog W 0 (fun _ => true) held m 3 [c1] = some y1 := by simpa [marketPlans_rc39_3] using hg 1 _ rfl
      obtain ⟨w1, e1, _, _⟩ := DataW.trod_int Try.underlying3 g_1
      simp only [List.cons.injEq, and_true] at e1
      subst e1
      have g_2 : DataW.trod enc Try.prog W 0 (fun _ => true) held m 3 [c2] = some y2 := by simpa [marketPlans_rc39_3] using hg 2 _ rfl
      obtain ⟨w2, e2, _, _⟩ := DataW.trod_int Try.underlying3 g_2
      simp only [List.cons.injEq, and_true] at e2
      subst e2
      have g_3 : DataW.trod enc Try.prog W 0 (fun _ => true) held m 3 [c3] = some y3 := by simpa [marketPlans_rc39_3] using hg 3 _ rfl
      obtain ⟨w3, e3, _, _⟩ := DataW.trod_int Try.underlying3 g_3
      simp only [List.cons.injEq, and_true] at e3
      subst e3
      have g_4 : DataW.trod enc Try.prog W 0 (fun _ => true) held m 3 [c4] = some y4 := by simpa [marketPlans_rc39_3] using hg 4 _ rfl
      obtain ⟨w4, e4, _, _⟩ := DataW.trod_int Try.underlying3 g_4
      simp only [List.cons.injEq, and_true] at e4
      subst e4
      have g_5 : DataW.trod enc Try.prog W 0 (fun _ => true) held m 3 [c5] = some y5 := by simpa [marketPlans_rc39_3] using hg 5 _ rfl
      obtain ⟨w5, e5, _, _⟩ := DataW.trod_int Try.underlying3 g_5
      simp only [List.cons.injEq, and_true] at e5
      subst e5
      exact ⟨⟨w0, w1, w2, w3, w4, w5⟩, rfl⟩
theorem marketPlans_rc77_3 : Try.prog.cellsOf 3 = 1 := by kernel_rfl
theorem marketPlans_rc77_77 : Try.prog.cellsOf 77 = 4 := by kernel_rfl
theorem marketPlans_one77 : ∀ (x : KJob), ∀ c ∈ encJob x, one c = true := fun x c hc => by
  unfold encJob at hc
  simp only [List.mem_cons, List.not_mem_nil, or_false] at hc
  rcases hc with rfl | rfl | rfl | rfl <;> rfl
set_option maxRecDepth 100000 in
theorem marketPlans_dec77 {H : Type} {enc : TypeId × Value → H} {W : World} {held : Bool} {n : Nat} {cs : List Value} {y : DataW H × List MemPlace} (h : DataW.trod enc Try.prog W 0 (fun _ => true) held n 77 cs = some y) : ∃ r, cs = encJob r := by
  obtain ⟨xs, m, _, _, hlen0, hlen, hg⟩ := DataW.trod_struct Try.underlying77 h
  have hl : cs.length = 4 := hlen0.trans marketPlans_rc77_77
  match cs, hl with
  | [c0, c1, c2, c3], _ =>
    match xs, hlen with
    | [y0, y1, y2, y3], _ =>
      have g_0 : DataW.trod enc Try.prog W 0 (fun _ => true) held m 3 [c0] = some y0 := by simpa [marketPlans_rc77_3] using hg 0 _ rfl
      obtain ⟨w0, e0, _, _⟩ := DataW.trod_int Try.underlying3 g_0
      simp only [List.cons.injEq, and_true] at e0
      subst e0
      have g_1 : DataW.trod enc Try.prog W 0 (fun _ => true) held m 3 [c1] = some y1 := by simpa [marketPlans_rc77_3] using hg 1 _ rfl
      obtain ⟨w1, e1, _, _⟩ := DataW.trod_int Try.underlying3 g_1
      simp only [List.cons.injEq, and_true] at e1
      subst e1
      have g_2 : DataW.trod enc Try.prog W 0 (fun _ => true) held m 3 [c2] = some y2 := by simpa [marketPlans_rc77_3] using hg 2 _ rfl
      obtain ⟨w2, e2, _, _⟩ := DataW.trod_int Try.underlying3 g_2
      simp only [List.cons.injEq, and_true] at e2
      subst e2
      have g_3 : DataW.trod enc Try.prog W 0 (fun _ => true) held m 3 [c3] = some y3 := by simpa [marketPlans_rc77_3] using hg 3 _ rfl
      obtain ⟨w3, e3, _, _⟩ := DataW.trod_int Try.underlying3 g_3
      simp only [List.cons.injEq, and_true] at e3
      subst e3
      exact ⟨⟨w0, w1, w2, w3⟩, rfl⟩
theorem marketPlans_sc28_3 : Try.prog.cellsOf 3 = 1 := by kernel_rfl
theorem marketPlans_sc28_23 : Try.prog.cellsOf 23 = 1 := by kernel_rfl
theorem marketPlans_sc28_25 : Try.prog.cellsOf 25 = 4 := by kernel_rfl
theorem marketPlans_sc28_26 : Try.prog.cellsOf 26 = 1 := by kernel_rfl
theorem marketPlans_sc28_28 : Try.prog.cellsOf 28 = 8 := by kernel_rfl
theorem marketPlans_se28_39 : Try.prog.cellsOf 39 = 6 := by kernel_rfl
theorem marketPlans_sb28_39 : Try.prog.bytesOf 39 = 48 := by kernel_rfl
theorem marketPlans_se28_77 : Try.prog.cellsOf 77 = 4 := by kernel_rfl
theorem marketPlans_sb28_77 : Try.prog.bytesOf 77 = 32 := by kernel_rfl
set_option maxRecDepth 100000 in
theorem marketPlans_open28 {H : Type} {enc : TypeId × Value → H} {W : World} {base : Nat} {v : Value} {d : DataW H} {p : List MemPlace} (hv : Value.okWide Try.prog W .any base 28 v) (h : DataW.Trod enc Try.prog W 0 (fun _ => true) true 28 v d p)
    (hw : ∀ n ∈ d.weights Try.prog 28, n ≤ reachBytes) : ∃ (w0 : Value) (x0 : List KHour) (n1_0 : Int) (n1_1 : Int) (n1_2 : Int) (n1_3 : Int) (w2 : Value) (x2 : List KJob) (n3 : Int) (n4 : Int), v = .agg #[w0, .int .i64 n1_0, .int .i64 n1_1, .int .i64 n1_2, .int .i64 n1_3, w2, .int .i64 n3, .int .i64 n4] ∧ Arr w0 encHour 6 (heapOf W) x0 ∧ in64 n1_0 ∧ in64 n1_1 ∧ in64 n1_2 ∧ in64 n1_3 ∧ Arr w2 encJob 4 (heapOf W) x2 ∧ in64 n3 ∧ in64 n4 := by
  obtain ⟨cs, rfl, hsz⟩ := okWide_struct Try.underlying28 hv
  obtain ⟨fuel, hf⟩ := h
  obtain ⟨xs, n, _, hx, _, hlen, hg⟩ := DataW.trod_struct Try.underlying28 hf
  obtain ⟨l⟩ := cs
  have hl : l.length = 8 := hsz.trans marketPlans_sc28_28
  match l, hl with
  | [c0, c1, c2, c3, c4, c5, c6, c7], _ =>
    match xs, hlen with
    | [y0, y1, y2, y3, y4], _ =>
      have g0 : DataW.trod enc Try.prog W 0 (fun _ => true) true n 23 [c0] = some y0 := by simpa [Value.cells, marketPlans_sc28_23] using hg 0 _ rfl
      have g1 : DataW.trod enc Try.prog W 0 (fun _ => true) true n 25 [c1, c2, c3, c4] = some y1 := by simpa [Value.cells, marketPlans_sc28_25] using hg 1 _ rfl
      have g2 : DataW.trod enc Try.prog W 0 (fun _ => true) true n 26 [c5] = some y2 := by simpa [Value.cells, marketPlans_sc28_26] using hg 2 _ rfl
      have g3 : DataW.trod enc Try.prog W 0 (fun _ => true) true n 3 [c6] = some y3 := by simpa [Value.cells, marketPlans_sc28_3] using hg 3 _ rfl
      have g4 : DataW.trod enc Try.prog W 0 (fun _ => true) true n 3 [c7] = some y4 := by simpa [Value.cells, marketPlans_sc28_3] using hg 4 _ rfl
      have hr : reachBytes = 140737488351232 := rfl
      obtain ⟨m3, e3, _, wf3⟩ := DataW.trod_int Try.underlying3 g3
      simp only [List.cons.injEq, and_true] at e3
      subst e3
      obtain ⟨m4, e4, _, wf4⟩ := DataW.trod_int Try.underlying3 g4
      simp only [List.cons.injEq, and_true] at e4
      subst e4
      simp only [Prod.mk.injEq] at hx
      obtain ⟨rfl, _⟩ := hx
      have w0 : ∀ elems spare, y0.1 = .slice elems spare → elems.length + spare.length ≤ 140737488355328 := fun elems spare he => by
        have := hw ((elems.length + spare.length) * Try.prog.bytesOf 39) (by
          simp [DataW.weights, DataW.weightsEach, Try.underlying23, Try.underlying26, Try.underlying28, he])
        rw [marketPlans_sb28_39, hr] at this
        omega
      obtain ⟨u0, l0, e0, a0⟩ := arr_recs (f := encHour) (fun x => rfl) marketPlans_one39 (by decide) Try.underlying23 marketPlans_se28_39 g0 w0 (fun n cs y h => marketPlans_dec39 h)
      simp only [List.cons.injEq, and_true] at e0
      subst e0
      have w2 : ∀ elems spare, y2.1 = .slice elems spare → elems.length + spare.length ≤ 140737488355328 := fun elems spare he => by
        have := hw ((elems.length + spare.length) * Try.prog.bytesOf 77) (by
          simp [DataW.weights, DataW.weightsEach, Try.underlying23, Try.underlying26, Try.underlying28, he])
        rw [marketPlans_sb28_77, hr] at this
        omega
      obtain ⟨u2, l2, e2, a2⟩ := arr_recs (f := encJob) (fun x => rfl) marketPlans_one77 (by decide) Try.underlying26 marketPlans_se28_77 g2 w2 (fun n cs y h => marketPlans_dec77 h)
      simp only [List.cons.injEq, and_true] at e2
      subst e2
      obtain ⟨xs1, n1, _, _, _, hlen1, hg1⟩ := DataW.trod_struct Try.underlying25 g1
      match xs1, hlen1 with
      | [y1_0, y1_1, y1_2, y1_3], _ =>
        have g1_0 : DataW.trod enc Try.prog W 0 (fun _ => true) true n1 3 [c1] = some y1_0 := by simpa [Value.cells, marketPlans_sc28_3] using hg1 0 _ rfl
        obtain ⟨m1_0, e1_0, _, wf1_0⟩ := DataW.trod_int Try.underlying3 g1_0
        simp only [List.cons.injEq, and_true] at e1_0
        subst e1_0
        have g1_1 : DataW.trod enc Try.prog W 0 (fun _ => true) true n1 3 [c2] = some y1_1 := by simpa [Value.cells, marketPlans_sc28_3] using hg1 1 _ rfl
        obtain ⟨m1_1, e1_1, _, wf1_1⟩ := DataW.trod_int Try.underlying3 g1_1
        simp only [List.cons.injEq, and_true] at e1_1
        subst e1_1
        have g1_2 : DataW.trod enc Try.prog W 0 (fun _ => true) true n1 3 [c3] = some y1_2 := by simpa [Value.cells, marketPlans_sc28_3] using hg1 2 _ rfl
        obtain ⟨m1_2, e1_2, _, wf1_2⟩ := DataW.trod_int Try.underlying3 g1_2
        simp only [List.cons.injEq, and_true] at e1_2
        subst e1_2
        have g1_3 : DataW.trod enc Try.prog W 0 (fun _ => true) true n1 3 [c4] = some y1_3 := by simpa [Value.cells, marketPlans_sc28_3] using hg1 3 _ rfl
        obtain ⟨m1_3, e1_3, _, wf1_3⟩ := DataW.trod_int Try.underlying3 g1_3
        simp only [List.cons.injEq, and_true] at e1_3
        subst e1_3
        exact ⟨c0, l0, m1_0, m1_1, m1_2, m1_3, c5, l2, m3, m4, rfl, a0, bounds_i64 wf1_0, bounds_i64 wf1_1, bounds_i64 wf1_2, bounds_i64 wf1_3, a2, bounds_i64 wf3, bounds_i64 wf4⟩

theorem marketPlans_sc32_3 : Try.prog.cellsOf 3 = 1 := by kernel_rfl
theorem marketPlans_sc32_30 : Try.prog.cellsOf 30 = 1 := by kernel_rfl
theorem marketPlans_sc32_32 : Try.prog.cellsOf 32 = 3 := by kernel_rfl
theorem marketPlans_se32_3 : Try.prog.cellsOf 3 = 1 := by kernel_rfl
theorem marketPlans_sb32_3 : Try.prog.bytesOf 3 = 8 := by kernel_rfl
set_option maxRecDepth 100000 in
theorem marketPlans_open32 {H : Type} {enc : TypeId × Value → H} {W : World} {base : Nat} {v : Value} {d : DataW H} {p : List MemPlace} (hv : Value.okWide Try.prog W .any base 32 v) (h : DataW.Trod enc Try.prog W 0 (fun _ => true) true 32 v d p)
    (hw : ∀ n ∈ d.weights Try.prog 32, n ≤ reachBytes) : ∃ (w0 : Value) (x0 : List Int) (w1 : Value) (x1 : List Int) (n2 : Int), v = .agg #[w0, w1, .int .i64 n2] ∧ Arr w0 encI 1 (heapOf W) x0 ∧ Arr w1 encI 1 (heapOf W) x1 ∧ in64 n2 := by
  obtain ⟨cs, rfl, hsz⟩ := okWide_struct Try.underlying32 hv
  obtain ⟨fuel, hf⟩ := h
  obtain ⟨xs, n, _, hx, _, hlen, hg⟩ := DataW.trod_struct Try.underlying32 hf
  obtain ⟨l⟩ := cs
  have hl : l.length = 3 := hsz.trans marketPlans_sc32_32
  match l, hl with
  | [c0, c1, c2], _ =>
    match xs, hlen with
    | [y0, y1, y2], _ =>
      have g0 : DataW.trod enc Try.prog W 0 (fun _ => true) true n 30 [c0] = some y0 := by simpa [Value.cells, marketPlans_sc32_30] using hg 0 _ rfl
      have g1 : DataW.trod enc Try.prog W 0 (fun _ => true) true n 30 [c1] = some y1 := by simpa [Value.cells, marketPlans_sc32_30] using hg 1 _ rfl
      have g2 : DataW.trod enc Try.prog W 0 (fun _ => true) true n 3 [c2] = some y2 := by simpa [Value.cells, marketPlans_sc32_3] using hg 2 _ rfl
      have hr : reachBytes = 140737488351232 := rfl
      obtain ⟨m2, e2, _, wf2⟩ := DataW.trod_int Try.underlying3 g2
      simp only [List.cons.injEq, and_true] at e2
      subst e2
      simp only [Prod.mk.injEq] at hx
      obtain ⟨rfl, _⟩ := hx
      have w0 : ∀ elems spare, y0.1 = .slice elems spare → elems.length + spare.length ≤ 140737488355328 := fun elems spare he => by
        have := hw ((elems.length + spare.length) * Try.prog.bytesOf 3) (by
          simp [DataW.weights, DataW.weightsEach, Try.underlying30, Try.underlying32, he])
        rw [marketPlans_sb32_3, hr] at this
        omega
      obtain ⟨u0, l0, e0, a0⟩ := arr_ints Try.underlying30 Try.underlying3 marketPlans_se32_3 g0 w0
      simp only [List.cons.injEq, and_true] at e0
      subst e0
      have w1 : ∀ elems spare, y1.1 = .slice elems spare → elems.length + spare.length ≤ 140737488355328 := fun elems spare he => by
        have := hw ((elems.length + spare.length) * Try.prog.bytesOf 3) (by
          simp [DataW.weights, DataW.weightsEach, Try.underlying30, Try.underlying32, he])
        rw [marketPlans_sb32_3, hr] at this
        omega
      obtain ⟨u1, l1, e1, a1⟩ := arr_ints Try.underlying30 Try.underlying3 marketPlans_se32_3 g1 w1
      simp only [List.cons.injEq, and_true] at e1
      subst e1
      exact ⟨c0, l0, c1, l1, m2, rfl, a0, a1, bounds_i64 wf2⟩

set_option maxRecDepth 100000 in
set_option maxHeartbeats 2000000 in
theorem marketPlans_lifted (os : Os) (started : os.Started) (H : Type) (enc : TypeId × Value → H) :
    ReturnsInHanded {} Try.checked os 8 .any (Rows.marketPlansSpec.pre6 enc Try.prog Try.f8 Rows.marketPlansRow.domain false) (Rows.marketPlansSpec.post enc Try.prog Try.f8 false true false false) := by
  refine returnsInHanded_of_change_sized (C := Try.checked) marketPlans_own started (by kernel_rfl) Try.func8
    (ChangeSpec.witness6 (enc := enc) (C := Try.checked) false ⟨#[], #[.agg #[.slice none 0 0, .int .i64 0, .int .i64 0, .int .i64 0, .int .i64 0, .slice none 0 0, .int .i64 0, .int .i64 0], .agg #[.slice none 0 0, .slice none 0 0, .int .i64 0], .int .i64 0, .int .i64 0], []⟩ 8 (by kernel_rfl) (by kernel_rfl) (by kernel_rfl) (by kernel_rfl)) ?_
  intro W base args ds gs before hval0 hW hcnd hsz0 _
  have hval : ∀ (j : Nat) t v, Try.f8.params[j]? = some t → args[j]? = some v → Value.okWide Try.prog W .any base t v := hval0
  have hsz : (DataW.weightsEach Try.prog (Try.f8.params.toList ++ Rows.marketPlansSpec.plain.varTypes Try.prog) (ds ++ gs)).all (· ≤ reachBytes) = true := hsz0
  have hW' := hW
  obtain ⟨p, q, hA0, hV, rfl, hfz, hnd⟩ := hW
  have hA : DataW.TrodAll enc Try.prog W 0 (fun _ => true) true Try.f8.params.toList args.toList ds p := hA0
  rw [Try.params8] at hA hval hsz
  obtain ⟨v0, vs0, d0, ds0, p0, q0, hargs, rfl, rfl, h0, r0⟩ := trodAll_cons hA
  obtain ⟨v1, vs1, d1, ds1, p1, q1, rfl, rfl, rfl, h1, r1⟩ := trodAll_cons r0
  obtain ⟨v2, vs2, d2, ds2, p2, q2, rfl, rfl, rfl, h2, r2⟩ := trodAll_cons r1
  obtain ⟨v3, vs3, d3, ds3, p3, q3, rfl, rfl, rfl, h3, r3⟩ := trodAll_cons r2
  obtain ⟨rfl, rfl, rfl⟩ := trodAll_nil r3
  obtain rfl : args = #[v0, v1, v2, v3] := Array.toList_inj.1 hargs
  obtain ⟨rfl, rfl⟩ := trodVars_none hV
  have k0 := h0
  have lt0 : ∀ x ∈ p0, x.block < W.heap.size := by obtain ⟨m, hm⟩ := k0; exact DataW.trod_lt m _ _ _ hm
  have s0 : ∀ n ∈ d0.weights Try.prog 28, n ≤ reachBytes := fun n hn => by
    simpa using List.all_eq_true.1 hsz _ (DataW.weights_mem_each (j := 0) (t := 28) rfl rfl n hn)
  have k1 := h1
  have lt1 : ∀ x ∈ p1, x.block < W.heap.size := by obtain ⟨m, hm⟩ := k1; exact DataW.trod_lt m _ _ _ hm
  have s1 : ∀ n ∈ d1.weights Try.prog 32, n ≤ reachBytes := fun n hn => by
    simpa using List.all_eq_true.1 hsz _ (DataW.weights_mem_each (j := 1) (t := 32) rfl rfl n hn)
  obtain ⟨w0_0, x0_0, n0_1_0, n0_1_1, n0_1_2, n0_1_3, w0_2, x0_2, n0_3, n0_4, rfl, I0_0, b0_1_0, b0_1_1, b0_1_2, b0_1_3, I0_2, b0_3, b0_4⟩ := marketPlans_open28 (hval 0 28 v0 rfl rfl) h0 s0
  obtain ⟨w1_0, x1_0, w1_1, x1_1, n1_2, rfl, I1_0, I1_1, b1_2⟩ := marketPlans_open32 (hval 1 32 v1 rfl rfl) h1 s1
  obtain ⟨n2, b2, rfl, rfl, rfl, wf2⟩ := open_i64 Try.underlying3 (hval 2 3 v2 rfl rfl) h2
  obtain ⟨n3, b3, rfl, rfl, rfl, wf3⟩ := open_i64 Try.underlying3 (hval 3 3 v3 rfl rfl) h3
  clear hA0 hval0
  refine (calls_of_spec (MarketPlans_spec ⟨x0_0, ⟨n0_1_0, n0_1_1, n0_1_2, n0_1_3⟩, x0_2, n0_3, n0_4⟩ w0_0 w0_2 (heapOf W) (heapOf W) ⟨x1_0, x1_1, n1_2⟩ w1_0 w1_1 (heapOf W) (heapOf W) n2 n3 b2 b3) (fun h hh => by simpa using hh)).mono fun e W' ⟨v, hs, he, ⟨hv, _⟩, bel⟩ => ?_
  subst hv; subst he
  exact ⟨_, rfl, _, _, _, [], _, [], hW', trodAll_mk1 (shut_bool Try.underlying4 _), (trodAll_cons_mk (Stays.trod marketPlans_laidOut (by kernel_rfl) (of_decide_eq_true (by kernel_rfl)) k0 bel lt0) (trodAll_cons_mk (Stays.trod marketPlans_laidOut (by kernel_rfl) (of_decide_eq_true (by kernel_rfl)) k1 bel lt1) (trodAll_cons_mk (shut_int Try.underlying3 wf2) (trodAll_cons_mk (shut_int Try.underlying3 wf3) trodAll_mk0)))), rfl, bel.frame _, fun h => by cases h⟩

theorem marketPlans_over : Rows.MarketPlansSaid :=
  OpenClaim.holds_of_wide 8 Try.f8 rfl rfl rfl rfl rfl rfl rfl ⟨rfl, rfl, rfl, rfl, rfl⟩ rfl rfl rfl rfl rfl (by kernel_rfl) Try.func8 (by kernel_rfl)
    (of_decide_eq_true (by kernel_rfl)) (by unfold Func.isWrapper; first | (rw [if_pos (by decide +kernel)]; kernel_rfl) | (rw [if_neg (by decide +kernel)]; exact ⟨rfl, rfl⟩))
    (fun os started H enc _ => marketPlans_lifted os started H enc)
end Go.Proofs.Ytbeieafhcephmaa
