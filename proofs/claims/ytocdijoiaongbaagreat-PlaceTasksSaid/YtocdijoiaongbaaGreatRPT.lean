/- The row of PlaceTasks: check, allowed, spare, best and verify are as the document says. No condition. -/
import Derived.Test.YtocdijoiaongbaaGreatA6
import Derived.Laws.IdiomArrays
import Derived.OpenShut
import Derived.ChangeOld
import Derived.ShutString
import Derived.Test.YtocdijoiaongbaaGreatRows
namespace Go.Proofs.YtocdijoiaongbaaGreat
open Go.ChangeShapes Go.WideShapes Go.ChangeAt Go.RowKit Go.X
set_option linter.unusedVariables false
set_option linter.unusedSimpArgs false

theorem placeTasks_own : ownKnob Tryz.prog.godebug = none := by kernel_rfl
theorem placeTasks_laidOut : laidOutB Tryz.prog = true := by kernel_rfl
theorem placeTasks_rc38_3 : Tryz.prog.cellsOf 3 = 1 := by kernel_rfl
theorem placeTasks_rc38_38 : Tryz.prog.cellsOf 38 = 2 := by kernel_rfl
theorem placeTasks_one38 : ∀ (x : PDraw), ∀ c ∈ encDraw x, Go.X.one c = true := fun x c hc => by
  unfold encDraw at hc
  simp only [List.mem_cons, List.not_mem_nil, or_false] at hc
  rcases hc with rfl | rfl <;> rfl
set_option maxRecDepth 100000 in
theorem placeTasks_dec38 {H : Type} {enc : TypeId × Value → H} {W : World} {held : Bool} {n : Nat} {cs : List Value} {y : DataW H × List MemPlace} (h : DataW.trod enc Tryz.prog W 0 (fun _ => true) held n 38 cs = some y) : ∃ r, cs = encDraw r := by
  obtain ⟨xs, m, _, _, hlen0, hlen, hg⟩ := DataW.trod_struct Tryz.underlying38 h
  have hl : cs.length = 2 := hlen0.trans placeTasks_rc38_38
  match cs, hl with
  | [c0, c1], _ =>
    match xs, hlen with
    | [y0, y1], _ =>
      have g_0 : DataW.trod enc Tryz.prog W 0 (fun _ => true) held m 3 [c0] = some y0 := by simpa [placeTasks_rc38_3] using hg 0 _ rfl
      obtain ⟨w0, e0, _, _⟩ := DataW.trod_int Tryz.underlying3 g_0
      simp only [List.cons.injEq, and_true] at e0
      subst e0
      have g_1 : DataW.trod enc Tryz.prog W 0 (fun _ => true) held m 3 [c1] = some y1 := by simpa [placeTasks_rc38_3] using hg 1 _ rfl
      obtain ⟨w1, e1, _, _⟩ := DataW.trod_int Tryz.underlying3 g_1
      simp only [List.cons.injEq, and_true] at e1
      subst e1
      exact ⟨⟨w0, w1⟩, rfl⟩
theorem placeTasks_rc43_3 : Tryz.prog.cellsOf 3 = 1 := by kernel_rfl
theorem placeTasks_rc43_36 : Tryz.prog.cellsOf 36 = 3 := by kernel_rfl
theorem placeTasks_rc43_43 : Tryz.prog.cellsOf 43 = 5 := by kernel_rfl
theorem placeTasks_one43 : ∀ (x : PRack), ∀ c ∈ encRack x, Go.X.one c = true := fun x c hc => by
  unfold encRack at hc
  simp only [List.mem_cons, List.not_mem_nil, or_false] at hc
  rcases hc with rfl | rfl | rfl | rfl | rfl <;> rfl
set_option maxRecDepth 100000 in
theorem placeTasks_dec43 {H : Type} {enc : TypeId × Value → H} {W : World} {held : Bool} {n : Nat} {cs : List Value} {y : DataW H × List MemPlace} (h : DataW.trod enc Tryz.prog W 0 (fun _ => true) held n 43 cs = some y) : ∃ r, cs = encRack r := by
  obtain ⟨xs, m, _, _, hlen0, hlen, hg⟩ := DataW.trod_struct Tryz.underlying43 h
  have hl : cs.length = 5 := hlen0.trans placeTasks_rc43_43
  match cs, hl with
  | [c0, c1, c2, c3, c4], _ =>
    match xs, hlen with
    | [y0, y1, y2], _ =>
      have g_0 : DataW.trod enc Tryz.prog W 0 (fun _ => true) held m 36 [c0, c1, c2] = some y0 := by simpa [placeTasks_rc43_36] using hg 0 _ rfl
      obtain ⟨yag_0, ybg_0, ycg_0, ang_0, _, g_0a, g_0b, g_0c⟩ := trod_array3 Tryz.underlying36 placeTasks_rc43_3 g_0
      obtain ⟨w0, e0, _, _⟩ := DataW.trod_int Tryz.underlying3 g_0a
      simp only [List.cons.injEq, and_true] at e0
      subst e0
      obtain ⟨w1, e1, _, _⟩ := DataW.trod_int Tryz.underlying3 g_0b
      simp only [List.cons.injEq, and_true] at e1
      subst e1
      obtain ⟨w2, e2, _, _⟩ := DataW.trod_int Tryz.underlying3 g_0c
      simp only [List.cons.injEq, and_true] at e2
      subst e2
      have g_1 : DataW.trod enc Tryz.prog W 0 (fun _ => true) held m 3 [c3] = some y1 := by simpa [placeTasks_rc43_3] using hg 1 _ rfl
      obtain ⟨w3, e3, _, _⟩ := DataW.trod_int Tryz.underlying3 g_1
      simp only [List.cons.injEq, and_true] at e3
      subst e3
      have g_2 : DataW.trod enc Tryz.prog W 0 (fun _ => true) held m 3 [c4] = some y2 := by simpa [placeTasks_rc43_3] using hg 2 _ rfl
      obtain ⟨w4, e4, _, _⟩ := DataW.trod_int Tryz.underlying3 g_2
      simp only [List.cons.injEq, and_true] at e4
      subst e4
      exact ⟨⟨w0, w1, w2, w3, w4⟩, rfl⟩
theorem placeTasks_rc41_3 : Tryz.prog.cellsOf 3 = 1 := by kernel_rfl
theorem placeTasks_rc41_36 : Tryz.prog.cellsOf 36 = 3 := by kernel_rfl
theorem placeTasks_rc41_39 : Tryz.prog.cellsOf 39 = 1 := by kernel_rfl
theorem placeTasks_rc41_41 : Tryz.prog.cellsOf 41 = 6 := by kernel_rfl
theorem placeTasks_re41_38 : Tryz.prog.cellsOf 38 = 2 := by kernel_rfl
theorem placeTasks_rb41_38 : Tryz.prog.bytesOf 38 = 16 := by kernel_rfl
set_option maxRecDepth 100000 in
theorem placeTasks_dec41 {H : Type} {enc : TypeId × Value → H} {W : World} {n : Nat} {cs : List Value} {y : DataW H × List MemPlace} (h : DataW.trod enc Tryz.prog W 0 (fun _ => true) true n 41 cs = some y) (hw : ∀ n ∈ y.1.weights Tryz.prog 41, n ≤ reachBytes) : ∃ r : Value × PJob, cs = encPJ r ∧ Arr r.1 encDraw 2 (heapOf W) r.2.draws := by
  obtain ⟨xs, m, _, hx, hlen0, hlen, hg⟩ := DataW.trod_struct Tryz.underlying41 h
  subst hx
  have hl : cs.length = 6 := hlen0.trans placeTasks_rc41_41
  have hr : reachBytes = 140737488351232 := rfl
  match cs, hl with
  | [c0, c1, c2, c3, c4, c5], _ =>
    match xs, hlen with
    | [y0, y3, y4, y5], _ =>
      have g0 : DataW.trod enc Tryz.prog W 0 (fun _ => true) true m 36 [c0, c1, c2] = some y0 := by simpa [placeTasks_rc41_36] using hg 0 _ rfl
      obtain ⟨ya0, yb0, yc0, an0, _, ga0, ga1, ga2⟩ := trod_array3 Tryz.underlying36 placeTasks_rc41_3 g0
      obtain ⟨m0, e0, _, _⟩ := DataW.trod_int Tryz.underlying3 ga0
      simp only [List.cons.injEq, and_true] at e0
      subst e0
      obtain ⟨m1, e1, _, _⟩ := DataW.trod_int Tryz.underlying3 ga1
      simp only [List.cons.injEq, and_true] at e1
      subst e1
      obtain ⟨m2, e2, _, _⟩ := DataW.trod_int Tryz.underlying3 ga2
      simp only [List.cons.injEq, and_true] at e2
      subst e2
      have g3 : DataW.trod enc Tryz.prog W 0 (fun _ => true) true m 39 [c3] = some y3 := by simpa [placeTasks_rc41_39] using hg 1 _ rfl
      have g4 : DataW.trod enc Tryz.prog W 0 (fun _ => true) true m 3 [c4] = some y4 := by simpa [placeTasks_rc41_3] using hg 2 _ rfl
      obtain ⟨m4, e4, _, _⟩ := DataW.trod_int Tryz.underlying3 g4
      simp only [List.cons.injEq, and_true] at e4
      subst e4
      have g5 : DataW.trod enc Tryz.prog W 0 (fun _ => true) true m 3 [c5] = some y5 := by simpa [placeTasks_rc41_3] using hg 3 _ rfl
      obtain ⟨m5, e5, _, _⟩ := DataW.trod_int Tryz.underlying3 g5
      simp only [List.cons.injEq, and_true] at e5
      subst e5
      have w3 : ∀ elems spare, y3.1 = .slice elems spare → elems.length + spare.length ≤ 140737488355328 := fun elems spare he => by
        have := hw ((elems.length + spare.length) * Tryz.prog.bytesOf 38) (by
          simp [DataW.weights, DataW.weightsEach, Tryz.underlying36, Tryz.underlying39, Tryz.underlying41, he])
        rw [placeTasks_rb41_38, hr] at this
        omega
      obtain ⟨u3, l3, e3, a3⟩ := arr_recs (f := encDraw) (fun x => rfl) placeTasks_one38 (by decide) Tryz.underlying39 placeTasks_re41_38 g3 w3 (fun n cs y h => placeTasks_dec38 h)
      simp only [List.cons.injEq, and_true] at e3
      subst e3
      exact ⟨(_, ⟨m0, m1, m2, l3, m4, m5⟩), rfl, a3⟩
theorem placeTasks_sc27_3 : Tryz.prog.cellsOf 3 = 1 := by kernel_rfl
theorem placeTasks_sc27_22 : Tryz.prog.cellsOf 22 = 1 := by kernel_rfl
theorem placeTasks_sc27_23 : Tryz.prog.cellsOf 23 = 1 := by kernel_rfl
theorem placeTasks_sc27_25 : Tryz.prog.cellsOf 25 = 2 := by kernel_rfl
theorem placeTasks_sc27_27 : Tryz.prog.cellsOf 27 = 4 := by kernel_rfl
theorem placeTasks_se27_41 : Tryz.prog.cellsOf 41 = 6 := by kernel_rfl
theorem placeTasks_sb27_41 : Tryz.prog.bytesOf 41 = 64 := by kernel_rfl
theorem placeTasks_se27_43 : Tryz.prog.cellsOf 43 = 5 := by kernel_rfl
theorem placeTasks_sb27_43 : Tryz.prog.bytesOf 43 = 40 := by kernel_rfl
set_option maxRecDepth 100000 in
theorem placeTasks_open27 {H : Type} {enc : TypeId × Value → H} {W : World} {base : Nat} {v : Value} {d : DataW H} {p : List MemPlace} (hv : Value.okWide Tryz.prog W .any base 27 v) (h : DataW.Trod enc Tryz.prog W 0 (fun _ => true) true 27 v d p)
    (hw : ∀ n ∈ d.weights Tryz.prog 27, n ≤ reachBytes) : ∃ (w0 : Value) (x0 : List (Value × PJob)) (w1 : Value) (x1 : List PRack) (n2_0 : Int) (n2_1 : Int), v = .agg #[w0, w1, .int .i64 n2_0, .int .i64 n2_1] ∧ Arr w0 encPJ 6 (heapOf W) x0 ∧ (∀ i, i < x0.length → (fun r : Value × PJob => Arr r.1 encDraw 2 (heapOf W) r.2.draws) (x0.getD i default)) ∧ Arr w1 encRack 5 (heapOf W) x1 ∧ in64 n2_0 ∧ in64 n2_1 := by
  obtain ⟨cs, rfl, hsz⟩ := okWide_struct Tryz.underlying27 hv
  obtain ⟨fuel, hf⟩ := h
  obtain ⟨xs, n, _, hx, _, hlen, hg⟩ := DataW.trod_struct Tryz.underlying27 hf
  obtain ⟨l⟩ := cs
  have hl : l.length = 4 := hsz.trans placeTasks_sc27_27
  match l, hl with
  | [c0, c1, c2, c3], _ =>
    match xs, hlen with
    | [y0, y1, y2], _ =>
      have g0 : DataW.trod enc Tryz.prog W 0 (fun _ => true) true n 22 [c0] = some y0 := by simpa [Value.cells, placeTasks_sc27_22] using hg 0 _ rfl
      have g1 : DataW.trod enc Tryz.prog W 0 (fun _ => true) true n 23 [c1] = some y1 := by simpa [Value.cells, placeTasks_sc27_23] using hg 1 _ rfl
      have g2 : DataW.trod enc Tryz.prog W 0 (fun _ => true) true n 25 [c2, c3] = some y2 := by simpa [Value.cells, placeTasks_sc27_25] using hg 2 _ rfl
      have hr : reachBytes = 140737488351232 := rfl
      simp only [Prod.mk.injEq] at hx
      obtain ⟨rfl, _⟩ := hx
      have w0 : ∀ elems spare, y0.1 = .slice elems spare → elems.length + spare.length ≤ 140737488355328 := fun elems spare he => by
        have := hw ((elems.length + spare.length) * Tryz.prog.bytesOf 41) (by
          simp [DataW.weights, DataW.weightsEach, Tryz.underlying22, Tryz.underlying23, Tryz.underlying27, he])
        rw [placeTasks_sb27_41, hr] at this
        omega
      obtain ⟨u0, l0, e0, a0, j0⟩ := arr_recsQ (f := encPJ) (Q := fun r => Arr r.1 encDraw 2 (heapOf W) r.2.draws) (fun x => rfl) (fun x hx c hc => by
      unfold encPJ at hc
      simp only [List.mem_cons, List.not_mem_nil, or_false] at hc
      rcases hc with rfl | rfl | rfl | rfl | rfl | rfl
      · rfl
      · rfl
      · rfl
      · exact (Arr.one (s := hx)).pf.2
      · rfl
      · rfl) (by decide) Tryz.underlying22 placeTasks_se27_41 g0 w0 (fun n hn => hw n (by simp [DataW.weights, DataW.weightsEach, Tryz.underlying27, hn])) (fun n cs y h hw => placeTasks_dec41 h hw)
      simp only [List.cons.injEq, and_true] at e0
      subst e0
      have w1 : ∀ elems spare, y1.1 = .slice elems spare → elems.length + spare.length ≤ 140737488355328 := fun elems spare he => by
        have := hw ((elems.length + spare.length) * Tryz.prog.bytesOf 43) (by
          simp [DataW.weights, DataW.weightsEach, Tryz.underlying22, Tryz.underlying23, Tryz.underlying27, he])
        rw [placeTasks_sb27_43, hr] at this
        omega
      obtain ⟨u1, l1, e1, a1⟩ := arr_recs (f := encRack) (fun x => rfl) placeTasks_one43 (by decide) Tryz.underlying23 placeTasks_se27_43 g1 w1 (fun n cs y h => placeTasks_dec43 h)
      simp only [List.cons.injEq, and_true] at e1
      subst e1
      obtain ⟨xs2, n2, _, _, _, hlen2, hg2⟩ := DataW.trod_struct Tryz.underlying25 g2
      match xs2, hlen2 with
      | [y2_0, y2_1], _ =>
        have g2_0 : DataW.trod enc Tryz.prog W 0 (fun _ => true) true n2 3 [c2] = some y2_0 := by simpa [Value.cells, placeTasks_sc27_3] using hg2 0 _ rfl
        obtain ⟨m2_0, e2_0, _, wf2_0⟩ := DataW.trod_int Tryz.underlying3 g2_0
        simp only [List.cons.injEq, and_true] at e2_0
        subst e2_0
        have g2_1 : DataW.trod enc Tryz.prog W 0 (fun _ => true) true n2 3 [c3] = some y2_1 := by simpa [Value.cells, placeTasks_sc27_3] using hg2 1 _ rfl
        obtain ⟨m2_1, e2_1, _, wf2_1⟩ := DataW.trod_int Tryz.underlying3 g2_1
        simp only [List.cons.injEq, and_true] at e2_1
        subst e2_1
        exact ⟨c0, l0, c1, l1, m2_0, m2_1, rfl, a0, j0, a1, bounds_i64 wf2_0, bounds_i64 wf2_1⟩

theorem placeTasks_sc31_3 : Tryz.prog.cellsOf 3 = 1 := by kernel_rfl
theorem placeTasks_sc31_28 : Tryz.prog.cellsOf 28 = 1 := by kernel_rfl
theorem placeTasks_sc31_29 : Tryz.prog.cellsOf 29 = 1 := by kernel_rfl
theorem placeTasks_sc31_31 : Tryz.prog.cellsOf 31 = 3 := by kernel_rfl
theorem placeTasks_se31_3 : Tryz.prog.cellsOf 3 = 1 := by kernel_rfl
theorem placeTasks_sb31_3 : Tryz.prog.bytesOf 3 = 8 := by kernel_rfl
theorem placeTasks_se31_4 : Tryz.prog.cellsOf 4 = 1 := by kernel_rfl
theorem placeTasks_sb31_4 : Tryz.prog.bytesOf 4 = 1 := by kernel_rfl
set_option maxRecDepth 100000 in
theorem placeTasks_open31 {H : Type} {enc : TypeId × Value → H} {W : World} {base : Nat} {v : Value} {d : DataW H} {p : List MemPlace} (hv : Value.okWide Tryz.prog W .any base 31 v) (h : DataW.Trod enc Tryz.prog W 0 (fun _ => true) true 31 v d p)
    (hw : ∀ n ∈ d.weights Tryz.prog 31, n ≤ reachBytes) : ∃ (w0 : Value) (x0 : List Int) (n1 : Int) (w2 : Value) (x2 : List Bool), v = .agg #[w0, .int .i64 n1, w2] ∧ Arr w0 Go.X.encI 1 (heapOf W) x0 ∧ in64 n1 ∧ Arr w2 encB 1 (heapOf W) x2 := by
  obtain ⟨cs, rfl, hsz⟩ := okWide_struct Tryz.underlying31 hv
  obtain ⟨fuel, hf⟩ := h
  obtain ⟨xs, n, _, hx, _, hlen, hg⟩ := DataW.trod_struct Tryz.underlying31 hf
  obtain ⟨l⟩ := cs
  have hl : l.length = 3 := hsz.trans placeTasks_sc31_31
  match l, hl with
  | [c0, c1, c2], _ =>
    match xs, hlen with
    | [y0, y1, y2], _ =>
      have g0 : DataW.trod enc Tryz.prog W 0 (fun _ => true) true n 28 [c0] = some y0 := by simpa [Value.cells, placeTasks_sc31_28] using hg 0 _ rfl
      have g1 : DataW.trod enc Tryz.prog W 0 (fun _ => true) true n 3 [c1] = some y1 := by simpa [Value.cells, placeTasks_sc31_3] using hg 1 _ rfl
      have g2 : DataW.trod enc Tryz.prog W 0 (fun _ => true) true n 29 [c2] = some y2 := by simpa [Value.cells, placeTasks_sc31_29] using hg 2 _ rfl
      have hr : reachBytes = 140737488351232 := rfl
      obtain ⟨m1, e1, _, wf1⟩ := DataW.trod_int Tryz.underlying3 g1
      simp only [List.cons.injEq, and_true] at e1
      subst e1
      simp only [Prod.mk.injEq] at hx
      obtain ⟨rfl, _⟩ := hx
      have w0 : ∀ elems spare, y0.1 = .slice elems spare → elems.length + spare.length ≤ 140737488355328 := fun elems spare he => by
        have := hw ((elems.length + spare.length) * Tryz.prog.bytesOf 3) (by
          simp [DataW.weights, DataW.weightsEach, Tryz.underlying28, Tryz.underlying29, Tryz.underlying31, he])
        rw [placeTasks_sb31_3, hr] at this
        omega
      obtain ⟨u0, l0, e0, a0⟩ := arr_ints Tryz.underlying28 Tryz.underlying3 placeTasks_se31_3 g0 w0
      simp only [List.cons.injEq, and_true] at e0
      subst e0
      have w2 : ∀ elems spare, y2.1 = .slice elems spare → elems.length + spare.length ≤ 140737488355328 := fun elems spare he => by
        have := hw ((elems.length + spare.length) * Tryz.prog.bytesOf 4) (by
          simp [DataW.weights, DataW.weightsEach, Tryz.underlying28, Tryz.underlying29, Tryz.underlying31, he])
        rw [placeTasks_sb31_4, hr] at this
        omega
      obtain ⟨u2, l2, e2, a2⟩ := arr_bools Tryz.underlying29 Tryz.underlying4 placeTasks_se31_4 g2 w2
      simp only [List.cons.injEq, and_true] at e2
      subst e2
      exact ⟨c0, l0, m1, c2, l2, rfl, a0, bounds_i64 wf1, a2⟩

set_option maxRecDepth 100000 in
set_option maxHeartbeats 2000000 in
theorem placeTasks_lifted (os : Os) (started : os.Started) (H : Type) (enc : TypeId × Value → H) :
    ReturnsInHanded {} Tryz.checked os 3 .any (Rows.placeTasksSpec.pre6 enc Tryz.prog Tryz.f3 Rows.placeTasksRow.domain false) (Rows.placeTasksSpec.post enc Tryz.prog Tryz.f3 false true false false) := by
  refine returnsInHanded_of_change_sized (C := Tryz.checked) placeTasks_own started (by kernel_rfl) Tryz.func3
    (ChangeSpec.witness6 (enc := enc) (C := Tryz.checked) false ⟨#[], #[.agg #[.slice none 0 0, .slice none 0 0, .int .i64 0, .int .i64 0], .agg #[.slice none 0 0, .int .i64 0, .slice none 0 0], .int .i64 0, .int .i64 0], []⟩ 8 (by kernel_rfl) (by kernel_rfl) (by kernel_rfl) (by kernel_rfl)) ?_
  intro W base args ds gs before hval0 hW hcnd hsz0 _
  have hval : ∀ (j : Nat) t v, Tryz.f3.params[j]? = some t → args[j]? = some v → Value.okWide Tryz.prog W .any base t v := hval0
  have hsz : (DataW.weightsEach Tryz.prog (Tryz.f3.params.toList ++ Rows.placeTasksSpec.plain.varTypes Tryz.prog) (ds ++ gs)).all (· ≤ reachBytes) = true := hsz0
  have hW' := hW
  obtain ⟨p, q, hA0, hV, rfl, hfz, hnd⟩ := hW
  have hA : DataW.TrodAll enc Tryz.prog W 0 (fun _ => true) true Tryz.f3.params.toList args.toList ds p := hA0
  rw [Tryz.params3] at hA hval hsz
  obtain ⟨v0, vs0, d0, ds0, p0, q0, hargs, rfl, rfl, h0, r0⟩ := trodAll_cons hA
  obtain ⟨v1, vs1, d1, ds1, p1, q1, rfl, rfl, rfl, h1, r1⟩ := trodAll_cons r0
  obtain ⟨v2, vs2, d2, ds2, p2, q2, rfl, rfl, rfl, h2, r2⟩ := trodAll_cons r1
  obtain ⟨v3, vs3, d3, ds3, p3, q3, rfl, rfl, rfl, h3, r3⟩ := trodAll_cons r2
  obtain ⟨rfl, rfl, rfl⟩ := trodAll_nil r3
  obtain rfl : args = #[v0, v1, v2, v3] := Array.toList_inj.1 hargs
  obtain ⟨rfl, rfl⟩ := trodVars_none hV
  have k0 := h0
  have lt0 : ∀ x ∈ p0, x.block < W.heap.size := by obtain ⟨m, hm⟩ := k0; exact DataW.trod_lt m _ _ _ hm
  have s0 : ∀ n ∈ d0.weights Tryz.prog 27, n ≤ reachBytes := fun n hn => by
    simpa using List.all_eq_true.1 hsz _ (DataW.weights_mem_each (j := 0) (t := 27) rfl rfl n hn)
  have k1 := h1
  have lt1 : ∀ x ∈ p1, x.block < W.heap.size := by obtain ⟨m, hm⟩ := k1; exact DataW.trod_lt m _ _ _ hm
  have s1 : ∀ n ∈ d1.weights Tryz.prog 31, n ≤ reachBytes := fun n hn => by
    simpa using List.all_eq_true.1 hsz _ (DataW.weights_mem_each (j := 1) (t := 31) rfl rfl n hn)
  obtain ⟨w0_0, x0_0, w0_1, x0_1, n0_2_0, n0_2_1, rfl, I0_0, J0_0, I0_1, b0_2_0, b0_2_1⟩ := placeTasks_open27 (hval 0 27 v0 rfl rfl) h0 s0
  obtain ⟨w1_0, x1_0, n1_1, w1_2, x1_2, rfl, I1_0, b1_1, I1_2⟩ := placeTasks_open31 (hval 1 31 v1 rfl rfl) h1 s1
  obtain ⟨n2, b2, rfl, rfl, rfl, wf2⟩ := open_i64 Tryz.underlying3 (hval 2 3 v2 rfl rfl) h2
  obtain ⟨n3, b3, rfl, rfl, rfl, wf3⟩ := open_i64 Tryz.underlying3 (hval 3 3 v3 rfl rfl) h3
  clear hA0 hval0
  refine (calls_of_spec (PlaceTasks_spec x0_0 w0_0 (heapOf W) (heapOf W) J0_0 x0_1 w0_1 (heapOf W) ⟨n0_2_0, n0_2_1⟩ x1_0 w1_0 (heapOf W) n1_1 x1_2 w1_2 (heapOf W) n2 n3) (fun h hh => by simpa using hh)).mono fun e W' ⟨v, hs, he, ⟨hv, _⟩, bel⟩ => ?_
  subst hv; subst he
  exact ⟨_, rfl, _, _, _, [], _, [], hW', trodAll_mk1 (shut_bool Tryz.underlying4 _), (trodAll_cons_mk (Stays.trod placeTasks_laidOut (by kernel_rfl) (of_decide_eq_true (by kernel_rfl)) k0 bel lt0) (trodAll_cons_mk (Stays.trod placeTasks_laidOut (by kernel_rfl) (of_decide_eq_true (by kernel_rfl)) k1 bel lt1) (trodAll_cons_mk (shut_int Tryz.underlying3 wf2) (trodAll_cons_mk (shut_int Tryz.underlying3 wf3) trodAll_mk0)))), rfl, bel.frame _, fun h => by cases h⟩

theorem placeTasks_over : Rows.PlaceTasksSaid :=
  OpenClaim.holds_of_wide 3 Tryz.f3 rfl rfl rfl rfl rfl rfl rfl ⟨rfl, rfl, rfl, rfl, rfl⟩ rfl rfl rfl rfl rfl (by kernel_rfl) Tryz.func3 (by kernel_rfl)
    (of_decide_eq_true (by kernel_rfl)) (by unfold Func.isWrapper; first | (rw [if_pos (by decide +kernel)]; kernel_rfl) | (rw [if_neg (by decide +kernel)]; exact ⟨rfl, rfl⟩))
    (fun os started H enc _ => placeTasks_lifted os started H enc)
end Go.Proofs.YtocdijoiaongbaaGreat
