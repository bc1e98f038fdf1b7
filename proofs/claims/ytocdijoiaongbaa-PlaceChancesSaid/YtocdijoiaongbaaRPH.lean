/- The row of PlaceChances: chances, fits and fills are as the document says. No condition. -/
import Derived.Test.YtocdijoiaongbaaA5
import Derived.Laws.IdiomArrays
import Derived.OpenShut
import Derived.ChangeOld
import Derived.ShutString
import Derived.Test.YtocdijoiaongbaaRows
namespace Go.Proofs.Ytocdijoiaongbaa
open Go.ChangeShapes Go.WideShapes Go.ChangeAt Go.RowKit Go.X
set_option linter.unusedVariables false
set_option linter.unusedSimpArgs false

theorem placeChances_own : ownKnob Try.prog.godebug = none := by kernel_rfl
theorem placeChances_laidOut : laidOutB Try.prog = true := by kernel_rfl
theorem placeChances_cells39 : Try.prog.cellsOf 39 = 6 := by kernel_rfl
theorem placeChances_bytes39 : Try.prog.bytesOf 39 = 64 := by kernel_rfl
theorem placeChances_rc41_3 : Try.prog.cellsOf 3 = 1 := by kernel_rfl
theorem placeChances_rc41_41 : Try.prog.cellsOf 41 = 2 := by kernel_rfl
theorem placeChances_one41 : ∀ (x : PDraw), ∀ c ∈ encDraw x, Go.X.one c = true := fun x c hc => by
  unfold encDraw at hc
  simp only [List.mem_cons, List.not_mem_nil, or_false] at hc
  rcases hc with rfl | rfl <;> rfl
set_option maxRecDepth 100000 in
theorem placeChances_dec41 {H : Type} {enc : TypeId × Value → H} {W : World} {held : Bool} {n : Nat} {cs : List Value} {y : DataW H × List MemPlace} (h : DataW.trod enc Try.prog W 0 (fun _ => true) held n 41 cs = some y) : ∃ r, cs = encDraw r := by
  obtain ⟨xs, m, _, _, hlen0, hlen, hg⟩ := DataW.trod_struct Try.underlying41 h
  have hl : cs.length = 2 := hlen0.trans placeChances_rc41_41
  match cs, hl with
  | [c0, c1], _ =>
    match xs, hlen with
    | [y0, y1], _ =>
      have g_0 : DataW.trod enc Try.prog W 0 (fun _ => true) held m 3 [c0] = some y0 := by simpa [placeChances_rc41_3] using hg 0 _ rfl
      obtain ⟨w0, e0, _, _⟩ := DataW.trod_int Try.underlying3 g_0
      simp only [List.cons.injEq, and_true] at e0
      subst e0
      have g_1 : DataW.trod enc Try.prog W 0 (fun _ => true) held m 3 [c1] = some y1 := by simpa [placeChances_rc41_3] using hg 1 _ rfl
      obtain ⟨w1, e1, _, _⟩ := DataW.trod_int Try.underlying3 g_1
      simp only [List.cons.injEq, and_true] at e1
      subst e1
      exact ⟨⟨w0, w1⟩, rfl⟩
theorem placeChances_rc39_3 : Try.prog.cellsOf 3 = 1 := by kernel_rfl
theorem placeChances_rc39_30 : Try.prog.cellsOf 30 = 1 := by kernel_rfl
theorem placeChances_rc39_37 : Try.prog.cellsOf 37 = 3 := by kernel_rfl
theorem placeChances_rc39_39 : Try.prog.cellsOf 39 = 6 := by kernel_rfl
theorem placeChances_re39_41 : Try.prog.cellsOf 41 = 2 := by kernel_rfl
theorem placeChances_rb39_41 : Try.prog.bytesOf 41 = 16 := by kernel_rfl
set_option maxRecDepth 100000 in
theorem placeChances_dec39 {H : Type} {enc : TypeId × Value → H} {W : World} {n : Nat} {cs : List Value} {y : DataW H × List MemPlace} (h : DataW.trod enc Try.prog W 0 (fun _ => true) true n 39 cs = some y) (hw : ∀ n ∈ y.1.weights Try.prog 39, n ≤ reachBytes) : ∃ r : Value × PJob, cs = encPJ r ∧ Arr r.1 encDraw 2 (heapOf W) r.2.draws := by
  obtain ⟨xs, m, _, hx, hlen0, hlen, hg⟩ := DataW.trod_struct Try.underlying39 h
  subst hx
  have hl : cs.length = 6 := hlen0.trans placeChances_rc39_39
  have hr : reachBytes = 140737488351232 := rfl
  match cs, hl with
  | [c0, c1, c2, c3, c4, c5], _ =>
    match xs, hlen with
    | [y0, y3, y4, y5], _ =>
      have g0 : DataW.trod enc Try.prog W 0 (fun _ => true) true m 37 [c0, c1, c2] = some y0 := by simpa [placeChances_rc39_37] using hg 0 _ rfl
      obtain ⟨ya0, yb0, yc0, an0, _, ga0, ga1, ga2⟩ := trod_array3 Try.underlying37 placeChances_rc39_3 g0
      obtain ⟨m0, e0, _, _⟩ := DataW.trod_int Try.underlying3 ga0
      simp only [List.cons.injEq, and_true] at e0
      subst e0
      obtain ⟨m1, e1, _, _⟩ := DataW.trod_int Try.underlying3 ga1
      simp only [List.cons.injEq, and_true] at e1
      subst e1
      obtain ⟨m2, e2, _, _⟩ := DataW.trod_int Try.underlying3 ga2
      simp only [List.cons.injEq, and_true] at e2
      subst e2
      have g3 : DataW.trod enc Try.prog W 0 (fun _ => true) true m 30 [c3] = some y3 := by simpa [placeChances_rc39_30] using hg 1 _ rfl
      have g4 : DataW.trod enc Try.prog W 0 (fun _ => true) true m 3 [c4] = some y4 := by simpa [placeChances_rc39_3] using hg 2 _ rfl
      obtain ⟨m4, e4, _, _⟩ := DataW.trod_int Try.underlying3 g4
      simp only [List.cons.injEq, and_true] at e4
      subst e4
      have g5 : DataW.trod enc Try.prog W 0 (fun _ => true) true m 3 [c5] = some y5 := by simpa [placeChances_rc39_3] using hg 3 _ rfl
      obtain ⟨m5, e5, _, _⟩ := DataW.trod_int Try.underlying3 g5
      simp only [List.cons.injEq, and_true] at e5
      subst e5
      have w3 : ∀ elems spare, y3.1 = .slice elems spare → elems.length + spare.length ≤ 140737488355328 := fun elems spare he => by
        have := hw ((elems.length + spare.length) * Try.prog.bytesOf 41) (by
          simp [DataW.weights, DataW.weightsEach, Try.underlying30, Try.underlying37, Try.underlying39, he])
        rw [placeChances_rb39_41, hr] at this
        omega
      obtain ⟨u3, l3, e3, a3⟩ := arr_recs (f := encDraw) (fun x => rfl) placeChances_one41 (by decide) Try.underlying30 placeChances_re39_41 g3 w3 (fun n cs y h => placeChances_dec41 h)
      simp only [List.cons.injEq, and_true] at e3
      subst e3
      exact ⟨(_, ⟨m0, m1, m2, l3, m4, m5⟩), rfl, a3⟩
theorem placeChances_sc26_3 : Try.prog.cellsOf 3 = 1 := by kernel_rfl
theorem placeChances_sc26_26 : Try.prog.cellsOf 26 = 2 := by kernel_rfl
set_option maxRecDepth 100000 in
theorem placeChances_open26 {H : Type} {enc : TypeId × Value → H} {W : World} {base : Nat} {v : Value} {d : DataW H} {p : List MemPlace} (hv : Value.okWide Try.prog W .any base 26 v) (h : DataW.Trod enc Try.prog W 0 (fun _ => true) true 26 v d p)
    (hw : ∀ n ∈ d.weights Try.prog 26, n ≤ reachBytes) : ∃ (n0 : Int) (n1 : Int), v = .agg #[.int .i64 n0, .int .i64 n1] ∧ in64 n0 ∧ in64 n1 := by
  obtain ⟨cs, rfl, hsz⟩ := okWide_struct Try.underlying26 hv
  obtain ⟨fuel, hf⟩ := h
  obtain ⟨xs, n, _, hx, _, hlen, hg⟩ := DataW.trod_struct Try.underlying26 hf
  obtain ⟨l⟩ := cs
  have hl : l.length = 2 := hsz.trans placeChances_sc26_26
  match l, hl with
  | [c0, c1], _ =>
    match xs, hlen with
    | [y0, y1], _ =>
      have g0 : DataW.trod enc Try.prog W 0 (fun _ => true) true n 3 [c0] = some y0 := by simpa [Value.cells, placeChances_sc26_3] using hg 0 _ rfl
      have g1 : DataW.trod enc Try.prog W 0 (fun _ => true) true n 3 [c1] = some y1 := by simpa [Value.cells, placeChances_sc26_3] using hg 1 _ rfl
      have hr : reachBytes = 140737488351232 := rfl
      obtain ⟨m0, e0, _, wf0⟩ := DataW.trod_int Try.underlying3 g0
      simp only [List.cons.injEq, and_true] at e0
      subst e0
      obtain ⟨m1, e1, _, wf1⟩ := DataW.trod_int Try.underlying3 g1
      simp only [List.cons.injEq, and_true] at e1
      subst e1
      simp only [Prod.mk.injEq] at hx
      obtain ⟨rfl, _⟩ := hx
      exact ⟨m0, m1, rfl, bounds_i64 wf0, bounds_i64 wf1⟩

theorem placeChances_sc62_3 : Try.prog.cellsOf 3 = 1 := by kernel_rfl
theorem placeChances_sc62_37 : Try.prog.cellsOf 37 = 3 := by kernel_rfl
theorem placeChances_sc62_62 : Try.prog.cellsOf 62 = 5 := by kernel_rfl
set_option maxRecDepth 100000 in
theorem placeChances_open62 {H : Type} {enc : TypeId × Value → H} {W : World} {base : Nat} {v : Value} {d : DataW H} {p : List MemPlace} (hv : Value.okWide Try.prog W .any base 62 v) (h : DataW.Trod enc Try.prog W 0 (fun _ => true) true 62 v d p)
    (hw : ∀ n ∈ d.weights Try.prog 62, n ≤ reachBytes) : ∃ (n0_0 : Int) (n0_1 : Int) (n0_2 : Int) (n1 : Int) (n2 : Int), v = .agg #[.int .i64 n0_0, .int .i64 n0_1, .int .i64 n0_2, .int .i64 n1, .int .i64 n2] ∧ in64 n0_0 ∧ in64 n0_1 ∧ in64 n0_2 ∧ in64 n1 ∧ in64 n2 := by
  obtain ⟨cs, rfl, hsz⟩ := okWide_struct Try.underlying62 hv
  obtain ⟨fuel, hf⟩ := h
  obtain ⟨xs, n, _, hx, _, hlen, hg⟩ := DataW.trod_struct Try.underlying62 hf
  obtain ⟨l⟩ := cs
  have hl : l.length = 5 := hsz.trans placeChances_sc62_62
  match l, hl with
  | [c0, c1, c2, c3, c4], _ =>
    match xs, hlen with
    | [y0, y1, y2], _ =>
      have g0 : DataW.trod enc Try.prog W 0 (fun _ => true) true n 37 [c0, c1, c2] = some y0 := by simpa [Value.cells, placeChances_sc62_37] using hg 0 _ rfl
      have g1 : DataW.trod enc Try.prog W 0 (fun _ => true) true n 3 [c3] = some y1 := by simpa [Value.cells, placeChances_sc62_3] using hg 1 _ rfl
      have g2 : DataW.trod enc Try.prog W 0 (fun _ => true) true n 3 [c4] = some y2 := by simpa [Value.cells, placeChances_sc62_3] using hg 2 _ rfl
      have hr : reachBytes = 140737488351232 := rfl
      obtain ⟨m1, e1, _, wf1⟩ := DataW.trod_int Try.underlying3 g1
      simp only [List.cons.injEq, and_true] at e1
      subst e1
      obtain ⟨m2, e2, _, wf2⟩ := DataW.trod_int Try.underlying3 g2
      simp only [List.cons.injEq, and_true] at e2
      subst e2
      simp only [Prod.mk.injEq] at hx
      obtain ⟨rfl, _⟩ := hx
      obtain ⟨ya0, yb0, yc0, an0, _, ga0_0, ga0_1, ga0_2⟩ := trod_array3 Try.underlying37 placeChances_sc62_3 g0
      obtain ⟨m0_0, e0_0, _, wf0_0⟩ := DataW.trod_int Try.underlying3 ga0_0
      simp only [List.cons.injEq, and_true] at e0_0
      subst e0_0
      obtain ⟨m0_1, e0_1, _, wf0_1⟩ := DataW.trod_int Try.underlying3 ga0_1
      simp only [List.cons.injEq, and_true] at e0_1
      subst e0_1
      obtain ⟨m0_2, e0_2, _, wf0_2⟩ := DataW.trod_int Try.underlying3 ga0_2
      simp only [List.cons.injEq, and_true] at e0_2
      subst e0_2
      exact ⟨m0_0, m0_1, m0_2, m1, m2, rfl, bounds_i64 wf0_0, bounds_i64 wf0_1, bounds_i64 wf0_2, bounds_i64 wf1, bounds_i64 wf2⟩

set_option maxRecDepth 100000 in
set_option maxHeartbeats 2000000 in
theorem placeChances_lifted (os : Os) (started : os.Started) (H : Type) (enc : TypeId × Value → H) :
    ReturnsInHanded {} Try.checked os 6 .any (Rows.placeChancesSpec.pre6 enc Try.prog Try.f6 Rows.placeChancesRow.domain false) (Rows.placeChancesSpec.post enc Try.prog Try.f6 false true false false) := by
  refine returnsInHanded_of_change_sized (C := Try.checked) placeChances_own started (by kernel_rfl) Try.func6
    (ChangeSpec.witness6 (enc := enc) (C := Try.checked) false ⟨#[], #[.slice none 0 0, .agg #[.int .i64 0, .int .i64 0, .int .i64 0, .int .i64 0, .int .i64 0], .int .i64 0, .agg #[.int .i64 0, .int .i64 0]], []⟩ 8 (by kernel_rfl) (by kernel_rfl) (by kernel_rfl) (by kernel_rfl)) ?_
  intro W base args ds gs before hval0 hW hcnd hsz0 _
  have hval : ∀ (j : Nat) t v, Try.f6.params[j]? = some t → args[j]? = some v → Value.okWide Try.prog W .any base t v := hval0
  have hsz : (DataW.weightsEach Try.prog (Try.f6.params.toList ++ Rows.placeChancesSpec.plain.varTypes Try.prog) (ds ++ gs)).all (· ≤ reachBytes) = true := hsz0
  have hW' := hW
  obtain ⟨p, q, hA0, hV, rfl, hfz, hnd⟩ := hW
  have hA : DataW.TrodAll enc Try.prog W 0 (fun _ => true) true Try.f6.params.toList args.toList ds p := hA0
  rw [Try.params6] at hA hval hsz
  obtain ⟨v0, vs0, d0, ds0, p0, q0, hargs, rfl, rfl, h0, r0⟩ := trodAll_cons hA
  obtain ⟨v1, vs1, d1, ds1, p1, q1, rfl, rfl, rfl, h1, r1⟩ := trodAll_cons r0
  obtain ⟨v2, vs2, d2, ds2, p2, q2, rfl, rfl, rfl, h2, r2⟩ := trodAll_cons r1
  obtain ⟨v3, vs3, d3, ds3, p3, q3, rfl, rfl, rfl, h3, r3⟩ := trodAll_cons r2
  obtain ⟨rfl, rfl, rfl⟩ := trodAll_nil r3
  obtain rfl : args = #[v0, v1, v2, v3] := Array.toList_inj.1 hargs
  obtain ⟨rfl, rfl⟩ := trodVars_none hV
  have k0 := h0
  have lt0 : ∀ x ∈ p0, x.block < W.heap.size := by obtain ⟨m, hm⟩ := k0; exact DataW.trod_lt m _ _ _ hm
  have s0 : ∀ n ∈ d0.weights Try.prog 23, n ≤ reachBytes := fun n hn => by
    simpa using List.all_eq_true.1 hsz _ (DataW.weights_mem_each (j := 0) (t := 23) rfl rfl n hn)
  have k1 := h1
  have lt1 : ∀ x ∈ p1, x.block < W.heap.size := by obtain ⟨m, hm⟩ := k1; exact DataW.trod_lt m _ _ _ hm
  have s1 : ∀ n ∈ d1.weights Try.prog 62, n ≤ reachBytes := fun n hn => by
    simpa using List.all_eq_true.1 hsz _ (DataW.weights_mem_each (j := 1) (t := 62) rfl rfl n hn)
  have k3 := h3
  have lt3 : ∀ x ∈ p3, x.block < W.heap.size := by obtain ⟨m, hm⟩ := k3; exact DataW.trod_lt m _ _ _ hm
  have s3 : ∀ n ∈ d3.weights Try.prog 26, n ≤ reachBytes := fun n hn => by
    simpa using List.all_eq_true.1 hsz _ (DataW.weights_mem_each (j := 3) (t := 26) rfl rfl n hn)
  obtain ⟨x0, I0, J0⟩ := open_recsQ (f := encPJ) (Q := fun r => Arr r.1 encDraw 2 (heapOf W) r.2.draws) (fun x => rfl) (fun x hx c hc => by
      unfold encPJ at hc
      simp only [List.mem_cons, List.not_mem_nil, or_false] at hc
      rcases hc with rfl | rfl | rfl | rfl | rfl | rfl
      · rfl
      · rfl
      · rfl
      · exact (Arr.one (s := hx)).pf.2
      · rfl
      · rfl) (by decide) Try.underlying23 placeChances_cells39 (by rw [placeChances_bytes39]; decide) (hval 0 23 v0 rfl rfl) h0 s0 (fun n cs y h hw => placeChances_dec39 h hw)
  obtain ⟨n1_0_0, n1_0_1, n1_0_2, n1_1, n1_2, rfl, b1_0_0, b1_0_1, b1_0_2, b1_1, b1_2⟩ := placeChances_open62 (hval 1 62 v1 rfl rfl) h1 s1
  obtain ⟨n2, b2, rfl, rfl, rfl, wf2⟩ := open_i64 Try.underlying3 (hval 2 3 v2 rfl rfl) h2
  obtain ⟨n3_0, n3_1, rfl, b3_0, b3_1⟩ := placeChances_open26 (hval 3 26 v3 rfl rfl) h3 s3
  clear hA0 hval0
  refine (calls_of_spec (PlaceChances_spec x0 v0 (heapOf W) (heapOf W) J0 ⟨n1_0_0, n1_0_1, n1_0_2, n1_1, n1_2⟩ n2 ⟨n3_0, n3_1⟩) (fun h hh => by simpa using hh)).mono fun e W' ⟨v, hs, he, ⟨hv, _⟩, bel⟩ => ?_
  subst hv; subst he
  exact ⟨_, rfl, _, _, _, [], _, [], hW', trodAll_mk1 (shut_bool Try.underlying4 _), (trodAll_cons_mk (Stays.trod placeChances_laidOut (by kernel_rfl) (of_decide_eq_true (by kernel_rfl)) k0 bel lt0) (trodAll_cons_mk (Stays.trod placeChances_laidOut (by kernel_rfl) (of_decide_eq_true (by kernel_rfl)) k1 bel lt1) (trodAll_cons_mk (shut_int Try.underlying3 wf2) (trodAll_cons_mk (Stays.trod placeChances_laidOut (by kernel_rfl) (of_decide_eq_true (by kernel_rfl)) k3 bel lt3) trodAll_mk0)))), rfl, bel.frame _, fun h => by cases h⟩

theorem placeChances_over : Rows.PlaceChancesSaid :=
  OpenClaim.holds_of_wide 6 Try.f6 rfl rfl rfl rfl rfl rfl rfl ⟨rfl, rfl, rfl, rfl, rfl⟩ rfl rfl rfl rfl rfl (by kernel_rfl) Try.func6 (by kernel_rfl)
    (of_decide_eq_true (by kernel_rfl)) (by unfold Func.isWrapper; first | (rw [if_pos (by decide +kernel)]; kernel_rfl) | (rw [if_neg (by decide +kernel)]; exact ⟨rfl, rfl⟩))
    (fun os started H enc _ => placeChances_lifted os started H enc)
end Go.Proofs.Ytocdijoiaongbaa
