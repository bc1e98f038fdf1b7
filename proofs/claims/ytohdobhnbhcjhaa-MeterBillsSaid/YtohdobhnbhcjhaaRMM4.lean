/- The row of MeterBills: Make and Total are as the document says. No condition. -/
import Derived.Test.YtohdobhnbhcjhaaA4
import Derived.OpenShut
import Derived.ChangeOld
import Derived.ShutString
import Derived.Test.YtohdobhnbhcjhaaRows
namespace Go.Proofs.Ytohdobhnbhcjhaa
open Go.ChangeShapes Go.WideShapes Go.ChangeAt Go.RowKit Go.X
set_option linter.unusedVariables false
set_option linter.unusedSimpArgs false

theorem meterBills_own : ownKnob Try.prog.godebug = none := by kernel_rfl
theorem meterBills_laidOut : laidOutB Try.prog = true := by kernel_rfl
theorem meterBills_cells35 : Try.prog.cellsOf 35 = 2 := by kernel_rfl
theorem meterBills_bytes35 : Try.prog.bytesOf 35 = 32 := by kernel_rfl
theorem meterBills_rc33_3 : Try.prog.cellsOf 3 = 1 := by kernel_rfl
theorem meterBills_rc33_33 : Try.prog.cellsOf 33 = 2 := by kernel_rfl
theorem meterBills_one33 : ∀ (x : MTier), ∀ c ∈ encTier x, one c = true := fun x c hc => by
  unfold encTier at hc
  simp only [List.mem_cons, List.not_mem_nil, or_false] at hc
  rcases hc with rfl | rfl <;> rfl
set_option maxRecDepth 100000 in
theorem meterBills_dec33 {H : Type} {enc : TypeId × Value → H} {W : World} {held : Bool} {n : Nat} {cs : List Value} {y : DataW H × List MemPlace} (h : DataW.trod enc Try.prog W 0 (fun _ => true) held n 33 cs = some y) : ∃ r, cs = encTier r := by
  obtain ⟨xs, m, _, _, hlen0, hlen, hg⟩ := DataW.trod_struct Try.underlying33 h
  have hl : cs.length = 2 := hlen0.trans meterBills_rc33_33
  match cs, hl with
  | [c0, c1], _ =>
    match xs, hlen with
    | [y0, y1], _ =>
      have g0 : DataW.trod enc Try.prog W 0 (fun _ => true) held m 3 [c0] = some y0 := by simpa [meterBills_rc33_3] using hg 0 _ rfl
      obtain ⟨m0, e0, _, _⟩ := DataW.trod_int Try.underlying3 g0
      simp only [List.cons.injEq, and_true] at e0
      subst e0
      have g1 : DataW.trod enc Try.prog W 0 (fun _ => true) held m 3 [c1] = some y1 := by simpa [meterBills_rc33_3] using hg 1 _ rfl
      obtain ⟨m1, e1, _, _⟩ := DataW.trod_int Try.underlying3 g1
      simp only [List.cons.injEq, and_true] at e1
      subst e1
      exact ⟨⟨m0, m1⟩, rfl⟩
theorem meterBills_rc35_3 : Try.prog.cellsOf 3 = 1 := by kernel_rfl
theorem meterBills_rc35_24 : Try.prog.cellsOf 24 = 1 := by kernel_rfl
theorem meterBills_rc35_35 : Try.prog.cellsOf 35 = 2 := by kernel_rfl
theorem meterBills_re35_3 : Try.prog.cellsOf 3 = 1 := by kernel_rfl
theorem meterBills_rb35_3 : Try.prog.bytesOf 3 = 8 := by kernel_rfl
set_option maxRecDepth 100000 in
theorem meterBills_dec35 {H : Type} {enc : TypeId × Value → H} {W : World} {n : Nat} {cs : List Value} {y : DataW H × List MemPlace} (h : DataW.trod enc Try.prog W 0 (fun _ => true) true n 35 cs = some y) (hw : ∀ n ∈ y.1.weights Try.prog 35, n ≤ reachBytes) : ∃ r : Value × MUse, cs = encUse r ∧ Arr r.1 encI 1 (heapOf W) r.2.values := by
  obtain ⟨xs, m, _, hx, hlen0, hlen, hg⟩ := DataW.trod_struct Try.underlying35 h
  subst hx
  have hl : cs.length = 2 := hlen0.trans meterBills_rc35_35
  have hr : reachBytes = 140737488351232 := rfl
  match cs, hl with
  | [c0, c1], _ =>
    match xs, hlen with
    | [y0, y1], _ =>
      have g0 : DataW.trod enc Try.prog W 0 (fun _ => true) true m 24 [c0] = some y0 := by simpa [meterBills_rc35_24] using hg 0 _ rfl
      have g1 : DataW.trod enc Try.prog W 0 (fun _ => true) true m 3 [c1] = some y1 := by simpa [meterBills_rc35_3] using hg 1 _ rfl
      obtain ⟨m1, e1, _, _⟩ := DataW.trod_int Try.underlying3 g1
      simp only [List.cons.injEq, and_true] at e1
      subst e1
      have w0 : ∀ elems spare, y0.1 = .slice elems spare → elems.length + spare.length ≤ 140737488355328 := fun elems spare he => by
        have := hw ((elems.length + spare.length) * Try.prog.bytesOf 3) (by
          simp [DataW.weights, DataW.weightsEach, Try.underlying24, Try.underlying35, he])
        rw [meterBills_rb35_3, hr] at this
        omega
      obtain ⟨u0, l0, e0, a0⟩ := arr_ints Try.underlying24 Try.underlying3 meterBills_re35_3 g0 w0
      simp only [List.cons.injEq, and_true] at e0
      subst e0
      exact ⟨(_, ⟨l0, m1⟩), rfl, a0⟩
theorem meterBills_sc27_3 : Try.prog.cellsOf 3 = 1 := by kernel_rfl
theorem meterBills_sc27_24 : Try.prog.cellsOf 24 = 1 := by kernel_rfl
theorem meterBills_sc27_25 : Try.prog.cellsOf 25 = 1 := by kernel_rfl
theorem meterBills_sc27_27 : Try.prog.cellsOf 27 = 4 := by kernel_rfl
theorem meterBills_se27_3 : Try.prog.cellsOf 3 = 1 := by kernel_rfl
theorem meterBills_sb27_3 : Try.prog.bytesOf 3 = 8 := by kernel_rfl
theorem meterBills_se27_33 : Try.prog.cellsOf 33 = 2 := by kernel_rfl
theorem meterBills_sb27_33 : Try.prog.bytesOf 33 = 16 := by kernel_rfl
set_option maxRecDepth 100000 in
theorem meterBills_open27 {H : Type} {enc : TypeId × Value → H} {W : World} {base : Nat} {v : Value} {d : DataW H} {p : List MemPlace} (hv : Value.okWide Try.prog W .any base 27 v) (h : DataW.Trod enc Try.prog W 0 (fun _ => true) true 27 v d p)
    (hw : ∀ n ∈ d.weights Try.prog 27, n ≤ reachBytes) : ∃ (w0 : Value) (x0 : List Int) (n1 : Int) (w2 : Value) (x2 : List MTier) (n3 : Int), v = .agg #[w0, .int .i64 n1, w2, .int .i64 n3] ∧ Arr w0 encI 1 (heapOf W) x0 ∧ in64 n1 ∧ Arr w2 encTier 2 (heapOf W) x2 ∧ in64 n3 := by
  obtain ⟨cs, rfl, hsz⟩ := okWide_struct Try.underlying27 hv
  obtain ⟨fuel, hf⟩ := h
  obtain ⟨xs, n, _, hx, _, hlen, hg⟩ := DataW.trod_struct Try.underlying27 hf
  obtain ⟨l⟩ := cs
  have hl : l.length = 4 := hsz.trans meterBills_sc27_27
  match l, hl with
  | [c0, c1, c2, c3], _ =>
    match xs, hlen with
    | [y0, y1, y2, y3], _ =>
      have g0 : DataW.trod enc Try.prog W 0 (fun _ => true) true n 24 [c0] = some y0 := by simpa [Value.cells, meterBills_sc27_24] using hg 0 _ rfl
      have g1 : DataW.trod enc Try.prog W 0 (fun _ => true) true n 3 [c1] = some y1 := by simpa [Value.cells, meterBills_sc27_3] using hg 1 _ rfl
      have g2 : DataW.trod enc Try.prog W 0 (fun _ => true) true n 25 [c2] = some y2 := by simpa [Value.cells, meterBills_sc27_25] using hg 2 _ rfl
      have g3 : DataW.trod enc Try.prog W 0 (fun _ => true) true n 3 [c3] = some y3 := by simpa [Value.cells, meterBills_sc27_3] using hg 3 _ rfl
      have hr : reachBytes = 140737488351232 := rfl
      obtain ⟨m1, e1, _, wf1⟩ := DataW.trod_int Try.underlying3 g1
      simp only [List.cons.injEq, and_true] at e1
      subst e1
      obtain ⟨m3, e3, _, wf3⟩ := DataW.trod_int Try.underlying3 g3
      simp only [List.cons.injEq, and_true] at e3
      subst e3
      simp only [Prod.mk.injEq] at hx
      obtain ⟨rfl, _⟩ := hx
      have w0 : ∀ elems spare, y0.1 = .slice elems spare → elems.length + spare.length ≤ 140737488355328 := fun elems spare he => by
        have := hw ((elems.length + spare.length) * Try.prog.bytesOf 3) (by
          simp [DataW.weights, DataW.weightsEach, Try.underlying24, Try.underlying25, Try.underlying27, he])
        rw [meterBills_sb27_3, hr] at this
        omega
      obtain ⟨u0, l0, e0, a0⟩ := arr_ints Try.underlying24 Try.underlying3 meterBills_se27_3 g0 w0
      simp only [List.cons.injEq, and_true] at e0
      subst e0
      have w2 : ∀ elems spare, y2.1 = .slice elems spare → elems.length + spare.length ≤ 140737488355328 := fun elems spare he => by
        have := hw ((elems.length + spare.length) * Try.prog.bytesOf 33) (by
          simp [DataW.weights, DataW.weightsEach, Try.underlying24, Try.underlying25, Try.underlying27, he])
        rw [meterBills_sb27_33, hr] at this
        omega
      obtain ⟨u2, l2, e2, a2⟩ := arr_recs (f := encTier) (fun x => rfl) meterBills_one33 (by decide) Try.underlying25 meterBills_se27_33 g2 w2 (fun n cs y h => meterBills_dec33 h)
      simp only [List.cons.injEq, and_true] at e2
      subst e2
      exact ⟨c0, l0, m1, c2, l2, m3, rfl, a0, bounds_i64 wf1, a2, bounds_i64 wf3⟩

set_option maxRecDepth 100000 in
set_option maxHeartbeats 2000000 in
theorem meterBills_lifted (os : Os) (started : os.Started) (H : Type) (enc : TypeId × Value → H) :
    ReturnsInHanded {} Try.checked os 5 .any (Rows.meterBillsSpec.pre6 enc Try.prog Try.f5 Rows.meterBillsRow.domain false) (Rows.meterBillsSpec.post enc Try.prog Try.f5 false true false false) := by
  refine returnsInHanded_of_change_sized (C := Try.checked) meterBills_own started (by kernel_rfl) Try.func5
    (ChangeSpec.witness6 (enc := enc) (C := Try.checked) false ⟨#[], #[.agg #[.slice none 0 0, .int .i64 0, .slice none 0 0, .int .i64 0], .slice none 0 0], []⟩ 8 (by kernel_rfl) (by kernel_rfl) (by kernel_rfl) (by kernel_rfl)) ?_
  intro W base args ds gs before hval0 hW hcnd hsz0 _
  have hval : ∀ (j : Nat) t v, Try.f5.params[j]? = some t → args[j]? = some v → Value.okWide Try.prog W .any base t v := hval0
  have hsz : (DataW.weightsEach Try.prog (Try.f5.params.toList ++ Rows.meterBillsSpec.plain.varTypes Try.prog) (ds ++ gs)).all (· ≤ reachBytes) = true := hsz0
  have hW' := hW
  obtain ⟨p, q, hA0, hV, rfl, hfz, hnd⟩ := hW
  have hA : DataW.TrodAll enc Try.prog W 0 (fun _ => true) true Try.f5.params.toList args.toList ds p := hA0
  rw [Try.params5] at hA hval hsz
  obtain ⟨v0, vs0, d0, ds0, p0, q0, hargs, rfl, rfl, h0, r0⟩ := trodAll_cons hA
  obtain ⟨v1, vs1, d1, ds1, p1, q1, rfl, rfl, rfl, h1, r1⟩ := trodAll_cons r0
  obtain ⟨rfl, rfl, rfl⟩ := trodAll_nil r1
  obtain rfl : args = #[v0, v1] := Array.toList_inj.1 hargs
  obtain ⟨rfl, rfl⟩ := trodVars_none hV
  have k0 := h0
  have lt0 : ∀ x ∈ p0, x.block < W.heap.size := by obtain ⟨m, hm⟩ := k0; exact DataW.trod_lt m _ _ _ hm
  have s0 : ∀ n ∈ d0.weights Try.prog 27, n ≤ reachBytes := fun n hn => by
    simpa using List.all_eq_true.1 hsz _ (DataW.weights_mem_each (j := 0) (t := 27) rfl rfl n hn)
  have k1 := h1
  have lt1 : ∀ x ∈ p1, x.block < W.heap.size := by obtain ⟨m, hm⟩ := k1; exact DataW.trod_lt m _ _ _ hm
  have s1 : ∀ n ∈ d1.weights Try.prog 44, n ≤ reachBytes := fun n hn => by
    simpa using List.all_eq_true.1 hsz _ (DataW.weights_mem_each (j := 1) (t := 44) rfl rfl n hn)
  obtain ⟨w0_0, x0_0, n0_1, w0_2, x0_2, n0_3, rfl, I0_0, b0_1, I0_2, b0_3⟩ := meterBills_open27 (hval 0 27 v0 rfl rfl) h0 s0
  obtain ⟨x1, I1, J1⟩ := open_recsQ (f := encUse) (Q := fun r => Arr r.1 encI 1 (heapOf W) r.2.values) (fun x => rfl) (fun x hx c hc => by
      unfold encUse at hc
      simp only [List.mem_cons, List.not_mem_nil, or_false] at hc
      rcases hc with rfl | rfl
      · exact (Arr.one (s := hx)).pf.2
      · rfl) (by decide) Try.underlying44 meterBills_cells35 (by rw [meterBills_bytes35]; decide) (hval 1 44 v1 rfl rfl) h1 s1 (fun n cs y h hw => meterBills_dec35 h hw)
  clear hA0 hval0
  refine (calls_of_spec (MeterBills_spec ⟨x0_0, n0_1, x0_2, n0_3⟩ w0_0 w0_2 (heapOf W) (heapOf W) x1 v1 (heapOf W) (heapOf W) J1) (fun h hh => by simpa using hh)).mono fun e W' ⟨v, hs, he, ⟨hv, _⟩, bel⟩ => ?_
  subst hv; subst he
  exact ⟨_, rfl, _, _, _, [], _, [], hW', trodAll_mk1 (shut_bool Try.underlying4 _), (trodAll_cons_mk (Stays.trod meterBills_laidOut (by kernel_rfl) (of_decide_eq_true (by kernel_rfl)) k0 bel lt0) (trodAll_cons_mk (Stays.trod meterBills_laidOut (by kernel_rfl) (of_decide_eq_true (by kernel_rfl)) k1 bel lt1) trodAll_mk0)), rfl, bel.frame _, fun h => by cases h⟩

theorem meterBills_over : Rows.MeterBillsSaid :=
  OpenClaim.holds_of_wide 5 Try.f5 rfl rfl rfl rfl rfl rfl rfl ⟨rfl, rfl, rfl, rfl, rfl⟩ rfl rfl rfl rfl rfl (by kernel_rfl) Try.func5 (by kernel_rfl)
    (of_decide_eq_true (by kernel_rfl)) (by unfold Func.isWrapper; first | (rw [if_pos (by decide +kernel)]; kernel_rfl) | (rw [if_neg (by decide +kernel)]; exact ⟨rfl, rfl⟩))
    (fun os started H enc _ => meterBills_lifted os started H enc)
end Go.Proofs.Ytohdobhnbhcjhaa
