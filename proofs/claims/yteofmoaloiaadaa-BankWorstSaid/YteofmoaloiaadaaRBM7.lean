/- The row of BankWorst: Worst, Hold and Least are as the document says. No condition. -/
import Derived.Test.YteofmoaloiaadaaA5
import Derived.OpenShut
import Derived.ChangeOld
import Derived.ShutString
import Derived.Test.YteofmoaloiaadaaRows
namespace Go.Proofs.Yteofmoaloiaadaa
open Go.ChangeShapes Go.WideShapes Go.ChangeAt Go.RowKit Go.X
set_option linter.unusedVariables false
set_option linter.unusedSimpArgs false

theorem bankWorst_own : ownKnob Try.prog.godebug = none := by kernel_rfl
theorem bankWorst_laidOut : laidOutB Try.prog = true := by kernel_rfl
theorem bankWorst_cells38 : Try.prog.cellsOf 38 = 2 := by kernel_rfl
theorem bankWorst_bytes38 : Try.prog.bytesOf 38 = 16 := by kernel_rfl
theorem bankWorst_rc38_3 : Try.prog.cellsOf 3 = 1 := by kernel_rfl
theorem bankWorst_rc38_38 : Try.prog.cellsOf 38 = 2 := by kernel_rfl
theorem bankWorst_one38 : ∀ (x : BSpan), ∀ c ∈ encSpan x, one c = true := fun x c hc => by
  unfold encSpan at hc
  simp only [List.mem_cons, List.not_mem_nil, or_false] at hc
  rcases hc with rfl | rfl <;> rfl
set_option maxRecDepth 100000 in
theorem bankWorst_dec38 {H : Type} {enc : TypeId × Value → H} {W : World} {held : Bool} {n : Nat} {cs : List Value} {y : DataW H × List MemPlace} (h : DataW.trod enc Try.prog W 0 (fun _ => true) held n 38 cs = some y) : ∃ r, cs = encSpan r := by
  obtain ⟨xs, m, _, _, hlen0, hlen, hg⟩ := DataW.trod_struct Try.underlying38 h
  have hl : cs.length = 2 := hlen0.trans bankWorst_rc38_38
  match cs, hl with
  | [c0, c1], _ =>
    match xs, hlen with
    | [y0, y1], _ =>
      have g0 : DataW.trod enc Try.prog W 0 (fun _ => true) held m 3 [c0] = some y0 := by simpa [bankWorst_rc38_3] using hg 0 _ rfl
      obtain ⟨m0, e0, _, _⟩ := DataW.trod_int Try.underlying3 g0
      simp only [List.cons.injEq, and_true] at e0
      subst e0
      have g1 : DataW.trod enc Try.prog W 0 (fun _ => true) held m 3 [c1] = some y1 := by simpa [bankWorst_rc38_3] using hg 1 _ rfl
      obtain ⟨m1, e1, _, _⟩ := DataW.trod_int Try.underlying3 g1
      simp only [List.cons.injEq, and_true] at e1
      subst e1
      exact ⟨⟨m0, m1⟩, rfl⟩
theorem bankWorst_rc73_3 : Try.prog.cellsOf 3 = 1 := by kernel_rfl
theorem bankWorst_rc73_73 : Try.prog.cellsOf 73 = 4 := by kernel_rfl
theorem bankWorst_one73 : ∀ (x : BBat), ∀ c ∈ encBat x, one c = true := fun x c hc => by
  unfold encBat at hc
  simp only [List.mem_cons, List.not_mem_nil, or_false] at hc
  rcases hc with rfl | rfl | rfl | rfl <;> rfl
set_option maxRecDepth 100000 in
theorem bankWorst_dec73 {H : Type} {enc : TypeId × Value → H} {W : World} {held : Bool} {n : Nat} {cs : List Value} {y : DataW H × List MemPlace} (h : DataW.trod enc Try.prog W 0 (fun _ => true) held n 73 cs = some y) : ∃ r, cs = encBat r := by
  obtain ⟨xs, m, _, _, hlen0, hlen, hg⟩ := DataW.trod_struct Try.underlying73 h
  have hl : cs.length = 4 := hlen0.trans bankWorst_rc73_73
  match cs, hl with
  | [c0, c1, c2, c3], _ =>
    match xs, hlen with
    | [y0, y1, y2, y3], _ =>
      have g0 : DataW.trod enc Try.prog W 0 (fun _ => true) held m 3 [c0] = some y0 := by simpa [bankWorst_rc73_3] using hg 0 _ rfl
      obtain ⟨m0, e0, _, _⟩ := DataW.trod_int Try.underlying3 g0
      simp only [List.cons.injEq, and_true] at e0
      subst e0
      have g1 : DataW.trod enc Try.prog W 0 (fun _ => true) held m 3 [c1] = some y1 := by simpa [bankWorst_rc73_3] using hg 1 _ rfl
      obtain ⟨m1, e1, _, _⟩ := DataW.trod_int Try.underlying3 g1
      simp only [List.cons.injEq, and_true] at e1
      subst e1
      have g2 : DataW.trod enc Try.prog W 0 (fun _ => true) held m 3 [c2] = some y2 := by simpa [bankWorst_rc73_3] using hg 2 _ rfl
      obtain ⟨m2, e2, _, _⟩ := DataW.trod_int Try.underlying3 g2
      simp only [List.cons.injEq, and_true] at e2
      subst e2
      have g3 : DataW.trod enc Try.prog W 0 (fun _ => true) held m 3 [c3] = some y3 := by simpa [bankWorst_rc73_3] using hg 3 _ rfl
      obtain ⟨m3, e3, _, _⟩ := DataW.trod_int Try.underlying3 g3
      simp only [List.cons.injEq, and_true] at e3
      subst e3
      exact ⟨⟨m0, m1, m2, m3⟩, rfl⟩
theorem bankWorst_rc85_3 : Try.prog.cellsOf 3 = 1 := by kernel_rfl
theorem bankWorst_rc85_85 : Try.prog.cellsOf 85 = 5 := by kernel_rfl
theorem bankWorst_one85 : ∀ (x : BGen), ∀ c ∈ encGen x, one c = true := fun x c hc => by
  unfold encGen at hc
  simp only [List.mem_cons, List.not_mem_nil, or_false] at hc
  rcases hc with rfl | rfl | rfl | rfl | rfl <;> rfl
set_option maxRecDepth 100000 in
theorem bankWorst_dec85 {H : Type} {enc : TypeId × Value → H} {W : World} {held : Bool} {n : Nat} {cs : List Value} {y : DataW H × List MemPlace} (h : DataW.trod enc Try.prog W 0 (fun _ => true) held n 85 cs = some y) : ∃ r, cs = encGen r := by
  obtain ⟨xs, m, _, _, hlen0, hlen, hg⟩ := DataW.trod_struct Try.underlying85 h
  have hl : cs.length = 5 := hlen0.trans bankWorst_rc85_85
  match cs, hl with
  | [c0, c1, c2, c3, c4], _ =>
    match xs, hlen with
    | [y0, y1, y2, y3, y4], _ =>
      have g0 : DataW.trod enc Try.prog W 0 (fun _ => true) held m 3 [c0] = some y0 := by simpa [bankWorst_rc85_3] using hg 0 _ rfl
      obtain ⟨m0, e0, _, _⟩ := DataW.trod_int Try.underlying3 g0
      simp only [List.cons.injEq, and_true] at e0
      subst e0
      have g1 : DataW.trod enc Try.prog W 0 (fun _ => true) held m 3 [c1] = some y1 := by simpa [bankWorst_rc85_3] using hg 1 _ rfl
      obtain ⟨m1, e1, _, _⟩ := DataW.trod_int Try.underlying3 g1
      simp only [List.cons.injEq, and_true] at e1
      subst e1
      have g2 : DataW.trod enc Try.prog W 0 (fun _ => true) held m 3 [c2] = some y2 := by simpa [bankWorst_rc85_3] using hg 2 _ rfl
      obtain ⟨m2, e2, _, _⟩ := DataW.trod_int Try.underlying3 g2
      simp only [List.cons.injEq, and_true] at e2
      subst e2
      have g3 : DataW.trod enc Try.prog W 0 (fun _ => true) held m 3 [c3] = some y3 := by simpa [bankWorst_rc85_3] using hg 3 _ rfl
      obtain ⟨m3, e3, _, _⟩ := DataW.trod_int Try.underlying3 g3
      simp only [List.cons.injEq, and_true] at e3
      subst e3
      have g4 : DataW.trod enc Try.prog W 0 (fun _ => true) held m 3 [c4] = some y4 := by simpa [bankWorst_rc85_3] using hg 4 _ rfl
      obtain ⟨m4, e4, _, _⟩ := DataW.trod_int Try.underlying3 g4
      simp only [List.cons.injEq, and_true] at e4
      subst e4
      exact ⟨⟨m0, m1, m2, m3, m4⟩, rfl⟩
theorem bankWorst_sc25_22 : Try.prog.cellsOf 22 = 1 := by kernel_rfl
theorem bankWorst_sc25_23 : Try.prog.cellsOf 23 = 1 := by kernel_rfl
theorem bankWorst_sc25_25 : Try.prog.cellsOf 25 = 2 := by kernel_rfl
theorem bankWorst_se25_73 : Try.prog.cellsOf 73 = 4 := by kernel_rfl
theorem bankWorst_sb25_73 : Try.prog.bytesOf 73 = 32 := by kernel_rfl
theorem bankWorst_se25_85 : Try.prog.cellsOf 85 = 5 := by kernel_rfl
theorem bankWorst_sb25_85 : Try.prog.bytesOf 85 = 40 := by kernel_rfl
set_option maxRecDepth 100000 in
theorem bankWorst_open25 {H : Type} {enc : TypeId × Value → H} {W : World} {base : Nat} {v : Value} {d : DataW H} {p : List MemPlace} (hv : Value.okWide Try.prog W .any base 25 v) (h : DataW.Trod enc Try.prog W 0 (fun _ => true) true 25 v d p)
    (hw : ∀ n ∈ d.weights Try.prog 25, n ≤ reachBytes) : ∃ (w0 : Value) (x0 : List BBat) (w1 : Value) (x1 : List BGen), v = .agg #[w0, w1] ∧ Arr w0 encBat 4 (heapOf W) x0 ∧ Arr w1 encGen 5 (heapOf W) x1 := by
  obtain ⟨cs, rfl, hsz⟩ := okWide_struct Try.underlying25 hv
  obtain ⟨fuel, hf⟩ := h
  obtain ⟨xs, n, _, hx, _, hlen, hg⟩ := DataW.trod_struct Try.underlying25 hf
  obtain ⟨l⟩ := cs
  have hl : l.length = 2 := hsz.trans bankWorst_sc25_25
  match l, hl with
  | [c0, c1], _ =>
    match xs, hlen with
    | [y0, y1], _ =>
      have g0 : DataW.trod enc Try.prog W 0 (fun _ => true) true n 22 [c0] = some y0 := by simpa [Value.cells, bankWorst_sc25_22] using hg 0 _ rfl
      have g1 : DataW.trod enc Try.prog W 0 (fun _ => true) true n 23 [c1] = some y1 := by simpa [Value.cells, bankWorst_sc25_23] using hg 1 _ rfl
      have hr : reachBytes = 140737488351232 := rfl
      simp only [Prod.mk.injEq] at hx
      obtain ⟨rfl, _⟩ := hx
      have w0 : ∀ elems spare, y0.1 = .slice elems spare → elems.length + spare.length ≤ 140737488355328 := fun elems spare he => by
        have := hw ((elems.length + spare.length) * Try.prog.bytesOf 73) (by
          simp [DataW.weights, DataW.weightsEach, Try.underlying22, Try.underlying23, Try.underlying25, he])
        rw [bankWorst_sb25_73, hr] at this
        omega
      obtain ⟨u0, l0, e0, a0⟩ := arr_recs (f := encBat) (fun x => rfl) bankWorst_one73 (by decide) Try.underlying22 bankWorst_se25_73 g0 w0 (fun n cs y h => bankWorst_dec73 h)
      simp only [List.cons.injEq, and_true] at e0
      subst e0
      have w1 : ∀ elems spare, y1.1 = .slice elems spare → elems.length + spare.length ≤ 140737488355328 := fun elems spare he => by
        have := hw ((elems.length + spare.length) * Try.prog.bytesOf 85) (by
          simp [DataW.weights, DataW.weightsEach, Try.underlying22, Try.underlying23, Try.underlying25, he])
        rw [bankWorst_sb25_85, hr] at this
        omega
      obtain ⟨u1, l1, e1, a1⟩ := arr_recs (f := encGen) (fun x => rfl) bankWorst_one85 (by decide) Try.underlying23 bankWorst_se25_85 g1 w1 (fun n cs y h => bankWorst_dec85 h)
      simp only [List.cons.injEq, and_true] at e1
      subst e1
      exact ⟨c0, l0, c1, l1, rfl, a0, a1⟩

set_option maxRecDepth 100000 in
set_option maxHeartbeats 2000000 in
theorem bankWorst_lifted (os : Os) (started : os.Started) (H : Type) (enc : TypeId × Value → H) :
    ReturnsInHanded {} Try.checked os 3 .any (Rows.bankWorstSpec.pre6 enc Try.prog Try.f3 Rows.bankWorstRow.domain false) (Rows.bankWorstSpec.post enc Try.prog Try.f3 false true false false) := by
  refine returnsInHanded_of_change_sized (C := Try.checked) bankWorst_own started (by kernel_rfl) Try.func3
    (ChangeSpec.witness6 (enc := enc) (C := Try.checked) false ⟨#[], #[.agg #[.slice none 0 0, .slice none 0 0], .slice none 0 0, .int .i64 0, .int .i64 0], []⟩ 8 (by kernel_rfl) (by kernel_rfl) (by kernel_rfl) (by kernel_rfl)) ?_
  intro W base args ds gs before hval0 hW hcnd hsz0 _
  have hval : ∀ (j : Nat) t v, Try.f3.params[j]? = some t → args[j]? = some v → Value.okWide Try.prog W .any base t v := hval0
  have hsz : (DataW.weightsEach Try.prog (Try.f3.params.toList ++ Rows.bankWorstSpec.plain.varTypes Try.prog) (ds ++ gs)).all (· ≤ reachBytes) = true := hsz0
  have hW' := hW
  obtain ⟨p, q, hA0, hV, rfl, hfz, hnd⟩ := hW
  have hA : DataW.TrodAll enc Try.prog W 0 (fun _ => true) true Try.f3.params.toList args.toList ds p := hA0
  rw [Try.params3] at hA hval hsz
  obtain ⟨v0, vs0, d0, ds0, p0, q0, hargs, rfl, rfl, h0, r0⟩ := trodAll_cons hA
  obtain ⟨v1, vs1, d1, ds1, p1, q1, rfl, rfl, rfl, h1, r1⟩ := trodAll_cons r0
  obtain ⟨v2, vs2, d2, ds2, p2, q2, rfl, rfl, rfl, h2, r2⟩ := trodAll_cons r1
  obtain ⟨v3, vs3, d3, ds3, p3, q3, rfl, rfl, rfl, h3, r3⟩ := trodAll_cons r2
  obtain ⟨rfl, rfl, rfl⟩ := trodAll_nil r3
  obtain rfl : args = #[v0, v1, v2, v3] := Array.toList_inj.1 hargs
  obtain ⟨rfl, rfl⟩ := trodVars_none hV
  have k0 := h0
  have lt0 : ∀ x ∈ p0, x.block < W.heap.size := by obtain ⟨m, hm⟩ := k0; exact DataW.trod_lt m _ _ _ hm
  have s0 : ∀ n ∈ d0.weights Try.prog 25, n ≤ reachBytes := fun n hn => by
    simpa using List.all_eq_true.1 hsz _ (DataW.weights_mem_each (j := 0) (t := 25) rfl rfl n hn)
  have k1 := h1
  have lt1 : ∀ x ∈ p1, x.block < W.heap.size := by obtain ⟨m, hm⟩ := k1; exact DataW.trod_lt m _ _ _ hm
  have s1 : ∀ n ∈ d1.weights Try.prog 26, n ≤ reachBytes := fun n hn => by
    simpa using List.all_eq_true.1 hsz _ (DataW.weights_mem_each (j := 1) (t := 26) rfl rfl n hn)
  obtain ⟨w0_0, x0_0, w0_1, x0_1, rfl, I0_0, I0_1⟩ := bankWorst_open25 (hval 0 25 v0 rfl rfl) h0 s0
  obtain ⟨x1, I1⟩ := open_recs (f := encSpan) (fun x => rfl) bankWorst_one38 (by decide) Try.underlying26 bankWorst_cells38 (by rw [bankWorst_bytes38]; decide) (hval 1 26 v1 rfl rfl) h1 s1 (fun n cs y h => bankWorst_dec38 h)
  obtain ⟨n2, b2, rfl, rfl, rfl, wf2⟩ := open_i64 Try.underlying3 (hval 2 3 v2 rfl rfl) h2
  obtain ⟨n3, b3, rfl, rfl, rfl, wf3⟩ := open_i64 Try.underlying3 (hval 3 3 v3 rfl rfl) h3
  clear hA0 hval0
  refine (calls_of_spec (BankWorst_spec ⟨x0_0, x0_1⟩ w0_0 w0_1 (heapOf W) (heapOf W) x1 v1 (heapOf W) n2 n3 (by have := b3.2; omega)) (fun h hh => by simpa using hh)).mono fun e W' ⟨v, hs, he, ⟨hv, _⟩, bel⟩ => ?_
  subst hv; subst he
  exact ⟨_, rfl, _, _, _, [], _, [], hW', trodAll_mk1 (shut_bool Try.underlying4 _), (trodAll_cons_mk (Stays.trod bankWorst_laidOut (by kernel_rfl) (of_decide_eq_true (by kernel_rfl)) k0 bel lt0) (trodAll_cons_mk (Stays.trod bankWorst_laidOut (by kernel_rfl) (of_decide_eq_true (by kernel_rfl)) k1 bel lt1) (trodAll_cons_mk (shut_int Try.underlying3 wf2) (trodAll_cons_mk (shut_int Try.underlying3 wf3) trodAll_mk0)))), rfl, bel.frame _, fun h => by cases h⟩

theorem bankWorst_over : Rows.BankWorstSaid :=
  OpenClaim.holds_of_wide 3 Try.f3 rfl rfl rfl rfl rfl rfl rfl ⟨rfl, rfl, rfl, rfl, rfl⟩ rfl rfl rfl rfl rfl (by kernel_rfl) Try.func3 (by kernel_rfl)
    (of_decide_eq_true (by kernel_rfl)) (by unfold Func.isWrapper; first | (rw [if_pos (by decide +kernel)]; kernel_rfl) | (rw [if_neg (by decide +kernel)]; exact ⟨rfl, rfl⟩))
    (fun os started H enc _ => bankWorst_lifted os started H enc)
end Go.Proofs.Yteofmoaloiaadaa
