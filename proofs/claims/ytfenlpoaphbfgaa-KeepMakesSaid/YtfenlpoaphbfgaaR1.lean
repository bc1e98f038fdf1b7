/- The row of KeepMakes: the arguments opened, the contract, the row. No condition. -/
import Derived.Test.YtfenlpoaphbfgaaK13
import Derived.Test.YtfenlpoaphbfgaaX18
import Derived.OpenShut
import Derived.ChangeOld
import Derived.ShutString
import Derived.Test.YtfenlpoaphbfgaaRows
namespace Go.Proofs.Ytfenlpoaphbfgaa
open Go.ChangeShapes Go.WideShapes Go.ChangeAt Go.RowKit Go.X
set_option linter.unusedVariables false

theorem km_own : ownKnob Try.prog.godebug = none := by kernel_rfl
theorem km_laidOut : laidOutB Try.prog = true := by kernel_rfl
theorem km_cells25 : Try.prog.cellsOf 25 = 5 := by kernel_rfl
theorem km_cells3 : Try.prog.cellsOf 3 = 1 := by kernel_rfl
theorem km_cells4 : Try.prog.cellsOf 4 = 1 := by kernel_rfl
theorem km_cells22 : Try.prog.cellsOf 22 = 1 := by kernel_rfl
theorem km_cells23 : Try.prog.cellsOf 23 = 1 := by kernel_rfl
theorem km_bytes3 : Try.prog.bytesOf 3 = 8 := by kernel_rfl
theorem km_bytes4 : Try.prog.bytesOf 4 = 1 := by kernel_rfl

set_option maxRecDepth 100000 in
theorem game_open {H : Type} {enc : TypeId × Value → H} {W : World} {base : Nat} {v : Value} {d : DataW H} {p : List MemPlace} (hv : Value.okWide Try.prog W .any base 25 v) (h : DataW.Trod enc Try.prog W 0 (fun _ => true) true 25 v d p)
    (hw : ∀ n ∈ d.weights Try.prog 25, n ≤ reachBytes) :
    ∃ (g : G) (vn vg : Value), v = .agg #[.int .i64 g.S, .int .i64 g.C, .int .i64 g.K, vn, vg] ∧ Arr vn encI 1 (heapOf W) g.next ∧ Arr vg encB 1 (heapOf W) g.good := by
  obtain ⟨cs, rfl, hsz⟩ := okWide_struct Try.underlying25 hv
  obtain ⟨fuel, hf⟩ := h
  obtain ⟨xs, n, _, hx, _, hlen, hg⟩ := DataW.trod_struct Try.underlying25 hf
  obtain ⟨l⟩ := cs
  have hl : l.length = 5 := hsz.trans km_cells25
  match l, hl with
  | [c0, c1, c2, c3, c4], _ =>
    match xs, hlen with
    | [y0, y1, y2, y3, y4], _ =>
      have g0 : DataW.trod enc Try.prog W 0 (fun _ => true) true n 3 [c0] = some y0 := by simpa [Value.cells, km_cells3] using hg 0 _ rfl
      have g1 : DataW.trod enc Try.prog W 0 (fun _ => true) true n 3 [c1] = some y1 := by simpa [Value.cells, km_cells3] using hg 1 _ rfl
      have g2 : DataW.trod enc Try.prog W 0 (fun _ => true) true n 3 [c2] = some y2 := by simpa [Value.cells, km_cells3] using hg 2 _ rfl
      have g3 : DataW.trod enc Try.prog W 0 (fun _ => true) true n 22 [c3] = some y3 := by simpa [Value.cells, km_cells22] using hg 3 _ rfl
      have g4 : DataW.trod enc Try.prog W 0 (fun _ => true) true n 23 [c4] = some y4 := by simpa [Value.cells, km_cells23] using hg 4 _ rfl
      obtain ⟨m0, e0, _, _⟩ := DataW.trod_int Try.underlying3 g0
      obtain ⟨m1, e1, _, _⟩ := DataW.trod_int Try.underlying3 g1
      obtain ⟨m2, e2, _, _⟩ := DataW.trod_int Try.underlying3 g2
      simp only [List.cons.injEq, and_true] at e0 e1 e2
      subst e0 e1 e2
      simp only [Prod.mk.injEq] at hx
      obtain ⟨rfl, _⟩ := hx
      have hr : reachBytes = 140737488351232 := rfl
      have w3 : ∀ elems spare, y3.1 = .slice elems spare → elems.length + spare.length ≤ 140737488355328 := fun elems spare he => by
        have := hw ((elems.length + spare.length) * Try.prog.bytesOf 3) (by
          simp [DataW.weights, DataW.weightsEach, Try.underlying25, Try.underlying22, he])
        rw [km_bytes3, hr] at this
        omega
      have w4 : ∀ elems spare, y4.1 = .slice elems spare → elems.length + spare.length ≤ 140737488355328 := fun elems spare he => by
        have := hw ((elems.length + spare.length) * Try.prog.bytesOf 4) (by
          simp [DataW.weights, DataW.weightsEach, Try.underlying25, Try.underlying23, he])
        rw [km_bytes4, hr] at this
        omega
      obtain ⟨u3, l3, e3, a3⟩ := arr_ints Try.underlying22 Try.underlying3 km_cells3 g3 w3
      obtain ⟨u4, l4, e4, a4⟩ := arr_bools Try.underlying23 Try.underlying4 km_cells4 g4 w4
      simp only [List.cons.injEq, and_true] at e3 e4
      subst e3 e4
      exact ⟨⟨m0, m1, m2, l3, l4⟩, c3, c4, rfl, a3, a4⟩

set_option maxRecDepth 100000 in
theorem keepMakes_lifted (os : Os) (started : os.Started) (H : Type) (enc : TypeId × Value → H) :
    ReturnsInHanded {} Try.checked os 3 .any (Rows.keepMakesSpec.pre6 enc Try.prog Try.f3 Rows.keepMakesRow.domain false) (Rows.keepMakesSpec.post enc Try.prog Try.f3 false true false false) := by
  refine returnsInHanded_of_change_sized (C := Try.checked) km_own started (by kernel_rfl) Try.func3
    (ChangeSpec.witness6 (enc := enc) (C := Try.checked) false ⟨#[], #[.agg #[.int .i64 0, .int .i64 0, .int .i64 0, .slice none 0 0, .slice none 0 0], .agg #[.int .i64 0, .int .i64 0, .int .i64 0, .slice none 0 0, .slice none 0 0], .int .i64 0], []⟩ 8 (by kernel_rfl) (by kernel_rfl) (by kernel_rfl) (by kernel_rfl)) ?_
  intro W base args ds gs before hval0 hW hcnd hsz0 _
  have hval : ∀ (j : Nat) t v, Try.f3.params[j]? = some t → args[j]? = some v → Value.okWide Try.prog W .any base t v := hval0
  have hsz : (DataW.weightsEach Try.prog (Try.f3.params.toList ++ Rows.keepMakesSpec.plain.varTypes Try.prog) (ds ++ gs)).all (· ≤ reachBytes) = true := hsz0
  have hW' := hW
  obtain ⟨p, q, hA0, hV, rfl, hfz, hnd⟩ := hW
  have hA : DataW.TrodAll enc Try.prog W 0 (fun _ => true) true Try.f3.params.toList args.toList ds p := hA0
  rw [Try.params3] at hA hval hsz
  obtain ⟨v0, vs0, d0, ds0, p0, q0, hargs, rfl, rfl, h0, r0⟩ := trodAll_cons hA
  obtain ⟨v1, vs1, d1, ds1, p1, q1, rfl, rfl, rfl, h1, r1⟩ := trodAll_cons r0
  obtain ⟨v2, vs2, d2, ds2, p2, q2, rfl, rfl, rfl, h2, r2⟩ := trodAll_cons r1
  obtain ⟨rfl, rfl, rfl⟩ := trodAll_nil r2
  obtain rfl : args = #[v0, v1, v2] := by cases args; simp_all
  obtain ⟨rfl, rfl⟩ := trodVars_none hV
  have k0 := h0
  have k1 := h1
  have lt0 : ∀ x ∈ p0, x.block < W.heap.size := by obtain ⟨m, hm⟩ := k0; exact DataW.trod_lt m _ _ _ hm
  have lt1 : ∀ x ∈ p1, x.block < W.heap.size := by obtain ⟨m, hm⟩ := k1; exact DataW.trod_lt m _ _ _ hm
  have s0 : ∀ n ∈ d0.weights Try.prog 25, n ≤ reachBytes := fun n hn => by
    simpa using List.all_eq_true.1 hsz _ (DataW.weights_mem_each (j := 0) (t := 25) rfl rfl n hn)
  have s1 : ∀ n ∈ d1.weights Try.prog 25, n ≤ reachBytes := fun n hn => by
    simpa using List.all_eq_true.1 hsz _ (DataW.weights_mem_each (j := 1) (t := 25) rfl rfl n hn)
  obtain ⟨a, vn, vg, rfl, sn, sg⟩ := game_open (hval 0 25 v0 rfl rfl) h0 s0
  obtain ⟨b, wn, wg, rfl, tn, tg⟩ := game_open (hval 1 25 v1 rfl rfl) h1 s1
  obtain ⟨u, rfl, rfl, rfl, wu⟩ := open_int Try.underlying3 (hval 2 3 v2 rfl rfl) h2
  clear hA0 hval0
  refine (calls_of_spec (KeepMakes_spec a b vn vg wn wg (heapOf W) (heapOf W) (heapOf W) (heapOf W) u) (fun h hh => by simpa using hh)).mono fun e W' ⟨v, hs, he, ⟨hv, _⟩, bel⟩ => ?_
  subst hv; subst he
  exact ⟨_, rfl, _, _, _, [], _, [], hW', trodAll_mk1 (shut_bool Try.underlying4 _), (trodAll_cons_mk (Stays.trod km_laidOut (by kernel_rfl) (of_decide_eq_true (by kernel_rfl)) k0 bel lt0) (trodAll_cons_mk (Stays.trod km_laidOut (by kernel_rfl) (of_decide_eq_true (by kernel_rfl)) k1 bel lt1) (trodAll_cons_mk (shut_int Try.underlying3 wu) trodAll_mk0))), rfl, bel.frame _, fun h => by cases h⟩

theorem keepMakes_over : Rows.KeepMakesSaid :=
  OpenClaim.holds_of_wide 3 Try.f3 rfl rfl rfl rfl rfl rfl rfl ⟨rfl, rfl, rfl, rfl, rfl⟩ rfl rfl rfl rfl rfl (by kernel_rfl) Try.func3 (by kernel_rfl)
    (of_decide_eq_true (by kernel_rfl)) (by unfold Func.isWrapper; first | (rw [if_pos (by decide +kernel)]; kernel_rfl) | (rw [if_neg (by decide +kernel)]; exact ⟨rfl, rfl⟩))
    (fun os started H enc _ => keepMakes_lifted os started H enc)
end Go.Proofs.Ytfenlpoaphbfgaa
