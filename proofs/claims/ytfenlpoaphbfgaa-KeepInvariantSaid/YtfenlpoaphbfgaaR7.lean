/- The row of KeepInvariant: the box that is returned is held, contains the given one, lies in each box that is held and contains it, and is its own. No condition. -/
import Derived.Test.YtfenlpoaphbfgaaA5
import Derived.OpenShut
import Derived.ChangeOld
import Derived.ShutString
import Derived.Test.YtfenlpoaphbfgaaRows
namespace Go.Proofs.Ytfenlpoaphbfgaa
open Go.ChangeShapes Go.WideShapes Go.ChangeAt Go.RowKit Go.X
set_option linter.unusedVariables false
set_option linter.unusedSimpArgs false

theorem keepInvariant_own : ownKnob Try.prog.godebug = none := by kernel_rfl
theorem keepInvariant_laidOut : laidOutB Try.prog = true := by kernel_rfl
theorem keepInvariant_cells5 : Try.prog.cellsOf 5 = 1 := by kernel_rfl
theorem keepInvariant_bytes5 : Try.prog.bytesOf 5 = 1 := by kernel_rfl
set_option maxRecDepth 100000 in
set_option maxHeartbeats 2000000 in
theorem keepInvariant_lifted (os : Os) (started : os.Started) (H : Type) (enc : TypeId × Value → H) :
    ReturnsInHanded {} Try.checked os 9 .any (Rows.keepInvariantSpec.pre6 enc Try.prog Try.f9 Rows.keepInvariantRow.domain false) (Rows.keepInvariantSpec.post enc Try.prog Try.f9 false true false false) := by
  refine returnsInHanded_of_change_sized (C := Try.checked) keepInvariant_own started (by kernel_rfl) Try.func9
    (ChangeSpec.witness6 (enc := enc) (C := Try.checked) false ⟨#[], #[.slice none 0 0, .slice none 0 0, .slice none 0 0, .slice none 0 0, .slice none 0 0], []⟩ 8 (by kernel_rfl) (by kernel_rfl) (by kernel_rfl) (by kernel_rfl)) ?_
  intro W base args ds gs before hval0 hW hcnd hsz0 _
  have hval : ∀ (j : Nat) t v, Try.f9.params[j]? = some t → args[j]? = some v → Value.okWide Try.prog W .any base t v := hval0
  have hsz : (DataW.weightsEach Try.prog (Try.f9.params.toList ++ Rows.keepInvariantSpec.plain.varTypes Try.prog) (ds ++ gs)).all (· ≤ reachBytes) = true := hsz0
  have hW' := hW
  obtain ⟨p, q, hA0, hV, rfl, hfz, hnd⟩ := hW
  have hA : DataW.TrodAll enc Try.prog W 0 (fun _ => true) true Try.f9.params.toList args.toList ds p := hA0
  rw [Try.params9] at hA hval hsz
  obtain ⟨v0, vs0, d0, ds0, p0, q0, hargs, rfl, rfl, h0, r0⟩ := trodAll_cons hA
  obtain ⟨v1, vs1, d1, ds1, p1, q1, rfl, rfl, rfl, h1, r1⟩ := trodAll_cons r0
  obtain ⟨v2, vs2, d2, ds2, p2, q2, rfl, rfl, rfl, h2, r2⟩ := trodAll_cons r1
  obtain ⟨v3, vs3, d3, ds3, p3, q3, rfl, rfl, rfl, h3, r3⟩ := trodAll_cons r2
  obtain ⟨v4, vs4, d4, ds4, p4, q4, rfl, rfl, rfl, h4, r4⟩ := trodAll_cons r3
  obtain ⟨rfl, rfl, rfl⟩ := trodAll_nil r4
  obtain rfl : args = #[v0, v1, v2, v3, v4] := Array.toList_inj.1 hargs
  obtain ⟨rfl, rfl⟩ := trodVars_none hV
  have k0 := h0
  have lt0 : ∀ x ∈ p0, x.block < W.heap.size := by obtain ⟨m, hm⟩ := k0; exact DataW.trod_lt m _ _ _ hm
  have s0 : ∀ n ∈ d0.weights Try.prog 41, n ≤ reachBytes := fun n hn => by
    simpa using List.all_eq_true.1 hsz _ (DataW.weights_mem_each (j := 0) (t := 41) rfl rfl n hn)
  have k1 := h1
  have lt1 : ∀ x ∈ p1, x.block < W.heap.size := by obtain ⟨m, hm⟩ := k1; exact DataW.trod_lt m _ _ _ hm
  have s1 : ∀ n ∈ d1.weights Try.prog 41, n ≤ reachBytes := fun n hn => by
    simpa using List.all_eq_true.1 hsz _ (DataW.weights_mem_each (j := 1) (t := 41) rfl rfl n hn)
  have k2 := h2
  have lt2 : ∀ x ∈ p2, x.block < W.heap.size := by obtain ⟨m, hm⟩ := k2; exact DataW.trod_lt m _ _ _ hm
  have s2 : ∀ n ∈ d2.weights Try.prog 41, n ≤ reachBytes := fun n hn => by
    simpa using List.all_eq_true.1 hsz _ (DataW.weights_mem_each (j := 2) (t := 41) rfl rfl n hn)
  have k3 := h3
  have lt3 : ∀ x ∈ p3, x.block < W.heap.size := by obtain ⟨m, hm⟩ := k3; exact DataW.trod_lt m _ _ _ hm
  have s3 : ∀ n ∈ d3.weights Try.prog 41, n ≤ reachBytes := fun n hn => by
    simpa using List.all_eq_true.1 hsz _ (DataW.weights_mem_each (j := 3) (t := 41) rfl rfl n hn)
  have k4 := h4
  have lt4 : ∀ x ∈ p4, x.block < W.heap.size := by obtain ⟨m, hm⟩ := k4; exact DataW.trod_lt m _ _ _ hm
  have s4 : ∀ n ∈ d4.weights Try.prog 41, n ≤ reachBytes := fun n hn => by
    simpa using List.all_eq_true.1 hsz _ (DataW.weights_mem_each (j := 4) (t := 41) rfl rfl n hn)
  obtain ⟨x0, I0⟩ := open_u8s Try.underlying41 Try.underlying5 keepInvariant_cells5 (by rw [keepInvariant_bytes5]; decide) (hval 0 41 v0 rfl rfl) h0 s0
  obtain ⟨x1, I1⟩ := open_u8s Try.underlying41 Try.underlying5 keepInvariant_cells5 (by rw [keepInvariant_bytes5]; decide) (hval 1 41 v1 rfl rfl) h1 s1
  obtain ⟨x2, I2⟩ := open_u8s Try.underlying41 Try.underlying5 keepInvariant_cells5 (by rw [keepInvariant_bytes5]; decide) (hval 2 41 v2 rfl rfl) h2 s2
  obtain ⟨x3, I3⟩ := open_u8s Try.underlying41 Try.underlying5 keepInvariant_cells5 (by rw [keepInvariant_bytes5]; decide) (hval 3 41 v3 rfl rfl) h3 s3
  obtain ⟨x4, I4⟩ := open_u8s Try.underlying41 Try.underlying5 keepInvariant_cells5 (by rw [keepInvariant_bytes5]; decide) (hval 4 41 v4 rfl rfl) h4 s4
  clear hA0 hval0
  refine (calls_of_spec (KeepInvariant_spec v0 (heapOf W) x0 v1 (heapOf W) x1 v2 (heapOf W) x2 v3 (heapOf W) x3 v4 (heapOf W) x4) (fun h hh => by simpa using hh)).mono fun e W' ⟨v, hs, he, ⟨hv, _⟩, bel⟩ => ?_
  subst hv; subst he
  exact ⟨_, rfl, _, _, _, [], _, [], hW', trodAll_mk1 (shut_bool Try.underlying4 _), (trodAll_cons_mk (Stays.trod keepInvariant_laidOut (by kernel_rfl) (of_decide_eq_true (by kernel_rfl)) k0 bel lt0) (trodAll_cons_mk (Stays.trod keepInvariant_laidOut (by kernel_rfl) (of_decide_eq_true (by kernel_rfl)) k1 bel lt1) (trodAll_cons_mk (Stays.trod keepInvariant_laidOut (by kernel_rfl) (of_decide_eq_true (by kernel_rfl)) k2 bel lt2) (trodAll_cons_mk (Stays.trod keepInvariant_laidOut (by kernel_rfl) (of_decide_eq_true (by kernel_rfl)) k3 bel lt3) (trodAll_cons_mk (Stays.trod keepInvariant_laidOut (by kernel_rfl) (of_decide_eq_true (by kernel_rfl)) k4 bel lt4) trodAll_mk0))))), rfl, bel.frame _, fun h => by cases h⟩

theorem keepInvariant_over : Rows.KeepInvariantSaid :=
  OpenClaim.holds_of_wide 9 Try.f9 rfl rfl rfl rfl rfl rfl rfl ⟨rfl, rfl, rfl, rfl, rfl⟩ rfl rfl rfl rfl rfl (by kernel_rfl) Try.func9 (by kernel_rfl)
    (of_decide_eq_true (by kernel_rfl)) (by unfold Func.isWrapper; first | (rw [if_pos (by decide +kernel)]; kernel_rfl) | (rw [if_neg (by decide +kernel)]; exact ⟨rfl, rfl⟩))
    (fun os started H enc _ => keepInvariant_lifted os started H enc)
end Go.Proofs.Ytfenlpoaphbfgaa
