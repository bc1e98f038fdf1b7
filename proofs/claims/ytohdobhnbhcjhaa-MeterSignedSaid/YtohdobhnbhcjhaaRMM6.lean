/- The row of MeterSigned: Verify accepts what Sign makes, and finds the first link that differs. No condition. -/
import Derived.Test.YtohdobhnbhcjhaaA5
import Derived.OpenShut
import Derived.ChangeOld
import Derived.ShutString
import Derived.Test.YtohdobhnbhcjhaaRows
namespace Go.Proofs.Ytohdobhnbhcjhaa
open Go.ChangeShapes Go.WideShapes Go.ChangeAt Go.RowKit Go.X
set_option linter.unusedVariables false
set_option linter.unusedSimpArgs false

theorem meterSigned_own : ownKnob Try.prog.godebug = none := by kernel_rfl
theorem meterSigned_laidOut : laidOutB Try.prog = true := by kernel_rfl
theorem meterSigned_cells5 : Try.prog.cellsOf 5 = 1 := by kernel_rfl
theorem meterSigned_bytes5 : Try.prog.bytesOf 5 = 1 := by kernel_rfl
set_option maxRecDepth 100000 in
set_option maxHeartbeats 2000000 in
theorem meterSigned_lifted (os : Os) (started : os.Started) (H : Type) (enc : TypeId × Value → H) :
    ReturnsInHanded {} Try.checked os 6 .any (Rows.meterSignedSpec.pre6 enc Try.prog Try.f6 Rows.meterSignedRow.domain false) (Rows.meterSignedSpec.post enc Try.prog Try.f6 false true false false) := by
  refine returnsInHanded_of_change_sized (C := Try.checked) meterSigned_own started (by kernel_rfl) Try.func6
    (ChangeSpec.witness6 (enc := enc) (C := Try.checked) false ⟨#[], #[.int .u64 0, .slice none 0 0, .int .u8 0, .int .u8 0, .int .u8 0], []⟩ 8 (by kernel_rfl) (by kernel_rfl) (by kernel_rfl) (by kernel_rfl)) ?_
  intro W base args ds gs before hval0 hW hcnd hsz0 _
  have hval : ∀ (j : Nat) t v, Try.f6.params[j]? = some t → args[j]? = some v → Value.okWide Try.prog W .any base t v := hval0
  have hsz : (DataW.weightsEach Try.prog (Try.f6.params.toList ++ Rows.meterSignedSpec.plain.varTypes Try.prog) (ds ++ gs)).all (· ≤ reachBytes) = true := hsz0
  have hW' := hW
  obtain ⟨p, q, hA0, hV, rfl, hfz, hnd⟩ := hW
  have hA : DataW.TrodAll enc Try.prog W 0 (fun _ => true) true Try.f6.params.toList args.toList ds p := hA0
  rw [Try.params6] at hA hval hsz
  obtain ⟨v0, vs0, d0, ds0, p0, q0, hargs, rfl, rfl, h0, r0⟩ := trodAll_cons hA
  obtain ⟨v1, vs1, d1, ds1, p1, q1, rfl, rfl, rfl, h1, r1⟩ := trodAll_cons r0
  obtain ⟨v2, vs2, d2, ds2, p2, q2, rfl, rfl, rfl, h2, r2⟩ := trodAll_cons r1
  obtain ⟨v3, vs3, d3, ds3, p3, q3, rfl, rfl, rfl, h3, r3⟩ := trodAll_cons r2
  obtain ⟨v4, vs4, d4, ds4, p4, q4, rfl, rfl, rfl, h4, r4⟩ := trodAll_cons r3
  obtain ⟨rfl, rfl, rfl⟩ := trodAll_nil r4
  obtain rfl : args = #[v0, v1, v2, v3, v4] := Array.toList_inj.1 hargs
  obtain ⟨rfl, rfl⟩ := trodVars_none hV
  have k1 := h1
  have lt1 : ∀ x ∈ p1, x.block < W.heap.size := by obtain ⟨m, hm⟩ := k1; exact DataW.trod_lt m _ _ _ hm
  have s1 : ∀ n ∈ d1.weights Try.prog 22, n ≤ reachBytes := fun n hn => by
    simpa using List.all_eq_true.1 hsz _ (DataW.weights_mem_each (j := 1) (t := 22) rfl rfl n hn)
  obtain ⟨n0, rfl, rfl, rfl, wf0⟩ := open_int Try.underlying64 (hval 0 64 v0 rfl rfl) h0
  obtain ⟨x1, I1⟩ := open_u8s Try.underlying22 Try.underlying5 meterSigned_cells5 (by rw [meterSigned_bytes5]; decide) (hval 1 22 v1 rfl rfl) h1 s1
  obtain ⟨n2, b2, rfl, rfl, rfl, wf2⟩ := open_u8 Try.underlying5 (hval 2 5 v2 rfl rfl) h2
  obtain ⟨n3, b3, rfl, rfl, rfl, wf3⟩ := open_u8 Try.underlying5 (hval 3 5 v3 rfl rfl) h3
  obtain ⟨n4, b4, rfl, rfl, rfl, wf4⟩ := open_u8 Try.underlying5 (hval 4 5 v4 rfl rfl) h4
  clear hA0 hval0
  refine (calls_of_spec (MeterSigned_spec n0 v1 (heapOf W) x1 n2 b2 n3 b3 n4 b4) (fun h hh => by simpa using hh)).mono fun e W' ⟨v, hs, he, ⟨hv, _⟩, bel⟩ => ?_
  subst hv; subst he
  exact ⟨_, rfl, _, _, _, [], _, [], hW', trodAll_mk1 (shut_bool Try.underlying4 _), (trodAll_cons_mk (shut_int Try.underlying64 wf0) (trodAll_cons_mk (Stays.trod meterSigned_laidOut (by kernel_rfl) (of_decide_eq_true (by kernel_rfl)) k1 bel lt1) (trodAll_cons_mk (shut_int Try.underlying5 wf2) (trodAll_cons_mk (shut_int Try.underlying5 wf3) (trodAll_cons_mk (shut_int Try.underlying5 wf4) trodAll_mk0))))), rfl, bel.frame _, fun h => by cases h⟩

theorem meterSigned_over : Rows.MeterSignedSaid :=
  OpenClaim.holds_of_wide 6 Try.f6 rfl rfl rfl rfl rfl rfl rfl ⟨rfl, rfl, rfl, rfl, rfl⟩ rfl rfl rfl rfl rfl (by kernel_rfl) Try.func6 (by kernel_rfl)
    (of_decide_eq_true (by kernel_rfl)) (by unfold Func.isWrapper; first | (rw [if_pos (by decide +kernel)]; kernel_rfl) | (rw [if_neg (by decide +kernel)]; exact ⟨rfl, rfl⟩))
    (fun os started H enc _ => meterSigned_lifted os started H enc)
end Go.Proofs.Ytohdobhnbhcjhaa
