/- The row of MeterChains: Mix, Sign, Verify and Table are as the document says. No condition. -/
import Derived.Test.YtohdobhnbhcjhaaA5
import Derived.OpenShut
import Derived.ChangeOld
import Derived.ShutString
import Derived.Test.YtohdobhnbhcjhaaRows
namespace Go.Proofs.Ytohdobhnbhcjhaa
open Go.ChangeShapes Go.WideShapes Go.ChangeAt Go.RowKit Go.X
set_option linter.unusedVariables false
set_option linter.unusedSimpArgs false

theorem meterChains_own : ownKnob Try.prog.godebug = none := by kernel_rfl
theorem meterChains_laidOut : laidOutB Try.prog = true := by kernel_rfl
theorem meterChains_cells76 : Try.prog.cellsOf 76 = 4 := by kernel_rfl
theorem meterChains_bytes76 : Try.prog.bytesOf 76 = 32 := by kernel_rfl
theorem meterChains_rc76_3 : Try.prog.cellsOf 3 = 1 := by kernel_rfl
theorem meterChains_rc76_64 : Try.prog.cellsOf 64 = 1 := by kernel_rfl
theorem meterChains_rc76_74 : Try.prog.cellsOf 74 = 3 := by kernel_rfl
theorem meterChains_rc76_76 : Try.prog.cellsOf 76 = 4 := by kernel_rfl
theorem meterChains_one76 : ∀ (x : MLink), ∀ c ∈ encLink x, one c = true := fun x c hc => by
  unfold encLink at hc
  simp only [List.mem_cons, List.not_mem_nil, or_false] at hc
  rcases hc with rfl | rfl | rfl | rfl <;> rfl
set_option maxRecDepth 100000 in
theorem meterChains_dec76 {H : Type} {enc : TypeId × Value → H} {W : World} {held : Bool} {n : Nat} {cs : List Value} {y : DataW H × List MemPlace} (h : DataW.trod enc Try.prog W 0 (fun _ => true) held n 76 cs = some y) : ∃ r, cs = encLink r := by
  obtain ⟨xs, m, _, _, hlen0, hlen, hg⟩ := DataW.trod_struct Try.underlying76 h
  have hl : cs.length = 4 := hlen0.trans meterChains_rc76_76
  match cs, hl with
  | [c0, c1, c2, c3], _ =>
    match xs, hlen with
    | [y0, y1], _ =>
      have g_0 : DataW.trod enc Try.prog W 0 (fun _ => true) held m 74 [c0, c1, c2] = some y0 := by simpa [meterChains_rc76_74] using hg 0 _ rfl
      obtain ⟨xs_0, m_0, _, _, _, hlen_0, hg_0⟩ := DataW.trod_struct Try.underlying74 g_0
      match xs_0, hlen_0 with
      | [y_0_0, y_0_1, y_0_2], _ =>
        have g_0_0 : DataW.trod enc Try.prog W 0 (fun _ => true) held m_0 3 [c0] = some y_0_0 := by simpa [meterChains_rc76_3] using hg_0 0 _ rfl
        obtain ⟨w0, e0, _, _⟩ := DataW.trod_int Try.underlying3 g_0_0
        simp only [List.cons.injEq, and_true] at e0
        subst e0
        have g_0_1 : DataW.trod enc Try.prog W 0 (fun _ => true) held m_0 3 [c1] = some y_0_1 := by simpa [meterChains_rc76_3] using hg_0 1 _ rfl
        obtain ⟨w1, e1, _, _⟩ := DataW.trod_int Try.underlying3 g_0_1
        simp only [List.cons.injEq, and_true] at e1
        subst e1
        have g_0_2 : DataW.trod enc Try.prog W 0 (fun _ => true) held m_0 3 [c2] = some y_0_2 := by simpa [meterChains_rc76_3] using hg_0 2 _ rfl
        obtain ⟨w2, e2, _, _⟩ := DataW.trod_int Try.underlying3 g_0_2
        simp only [List.cons.injEq, and_true] at e2
        subst e2
        have g_1 : DataW.trod enc Try.prog W 0 (fun _ => true) held m 64 [c3] = some y1 := by simpa [meterChains_rc76_64] using hg 1 _ rfl
        obtain ⟨w3, e3, _, _⟩ := DataW.trod_int Try.underlying64 g_1
        simp only [List.cons.injEq, and_true] at e3
        subst e3
        exact ⟨⟨⟨w0, w1, w2⟩, w3⟩, rfl⟩
set_option maxRecDepth 100000 in
set_option maxHeartbeats 2000000 in
theorem meterChains_lifted (os : Os) (started : os.Started) (H : Type) (enc : TypeId × Value → H) :
    ReturnsInHanded {} Try.checked os 7 .any (Rows.meterChainsSpec.pre6 enc Try.prog Try.f7 Rows.meterChainsRow.domain false) (Rows.meterChainsSpec.post enc Try.prog Try.f7 false true false false) := by
  refine returnsInHanded_of_change_sized (C := Try.checked) meterChains_own started (by kernel_rfl) Try.func7
    (ChangeSpec.witness6 (enc := enc) (C := Try.checked) false ⟨#[], #[.int .u64 0, .int .u64 0, .slice none 0 0, .int .i64 0], []⟩ 8 (by kernel_rfl) (by kernel_rfl) (by kernel_rfl) (by kernel_rfl)) ?_
  intro W base args ds gs before hval0 hW hcnd hsz0 _
  have hval : ∀ (j : Nat) t v, Try.f7.params[j]? = some t → args[j]? = some v → Value.okWide Try.prog W .any base t v := hval0
  have hsz : (DataW.weightsEach Try.prog (Try.f7.params.toList ++ Rows.meterChainsSpec.plain.varTypes Try.prog) (ds ++ gs)).all (· ≤ reachBytes) = true := hsz0
  have hW' := hW
  obtain ⟨p, q, hA0, hV, rfl, hfz, hnd⟩ := hW
  have hA : DataW.TrodAll enc Try.prog W 0 (fun _ => true) true Try.f7.params.toList args.toList ds p := hA0
  rw [Try.params7] at hA hval hsz
  obtain ⟨v0, vs0, d0, ds0, p0, q0, hargs, rfl, rfl, h0, r0⟩ := trodAll_cons hA
  obtain ⟨v1, vs1, d1, ds1, p1, q1, rfl, rfl, rfl, h1, r1⟩ := trodAll_cons r0
  obtain ⟨v2, vs2, d2, ds2, p2, q2, rfl, rfl, rfl, h2, r2⟩ := trodAll_cons r1
  obtain ⟨v3, vs3, d3, ds3, p3, q3, rfl, rfl, rfl, h3, r3⟩ := trodAll_cons r2
  obtain ⟨rfl, rfl, rfl⟩ := trodAll_nil r3
  obtain rfl : args = #[v0, v1, v2, v3] := Array.toList_inj.1 hargs
  obtain ⟨rfl, rfl⟩ := trodVars_none hV
  have k2 := h2
  have lt2 : ∀ x ∈ p2, x.block < W.heap.size := by obtain ⟨m, hm⟩ := k2; exact DataW.trod_lt m _ _ _ hm
  have s2 : ∀ n ∈ d2.weights Try.prog 67, n ≤ reachBytes := fun n hn => by
    simpa using List.all_eq_true.1 hsz _ (DataW.weights_mem_each (j := 2) (t := 67) rfl rfl n hn)
  obtain ⟨n0, rfl, rfl, rfl, wf0⟩ := open_int Try.underlying64 (hval 0 64 v0 rfl rfl) h0
  obtain ⟨n1, rfl, rfl, rfl, wf1⟩ := open_int Try.underlying64 (hval 1 64 v1 rfl rfl) h1
  obtain ⟨x2, I2⟩ := open_recs (f := encLink) (fun x => rfl) meterChains_one76 (by decide) Try.underlying67 meterChains_cells76 (by rw [meterChains_bytes76]; decide) (hval 2 67 v2 rfl rfl) h2 s2 (fun n cs y h => meterChains_dec76 h)
  obtain ⟨n3, b3, rfl, rfl, rfl, wf3⟩ := open_i64 Try.underlying3 (hval 3 3 v3 rfl rfl) h3
  clear hA0 hval0
  refine (calls_of_spec (MeterChains_spec n0 n1 x2 v2 (heapOf W) n3 b3) (fun h hh => by simpa using hh)).mono fun e W' ⟨v, hs, he, ⟨hv, _⟩, bel⟩ => ?_
  subst hv; subst he
  exact ⟨_, rfl, _, _, _, [], _, [], hW', trodAll_mk1 (shut_bool Try.underlying4 _), (trodAll_cons_mk (shut_int Try.underlying64 wf0) (trodAll_cons_mk (shut_int Try.underlying64 wf1) (trodAll_cons_mk (Stays.trod meterChains_laidOut (by kernel_rfl) (of_decide_eq_true (by kernel_rfl)) k2 bel lt2) (trodAll_cons_mk (shut_int Try.underlying3 wf3) trodAll_mk0)))), rfl, bel.frame _, fun h => by cases h⟩

theorem meterChains_over : Rows.MeterChainsSaid :=
  OpenClaim.holds_of_wide 7 Try.f7 rfl rfl rfl rfl rfl rfl rfl ⟨rfl, rfl, rfl, rfl, rfl⟩ rfl rfl rfl rfl rfl (by kernel_rfl) Try.func7 (by kernel_rfl)
    (of_decide_eq_true (by kernel_rfl)) (by unfold Func.isWrapper; first | (rw [if_pos (by decide +kernel)]; kernel_rfl) | (rw [if_neg (by decide +kernel)]; exact ⟨rfl, rfl⟩))
    (fun os started H enc _ => meterChains_lifted os started H enc)
end Go.Proofs.Ytohdobhnbhcjhaa
