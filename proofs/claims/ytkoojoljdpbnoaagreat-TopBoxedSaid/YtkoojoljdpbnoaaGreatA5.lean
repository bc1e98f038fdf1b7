/- A part of the proof: a small program logic, plain laws and contracts of functions, each proved by a walk through its operations. No condition but those that stand in each theorem. -/
import Derived.Test.YtkoojoljdpbnoaaGreatA4
set_option linter.unusedSimpArgs false
set_option linter.unusedVariables false
set_option maxRecDepth 20000
namespace Go.X.Ht
open Go.Proofs
theorem at_spec (h : Hall) (vr vw vb vc : Value) (hb hc : PHeap) [ir : One vr] [iw : One vw] [ib : Arr vb encBranch 3 hb h.branches] [ic : Arr vc encCooler 5 hc h.coolers] (ok : HOk h) (t : List Int) (vt : Value) (ht : PHeap) [it : Arr vt encI 1 ht t] (tk : TOk h t) (c : HCase) (ck : COk h c) (vl : Value) [il : One vl] :
  Spec Tryz.prog 110 #[.agg #[vr, vw, vb, vc], vt, .agg #[vl, .int .i64 c.out, .int .i64 c.pump]] [] [hb, hc, ht] (fun v hs => ∃ b vk k, v = ptr b 0 ∧ hs = [blk b [vr, vw, vb, vc, vl, .int .i64 c.out, .int .i64 c.pump, vt, vk] 321, k] ∧ OArr vk encI 1 3 k (takenL h t c.pump)) := by
 have hnil : OArr (.slice none 0 0) encI 1 3 emp ([] : List Int) := OArr.nil (fun _ => rfl)
 have hb2 := ok.b2
 have hc2 := ok.c2
 have hfl := flows_len h c.pump
 have htl := tk.len
 have hpm := ck.pump
 refine Spec.intro (fn := Tryz.f110) (N := 88) Tryz.func110 rfl Tryz.ntmps110 rfl fun B => ?_
 refine XK.seq (XK.region rfl ?_)
 refine XO.box rfl fun b3 => ?_
 refine XO.box rfl fun b5 => ?_
 refine XO.q (Q.assign rfl) (XO.done (XK.seq (XK.region rfl ?_)))
 refine XO.q (Q.ldA [_, _, _, _] rfl rfl rfl) ?_
 refine XO.q (Q.ldA [_, _, _] rfl rfl rfl) ?_
 refine XO.q (Q.move rfl) ?_
 refine XO.q (Q.build [_, _, _, _, _, _, _, _, _] (.c 0 4 rfl rfl rfl (.c 4 3 rfl rfl rfl (.c 7 1 rfl rfl rfl (.n _))))) ?_
 refine XO.box rfl fun b19 => ?_
 refine XO.q (Q.assign rfl) (XO.done (XK.seq (XK.region rfl ?_)))
 refine XO.q (Q.ldA [_, _, _, _] rfl rfl rfl) ?_
 refine XO.q (Q.fieldAddr rfl) ?_
 refine XO.q (Q.ld rfl rfl) ?_
 refine XO.call Tryz.call166 rfl rfl rfl (flows_spec h vr vw vb vc hb ok c.pump ck.pump.1 ck.pump.2) fun v23 s23 R23 => ?_
 obtain ⟨k23, rfl, O23⟩ := R23
 dsimp only [lcA, lnA]
 refine XO.q (Q.assign rfl) (XO.done (XK.seq (XK.region rfl (XO.q (Q.move rfl) ?_))))
 refine XO.len rfl fun l25 => ?_
 rw [hfl]
 refine XO.make encI (0) rfl rfl rfl (by omega) (by omega) (fun _ => rfl) rfl rfl rfl (by dsimp only [encI]; infer_instance) fun v26 h26 O26 => ?_
 refine XO.q (Q.assign rfl) (XO.done (XK.seq (XK.seq (XK.region rfl ?_))))
 refine XO.q (Q.fieldAddr rfl) ?_
 refine XO.q (Q.ld rfl rfl) ?_
 refine XO.len rfl fun l29 => ?_
 refine XO.q (Q.move rfl) (XO.done (XK.block ?_))
 refine XK.while (X := Nat × PHeap × List Int) [11, 30, 31, 32, 33, 34, 35, 36, 37, 38, 39, 40, 41] (fun ⟨k, hz, on⟩ => [(30, some (.int .i64 (k : Nat)))]) (fun ⟨k, hz, on⟩ => [hz]) (fun ⟨k, hz, on⟩ => k ≤ h.coolers.length ∧ on.length = h.branches.length ∧ (∀ b : Int, 0 ≤ b → b < h.branches.length → on.getD b.toNat 0 = onBr h b k) ∧ OArr v26 encI 1 3 hz on) (fun ⟨k, hz, on⟩ => h.coolers.length - k) (0, h26, _) [h26] rfl ⟨by omega, by simp, fun b h1 h2 => by rw [List.getD_eq_getElem?_getD, List.getElem?_replicate]; split <;> rfl, O26⟩ (.c rfl (.base 0 rfl rfl)) ?_
 rintro ⟨k, hz, on⟩ ⟨hk, hol, hon, OZ⟩ ih0
 dsimp only [lcA, lnA] at ih0 ⊢
 refine XK.seq (XK.region rfl ?_)
 refine XO.q (Q.lss rfl rfl) ?_
 refine XO.done (XK.seq ?_)
 refine XK.if rfl (fun c0 => ?_) (fun c0 => ?_)
 ·skip
  have hcf := ok.cooler k (by omega)
  have hbt : (h.coolers.getD k default).br.toNat < on.length := by omega
  have hov := onBr_rng (h := h) (h.coolers.getD k default).br k
  have hoe := hon (h.coolers.getD k default).br hcf.2.1.1 hcf.2.1.2
  change on.getD (h.coolers.getD k default).br.toNat default = _ at hoe
  refine XK.skip (XK.seq (XK.block (XK.seq (XK.region rfl ?_))))
  refine XO.ix rfl rfl (by omega) (by omega) fun i32 => ?_
  refine XO.q (Q.ldEA [_, _, _, _, _] rfl (by first | assumption | omega) rfl rfl) ?_
  refine XO.alloc fun b11 => ?_
  refine XO.st rfl rfl rfl ?_
  refine XO.done (XK.region rfl (XO.q (Q.move rfl) ?_))
  refine XO.q (Q.fieldAddr rfl) ?_
  refine XO.q (Q.ld rfl rfl) ?_
  refine XO.ix rfl rfl (by omega) (by omega) fun i37 => ?_
  refine XO.q (Q.ldE rfl (by first | assumption | omega) rfl) ?_
  refine XO.q (Q.add rfl rfl ⟨by omega, by omega⟩) ?_
  refine XO.ix rfl rfl (by omega) (by omega) fun i40 => ?_
  refine XO.stE _ rfl rfl rfl (by assumption) rfl rfl fun h7_7 O7_7 => ?_
  refine XO.done ?_
  refine XK.inBlock ?_
  refine XK.region rfl ?_
  refine XO.q (Q.add rfl rfl ⟨by omega, by omega⟩) ?_
  refine XO.q (Q.move rfl) (XO.done ?_)
  exact ih0 (k + 1, h7_7, _) _ _ ⟨by dsimp only; omega, by simp only [List.length_set]; exact hol, fun b h1 h2 => by
    dsimp only
    rw [List.getD_eq_getElem?_getD, List.getElem?_set, onBr_succ]
    by_cases hbb : (h.coolers.getD k default).br = b
    ·rw [if_pos (by rw [hbb]), if_pos hbt, if_pos hbb, Option.getD_some, hoe, hbb]
    ·rw [if_neg (by omega), ← List.getD_eq_getElem?_getD, hon b h1 h2, if_neg hbb, Int.add_zero], O7_7⟩ (by first | omega | (dsimp only; omega)) (.c rfl (.base 27 rfl rfl)) inferInstance
 ·skip
  have hkn : k = h.coolers.length := by omega
  rw [hkn] at hon
  clear ih0 hk hkn c0
  refine XK.exit rfl ?_
  refine XK.seq (XK.seq (XK.region rfl ?_))
  refine XO.q (Q.fieldAddr rfl) ?_
  refine XO.q (Q.ld rfl rfl) ?_
  refine XO.len rfl fun l44 => ?_
  refine XO.q (Q.move rfl) (XO.done (XK.block ?_))
  refine XK.while (X := Nat × Value × PHeap) [13, 14, 45, 46, 47, 48, 49, 50, 51, 52, 53, 54, 55, 56, 57, 58, 59, 60, 61, 62, 63, 64, 65, 66, 67, 68, 69, 70, 71, 72, 73, 74, 75, 76, 77, 78, 79, 80, 81, 82, 83, 84, 85, 86] (fun ⟨k, vk, hk9⟩ => [(45, some (.int .i64 (k : Nat)))]) (fun ⟨k, vk, hk9⟩ => [blk b19 [vr, vw, vb, vc, vl, .int .i64 c.out, .int .i64 c.pump, vt, vk] 321, hk9]) (fun ⟨k, vk, hk9⟩ => k ≤ h.coolers.length ∧ OArr vk encI 1 3 hk9 ((List.range k).map (takenAt h t (flowsL h c.pump)))) (fun ⟨k, vk, hk9⟩ => h.coolers.length - k) (0, .slice none 0 0, emp) [blk b19 [vr, vw, vb, vc, vl, .int .i64 c.out, .int .i64 c.pump, vt, .slice none 0 0] 321, emp] rfl ⟨by omega, by simpa using hnil⟩ (.c rfl (.base 0 rfl rfl)) ?_
  rintro ⟨k, vk, hk9⟩ ⟨hk, OK⟩ ih1
  dsimp only [lcA, lnA] at ih1 ⊢
  refine XK.seq (XK.region rfl ?_)
  refine XO.q (Q.lss rfl rfl) ?_
  refine XO.done (XK.seq ?_)
  refine XK.if rfl (fun c1 => ?_) (fun c1 => ?_)
  ·skip
   have hcf := ok.cooler k (by omega)
   have hoe := hon (h.coolers.getD k default).br hcf.2.1.1 hcf.2.1.2
   change on.getD (h.coolers.getD k default).br.toNat default = _ at hoe
   have hop := onBr_pos (h := h) (k := k) (by omega)
   have hor := onBr_rng (h := h) (h.coolers.getD k default).br h.coolers.length
   have hF := flows_rng ok ck.pump.1 (h.coolers.getD k default).br.toNat (by omega)
   change 0 ≤ (flowsL h c.pump).getD (h.coolers.getD k default).br.toNat default ∧ (flowsL h c.pump).getD (h.coolers.getD k default).br.toNat default ≤ c.pump at hF
   have hm1 := mul_abs (p := (h.coolers.getD k default).carry) (d := (flowsL h c.pump).getD (h.coolers.getD k default).br.toNat default) (P := 1000) (D := 100000) hcf.2.2.2.1.1 hcf.2.2.2.1.2 (by omega) (by omega) (by omega)
   have hm0 := Int.mul_nonneg hcf.2.2.2.1.1 hF.1
   have hT := temp_at ok tk hcf.1.1 hcf.1.2
   change 0 ≤ t.getD (h.coolers.getD k default).room.toNat default ∧ t.getD (h.coolers.getD k default).room.toNat default ≤ 1000000 at hT
   have hm2 := mul_abs (p := (h.coolers.getD k default).gain) (d := t.getD (h.coolers.getD k default).room.toNat default - (h.coolers.getD k default).supply) (P := 100000) (D := 1000000) hcf.2.2.1.1 hcf.2.2.1.2 (by omega) (by omega) (by omega)
   refine XK.skip (XK.seq (XK.block (XK.seq (XK.region rfl ?_))))
   refine XO.ix rfl rfl (by omega) (by omega) fun i47 => ?_
   refine XO.q (Q.ldEA [_, _, _, _, _] rfl (by first | assumption | omega) rfl rfl) ?_
   refine XO.alloc fun b13 => ?_
   refine XO.st rfl rfl rfl ?_
   refine XO.done (XK.seq ?_)
   refine XK.drawn [0, 1, 2, 3, 4, 5, 6, 7, 8, 9, 10, 11, 12, 13, 14] [b13] [k23, hz] (.q 0 (.q 1 (.q 2 (.q 3 (.q 4 (.q 5 (.q 6 (.q 7 (.q 8 (.q 9 (.q 10 (.q 11 (.q 12 (.q 13 (.q 14 .done))))))))))))))) Tryz.mixed rfl (by kernel_rfl) ?_
   refine XT.q rfl rfl (Q.fieldAddr rfl) ?_
   refine XT.q rfl rfl (Q.ld rfl rfl) ?_
   refine XT.q rfl rfl (Q.move rfl) ?_
   refine XT.q rfl rfl (Q.fieldAddr rfl) ?_
   refine XT.q rfl rfl (Q.ld rfl rfl) ?_
   refine XT.ix rfl rfl rfl rfl (by omega) (by omega) fun i54 => ?_
   refine XT.q rfl rfl (Q.ldE rfl (by first | assumption | omega) rfl) ?_
   refine XT.q rfl rfl (Q.mul rfl rfl ⟨by omega, by omega⟩) ?_
   refine XT.q rfl rfl (Q.move rfl) ?_
   refine XT.q rfl rfl (Q.fieldAddr rfl) ?_
   refine XT.q rfl rfl (Q.ld rfl rfl) ?_
   refine XT.ix rfl rfl rfl rfl (by omega) (by omega) fun i60 => ?_
   refine XT.q rfl rfl (Q.ldE rfl (by first | assumption | omega) rfl) ?_
   refine XT.q rfl rfl (Q.quo rfl rfl (by omega) (by omega) (by omega)) ?_
   refine XT.q rfl rfl (Q.assign rfl) ?_
   refine XT.done ?_
   refine XK.drawn [0, 1, 2, 3, 5, 6, 7, 8, 9, 10, 11, 12, 13, 14, 15, 16, 17, 18, 21, 22] [b13] [] (.q 0 (.q 1 (.q 2 (.q 3 (.q 5 (.q 6 (.q 7 (.q 8 (.q 9 (.q 10 (.q 11 (.q 12 (.q 13 (.q 14 (.q 15 (.q 16 (.q 17 (.q 18 (.br 4 true (.br 19 true (.br 20 true (.q 21 (.q 22 (.br 23 true .done .stop))) .stop) .stop) (.br 19 true (.br 4 true (.br 20 true (.q 21 (.q 22 (.br 23 true .done .stop))) .stop) .stop) .stop)))))))))))))))))))) Tryz.mixed rfl (by kernel_rfl) ?_
   refine XT.q rfl rfl (Q.move rfl) ?_
   refine XT.q rfl rfl (Q.move rfl) ?_
   refine XT.q rfl rfl (Q.nilCheck rfl) ?_
   refine XT.q rfl rfl (Q.fieldAddr rfl) ?_
   refine XT.q rfl rfl (Q.fieldAddr rfl) ?_
   refine XT.q rfl rfl (Q.ld rfl rfl) ?_
   refine XT.q rfl rfl (Q.move rfl) ?_
   refine XT.q rfl rfl (Q.fieldAddr rfl) ?_
   refine XT.q rfl rfl (Q.ld rfl rfl) ?_
   refine XT.ix rfl rfl rfl rfl (by omega) (by omega) fun i73 => ?_
   refine XT.q rfl rfl (Q.ldE rfl (by first | assumption | omega) rfl) ?_
   refine XT.q rfl rfl (Q.fieldAddr rfl) ?_
   refine XT.q rfl rfl (Q.ld rfl rfl) ?_
   refine XT.q rfl rfl (Q.sub rfl rfl ⟨by omega, by omega⟩) ?_
   refine XT.q rfl rfl (Q.mul rfl rfl ⟨by omega, by omega⟩) ?_
   refine XT.q rfl rfl (Q.max rfl rfl) ?_
   refine XT.q rfl rfl (Q.move rfl) ?_
   refine XT.q rfl rfl (Q.min rfl rfl) ?_
   refine XT.qs rfl rfl (Q.ld rfl rfl) ⟨inferInstance, ?_⟩ ?_
   ·skip
    refine XT.lit [_] [_] [_] encI rfl rfl (by rfl) (by rfl) rfl (by rfl) (by exact .c 0 1 rfl rfl rfl (.n _)) (fun _ => rfl) (by rfl) rfl (by infer_instance) rfl (fun v82 h82 O82 => ⟨inferInstance, ?_⟩) XT.stop
    refine XT.append rfl rfl rfl rfl rfl rfl (by simp only [List.length_map, List.length_range, List.length_cons, List.length_nil]; omega) (fun v83 h83 O83 => ⟨inferInstance, ?_⟩) XT.stop
    refine XT.q rfl rfl (Q.nilCheck rfl) ?_
    refine XT.q rfl rfl (Q.fieldAddr rfl) ?_
    refine XT.st rfl rfl rfl rfl rfl ⟨inferInstance, ?_⟩ XT.stop
    refine XT.done ?_
    refine XK.inBlock ?_
    refine XK.region rfl ?_
    refine XO.q (Q.add rfl rfl ⟨by omega, by omega⟩) ?_
    refine XO.q (Q.move rfl) (XO.done ?_)
    exact ih1 (k + 1, v83, h83) _ _ ⟨by dsimp only; omega, by dsimp only; rw [show (List.range (k + 1)).map (takenAt h t (flowsL h c.pump)) = (List.range k).map (takenAt h t (flowsL h c.pump)) ++ [takenAt h t (flowsL h c.pump) k] by rw [List.range_succ, List.map_append]; rfl, takenAt]; rw [hoe] at O83; exact O83⟩ (by first | omega | (dsimp only; omega)) (.c rfl (.base 89 rfl rfl)) inferInstance
   ·skip
    refine XT.lit [_] [_] [_] encI rfl rfl (by rfl) (by rfl) rfl (by rfl) (by exact .c 0 1 rfl rfl rfl (.n _)) (fun _ => rfl) (by rfl) rfl (by infer_instance) rfl (fun v82 h82 O82 => ⟨inferInstance, ?_⟩) XT.stop
    refine XT.qs rfl rfl (Q.ld rfl rfl) ⟨inferInstance, ?_⟩ XT.stop
    refine XT.append rfl rfl rfl rfl rfl rfl (by simp only [List.length_map, List.length_range, List.length_cons, List.length_nil]; omega) (fun v83 h83 O83 => ⟨inferInstance, ?_⟩) XT.stop
    refine XT.q rfl rfl (Q.nilCheck rfl) ?_
    refine XT.q rfl rfl (Q.fieldAddr rfl) ?_
    refine XT.st rfl rfl rfl rfl rfl ⟨inferInstance, ?_⟩ XT.stop
    refine XT.done ?_
    refine XK.inBlock ?_
    refine XK.region rfl ?_
    refine XO.q (Q.add rfl rfl ⟨by omega, by omega⟩) ?_
    refine XO.q (Q.move rfl) (XO.done ?_)
    exact ih1 (k + 1, v83, h83) _ _ ⟨by dsimp only; omega, by dsimp only; rw [show (List.range (k + 1)).map (takenAt h t (flowsL h c.pump)) = (List.range k).map (takenAt h t (flowsL h c.pump)) ++ [takenAt h t (flowsL h c.pump) k] by rw [List.range_succ, List.map_append]; rfl, takenAt]; rw [hoe] at O83; exact O83⟩ (by first | omega | (dsimp only; omega)) (.c rfl (.base 89 rfl rfl)) inferInstance
  ·skip
   refine XK.exit rfl ?_
   refine XK.seq (XK.region rfl (XO.q (Q.move rfl) (XO.q (Q.assign rfl) (XO.done ?_))))
   refine XK.rt [blk b19 [vr, vw, vb, vc, vl, .int .i64 c.out, .int .i64 c.pump, vt, vk] 321, hk9] Tryz.func110 Tryz.results110 (.t rfl .n) ?_
   have hkn : k = h.coolers.length := by omega
   rw [hkn] at OK
   exact ⟨b19, vk, hk9, rfl, rfl, OK⟩
end Go.X.Ht

set_option linter.unusedSimpArgs false
set_option linter.unusedVariables false
set_option maxRecDepth 20000
namespace Go.X.Ht
open Go.Proofs
theorem load_spec (b : Nat) (vr vw vb vc vl vt vk : Value) (c : HCase) (hl : PHeap) [il : Arr vl encI 1 hl c.load] (i : Nat) (hi : i < c.load.length) : Spec Tryz.prog 111 #[ptr b 0, .int .i64 (i : Nat)] [] [blk b [vr, vw, vb, vc, vl, .int .i64 c.out, .int .i64 c.pump, vt, vk] 321, hl]
  (fun v hs => v = .int .i64 (c.load.getD i 0) ∧ hs = []) := by
 refine Spec.intro (fn := Tryz.f111) (N := 13) Tryz.func111 rfl Tryz.ntmps111 rfl fun B => ?_
 refine XK.seq (XK.region rfl (XO.q (Q.assign rfl) (XO.done (XK.seq (XK.region rfl ?_)))))
 refine XO.q (Q.move rfl) ?_
 refine XO.q (Q.nilCheck rfl) ?_
 refine XO.q (Q.fieldAddr rfl) ?_
 refine XO.q (Q.fieldAddr rfl) ?_
 refine XO.q (Q.ld rfl rfl) ?_
 refine XO.q (Q.move rfl) ?_
 refine XO.ix rfl rfl (by omega) (by omega) fun i11 => ?_
 refine XO.q (Q.ldE rfl (by first | assumption | omega) rfl) ?_
 refine XO.q (Q.assign rfl) (XO.done ?_)
 refine XK.rt [] Tryz.func111 Tryz.results111 (.t rfl .n) ?_
 exact ⟨rfl, rfl⟩
theorem walls_spec (h : Hall) (ok : HOk h) (b : Nat) (vr vw vb vc vl vt vk : Value) (c : HCase) (hw ht : PHeap) [iw : Arr vw encWall 3 hw h.walls] (t : List Int) [it : Arr vt encI 1 ht t] (tk : TOk h t) (ck : COk h c) (i : Nat) (hi : i < h.rooms.length) :
  Spec Tryz.prog 112 #[ptr b 0, .int .i64 (i : Nat)] [] [blk b [vr, vw, vb, vc, vl, .int .i64 c.out, .int .i64 c.pump, vt, vk] 321, hw, ht] (fun v hs => v = .int .i64 (sumTo (wheat h t c.out i) h.walls.length) ∧ hs = []) := by
 have hw2 := ok.w2
 have htl := tk.len
 have hco := ck.out
 have hI := tk.rng i (by omega)
 change 0 ≤ t.getD i default ∧ t.getD i default ≤ 1000000 at hI
 refine Spec.intro (fn := Tryz.f112) (N := 81) Tryz.func112 rfl Tryz.ntmps112 rfl fun B => ?_
 refine XK.seq (XK.region rfl (XO.q (Q.assign rfl) (XO.done (XK.seq (XK.region rfl ?_)))))
 refine XO.q (Q.assign rfl) (XO.done (XK.seq (XK.seq (XK.region rfl (XO.q (Q.move rfl) ?_)))))
 refine XO.q (Q.nilCheck rfl) ?_
 refine XO.q (Q.fieldAddr rfl) ?_
 refine XO.q (Q.fieldAddr rfl) ?_
 refine XO.q (Q.ld rfl rfl) ?_
 refine XO.len rfl fun l14 => ?_
 refine XO.q (Q.move rfl) (XO.done (XK.block ?_))
 refine XK.while (X := Nat) [5, 7, 8, 15, 16, 17, 18, 19, 20, 21, 22, 23, 24, 25, 26, 27, 28, 29, 30, 31, 32, 33, 34, 35, 36, 37, 38, 39, 40, 41, 42, 43, 44, 45, 46, 47, 48, 49, 50, 51, 52, 53, 54, 55, 56, 57, 58, 59, 60, 61, 62, 63, 64, 65, 66, 67, 68, 69, 70, 71, 72, 73, 74, 75, 76, 77, 78, 79] (fun k => [(15, some (.int .i64 (k : Nat))), (5, some (.int .i64 (sumTo (wheat h t c.out i) k)))]) (fun k => []) (fun k => k ≤ h.walls.length) (fun k => h.walls.length - k) (0) [] rfl (by omega) (.c rfl (.c rfl (.base 0 rfl rfl))) ?_
 rintro k hk ih0
 dsimp only [lcA, lnA] at ih0 ⊢
 refine XK.seq (XK.region rfl ?_)
 refine XO.q (Q.lss rfl rfl) ?_
 refine XO.done (XK.seq ?_)
 refine XK.if rfl (fun c0 => ?_) (fun c0 => ?_)
 ·skip
  have hwf := ok.wall k (by omega)
  have hsw := wsum_abs ok tk hco hi (n := k) (by omega)
  have hA := temp_at ok tk hwf.1.1 hwf.1.2
  change 0 ≤ t.getD (h.walls.getD k default).a.toNat default ∧ t.getD (h.walls.getD k default).a.toNat default ≤ 1000000 at hA
  refine XK.skip (XK.seq (XK.block (XK.seq (XK.region rfl ?_))))
  refine XO.ix rfl rfl (by omega) (by omega) fun i17 => ?_
  refine XO.q (Q.ldEA [_, _, _] rfl (by first | assumption | omega) rfl rfl) ?_
  refine XO.alloc fun b7 => ?_
  refine XO.st rfl rfl rfl ?_
  refine XO.done (XK.seq (XK.region rfl (XO.q (Q.move rfl) ?_)))
  refine XO.q (Q.nilCheck rfl) ?_
  refine XO.q (Q.fieldAddr rfl) ?_
  refine XO.q (Q.fieldAddr rfl) ?_
  refine XO.q (Q.ld rfl rfl) ?_
  refine XO.q (Q.assign rfl) (XO.done (XK.seq (XK.seq (XK.region rfl ?_))))
  refine XO.q (Q.fieldAddr rfl) ?_
  refine XO.q (Q.ld rfl rfl) ?_
  refine XO.q (Q.geq rfl rfl) ?_
  refine XO.done ?_
  refine XK.meet (X := Int) [8, 27, 28, 29, 30, 31, 32, 33, 34] (fun y => [(8, some (.int .i64 y))]) (fun y => []) (fun y => y = (if 0 ≤ (h.walls.getD k default).b then t.getD (h.walls.getD k default).b.toNat 0 else c.out) ∧ 0 ≤ y ∧ y ≤ 1000000) [] ?_ ?_
  ·rintro y ⟨hy, hy1, hy2⟩
   dsimp only [lcA, lnA]
   refine XK.seq (XK.region rfl (XO.q (Q.move rfl) (XO.done (XK.block (XK.seq ?_)))))
   refine XK.region rfl ?_
   refine XO.q (Q.fieldAddr rfl) ?_
   refine XO.q (Q.ld rfl rfl) ?_
   refine XO.q (Q.eql rfl rfl) ?_
   refine XO.q (Q.assign rfl) (XO.done ?_)
   refine XK.if rfl (fun c2 => ?_) (fun c2 => ?_)
   ·skip
    have hm := mul_abs (p := (h.walls.getD k default).pass) (d := y - t.getD i default) (P := 100000) (D := 1000000) hwf.2.2.2.1 hwf.2.2.2.2 (by omega) (by omega) (by omega)
    refine XK.drawn [0, 1, 2, 3, 4, 5, 6, 7, 8, 9, 10, 11, 12, 13, 14] [b7, b] [] (.q 0 (.q 1 (.q 2 (.q 3 (.q 4 (.q 5 (.q 6 (.q 7 (.q 8 (.q 9 (.q 10 (.q 11 (.q 12 (.q 13 (.q 14 .done))))))))))))))) Tryz.mixed rfl (by kernel_rfl) ?_
    refine XT.q rfl rfl (Q.move rfl) ?_
    refine XT.q rfl rfl (Q.fieldAddr rfl) ?_
    refine XT.q rfl rfl (Q.ld rfl rfl) ?_
    refine XT.q rfl rfl (Q.move rfl) ?_
    refine XT.q rfl rfl (Q.move rfl) ?_
    refine XT.q rfl rfl (Q.nilCheck rfl) ?_
    refine XT.q rfl rfl (Q.fieldAddr rfl) ?_
    refine XT.q rfl rfl (Q.ld rfl rfl) ?_
    refine XT.q rfl rfl (Q.move rfl) ?_
    refine XT.ix rfl rfl rfl rfl (by omega) (by omega) fun i49 => ?_
    refine XT.q rfl rfl (Q.ldE rfl (by first | assumption | omega) rfl) ?_
    refine XT.q rfl rfl (Q.sub rfl rfl ⟨by omega, by omega⟩) ?_
    refine XT.q rfl rfl (Q.mul rfl rfl ⟨by omega, by omega⟩) ?_
    refine XT.q rfl rfl (Q.add rfl rfl ⟨by omega, by omega⟩) ?_
    refine XT.q rfl rfl (Q.assign rfl) ?_
    refine XT.done ?_
    refine XK.inBlock ?_
    refine XK.inBlock ?_
    refine XK.region rfl ?_
    refine XO.q (Q.add rfl rfl ⟨by omega, by omega⟩) ?_
    refine XO.q (Q.move rfl) (XO.done ?_)
    rw [show sumTo (wheat h t c.out i) k + (h.walls.getD k default).pass * (y - t.getD i default) = sumTo (wheat h t c.out i) (k + 1) by rw [sumTo, wheat, if_pos c2.symm, ← hy]; rfl]
    exact ih0 (k + 1) _ _ (by omega) (by first | omega | (dsimp only; omega)) (.c rfl (.c rfl (.base 115 rfl rfl))) inferInstance
   ·skip
    refine XK.seq (XK.region rfl ?_)
    refine XO.q (Q.fieldAddr rfl) ?_
    refine XO.q (Q.ld rfl rfl) ?_
    refine XO.q (Q.eql rfl rfl) ?_
    refine XO.q (Q.assign rfl) (XO.done ?_)
    refine XK.if rfl (fun c3 => ?_) (fun c3 => ?_)
    ·skip
     have hm := mul_abs (p := (h.walls.getD k default).pass) (d := t.getD (h.walls.getD k default).a.toNat default - t.getD i default) (P := 100000) (D := 1000000) hwf.2.2.2.1 hwf.2.2.2.2 (by omega) (by omega) (by omega)
     refine XK.drawn [0, 1, 2, 3, 4, 5, 6, 7, 8, 9, 10, 11, 12, 13, 14, 15, 16, 17, 18, 19, 20, 21] [b7, b] [] (.q 0 (.q 1 (.q 2 (.q 3 (.q 4 (.q 5 (.q 6 (.q 7 (.q 8 (.q 9 (.q 10 (.q 11 (.q 12 (.q 13 (.q 14 (.q 15 (.q 16 (.q 17 (.q 18 (.q 19 (.q 20 (.q 21 .done)))))))))))))))))))))) Tryz.mixed rfl (by kernel_rfl) ?_
     refine XT.q rfl rfl (Q.move rfl) ?_
     refine XT.q rfl rfl (Q.fieldAddr rfl) ?_
     refine XT.q rfl rfl (Q.ld rfl rfl) ?_
     refine XT.q rfl rfl (Q.move rfl) ?_
     refine XT.q rfl rfl (Q.nilCheck rfl) ?_
     refine XT.q rfl rfl (Q.fieldAddr rfl) ?_
     refine XT.q rfl rfl (Q.ld rfl rfl) ?_
     refine XT.q rfl rfl (Q.fieldAddr rfl) ?_
     refine XT.q rfl rfl (Q.ld rfl rfl) ?_
     refine XT.ix rfl rfl rfl rfl (by omega) (by omega) fun i67 => ?_
     refine XT.q rfl rfl (Q.ldE rfl (by first | assumption | omega) rfl) ?_
     refine XT.q rfl rfl (Q.move rfl) ?_
     refine XT.q rfl rfl (Q.nilCheck rfl) ?_
     refine XT.q rfl rfl (Q.fieldAddr rfl) ?_
     refine XT.q rfl rfl (Q.ld rfl rfl) ?_
     refine XT.q rfl rfl (Q.move rfl) ?_
     refine XT.ix rfl rfl rfl rfl (by omega) (by omega) fun i74 => ?_
     refine XT.q rfl rfl (Q.ldE rfl (by first | assumption | omega) rfl) ?_
     refine XT.q rfl rfl (Q.sub rfl rfl ⟨by omega, by omega⟩) ?_
     refine XT.q rfl rfl (Q.mul rfl rfl ⟨by omega, by omega⟩) ?_
     refine XT.q rfl rfl (Q.add rfl rfl ⟨by omega, by omega⟩) ?_
     refine XT.q rfl rfl (Q.assign rfl) ?_
     refine XT.done ?_
     refine XK.inBlock ?_
     refine XK.inBlock ?_
     refine XK.region rfl ?_
     refine XO.q (Q.add rfl rfl ⟨by omega, by omega⟩) ?_
     refine XO.q (Q.move rfl) (XO.done ?_)
     rw [show sumTo (wheat h t c.out i) k + (h.walls.getD k default).pass * (t.getD (h.walls.getD k default).a.toNat default - t.getD i default) = sumTo (wheat h t c.out i) (k + 1) by rw [sumTo, wheat, if_neg (Ne.symm c2), if_pos c3.symm]; rfl]
     exact ih0 (k + 1) _ _ (by omega) (by first | omega | (dsimp only; omega)) (.c rfl (.c rfl (.base 126 rfl rfl))) inferInstance
    ·skip
     refine XK.skip ?_
     refine XK.inBlock ?_
     refine XK.inBlock ?_
     refine XK.region rfl ?_
     refine XO.q (Q.add rfl rfl ⟨by omega, by omega⟩) ?_
     refine XO.q (Q.move rfl) (XO.done ?_)
     rw [show sumTo (wheat h t c.out i) k = sumTo (wheat h t c.out i) (k + 1) by rw [sumTo, wheat, if_neg (Ne.symm c2), if_neg (Ne.symm c3), Int.add_zero]]
     exact ih0 (k + 1) _ _ (by omega) (by first | omega | (dsimp only; omega)) (.c rfl (.c rfl (.base 104 rfl rfl))) inferInstance
  ·intro mt1
   dsimp only [lcA, lnA] at mt1
   refine XK.if rfl (fun c1 => ?_) (fun c1 => ?_)
   ·skip
    refine XK.drawn [0, 1, 2, 3, 4, 5, 6, 7, 8] [b, b7] [] (.q 0 (.q 1 (.q 2 (.q 3 (.q 4 (.q 5 (.q 6 (.q 7 (.q 8 .done))))))))) Tryz.mixed rfl (by kernel_rfl) ?_
    refine XT.q rfl rfl (Q.move rfl) ?_
    refine XT.q rfl rfl (Q.nilCheck rfl) ?_
    refine XT.q rfl rfl (Q.fieldAddr rfl) ?_
    refine XT.q rfl rfl (Q.ld rfl rfl) ?_
    refine XT.q rfl rfl (Q.fieldAddr rfl) ?_
    refine XT.q rfl rfl (Q.ld rfl rfl) ?_
    refine XT.ix rfl rfl rfl rfl (by omega) (by omega) fun i33 => ?_
    refine XT.q rfl rfl (Q.ldE rfl (by first | assumption | omega) rfl) ?_
    refine XT.q rfl rfl (Q.assign rfl) ?_
    refine XT.done ?_
    exact mt1 (_) _ _ ⟨by rw [if_pos c1]; rfl, by have := temp_at ok tk (i := (h.walls.getD k default).b) c1 (by omega); exact this.1, by have := temp_at ok tk (i := (h.walls.getD k default).b) c1 (by omega); exact this.2⟩ (.c rfl (.base 9 rfl rfl)) inferInstance
   ·skip
    refine XK.skip ?_
    exact mt1 (c.out) _ _ ⟨by rw [if_neg c1], hco.1, hco.2⟩ (.c rfl (.base 0 rfl rfl)) inferInstance
 ·skip
  refine XK.exit rfl ?_
  refine XK.seq (XK.region rfl (XO.q (Q.move rfl) (XO.q (Q.assign rfl) (XO.done ?_))))
  refine XK.rt [] Tryz.func112 Tryz.results112 (.t rfl .n) ?_
  have hkn : k = h.walls.length := by omega
  rw [hkn]
  exact ⟨rfl, rfl⟩
theorem coolers_spec (h : Hall) (ok : HOk h) (b : Nat) (vr vw vb vc vl vt vk : Value) (c : HCase) (hc hk : PHeap) [ic : Arr vc encCooler 5 hc h.coolers] (t : List Int) (tk : TOk h t) (ck : COk h c) [ik : Arr vk encI 1 hk (takenL h t c.pump)] (i : Nat) :
  Spec Tryz.prog 113 #[ptr b 0, .int .i64 (i : Nat)] [] [blk b [vr, vw, vb, vc, vl, .int .i64 c.out, .int .i64 c.pump, vt, vk] 321, hc, hk] (fun v hs => v = .int .i64 (sumTo (cheat h (takenL h t c.pump) i) h.coolers.length) ∧ hs = []) := by
 have hc2 := ok.c2
 have hkl : (takenL h t c.pump).length = h.coolers.length := by simp [takenL]
 refine Spec.intro (fn := Tryz.f113) (N := 34) Tryz.func113 rfl Tryz.ntmps113 rfl fun B => ?_
 refine XK.seq (XK.region rfl (XO.q (Q.assign rfl) (XO.done (XK.seq (XK.region rfl ?_)))))
 refine XO.q (Q.assign rfl) (XO.done (XK.seq (XK.seq (XK.region rfl (XO.q (Q.move rfl) ?_)))))
 refine XO.q (Q.nilCheck rfl) ?_
 refine XO.q (Q.fieldAddr rfl) ?_
 refine XO.q (Q.fieldAddr rfl) ?_
 refine XO.q (Q.ld rfl rfl) ?_
 refine XO.len rfl fun l13 => ?_
 refine XO.q (Q.move rfl) (XO.done (XK.block ?_))
 refine XK.while (X := Nat) [5, 6, 7, 14, 15, 16, 17, 18, 19, 20, 21, 22, 23, 24, 25, 26, 27, 28, 29, 30, 31, 32] (fun k => [(14, some (.int .i64 (k : Nat))), (5, some (.int .i64 (sumTo (cheat h (takenL h t c.pump) i) k)))]) (fun k => []) (fun k => k ≤ h.coolers.length) (fun k => h.coolers.length - k) (0) [] rfl (by omega) (.c rfl (.c rfl (.base 0 rfl rfl))) ?_
 rintro k hkk ih0
 dsimp only [lcA, lnA] at ih0 ⊢
 refine XK.seq (XK.region rfl ?_)
 refine XO.q (Q.lss rfl rfl) ?_
 refine XO.done (XK.seq ?_)
 refine XK.if rfl (fun c0 => ?_) (fun c0 => ?_)
 ·skip
  have hcs := csum_abs ok tk ck.pump.1 ck.pump.2 (i := i) (n := k) (by omega)
  have hct := taken_rng ok tk ck.pump.1 ck.pump.2 (k := k) (by omega)
  rw [← taken_getD ok tk (by omega)] at hct
  change 0 ≤ (takenL h t c.pump).getD k default ∧ (takenL h t c.pump).getD k default ≤ _ at hct
  refine XK.skip (XK.seq (XK.block (XK.seq (XK.region rfl (XO.q (Q.move rfl) ?_)))))
  refine XO.ix rfl rfl (by omega) (by omega) fun i17 => ?_
  refine XO.q (Q.ldEA [_, _, _, _, _] rfl (by first | assumption | omega) rfl rfl) ?_
  refine XO.alloc fun b7 => ?_
  refine XO.q (Q.assign rfl) ?_
  refine XO.st rfl rfl rfl ?_
  refine XO.done (XK.seq (XK.region rfl ?_))
  refine XO.q (Q.fieldAddr rfl) ?_
  refine XO.q (Q.ld rfl rfl) ?_
  refine XO.q (Q.move rfl) ?_
  refine XO.q (Q.eql rfl rfl) ?_
  refine XO.done ?_
  refine XK.if rfl (fun c1 => ?_) (fun c1 => ?_)
  ·skip
   refine XK.region rfl (XO.q (Q.move rfl) (XO.q (Q.move rfl) ?_))
   refine XO.q (Q.nilCheck rfl) ?_
   refine XO.q (Q.fieldAddr rfl) ?_
   refine XO.q (Q.ld rfl rfl) ?_
   refine XO.q (Q.move rfl) ?_
   refine XO.ix rfl rfl (by omega) (by omega) fun i29 => ?_
   refine XO.q (Q.ldE rfl (by first | assumption | omega) rfl) ?_
   refine XO.q (Q.sub rfl rfl ⟨by omega, by omega⟩) ?_
   refine XO.q (Q.assign rfl) (XO.done ?_)
   refine XK.inBlock ?_
   refine XK.region rfl ?_
   refine XO.q (Q.add rfl rfl ⟨by omega, by omega⟩) ?_
   refine XO.q (Q.move rfl) (XO.done ?_)
   rw [show sumTo (cheat h (takenL h t c.pump) i) k - (takenL h t c.pump).getD k default = sumTo (cheat h (takenL h t c.pump) i) (k + 1) by rw [sumTo, cheat, if_pos c1]; exact Int.sub_eq_add_neg ..]
   exact ih0 (k + 1) _ _ (by omega) (by first | omega | (dsimp only; omega)) (.c rfl (.c rfl (.base 46 rfl rfl))) inferInstance
  ·skip
   refine XK.skip ?_
   refine XK.inBlock ?_
   refine XK.region rfl ?_
   refine XO.q (Q.add rfl rfl ⟨by omega, by omega⟩) ?_
   refine XO.q (Q.move rfl) (XO.done ?_)
   rw [show sumTo (cheat h (takenL h t c.pump) i) k = sumTo (cheat h (takenL h t c.pump) i) (k + 1) by rw [sumTo, cheat, if_neg c1, Int.add_zero]]
   exact ih0 (k + 1) _ _ (by omega) (by first | omega | (dsimp only; omega)) (.c rfl (.c rfl (.base 36 rfl rfl))) inferInstance
 ·skip
  refine XK.exit rfl ?_
  refine XK.seq (XK.region rfl (XO.q (Q.move rfl) (XO.q (Q.assign rfl) (XO.done ?_))))
  refine XK.rt [] Tryz.func113 Tryz.results113 (.t rfl .n) ?_
  have hkn : k = h.coolers.length := by omega
  rw [hkn]
  exact ⟨rfl, rfl⟩
theorem list_get {α : Type} [Inhabited α] {l : List α} {j : Nat} (hj : j < l.length) : l[((j : Nat) : Int).toNat]? = some (l.getD j default) := by
 rw [Int.toNat_natCast, List.getElem?_eq_getElem hj, List.getD_eq_getElem?_getD, List.getElem?_eq_getElem hj]; rfl
theorem carr_spec (h : Hall) (ok : HOk h) (b : Nat) (vr vw vb vc vl vt vk : Value) (c : HCase) (hw hc hl ht hk : PHeap) [iw : Arr vw encWall 3 hw h.walls] [ic : Arr vc encCooler 5 hc h.coolers] [il : Arr vl encI 1 hl c.load] (t : List Int) [it : Arr vt encI 1 ht t] (tk : TOk h t) (ck : COk h c)
  [ik : Arr vk encI 1 hk (takenL h t c.pump)] (i : Nat) (hi : i < h.rooms.length) (j : Nat) (hj : j < 3) :
  VSpec Tryz.prog (([.func (.func 111) #[ptr b 0] #[], .func (.func 112) #[ptr b 0] #[], .func (.func 113) #[ptr b 0] #[]] : List Value).getD j default) [.int .i64 (i : Nat)] [] [blk b [vr, vw, vb, vc, vl, .int .i64 c.out, .int .i64 c.pump, vt, vk] 321, hw, hc, hl, ht, hk] (fun v hs => v = .int .i64 (([c.load.getD i 0, sumTo (wheat h t c.out i) h.walls.length, sumTo (cheat h (takenL h t c.pump) i) h.coolers.length] : List Int).getD j default) ∧ hs = []) := by
 match j, hj with
 | 0, _ => exact VSpec.fn (fst := [ptr b 0]) (cap := []) (vs := [.int .i64 (i : Nat)]) Tryz.call111 rfl ((load_spec b vr vw vb vc vl vt vk c hl i (by have := ck.len; omega)).wide (fun x hx => by simp at hx; rcases hx with rfl | rfl <;> simp))
 | 1, _ => exact VSpec.fn (fst := [ptr b 0]) (cap := []) (vs := [.int .i64 (i : Nat)]) Tryz.call112 rfl ((walls_spec h ok b vr vw vb vc vl vt vk c hw ht t tk ck i hi).wide (fun x hx => by simp at hx; rcases hx with rfl | rfl | rfl <;> simp))
 | 2, _ => exact VSpec.fn (fst := [ptr b 0]) (cap := []) (vs := [.int .i64 (i : Nat)]) Tryz.call113 rfl ((coolers_spec h ok b vr vw vb vc vl vt vk c hc hk t tk ck i).wide (fun x hx => by simp at hx; rcases hx with rfl | rfl | rfl <;> simp))
theorem three_bd7 {a b c lo hi : Int} (ha : lo ≤ a ∧ a ≤ hi) (hb : lo ≤ b ∧ b ≤ hi) (hc : lo ≤ c ∧ c ≤ hi) {k : Nat} (hk : k < 3) : lo ≤ [a, b, c].getD k default ∧ [a, b, c].getD k default ≤ hi := by
 match k, hk with
 | 0, _ => exact ha
 | 1, _ => exact hb
 | 2, _ => exact hc
theorem sum_three (x a b c : Int) : x + sumTo (fun j => [a, b, c].getD j default) 3 = x + a + b + c := by
 show x + (((0 + a) + b) + c) = _
 omega
theorem next_spec7 (h : Hall) (vr vw vb vc : Value) (hr hw hb hc : PHeap) [ir : Arr vr encRoom 2 hr h.rooms] [iw : Arr vw encWall 3 hw h.walls] [ib : Arr vb encBranch 3 hb h.branches] [ic : Arr vc encCooler 5 hc h.coolers] (ok : HOk h) (t : List Int) (vt : Value) (ht : PHeap) [it : Arr vt encI 1 ht t] (tk : TOk h t)
  (c : HCase) (ck : COk h c) (vl : Value) (hl : PHeap) [il : Arr vl encI 1 hl c.load] : Spec Tryz.prog 53 #[.agg #[vr, vw, vb, vc], vt, .agg #[vl, .int .i64 c.out, .int .i64 c.pump]] [] [hr, hw, hb, hc, ht, hl] (fun v hs => ∃ k, hs = [k] ∧ OArr v encI 1 3 k (nextL h t c)) := by
 have hnil : OArr (.slice none 0 0) encI 1 3 emp ([] : List Int) := OArr.nil (fun _ => rfl)
 have hr2 := ok.r2
 have htl := tk.len
 refine Spec.intro (fn := Tryz.f53) (N := 61) Tryz.func53 rfl Tryz.ntmps53 rfl fun B => ?_
 refine XK.seq (XK.region rfl ?_)
 refine XO.box rfl fun b3 => ?_
 refine XO.box rfl fun b5 => ?_
 refine XO.q (Q.assign rfl) (XO.done (XK.seq (XK.region rfl ?_)))
 refine XO.q (Q.ldA [_, _, _, _] rfl rfl rfl) ?_
 refine XO.q (Q.move rfl) ?_
 refine XO.q (Q.ldA [_, _, _] rfl rfl rfl) ?_
 refine XO.call Tryz.call110 rfl rfl rfl (at_spec h vr vw vb vc hb hc ok t vt ht tk c ck vl) fun v18 s18 R18 => ?_
 obtain ⟨b19, vk, hk, rfl, rfl, OK⟩ := R18
 dsimp only [lcA, lnA]
 refine XO.q (Q.assign rfl) (XO.done (XK.seq (XK.region rfl (XO.q (Q.move rfl) ?_))))
 refine XO.q (Q.func (fun _ he => evs_rel he rfl) (fun _ he => rfl)) ?_
 refine XO.q (Q.move rfl) ?_
 refine XO.q (Q.func (fun _ he => evs_rel he rfl) (fun _ he => rfl)) ?_
 refine XO.q (Q.move rfl) ?_
 refine XO.q (Q.func (fun _ he => evs_rel he rfl) (fun _ he => rfl)) ?_
 refine XO.q (Q.build [_, _, _] (.c 0 1 rfl rfl rfl (.c 1 1 rfl rfl rfl (.c 2 1 rfl rfl rfl (.n _))))) ?_
 refine XO.alloc fun b8 => ?_
 refine XO.st rfl rfl rfl ?_
 refine XO.done (XK.seq (XK.region rfl (XO.q (Q.assign rfl) (XO.done (XK.seq ?_)))))
 refine XK.seq (XK.region rfl ?_)
 refine XO.q (Q.fieldAddr rfl) ?_
 refine XO.q (Q.ld rfl rfl) ?_
 refine XO.len rfl fun l28 => ?_
 refine XO.q (Q.move rfl) (XO.done (XK.block ?_))
 refine XK.while (X := Nat × Value × PHeap) [9, 10, 11, 12, 14, 29, 30, 31, 32, 33, 34, 35, 36, 37, 38, 39, 40, 41, 42, 43, 44, 45, 46, 47, 48, 49, 50, 51, 52, 53, 54, 55, 56, 57, 58, 59] (fun ⟨i, vO, hO⟩ => [(29, some (.int .i64 (i : Nat))), (9, some (vO))]) (fun ⟨i, vO, hO⟩ => [hO]) (fun ⟨i, vO, hO⟩ => i ≤ h.rooms.length ∧ OArr vO encI 1 3 hO ((List.range i).map (nextAt h t c))) (fun ⟨i, vO, hO⟩ => h.rooms.length - i) (0, .slice none 0 0, emp) [emp] rfl ⟨by omega, by simpa using hnil⟩ (.c rfl (.c rfl (.base 0 rfl rfl))) ?_
 rintro ⟨i, vO, hO⟩ ⟨hi, OO⟩ ih0
 dsimp only [lcA, lnA] at ih0 ⊢
 refine XK.seq (XK.region rfl ?_)
 refine XO.q (Q.lss rfl rfl) ?_
 refine XO.done (XK.seq ?_)
 refine XK.if rfl (fun c0 => ?_) (fun c0 => ?_)
 ·skip
  have hrm := ok.room i (by omega)
  have hI := tk.rng i (by omega)
  change 0 ≤ t.getD i default ∧ t.getD i default ≤ 1000000 at hI
  have hm := mul_abs (p := (h.rooms.getD i default).store) (d := t.getD i default) (P := 1000000) (D := 1000000) (by omega) hrm.2.1 (by omega) hI.2 (by omega)
  have hl1 := ck.rng i (by have := ck.len; omega)
  have hw1 := wsum_abs ok tk ck.out (i := i) (n := h.walls.length) (by omega) (Nat.le_refl _)
  have hc1 := csum_abs ok tk ck.pump.1 ck.pump.2 (i := i) (n := h.coolers.length) (Nat.le_refl _)
  have hnn := heat_nonneg ok tk ck (i := i) (by omega)
  have hnu : heatOf h t c i ≤ 10000000000000 := by unfold heatOf; change (h.rooms.getD i default).store * t.getD i default + _ + _ + _ ≤ _; omega
  refine XK.skip (XK.seq (XK.block (XK.seq (XK.region rfl (XO.q (Q.move rfl) ?_)))))
  refine XO.ix rfl rfl (by omega) (by omega) fun i32 => ?_
  refine XO.q (Q.ldEA [_, _] rfl (by first | assumption | omega) rfl rfl) ?_
  refine XO.alloc fun b11 => ?_
  refine XO.q (Q.assign rfl) ?_
  refine XO.st rfl rfl rfl ?_
  refine XO.done (XK.seq ?_)
  refine XK.drawn [0, 1, 2, 3, 4, 5, 6, 7] [b11] [] (.q 0 (.q 1 (.q 2 (.q 3 (.q 4 (.q 5 (.q 6 (.q 7 .done)))))))) Tryz.mixed rfl (by kernel_rfl) ?_
  refine XT.q rfl rfl (Q.fieldAddr rfl) ?_
  refine XT.q rfl rfl (Q.ld rfl rfl) ?_
  refine XT.q rfl rfl (Q.move rfl) ?_
  refine XT.q rfl rfl (Q.move rfl) ?_
  refine XT.ix rfl rfl rfl rfl (by omega) (by omega) fun i38 => ?_
  refine XT.q rfl rfl (Q.ldE rfl (by first | assumption | omega) rfl) ?_
  refine XT.q rfl rfl (Q.mul rfl rfl ⟨by omega, by omega⟩) ?_
  refine XT.q rfl rfl (Q.assign rfl) ?_
  refine XT.done ?_
  refine XK.seq (XK.seq (XK.region rfl ?_))
  rw [show (h.rooms.getD i default).store * t.getD i default = (h.rooms.getD i default).store * t.getD i default + sumTo (fun j => ([c.load.getD i 0, sumTo (wheat h t c.out i) h.walls.length, sumTo (cheat h (takenL h t c.pump) i) h.coolers.length] : List Int).getD j default) 0 by rw [sumTo, Int.add_zero]]
  refine XO.q (Q.ldA [_, _, _] rfl rfl rfl) ?_
  refine XO.q (Q.move rfl) (XO.done (XK.block ?_))
  refine XK.while (X := Nat) [12, 14, 42, 43, 44, 45, 46, 47, 48, 49, 50] (fun j => [(42, some (.int .i64 (j : Nat))), (12, some (.int .i64 ((h.rooms.getD i default).store * t.getD i default + sumTo (fun j => ([c.load.getD i 0, sumTo (wheat h t c.out i) h.walls.length, sumTo (cheat h (takenL h t c.pump) i) h.coolers.length] : List Int).getD j default) j)))]) (fun j => []) (fun j => j ≤ 3) (fun j => 3 - j) (0) [] rfl (by omega) (.c rfl (.c rfl (.base 0 rfl rfl))) ?_
  rintro j hj ih1
  dsimp only [lcA, lnA] at ih1 ⊢
  refine XK.seq (XK.region rfl ?_)
  refine XO.q (Q.lss rfl rfl) ?_
  refine XO.done (XK.seq ?_)
  refine XK.if rfl (fun c1 => ?_) (fun c1 => ?_)
  ·skip
   have hpj : -1600000000000 ≤ ([c.load.getD i 0, sumTo (wheat h t c.out i) h.walls.length, sumTo (cheat h (takenL h t c.pump) i) h.coolers.length] : List Int).getD j default ∧ ([c.load.getD i 0, sumTo (wheat h t c.out i) h.walls.length, sumTo (cheat h (takenL h t c.pump) i) h.coolers.length] : List Int).getD j default ≤ 1600000000000 := three_bd7 (by omega) hw1 hc1 (by omega)
   have hsj := sum_abs (f := (fun j => ([c.load.getD i 0, sumTo (wheat h t c.out i) h.walls.length, sumTo (cheat h (takenL h t c.pump) i) h.coolers.length] : List Int).getD j default)) (n := j) (M := 1600000000000) fun k hk => three_bd7 (by omega) hw1 hc1 (by omega)
   refine XK.skip (XK.seq (XK.block (XK.seq (XK.region rfl ?_))))
   refine XO.q (Q.index1 (v := ([.func (.func 111) #[ptr b19 0] #[], .func (.func 112) #[ptr b19 0] #[], .func (.func 113) #[ptr b19 0] #[]] : List Value).getD j default) rfl rfl (by omega) (by omega) (list_get (by show j < 3; omega))) ?_
   refine XO.q (Q.assign rfl) (XO.done (XK.region rfl (XO.q (Q.move rfl) (XO.q (Q.move rfl) (XO.q (Q.move rfl) ?_)))))
   refine XO.vcall rfl rfl (carr_spec h ok b19 vr vw vb vc vl vt vk c hw hc hl ht hk t tk ck i (by omega) j (by omega)) fun v48 s48 R48 => ?_
   obtain ⟨rfl, rfl⟩ := R48
   dsimp only [lcA, lnA]
   refine XO.q (Q.add rfl rfl ⟨by omega, by omega⟩) ?_
   refine XO.q (Q.assign rfl) (XO.done ?_)
   refine XK.inBlock ?_
   refine XK.region rfl ?_
   refine XO.q (Q.add rfl rfl ⟨by omega, by omega⟩) ?_
   refine XO.q (Q.move rfl) (XO.done ?_)
   rw [show (h.rooms.getD i default).store * t.getD i default + sumTo (fun j => ([c.load.getD i 0, sumTo (wheat h t c.out i) h.walls.length, sumTo (cheat h (takenL h t c.pump) i) h.coolers.length] : List Int).getD j default) j + ([c.load.getD i 0, sumTo (wheat h t c.out i) h.walls.length, sumTo (cheat h (takenL h t c.pump) i) h.coolers.length] : List Int).getD j default = (h.rooms.getD i default).store * t.getD i default + sumTo (fun j => ([c.load.getD i 0, sumTo (wheat h t c.out i) h.walls.length, sumTo (cheat h (takenL h t c.pump) i) h.coolers.length] : List Int).getD j default) (j + 1) by rw [sumTo, Int.add_assoc]]
   exact ih1 (j + 1) _ _ (by omega) (by first | omega | (dsimp only; omega)) (.c rfl (.c rfl (.base 24 rfl rfl))) inferInstance
  ·skip
   have hj3 : j = 3 := by omega
   rw [hj3]
   rw [show (h.rooms.getD i default).store * t.getD i default + sumTo (fun j => ([c.load.getD i 0, sumTo (wheat h t c.out i) h.walls.length, sumTo (cheat h (takenL h t c.pump) i) h.coolers.length] : List Int).getD j default) 3 = heatOf h t c i by rw [heatOf]; exact sum_three ..]
   refine XK.exit rfl ?_
   refine XK.region rfl (XO.q (Q.move rfl) (XO.q (Q.move rfl) ?_))
   refine XO.q (Q.fieldAddr rfl) ?_
   refine XO.q (Q.ld rfl rfl) ?_
   refine XO.q (Q.quo rfl rfl (by omega) (by omega) (by omega)) ?_
   refine XO.q (Q.min rfl rfl) ?_
   refine XO.lit [_] [_] [_] encI (by rfl) (by rfl) rfl (by rfl) (by exact .c 0 1 rfl rfl rfl (.n _)) (fun _ => rfl) (by rfl) rfl (by infer_instance) rfl fun v57 h57 O57 => ?_
   refine XO.append rfl rfl rfl rfl (by simp only [List.length_map, List.length_range, List.length_cons, List.length_nil]; omega) fun v58 h58 O58 => ?_
   refine XO.q (Q.assign rfl) (XO.done ?_)
   refine XK.inBlock ?_
   refine XK.region rfl ?_
   refine XO.q (Q.add rfl rfl ⟨by omega, by omega⟩) ?_
   refine XO.q (Q.move rfl) (XO.done ?_)
   exact ih0 (i + 1, v58, h58) _ _ ⟨by dsimp only; omega, by dsimp only; rw [show (List.range (i + 1)).map (nextAt h t c) = (List.range i).map (nextAt h t c) ++ [nextAt h t c i] by rw [List.range_succ, List.map_append]; rfl]; exact O58⟩ (by first | omega | (dsimp only; omega)) (.c rfl (.c rfl (.base 79 rfl rfl))) inferInstance
 ·skip
  refine XK.exit rfl ?_
  refine XK.seq (XK.region rfl (XO.q (Q.move rfl) (XO.q (Q.assign rfl) (XO.done ?_))))
  refine XK.rt [hO] Tryz.func53 Tryz.results53 (.t rfl .n) ?_
  have hin : i = h.rooms.length := by omega
  rw [hin] at OO
  exact ⟨hO, rfl, OO⟩
end Go.X.Ht

set_option linter.unusedSimpArgs false
set_option linter.unusedVariables false
set_option maxRecDepth 20000
namespace Go.X.Ht
open Go.Proofs
theorem cloneI (v : Value) (h : PHeap) (xs : List Int) [s : Arr v encI 1 h xs] (hl : xs.length ≤ 68719476736) :
  Spec Tryz.prog 59 #[v] [] [h] (fun v' hs => ∃ h', hs = [h'] ∧ OArr v' encI 1 3 h' xs) := by apply Go.X.Bk.cloneI <;> assumption
theorem equalI (v1 v2 : Value) (h1 h2 : PHeap) (xs ys : List Int) [s1 : Arr v1 encI 1 h1 xs] [s2 : Arr v2 encI 1 h2 ys] :
  Spec Tryz.prog 35 #[v1, v2] [] [h1, h2] (fun v hs => v = .bool (decide (xs = ys)) ∧ hs = []) := by apply Go.X.Bk.equalI <;> assumption
theorem indexFuncI (v : Value) (h : PHeap) (xs : List Int) [s : Arr v encI 1 h xs] (gid : FuncId) (cap : List Value) (Hr : List PHeap) (p : Int → Bool)
  (hc : ∀ args w, (callFunc gid args).run Tryz.prog w = .ok (.enter gid args) w) (hS : ∀ x ∈ xs, Spec Tryz.prog gid (.int .i64 x :: cap).toArray [] Hr (fun v hs => v = .bool (p x) ∧ hs = [])) :
  Spec Tryz.prog 159 #[v, .func (.func gid) #[] cap.toArray] [] (h :: Hr) (fun v hs => v = .int .i64 (findFirst p xs) ∧ hs = []) := by apply Go.X.Bk.indexFuncI <;> assumption
theorem containsFuncI (v : Value) (h : PHeap) (xs : List Int) [s : Arr v encI 1 h xs] (gid : FuncId) (cap : List Value) (Hr : List PHeap) (p : Int → Bool)
  (hc : ∀ args w, (callFunc gid args).run Tryz.prog w = .ok (.enter gid args) w) (hS : ∀ x ∈ xs, Spec Tryz.prog gid (.int .i64 x :: cap).toArray [] Hr (fun v hs => v = .bool (p x) ∧ hs = [])) :
  Spec Tryz.prog 97 #[v, .func (.func gid) #[] cap.toArray] [] (h :: Hr) (fun v hs => v = .bool (xs.any p) ∧ hs = []) := by apply Go.X.Bk.containsFuncI <;> assumption
theorem warm1 (x : Int) : Spec Tryz.prog 108 #[.int .i64 x] [] [] (fun v hs => v = .bool (!inP x 1000000) ∧ hs = []) := by
 refine Spec.intro (fn := Tryz.f108) (N := 6) Tryz.func108 rfl Tryz.ntmps108 rfl fun B => ?_
 refine XK.seq (XK.region rfl (XO.q (Q.assign rfl) (XO.done (XK.seq (XK.region rfl ?_)))))
 refine XO.q (Q.move rfl) ?_
 refine XO.call Tryz.call61 rfl rfl rfl (in_spec _ _) fun v4 s4 R4 => ?_
 obtain ⟨rfl, rfl⟩ := R4
 dsimp only [lcA, lnA]
 refine XO.q (Q.not rfl) ?_
 refine XO.q (Q.assign rfl) (XO.done ?_)
 refine XK.rt [] Tryz.func108 Tryz.results108 (.t rfl .n) ?_
 exact ⟨rfl, rfl⟩
theorem cased1 (x : Int) : Spec Tryz.prog 109 #[.int .i64 x] [] [] (fun v hs => v = .bool (!inP x 10000000) ∧ hs = []) := by
 refine Spec.intro (fn := Tryz.f109) (N := 6) Tryz.func109 rfl Tryz.ntmps109 rfl fun B => ?_
 refine XK.seq (XK.region rfl (XO.q (Q.assign rfl) (XO.done (XK.seq (XK.region rfl ?_)))))
 refine XO.q (Q.move rfl) ?_
 refine XO.call Tryz.call61 rfl rfl rfl (in_spec _ _) fun v4 s4 R4 => ?_
 obtain ⟨rfl, rfl⟩ := R4
 dsimp only [lcA, lnA]
 refine XO.q (Q.not rfl) ?_
 refine XO.q (Q.assign rfl) (XO.done ?_)
 refine XK.rt [] Tryz.func109 Tryz.results109 (.t rfl .n) ?_
 exact ⟨rfl, rfl⟩
theorem warm_spec (h : Hall) (vr vw vb vc : Value) (hr : PHeap) [ir : Arr vr encRoom 2 hr h.rooms] [iw : One vw] [ib : One vb] [ic : One vc] (vt : Value) (ht : PHeap) (t : List Int) [it : Arr vt encI 1 ht t] : Spec Tryz.prog 51 #[.agg #[vr, vw, vb, vc], vt] [] [hr, ht]
  (fun v hs => v = .int .i64 (warmP h t) ∧ hs = []) := by
 refine Spec.intro (fn := Tryz.f51) (N := 13) Tryz.func51 rfl Tryz.ntmps51 rfl fun B => ?_
 refine XK.seq (XK.region rfl ?_)
 refine XO.box rfl fun b2 => ?_
 refine XO.q (Q.assign rfl) (XO.done (XK.seq (XK.seq (XK.region rfl (XO.q (Q.move rfl) ?_)))))
 refine XO.len rfl fun l6 => ?_
 refine XO.q (Q.fieldAddr rfl) ?_
 refine XO.q (Q.ld rfl rfl) ?_
 refine XO.len rfl fun l9 => ?_
 refine XO.q (Q.neq rfl rfl) ?_
 refine XO.done ?_
 refine XK.if rfl (fun c0 => ?_) (fun c0 => ?_)
 ·skip
  refine XK.seq (XK.region rfl (XO.q (Q.assign rfl) (XO.done ?_)))
  refine XK.rt [] Tryz.func51 Tryz.results51 (.t rfl .n) ?_
  exact ⟨by rw [warmP, if_pos c0], rfl⟩
 ·skip
  refine XK.skip (XK.seq (XK.seq (XK.region rfl (XO.q (Q.move rfl) ?_))))
  refine XO.call Tryz.call97 rfl rfl rfl (containsFuncI vt ht t 108 [] [] _ Tryz.call108 (fun x hx => warm1 x)) fun v12 s12 R12 => ?_
  obtain ⟨rfl, rfl⟩ := R12
  dsimp only [lcA, lnA]
  refine XO.done ?_
  refine XK.if rfl (fun c1 => ?_) (fun c1 => ?_)
  ·skip
   refine XK.seq (XK.region rfl (XO.q (Q.assign rfl) (XO.done ?_)))
   refine XK.rt [] Tryz.func51 Tryz.results51 (.t rfl .n) ?_
   exact ⟨by rw [warmP, if_neg c0, if_pos c1], rfl⟩
  ·skip
   refine XK.skip (XK.seq (XK.region rfl (XO.q (Q.assign rfl) (XO.done ?_))))
   refine XK.rt [] Tryz.func51 Tryz.results51 (.t rfl .n) ?_
   exact ⟨by rw [warmP, if_neg c0, if_neg c1], rfl⟩
theorem cased_spec (h : Hall) (vr vw vb vc : Value) (hr : PHeap) [ir : Arr vr encRoom 2 hr h.rooms] [iw : One vw] [ib : One vb] [ic : One vc] (vl : Value) (hl : PHeap) (c : HCase) [il : Arr vl encI 1 hl c.load] : Spec Tryz.prog 52 #[.agg #[vr, vw, vb, vc], .agg #[vl, .int .i64 c.out, .int .i64 c.pump]] [] [hr, hl]
  (fun v hs => v = .int .i64 (casedP h c) ∧ hs = []) := by
 refine Spec.intro (fn := Tryz.f52) (N := 27) Tryz.func52 rfl Tryz.ntmps52 rfl fun B => ?_
 refine XK.seq (XK.region rfl ?_)
 refine XO.box rfl fun b2 => ?_
 refine XO.box rfl fun b3 => ?_
 refine XO.q (Q.assign rfl) (XO.done (XK.seq (XK.seq (XK.region rfl ?_))))
 refine XO.q (Q.fieldAddr rfl) ?_
 refine XO.q (Q.ld rfl rfl) ?_
 refine XO.len rfl fun l7 => ?_
 refine XO.q (Q.fieldAddr rfl) ?_
 refine XO.q (Q.ld rfl rfl) ?_
 refine XO.len rfl fun l10 => ?_
 refine XO.q (Q.neq rfl rfl) ?_
 refine XO.done ?_
 refine XK.if rfl (fun c0 => ?_) (fun c0 => ?_)
 ·skip
  refine XK.seq (XK.region rfl (XO.q (Q.assign rfl) (XO.done ?_)))
  refine XK.rt [] Tryz.func52 Tryz.results52 (.t rfl .n) ?_
  exact ⟨by rw [casedP, if_pos c0], rfl⟩
 ·skip
  refine XK.skip (XK.seq (XK.seq (XK.region rfl ?_)))
  refine XO.q (Q.fieldAddr rfl) ?_
  refine XO.q (Q.ld rfl rfl) ?_
  refine XO.call Tryz.call97 rfl rfl rfl (containsFuncI vl hl c.load 109 [] [] _ Tryz.call109 (fun x hx => cased1 x)) fun v14 s14 R14 => ?_
  obtain ⟨rfl, rfl⟩ := R14
  dsimp only [lcA, lnA]
  refine XO.q (Q.move rfl) ?_
  refine XO.q (Quiet.guardF rfl rfl fun g16 p16 => Q.fieldAddr rfl) ?_
  refine XO.q (Quiet.guardF rfl rfl fun g17 p17 => Q.ld (lzv g17 rfl) rfl) ?_
  refine XO.gcallF rfl rfl Tryz.call61 rfl (fun g18 => .c (lzv g18 rfl) (.c rfl .n)) rfl (fun g18 p18 => in_spec _ _) ?_
  refine XO.q (Quiet.guardF rfl rfl fun g19 p19 => Q.not (lzv g19 rfl)) ?_
  refine XO.q (Q.or rfl (fun hp => lzv hp rfl)) ?_
  refine XO.q (Q.move rfl) ?_
  refine XO.q (Quiet.guardF rfl rfl fun g22 p22 => Q.fieldAddr rfl) ?_
  refine XO.q (Quiet.guardF rfl rfl fun g23 p23 => Q.ld (lzv g23 rfl) rfl) ?_
  refine XO.gcallF rfl rfl Tryz.call61 rfl (fun g24 => .c (lzv g24 rfl) (.c rfl .n)) rfl (fun g24 p24 => in_spec _ _) ?_
  refine XO.q (Quiet.guardF rfl rfl fun g25 p25 => Q.not (lzv g25 rfl)) ?_
  refine XO.q (Q.or rfl (fun hp => lzv hp rfl)) ?_
  refine XO.done ?_
  refine XK.if rfl (fun c1 => ?_) (fun c1 => ?_)
  ·skip
   refine XK.seq (XK.region rfl (XO.q (Q.assign rfl) (XO.done ?_)))
   refine XK.rt [] Tryz.func52 Tryz.results52 (.t rfl .n) ?_
   exact ⟨by rw [casedP, if_neg c0, if_pos c1], rfl⟩
  ·skip
   refine XK.skip (XK.seq (XK.region rfl (XO.q (Q.assign rfl) (XO.done ?_))))
   refine XK.rt [] Tryz.func52 Tryz.results52 (.t rfl .n) ?_
   exact ⟨by rw [casedP, if_neg c0, if_neg c1], rfl⟩
theorem indexE (v : Value) (hh : PHeap) (xs : List Int) [s : Arr v encI 1 hh xs] (x : Int) : Spec Tryz.prog 165 #[v, .int .i64 x] [] [hh] (fun v hs => v = .int .i64 (findFirst (fun y => decide (x = y)) xs) ∧ hs = []) := by
 refine Spec.intro (fn := Tryz.f165) (N := 19) Tryz.func165 rfl Tryz.ntmps165 rfl fun B => ?_
 refine XK.seq (XK.region rfl (XO.q (Q.assign rfl) (XO.done (XK.seq (XK.seq ?_)))))
 refine XK.region rfl (XO.q (Q.move rfl) ?_)
 refine XO.len rfl fun l7 => ?_
 refine XO.q (Q.move rfl) (XO.done (XK.block ?_))
 refine XK.while (X := Nat) [4, 5, 8, 9, 10, 11, 12, 13, 14, 15, 16, 17, 18] (fun i => [(8, some (.int .i64 (i : Nat)))]) (fun i => []) (fun i => i ≤ xs.length ∧ (xs.take i).any (fun y => decide (x = y)) = false) (fun i => xs.length - i) (0) [] rfl ⟨by omega, rfl⟩ (.c rfl (.base 0 rfl rfl)) ?_
 rintro i ⟨hi, hany⟩ ih0
 dsimp only [lcA, lnA] at ih0 ⊢
 refine XK.seq (XK.region rfl ?_)
 refine XO.q (Q.lss rfl rfl) ?_
 refine XO.done (XK.seq ?_)
 refine XK.if rfl (fun c0 => ?_) (fun c0 => ?_)
 ·skip
  refine XK.skip (XK.seq (XK.block (XK.seq (XK.region rfl (XO.q (Q.move rfl) ?_)))))
  refine XO.q (Q.assign rfl) (XO.done (XK.seq (XK.region rfl (XO.q (Q.move rfl) (XO.q (Q.move rfl) ?_)))))
  refine XO.q (Q.move rfl) ?_
  refine XO.ix rfl rfl (by omega) (by omega) fun i14 => ?_
  refine XO.q (Q.ldE rfl (by first | assumption | omega) rfl) ?_
  refine XO.q (Q.eql rfl rfl) ?_
  refine XO.done ?_
  refine XK.if rfl (fun c1 => ?_) (fun c1 => ?_)
  ·skip
   refine XK.seq (XK.region rfl (XO.q (Q.move rfl) (XO.q (Q.assign rfl) (XO.done ?_))))
   refine XK.rt [] Tryz.func165 Tryz.results165 (.t rfl .n) ?_
   exact ⟨by rw [findFirst_here hany (by omega) (by rw [decide_eq_true_eq]; exact c1)], rfl⟩
  ·skip
   refine XK.skip ?_
   refine XK.inBlock ?_
   refine XK.region rfl ?_
   refine XO.q (Q.add rfl rfl ⟨by omega, by omega⟩) ?_
   refine XO.q (Q.move rfl) (XO.done ?_)
   exact ih0 (i + 1) _ _ ⟨by omega, any_step hany (by omega) (by rw [decide_eq_false_iff_not]; exact c1)⟩ (by first | omega | (dsimp only; omega)) (.c rfl (.base 25 rfl rfl)) inferInstance
 ·skip
  refine XK.exit rfl ?_
  refine XK.seq (XK.region rfl (XO.q (Q.assign rfl) (XO.done ?_)))
  refine XK.rt [] Tryz.func165 Tryz.results165 (.t rfl .n) ?_
  exact ⟨by rw [findFirst_none hany c0], rfl⟩
theorem containsE (v : Value) (hh : PHeap) (xs : List Int) [s : Arr v encI 1 hh xs] (x : Int) : Spec Tryz.prog 107 #[v, .int .i64 x] [] [hh] (fun v hs => v = .bool (xs.any (fun y => decide (x = y))) ∧ hs = []) := by
 refine Spec.intro (fn := Tryz.f107) (N := 9) Tryz.func107 rfl Tryz.ntmps107 rfl fun B => ?_
 refine XK.seq (XK.region rfl (XO.q (Q.assign rfl) (XO.done (XK.seq (XK.region rfl ?_)))))
 refine XO.q (Q.move rfl) (XO.q (Q.move rfl) ?_)
 refine XO.call Tryz.call165 rfl rfl rfl (indexE v hh xs x) fun v7 s7 R7 => ?_
 obtain ⟨rfl, rfl⟩ := R7
 dsimp only [lcA, lnA]
 refine XO.q (Q.geq rfl rfl) ?_
 refine XO.q (Q.assign rfl) (XO.done ?_)
 refine XK.rt [] Tryz.func107 Tryz.results107 (.t rfl .n) ?_
 exact ⟨by rw [← findFirst_any], rfl⟩
theorem any_mem {x : Int} {xs : List Int} : xs.any (fun y => decide (x = y)) = true ↔ x ∈ xs := by
 rw [List.any_eq_true]
 exact ⟨fun ⟨y, hy, h⟩ => by rw [decide_eq_true_eq] at h; exact h ▸ hy, fun h => ⟨x, h, by simp⟩⟩
theorem both_spec (v : Value) (hh : PHeap) (xs : List Int) [s : Arr v encI 1 hh xs] : Spec Tryz.prog 50 #[v] [] [hh] (fun v hs => v = .int .i64 (bothP xs) ∧ hs = []) := by
 refine Spec.intro (fn := Tryz.f50) (N := 16) Tryz.func50 rfl Tryz.ntmps50 rfl fun B => ?_
 refine XK.seq (XK.region rfl (XO.q (Q.assign rfl) (XO.done (XK.seq (XK.seq ?_)))))
 refine XK.region rfl ?_
 refine XO.lit [_, _] [_, _] [1, 6] encI (by rfl) (by rfl) rfl (by rfl) (by exact .c 0 1 rfl rfl rfl (.c 1 1 rfl rfl rfl (.n _))) (fun _ => rfl) (by rfl) rfl (by infer_instance) rfl fun v5 h5 O5 => ?_
 refine XO.len rfl fun l6 => ?_
 rw [show (((([1, 6] : List Int).length : Nat) : Int)) = 2 from rfl]
 refine XO.q (Q.move rfl) (XO.done (XK.block ?_))
 refine XK.while (X := Nat) [2, 4, 7, 8, 9, 10, 11, 12, 13, 14, 15] (fun i => [(7, some (.int .i64 (i : Nat)))]) (fun i => []) (fun i => i ≤ 2 ∧ (0 < i → ¬ (1 : Int) ∈ xs) ∧ (1 < i → ¬ (6 : Int) ∈ xs)) (fun i => 2 - i) (0) [] rfl ⟨by omega, by omega, by omega⟩ (.c rfl (.base 0 rfl rfl)) ?_
 rintro i ⟨hi, h0, h1⟩ ih0
 dsimp only [lcA, lnA] at ih0 ⊢
 refine XK.seq (XK.region rfl ?_)
 refine XO.q (Q.lss rfl rfl) ?_
 refine XO.done (XK.seq ?_)
 refine XK.if rfl (fun c0 => ?_) (fun c0 => ?_)
 ·skip
  refine XK.skip (XK.seq (XK.block (XK.seq (XK.region rfl ?_))))
  refine XO.ix rfl rfl (by omega) (by show (i : Int) < 2; omega) fun i9 => ?_
  refine XO.q (Q.ldE rfl (by first | assumption | omega) rfl) ?_
  refine XO.q (Q.assign rfl) (XO.done (XK.seq (XK.region rfl (XO.q (Q.move rfl) (XO.q (Q.move rfl) ?_)))))
  refine XO.call Tryz.call107 rfl rfl rfl (containsE v hh xs _) fun v13 s13 R13 => ?_
  obtain ⟨rfl, rfl⟩ := R13
  dsimp only [lcA, lnA]
  refine XO.done ?_
  refine XK.if rfl (fun c1 => ?_) (fun c1 => ?_)
  ·skip
   refine XK.seq (XK.region rfl (XO.q (Q.move rfl) (XO.q (Q.assign rfl) (XO.done ?_))))
   refine XK.rt [] Tryz.func50 Tryz.results50 (.t rfl .n) ?_
   rw [any_mem] at c1
   match i, (by omega : i < 2) with
   | 0, _ => exact ⟨by rw [bothP, if_pos (show (1 : Int) ∈ xs from c1)]; rfl, rfl⟩
   | 1, _ => exact ⟨by rw [bothP, if_neg (h0 (by omega)), if_pos (show (6 : Int) ∈ xs from c1)]; rfl, rfl⟩
  ·skip
   refine XK.skip ?_
   refine XK.inBlock ?_
   refine XK.region rfl ?_
   refine XO.q (Q.add rfl rfl ⟨by omega, by omega⟩) ?_
   refine XO.q (Q.move rfl) (XO.done ?_)
   rw [any_mem] at c1
   exact ih0 (i + 1) _ _ (by match i, (by omega : i < 2) with
     | 0, _ => exact ⟨by omega, fun _ => c1, by omega⟩
     | 1, _ => exact ⟨by omega, fun _ => h0 (by omega), fun _ => c1⟩) (by first | omega | (dsimp only; omega)) (.c rfl (.base 21 rfl rfl)) inferInstance
 ·skip
  refine XK.exit rfl ?_
  refine XK.seq (XK.region rfl (XO.q (Q.assign rfl) (XO.done ?_)))
  refine XK.rt [] Tryz.func50 Tryz.results50 (.t rfl .n) ?_
  have hi2 : i = 2 := by omega
  exact ⟨by rw [bothP, if_neg (h0 (by omega)), if_neg (h1 (by omega))], rfl⟩
theorem Next_spec (h : Hall) (vr vw vb vc : Value) (hr hw hb hc : PHeap) [ir : Arr vr encRoom 2 hr h.rooms] [iw : Arr vw encWall 3 hw h.walls] [ib : Arr vb encBranch 3 hb h.branches] [ic : Arr vc encCooler 5 hc h.coolers] (t : List Int) (vt : Value) (ht : PHeap) [it : Arr vt encI 1 ht t] (c : HCase) (vl : Value) (hl : PHeap) [il : Arr vl encI 1 hl c.load] : Spec Tryz.prog 16 #[.agg #[vr, vw, vb, vc], vt, .agg #[vl, .int .i64 c.out, .int .i64 c.pump]] [] [hr, hw, hb, hc, ht, hl]
  (fun v hs => ∃ v1 k1, v = .tuple #[v1, .int .i64 (nextG h t c).2] ∧ hs = [k1] ∧ OArr v1 encI 1 3 k1 (nextG h t c).1) := by
 refine Spec.intro (fn := Tryz.f16) (N := 30) Tryz.func16 rfl Tryz.ntmps16 rfl fun B => ?_
 refine XK.seq (XK.region rfl ?_)
 refine XO.box rfl fun b3 => ?_
 refine XO.box rfl fun b5 => ?_
 refine XO.q (Q.assign rfl) (XO.q (Q.assign rfl) (XO.done (XK.seq (XK.seq (XK.region rfl ?_)))))
 refine XO.q (Q.ldA [_, _, _, _] rfl rfl rfl) ?_
 refine XO.call Tryz.call49 rfl rfl rfl (Check_spec h vr vw vb vc hr hw hb hc) fun v11 s11 R11 => ?_
 obtain ⟨rfl, rfl⟩ := R11
 dsimp only [lcA, lnA]
 refine XO.q (Q.assign rfl) (XO.done (XK.seq (XK.region rfl (XO.q (Q.move rfl) ?_))))
 refine XO.q (Q.neq rfl rfl) ?_
 refine XO.done ?_
 refine XK.if rfl (fun c0 => ?_) (fun c0 => ?_)
 ·skip
  refine XK.seq (XK.region rfl (XO.q (Q.move rfl) (XO.q (Q.assign rfl) (XO.q (Q.assign rfl) (XO.done ?_)))))
  refine XK.rt [emp] Tryz.func16 Tryz.results16 (.t rfl (.t rfl .n)) ?_
  have hw0 : nextG h t c = ([], hcheck h) := by rw [nextG, if_pos c0]
  rw [hw0]
  exact ⟨.slice none 0 0, emp, rfl, rfl, OArr.nil (fun _ => rfl)⟩
 ·skip
  refine XK.skip (XK.seq (XK.seq ?_))
  refine XK.drawn [0, 1, 3, 4, 8] [b3, b5] [] (.q 0 (.q 1 (.q 3 (.q 4 (.br 2 true (.br 5 true (.br 6 true (.br 7 true (.q 8 .done) .stop) .stop) .stop) .stop))))) Tryz.mixed rfl (by kernel_rfl) ?_
  refine XT.q rfl rfl (Q.ldA [_, _, _, _] rfl rfl rfl) ?_
  refine XT.q rfl rfl (Q.move rfl) ?_
  refine XT.q rfl rfl (Q.ldA [_, _, _, _] rfl rfl rfl) ?_
  refine XT.q rfl rfl (Q.ldA [_, _, _] rfl rfl rfl) ?_
  refine XT.call rfl rfl Tryz.call51 rfl rfl rfl (warm_spec h vr vw vb vc hr vt ht t) (fun v17 s17 R17 => ?_) XT.stop
  obtain ⟨rfl, rfl⟩ := R17
  dsimp only [lcA, lnA]
  refine ⟨inferInstance, ?_⟩
  refine XT.call rfl rfl Tryz.call52 rfl rfl rfl (cased_spec h vr vw vb vc hr vl hl c) (fun v20 s20 R20 => ?_) XT.stop
  obtain ⟨rfl, rfl⟩ := R20
  dsimp only [lcA, lnA]
  refine ⟨inferInstance, ?_⟩
  refine XT.lit [_, _] [_, _] [warmP h t, casedP h c] encI rfl rfl (by rfl) (by rfl) rfl (by rfl) (by exact .c 0 1 rfl rfl rfl (.c 1 1 rfl rfl rfl (.n _))) (fun _ => rfl) (by rfl) rfl (by infer_instance) rfl (fun v21 h21 O21 => ⟨inferInstance, ?_⟩) XT.stop
  refine XT.call rfl rfl Tryz.call50 rfl rfl rfl (both_spec v21 h21 [warmP h t, casedP h c]) (fun v22 s22 R22 => ?_) XT.stop
  obtain ⟨rfl, rfl⟩ := R22
  dsimp only [lcA, lnA]
  refine ⟨inferInstance, ?_⟩
  refine XT.q rfl rfl (Q.assign rfl) ?_
  refine XT.done ?_
  refine XK.seq (XK.region rfl (XO.q (Q.move rfl) ?_))
  refine XO.q (Q.neq rfl rfl) ?_
  refine XO.done ?_
  refine XK.if rfl (fun c1 => ?_) (fun c1 => ?_)
  ·skip
   refine XK.seq (XK.region rfl (XO.q (Q.move rfl) (XO.q (Q.assign rfl) (XO.q (Q.assign rfl) (XO.done ?_)))))
   refine XK.rt [emp] Tryz.func16 Tryz.results16 (.t rfl (.t rfl .n)) ?_
   have hw0 : nextG h t c = ([], bothP [warmP h t, casedP h c]) := by rw [nextG, if_neg c0, if_pos c1]
   rw [hw0]
   exact ⟨.slice none 0 0, emp, rfl, rfl, OArr.nil (fun _ => rfl)⟩
  ·skip
   refine XK.skip (XK.seq (XK.region rfl ?_))
   refine XO.q (Q.ldA [_, _, _, _] rfl rfl rfl) ?_
   refine XO.q (Q.move rfl) ?_
   refine XO.q (Q.ldA [_, _, _] rfl rfl rfl) ?_
   refine XO.call Tryz.call53 rfl rfl rfl (next_spec7 h vr vw vb vc hr hw hb hc (hcheck_ok (Decidable.of_not_not c0)) t vt ht (both_ok (Decidable.of_not_not c1)).1 c (both_ok (Decidable.of_not_not c1)).2 vl hl) fun v29 s29 R29 => ?_
   obtain ⟨k1, rfl, O1⟩ := R29
   dsimp only [lcA, lnA]
   refine XO.q (Q.assign rfl) (XO.q (Q.assign rfl) (XO.done ?_))
   refine XK.rt [k1] Tryz.func16 Tryz.results16 (.t rfl (.t rfl .n)) ?_
   have hw0 : nextG h t c = (nextL h t c, 0) := by rw [nextG, if_neg c0, if_neg c1]
   rw [hw0]
   exact ⟨_, k1, rfl, rfl, O1⟩
end Go.X.Ht

set_option linter.unusedSimpArgs false
set_option maxRecDepth 20000
set_option linter.unusedVariables false
namespace Go.X.Ke
open Go.Proofs
theorem mul64_one (n : Nat) (h : n ≤ 4294967295) : Spec Tryz.prog 199 #[.int .u64 1, .int .u64 (n : Nat)] [] [] (fun v hs => v = .tuple #[.int .u64 0, .int .u64 (n : Nat)] ∧ hs = []) := by
 have h1 : (1 : Int) % 4294967296 = 1 := by decide
 have h2 : (1 : Int) / 4294967296 = 0 := by decide
 have h3 : (n : Int) % 4294967296 = n := by omega
 have h4 : (n : Int) / 4294967296 = 0 := by omega
 have h5 : (0 : Int) % 4294967296 = 0 := by decide
 have h6 : (0 : Int) / 4294967296 = 0 := by decide
 refine Spec.intro (fn := Tryz.f199) (N := 51) Tryz.func199 rfl Tryz.ntmps199 rfl fun B => ?_
 refine XK.seq (XK.region rfl (XO.q (Q.assign rfl) (XO.q (Q.assign rfl) (XO.done (XK.seq ?_)))))
 refine XK.region rfl (XO.q (Q.move rfl) ?_)
 refine XO.q (Q.mask32 rfl rfl (by omega)) ?_
 rw [h1]
 refine XO.q (Q.assign rfl) (XO.done (XK.seq (XK.region rfl (XO.q (Q.move rfl) ?_))))
 refine XO.q (Q.shr32 rfl rfl) ?_
 rw [h2]
 refine XO.q (Q.assign rfl) (XO.done (XK.seq (XK.region rfl (XO.q (Q.move rfl) ?_))))
 refine XO.q (Q.mask32 rfl rfl (by omega)) ?_
 rw [h3]
 refine XO.q (Q.assign rfl) (XO.done (XK.seq (XK.region rfl (XO.q (Q.move rfl) ?_))))
 refine XO.q (Q.shr32 rfl rfl) ?_
 rw [h4]
 refine XO.q (Q.assign rfl) (XO.done (XK.seq (XK.region rfl (XO.q (Q.move rfl) (XO.q (Q.move rfl) ?_)))))
 refine XO.q (Q.mulU rfl rfl (by omega)) ?_
 rw [Int.one_mul]
 refine XO.q (Q.assign rfl) (XO.done (XK.seq (XK.region rfl (XO.q (Q.move rfl) (XO.q (Q.move rfl) ?_)))))
 refine XO.q (Q.mulU rfl rfl (by omega)) ?_
 rw [Int.zero_mul]
 refine XO.q (Q.move rfl) ?_
 refine XO.q (Q.shr32 rfl rfl) ?_
 rw [h4]
 refine XO.q (Q.addU rfl rfl (by omega)) ?_
 rw [Int.add_zero]
 refine XO.q (Q.assign rfl) (XO.done (XK.seq (XK.region rfl (XO.q (Q.move rfl) ?_))))
 refine XO.q (Q.mask32 rfl rfl (by omega)) ?_
 rw [h5]
 refine XO.q (Q.assign rfl) (XO.done (XK.seq (XK.region rfl (XO.q (Q.move rfl) ?_))))
 refine XO.q (Q.shr32 rfl rfl) ?_
 rw [h6]
 refine XO.q (Q.assign rfl) (XO.done (XK.seq (XK.region rfl (XO.q (Q.move rfl) (XO.q (Q.move rfl) ?_)))))
 refine XO.q (Q.move rfl) ?_
 refine XO.q (Q.mulU rfl rfl (by omega)) ?_
 rw [Int.mul_zero]
 refine XO.q (Q.addU rfl rfl (by omega)) ?_
 rw [Int.add_zero]
 refine XO.q (Q.assign rfl) (XO.done (XK.seq (XK.region rfl (XO.q (Q.move rfl) (XO.q (Q.move rfl) ?_)))))
 refine XO.q (Q.mulU rfl rfl (by omega)) ?_
 rw [Int.mul_zero]
 refine XO.q (Q.move rfl) ?_
 refine XO.q (Q.addU rfl rfl (by omega)) ?_
 rw [Int.add_zero]
 refine XO.q (Q.move rfl) ?_
 refine XO.q (Q.shr32 rfl rfl) ?_
 rw [h6]
 refine XO.q (Q.addU rfl rfl (by omega)) ?_
 rw [Int.add_zero]
 refine XO.q (Q.assign rfl) (XO.done (XK.seq (XK.region rfl (XO.q (Q.move rfl) (XO.q (Q.move rfl) ?_)))))
 refine XO.q (Q.mulU rfl rfl (by omega)) ?_
 rw [Int.one_mul]
 refine XO.q (Q.assign rfl) (XO.done ?_)
 refine XK.rt [] Tryz.func199 Tryz.results199 (.t rfl (.t rfl .n)) ?_
 exact ⟨rfl, rfl⟩
theorem mul_one' (n : Nat) (h : n ≤ 4294967295) : Spec Tryz.prog 160 #[.int .u64 1, .int .u64 (n : Nat)] [] [] (fun v hs => v = .tuple #[.int .u64 0, .int .u64 (n : Nat)] ∧ hs = []) := by
 refine Spec.intro (fn := Tryz.f160) (N := 30) Tryz.func160 rfl Tryz.ntmps160 rfl fun B => ?_
 refine XK.seq (XK.region rfl (XO.q (Q.assign rfl) (XO.q (Q.assign rfl) (XO.done (XK.seq ?_)))))
 refine XK.if rfl (fun c0 => ?_) (fun c0 => ?_)
 ·skip
  exact c0.elim
 ·skip
  refine XK.skip (XK.seq (XK.region rfl (XO.q (Q.move rfl) (XO.q (Q.move rfl) ?_))))
  refine XO.call Tryz.call199 rfl rfl rfl (mul64_one n h) fun v25 s25 R25 => ?_
  obtain ⟨rfl, rfl⟩ := R25
  dsimp only [lcA, lnA]
  refine XO.q (Q.move rfl) ?_
  refine XO.q (Q.extract rfl rfl) ?_
  refine XO.q (Q.extract rfl rfl) ?_
  refine XO.q (Q.assign rfl) (XO.q (Q.assign rfl) (XO.done (XK.seq (XK.region rfl (XO.q (Q.move rfl) ?_)))))
  refine XO.q (Q.move rfl) (XO.q (Q.assign rfl) (XO.q (Q.assign rfl) (XO.done ?_)))
  refine XK.rt [] Tryz.func160 Tryz.results160 (.t rfl (.t rfl .n)) ?_
  exact ⟨rfl, rfl⟩
theorem repeatI (v : Value) (h : PHeap) (x : Int) [s : Arr v encI 1 h [x]] (n : Nat) (hn : n ≤ 4294967295) : Spec Tryz.prog 100 #[v, .int .i64 (n : Nat)] [] [h] (fun v' hs => ∃ h', hs = [h'] ∧ OArr v' encI 1 3 h' (List.replicate n x)) := by
 have hw1 : IntKind.u64.wrap ((([x] : List Int).length : Nat) : Int) = 1 := rfl
 have hw2 : IntKind.u64.wrap ((n : Nat) : Int) = n := wrapu64 (by omega)
 have hw3 : IntKind.i64.wrap ((n : Nat) : Int) = n := wrap64_of ⟨by omega, by omega⟩
 have hl1 : ([x] : List Int).length = 1 := rfl
 refine Spec.intro (fn := Tryz.f100) (N := 48) Tryz.func100 rfl Tryz.ntmps100 rfl fun B => ?_
 refine XK.seq (XK.region rfl (XO.q (Q.assign rfl) (XO.done (XK.seq (XK.seq ?_)))))
 refine XK.region rfl (XO.q (Q.move rfl) ?_)
 refine XO.q (Q.lss rfl rfl) ?_
 refine XO.done ?_
 refine XK.if rfl (fun c0 => ?_) (fun c0 => ?_)
 ·skip
  exact absurd c0 (by omega)
 ·skip
  refine XK.skip (XK.seq (XK.region rfl (XO.q (Q.move rfl) ?_)))
  refine XO.len rfl fun l14 => ?_
  refine XO.q (Q.conv rfl) ?_
  rw [hw1]
  refine XO.q (Q.move rfl) ?_
  refine XO.q (Q.conv rfl) ?_
  rw [hw2]
  refine XO.call Tryz.call160 rfl rfl rfl (mul_one' n hn) fun v18 s18 R18 => ?_
  obtain ⟨rfl, rfl⟩ := R18
  dsimp only [lcA, lnA]
  refine XO.q (Q.move rfl) ?_
  refine XO.q (Q.extract rfl rfl) ?_
  refine XO.q (Q.extract rfl rfl) ?_
  refine XO.q (Q.assign rfl) (XO.q (Q.assign rfl) (XO.done (XK.seq (XK.seq (XK.region rfl ?_)))))
  refine XO.q (Q.move rfl) ?_
  refine XO.q (Q.gtr rfl rfl) ?_
  refine XO.q (Q.move rfl) ?_
  refine XO.q (Quiet.guardF rfl rfl fun g24 p24 => Q.move rfl) ?_
  refine XO.q (Quiet.guardF rfl rfl fun g25 p25 => Q.gtr (lzv g25 rfl) rfl) ?_
  refine XO.q (Q.or rfl (fun hp => lzv hp rfl)) ?_
  refine XO.done ?_
  refine XK.if rfl (fun c1 => ?_) (fun c1 => ?_)
  ·skip
   exact absurd c1 (by omega)
  ·skip
   refine XK.skip (XK.seq (XK.region rfl (XO.q (Q.move rfl) ?_)))
   refine XO.q (Q.conv rfl) ?_
   rw [hw3]
   refine XO.make encI (0) rfl rfl rfl (by omega) (by omega) (fun _ => rfl) rfl rfl rfl (by dsimp only [encI]; infer_instance) fun v30 h30 O30 => ?_
   refine XO.q (Q.assign rfl) (XO.done (XK.seq (XK.region rfl (XO.q (Q.move rfl) (XO.q (Q.move rfl) ?_)))))
   refine XO.copy rfl (tailv_zero (s := O30)).symm rfl (by omega) fun h33 O33 => ?_
   rw [show min ([x] : List Int).length ((List.replicate n (0 : Int)).length - 0) = min 1 n by simp]
   refine XO.q (Q.assign rfl) (XO.done (XK.seq (XK.block ?_)))
   refine XK.while (X := Nat × PHeap) [8, 34, 35, 36, 37, 38, 39, 40, 41, 42, 43, 44, 45, 46] (fun ⟨m, hM⟩ => [(8, some (.int .i64 (m : Nat)))]) (fun ⟨m, hM⟩ => [hM]) (fun ⟨m, hM⟩ => m ≤ n ∧ (0 < n → 0 < m) ∧ OArr v30 encI 1 3 hM (List.replicate m x ++ List.replicate (n - m) 0)) (fun ⟨m, hM⟩ => n - m) (min 1 n, h33) [h33] rfl ⟨by omega, by omega, by have := O33; rw [repeat_first] at this; exact this⟩ (.c rfl (.base 0 rfl rfl)) ?_
   rintro ⟨m, hM⟩ ⟨hm, hm0, OM⟩ ih0
   dsimp only [lcA, lnA] at ih0 ⊢
   have hlm : (List.replicate m x ++ List.replicate (n - m) 0).length = n := by rw [List.length_append, List.length_replicate, List.length_replicate]; omega
   have hmm : min (((List.replicate m x ++ List.replicate (n - m) (0 : Int)).drop 0).take (m - 0)).length ((List.replicate m x ++ List.replicate (n - m) (0 : Int)).length - m) = min m (n - m) := by
    rw [hlm, List.drop_zero, List.length_take, hlm]; omega
   refine XK.seq (XK.seq (XK.region rfl (XO.q (Q.move rfl) (XO.q (Q.move rfl) ?_))))
   refine XO.len rfl fun l36 => ?_
   refine XO.q (Q.lss rfl rfl) ?_
   refine XO.done ?_
   refine XK.if rfl (fun c2 => ?_) (fun c2 => ?_)
   ·skip
    refine XK.skip (XK.block ?_)
    refine XK.drawn [0, 1, 2, 3, 4, 5, 6, 8, 9] [] [] (.q 0 (.q 1 (.q 2 (.q 3 (.q 4 (.q 5 (.q 6 (.br 7 true (.q 8 (.q 9 .done)) .stop)))))))) Tryz.mixed rfl (by kernel_rfl) ?_
    refine XT.q rfl rfl (Q.move rfl) ?_
    refine XT.q rfl rfl (Q.move rfl) ?_
    refine XT.q rfl rfl (Q.move rfl) ?_
    refine XT.q rfl rfl (Q.tail (i := m) rfl (.s rfl (by omega)) (by omega)) ?_
    refine XT.q rfl rfl (Q.move rfl) ?_
    refine XT.q rfl rfl (Q.move rfl) ?_
    refine XT.q rfl rfl (Q.cut (i := 0) (j := m) rfl .n (.s rfl (by omega)) (by omega) (by omega)) ?_
    have A44 := Arr.cut (v := v30) (i := 0) (j := m) inferInstance (by omega) (by omega)
    refine XT.copy rfl rfl rfl rfl rfl (by omega) (fun h45 O45 => ⟨inferInstance, ?_⟩) XT.stop
    rw [hmm]
    refine XT.q rfl rfl (Q.add rfl rfl ⟨by omega, by omega⟩) ?_
    rw [show ((m : Int) + ((min m (n - m) : Nat) : Int)) = ((m + min m (n - m) : Nat) : Int) from rfl]
    refine XT.q rfl rfl (Q.assign rfl) ?_
    refine XT.done ?_
    refine XK.inBlock ?_
    exact ih0 (m + min m (n - m), h45) _ _ ⟨by omega, by omega, by have := O45; rw [repeat_step x 0 hm] at this; exact this⟩ (by first | omega | (dsimp only; omega)) (.c rfl (.base 29 rfl rfl)) inferInstance
   ·skip
    refine XK.exit rfl ?_
    refine XK.seq (XK.region rfl (XO.q (Q.move rfl) (XO.q (Q.assign rfl) (XO.done ?_))))
    refine XK.rt [hM] Tryz.func100 Tryz.results100 (.t rfl .n) ?_
    have hmn : m = n := by omega
    subst hmn
    exact ⟨hM, rfl, by simpa using OM⟩
end Go.X.Ke

set_option linter.unusedSimpArgs false
set_option maxRecDepth 20000
set_option linter.unusedVariables false
namespace Go.X.Ke
open Go.Proofs
theorem cloneB (v : Value) (h : PHeap) (xs : List Bool) [s : Arr v encB 1 h xs] (hl : xs.length ≤ 68719476736) :
  Spec Tryz.prog 99 #[v] [] [h] (fun v' hs => ∃ h', hs = [h'] ∧ OArr v' encB 1 4 h' xs) := by
 refine Spec.intro (fn := Tryz.f99) (N := 8) Tryz.func99 rfl Tryz.ntmps99 rfl fun B => ?_
 refine XK.seq (XK.region rfl (XO.q (Q.assign rfl) (XO.done (XK.seq (XK.seq ?_)))))
 refine XK.region rfl (XO.q (Q.move rfl) ?_)
 refine XO.eqNil rfl fun z4 hz4 => ?_
 refine XO.done ?_
 refine XK.if rfl (fun c0 => ?_) (fun c0 => ?_)
 ·skip
  refine XK.seq (XK.region rfl (XO.q (Q.assign rfl) (XO.done ?_)))
  refine XK.rt [emp] Tryz.func99 Tryz.results99 (.t rfl .n) ?_
  exact ⟨emp, rfl, by rw [(hz4 c0).1]; exact OArr.nil (fun _ => rfl)⟩
 ·skip
  refine XK.skip (XK.seq (XK.region rfl ?_))
  refine XO.lit [] [] [] encB (by rfl) (by rfl) rfl (by rfl) (by exact .n _) (fun _ => rfl) (by rfl) rfl (by infer_instance) rfl fun v5 h5 O5 => ?_
  refine XO.q (Q.move rfl) ?_
  refine XO.append rfl rfl rfl rfl (by first | omega | (simp; omega)) fun v7 h7 O7 => ?_
  refine XO.q (Q.assign rfl) (XO.done ?_)
  refine XK.rt [h7] Tryz.func99 Tryz.results99 (.t rfl .n) ?_
  exact ⟨h7, rfl, O7⟩
theorem cloneI (v : Value) (h : PHeap) (xs : List Int) [s : Arr v encI 1 h xs] (hl : xs.length ≤ 68719476736) :
  Spec Tryz.prog 59 #[v] [] [h] (fun v' hs => ∃ h', hs = [h'] ∧ OArr v' encI 1 3 h' xs) := by apply Go.X.Bk.cloneI <;> assumption
theorem equalI (v1 v2 : Value) (h1 h2 : PHeap) (xs ys : List Int) [s1 : Arr v1 encI 1 h1 xs] [s2 : Arr v2 encI 1 h2 ys] :
  Spec Tryz.prog 35 #[v1, v2] [] [h1, h2] (fun v hs => v = .bool (decide (xs = ys)) ∧ hs = []) := by apply Go.X.Bk.equalI <;> assumption
end Go.X.Ke

set_option linter.unusedSimpArgs false
set_option maxRecDepth 20000
set_option linter.unusedVariables false
namespace Go.X.Ke
open Go.Proofs
theorem indexFuncI (v : Value) (h : PHeap) (xs : List Int) [s : Arr v encI 1 h xs] (gid : FuncId) (cap : List Value) (Hr : List PHeap) (p : Int → Bool)
  (hc : ∀ args w, (callFunc gid args).run Tryz.prog w = .ok (.enter gid args) w) (hS : ∀ x ∈ xs, Spec Tryz.prog gid (.int .i64 x :: cap).toArray [] Hr (fun v hs => v = .bool (p x) ∧ hs = [])) :
  Spec Tryz.prog 159 #[v, .func (.func gid) #[] cap.toArray] [] (h :: Hr) (fun v hs => v = .int .i64 (findFirst p xs) ∧ hs = []) := by apply Go.X.Bk.indexFuncI <;> assumption
theorem containsFuncI (v : Value) (h : PHeap) (xs : List Int) [s : Arr v encI 1 h xs] (gid : FuncId) (cap : List Value) (Hr : List PHeap) (p : Int → Bool)
  (hc : ∀ args w, (callFunc gid args).run Tryz.prog w = .ok (.enter gid args) w) (hS : ∀ x ∈ xs, Spec Tryz.prog gid (.int .i64 x :: cap).toArray [] Hr (fun v hs => v = .bool (p x) ∧ hs = [])) :
  Spec Tryz.prog 97 #[v, .func (.func gid) #[] cap.toArray] [] (h :: Hr) (fun v hs => v = .bool (xs.any p) ∧ hs = []) := by apply Go.X.Bk.containsFuncI <;> assumption
end Go.X.Ke

set_option linter.unusedSimpArgs false
set_option maxRecDepth 20000
set_option linter.unusedVariables false
namespace Go.X.Ke
open Go.Proofs
theorem check1 (b T : Nat) (n x : Int) (cs : List Value) : Spec Tryz.prog 98 #[.int .i64 x, ptr b 0] [] [blk b (.int .i64 n :: cs) T] (fun v hs => v = .bool (decide (x < -1) || decide (n ≤ x)) ∧ hs = []) := by
 refine Spec.intro (fn := Tryz.f98) (N := 12) Tryz.func98 rfl Tryz.ntmps98 rfl fun B => ?_
 refine XK.seq (XK.region rfl (XO.q (Q.assign rfl) (XO.done (XK.seq (XK.region rfl ?_)))))
 refine XO.q (Q.move rfl) ?_
 refine XO.q (Q.lss rfl rfl) ?_
 refine XO.q (Q.move rfl) ?_
 refine XO.q (Quiet.guardF rfl rfl fun g7 p7 => Q.move rfl) ?_
 refine XO.q (Quiet.guardF rfl rfl fun g8 p8 => Q.fieldAddr rfl) ?_
 refine XO.q (Quiet.guardF rfl rfl fun g9 p9 => Q.ld (lzv g9 rfl) rfl) ?_
 refine XO.q (Quiet.guardF rfl rfl fun g10 p10 => Q.geq (lzv g10 rfl) (lzv g10 rfl)) ?_
 refine XO.q (Q.or rfl (fun hp => lzv hp rfl)) ?_
 refine XO.q (Q.assign rfl) (XO.done ?_)
 refine XK.rt [] Tryz.func98 Tryz.results98 (.t rfl .n) ?_
 exact ⟨rfl, rfl⟩
theorem check (g : G) (vn vg : Value) (hn hg : PHeap) [sn : Arr vn encI 1 hn g.next] [sg : Arr vg encB 1 hg g.good] : Spec Tryz.prog 44 #[.agg #[.int .i64 g.S, .int .i64 g.C, .int .i64 g.K, vn, vg]] [] [hn, hg] (fun v hs => v = .int .i64 (gcheck g) ∧ hs = []) := by
 refine Spec.intro (fn := Tryz.f44) (N := 58) Tryz.func44 rfl Tryz.ntmps44 rfl fun B => ?_
 refine XK.seq (XK.region rfl ?_)
 refine XO.box rfl fun b1 => ?_
 refine XO.q (Q.assign rfl) (XO.done (XK.seq (XK.block (XK.seq (XK.region rfl ?_)))))
 refine XO.q (Q.fieldAddr rfl) ?_
 refine XO.q (Q.ld rfl rfl) ?_
 refine XO.q (Q.lss rfl rfl) ?_
 refine XO.q (Q.move rfl) ?_
 refine XO.q (Quiet.guardF rfl rfl fun g8 p8 => Q.fieldAddr rfl) ?_
 refine XO.q (Quiet.guardF rfl rfl fun g9 p9 => Q.ld (lzv g9 rfl) rfl) ?_
 refine XO.q (Quiet.guardF rfl rfl fun g10 p10 => Q.gtr (lzv g10 rfl) rfl) ?_
 refine XO.q (Q.or rfl (fun hp => lzv hp rfl)) ?_
 refine XO.q (Q.move rfl) ?_
 refine XO.q (Quiet.guardF rfl rfl fun g13 p13 => Q.fieldAddr rfl) ?_
 refine XO.q (Quiet.guardF rfl rfl fun g14 p14 => Q.ld (lzv g14 rfl) rfl) ?_
 refine XO.q (Quiet.guardF rfl rfl fun g15 p15 => Q.lss (lzv g15 rfl) rfl) ?_
 refine XO.q (Q.or rfl (fun hp => lzv hp rfl)) ?_
 refine XO.q (Q.move rfl) ?_
 refine XO.q (Quiet.guardF rfl rfl fun g18 p18 => Q.fieldAddr rfl) ?_
 refine XO.q (Quiet.guardF rfl rfl fun g19 p19 => Q.ld (lzv g19 rfl) rfl) ?_
 refine XO.q (Quiet.guardF rfl rfl fun g20 p20 => Q.gtr (lzv g20 rfl) rfl) ?_
 refine XO.q (Q.or rfl (fun hp => lzv hp rfl)) ?_
 refine XO.q (Q.move rfl) ?_
 refine XO.q (Quiet.guardF rfl rfl fun g23 p23 => Q.fieldAddr rfl) ?_
 refine XO.q (Quiet.guardF rfl rfl fun g24 p24 => Q.ld (lzv g24 rfl) rfl) ?_
 refine XO.q (Quiet.guardF rfl rfl fun g25 p25 => Q.lss (lzv g25 rfl) rfl) ?_
 refine XO.q (Q.or rfl (fun hp => lzv hp rfl)) ?_
 refine XO.q (Q.move rfl) ?_
 refine XO.q (Quiet.guardF rfl rfl fun g28 p28 => Q.fieldAddr rfl) ?_
 refine XO.q (Quiet.guardF rfl rfl fun g29 p29 => Q.ld (lzv g29 rfl) rfl) ?_
 refine XO.q (Quiet.guardF rfl rfl fun g30 p30 => Q.gtr (lzv g30 rfl) rfl) ?_
 refine XO.q (Q.or rfl (fun hp => lzv hp rfl)) ?_
 refine XO.q (Q.assign rfl) (XO.done ?_)
 refine XK.if rfl (fun c0 => ?_) (fun c0 => ?_)
 ·skip
  refine XK.seq (XK.region rfl (XO.q (Q.assign rfl) (XO.done ?_)))
  refine XK.rt [] Tryz.func44 Tryz.results44 (.t rfl .n) ?_
  exact ⟨by rw [gcheck, if_pos (by omega)], rfl⟩
 ·skip
  have hb := g_bd c0
  refine XK.seq (XK.region rfl ?_)
  refine XO.q (Q.fieldAddr rfl) ?_
  refine XO.q (Q.ld rfl rfl) ?_
  refine XO.len rfl fun l35 => ?_
  refine XO.q (Q.fieldAddr rfl) ?_
  refine XO.q (Q.ld rfl rfl) ?_
  refine XO.q (Q.fieldAddr rfl) ?_
  refine XO.q (Q.ld rfl rfl) ?_
  refine XO.q (Q.mul rfl rfl ⟨by omega, by omega⟩) ?_
  refine XO.q (Q.fieldAddr rfl) ?_
  refine XO.q (Q.ld rfl rfl) ?_
  refine XO.q (Q.mul rfl rfl ⟨by omega, by omega⟩) ?_
  refine XO.q (Q.neq rfl rfl) ?_
  refine XO.q (Q.move rfl) ?_
  refine XO.q (Quiet.guardF rfl rfl fun g46 p46 => Q.fieldAddr rfl) ?_
  refine XO.q (Quiet.guardF rfl rfl fun g47 p47 => Q.ld (lzv g47 rfl) rfl) ?_
  refine XO.q (Quiet.guardF rfl rfl fun g48 p48 => Q.len (lzv g48 rfl)) ?_
  refine XO.q (Quiet.guardF rfl rfl fun g49 p49 => Q.fieldAddr rfl) ?_
  refine XO.q (Quiet.guardF rfl rfl fun g50 p50 => Q.ld (lzv g50 rfl) rfl) ?_
  refine XO.q (Quiet.guardF rfl rfl fun g51 p51 => Q.neq (lzv g51 rfl) (lzv g51 rfl)) ?_
  refine XO.q (Q.or rfl (fun hp => lzv hp rfl)) ?_
  refine XO.q (Q.assign rfl) (XO.done ?_)
  refine XK.if rfl (fun c1 => ?_) (fun c1 => ?_)
  ·skip
   refine XK.seq (XK.region rfl (XO.q (Q.assign rfl) (XO.done ?_)))
   refine XK.rt [] Tryz.func44 Tryz.results44 (.t rfl .n) ?_
   exact ⟨by rw [gcheck, if_neg (by omega), if_pos (by omega)], rfl⟩
  ·skip
   refine XK.seq (XK.region rfl ?_)
   refine XO.q (Q.fieldAddr rfl) ?_
   refine XO.q (Q.ld rfl rfl) ?_
   refine XO.q (Q.func (fun _ he => rfl) (fun _ he => evs_rel he rfl)) ?_
   refine XO.call Tryz.call97 rfl rfl rfl (containsFuncI vn hn g.next 98 [ptr b1 0] [blk b1 [.int .i64 g.S, .int .i64 g.C, .int .i64 g.K, vn, vg] 42] _ Tryz.call98 (fun x _ => check1 b1 42 g.S x _)) fun v57 s57 R57 => ?_
   obtain ⟨rfl, rfl⟩ := R57
   dsimp only [lcA, lnA]
   refine XO.q (Q.assign rfl) (XO.done ?_)
   refine XK.if rfl (fun c2 => ?_) (fun c2 => ?_)
   ·skip
    refine XK.seq (XK.region rfl (XO.q (Q.assign rfl) (XO.done ?_)))
    refine XK.rt [] Tryz.func44 Tryz.results44 (.t rfl .n) ?_
    exact ⟨by rw [gcheck, if_neg (by omega), if_neg (by omega), if_pos c2], rfl⟩
   ·skip
    refine XK.skip ?_
    refine XK.inBlock ?_
    refine XK.seq (XK.region rfl (XO.q (Q.assign rfl) (XO.done ?_)))
    refine XK.rt [] Tryz.func44 Tryz.results44 (.t rfl .n) ?_
    exact ⟨by rw [gcheck, if_neg (by omega), if_neg (by omega), if_neg c2], rfl⟩
theorem leads_spec (S C K : Nat) (next : List Int) (good : List Bool) (ok : Ok S C K next good) (vn vg : Value) (hn : PHeap) [sn : Arr vn encI 1 hn next] (s u : Nat) (hs : s < S) (hu : u < C) : Spec Tryz.prog 102 #[.agg #[.int .i64 (S : Nat), .int .i64 (C : Nat), .int .i64 (K : Nat), vn, vg], .int .i64 (s : Nat), .int .i64 (u : Nat)] [] [hn]
  (fun v hs => hs = [] ∧ Arr v encI 1 hn (leads next C K s u)) := by
 have hb := ok.sc
 have hl := lead_le (K := K) hs hu
 have hlen := ok.len
 have hz := lead_int s u C K
 refine Spec.intro (fn := Tryz.f102) (N := 25) Tryz.func102 rfl Tryz.ntmps102 rfl fun B => ?_
 refine XK.seq (XK.region rfl ?_)
 refine XO.box rfl fun b3 => ?_
 refine XO.q (Q.assign rfl) (XO.done (XK.seq (XK.region rfl (XO.q (Q.move rfl) ?_))))
 refine XO.q (Q.fieldAddr rfl) ?_
 refine XO.q (Q.ld rfl rfl) ?_
 refine XO.q (Q.mul rfl rfl ⟨by omega, by omega⟩) ?_
 refine XO.q (Q.move rfl) ?_
 refine XO.q (Q.add rfl rfl ⟨by omega, by omega⟩) ?_
 refine XO.q (Q.fieldAddr rfl) ?_
 refine XO.q (Q.ld rfl rfl) ?_
 refine XO.q (Q.mul rfl rfl ⟨by omega, by omega⟩) ?_
 refine XO.q (Q.assign rfl) (XO.done (XK.seq (XK.region rfl ?_)))
 refine XO.q (Q.fieldAddr rfl) ?_
 refine XO.q (Q.ld rfl rfl) ?_
 refine XO.q (Q.move rfl) (XO.q (Q.move rfl) ?_)
 refine XO.q (Q.fieldAddr rfl) ?_
 refine XO.q (Q.ld rfl rfl) ?_
 refine XO.q (Q.add rfl rfl ⟨by omega, by omega⟩) ?_
 refine XO.cut (i := (s * C + u) * K) (j := (s * C + u) * K + K) rfl (.s rfl (by omega)) (.s rfl (by omega)) (by omega) (by omega) fun v24 A24 => ?_
 refine XO.q (Q.assign rfl) (XO.done ?_)
 refine XK.rt [] Tryz.func102 Tryz.results102 (.t rfl .n) ?_
 exact ⟨rfl, by rw [Nat.add_sub_cancel_left] at A24; exact A24⟩
end Go.X.Ke

set_option linter.unusedSimpArgs false
set_option maxRecDepth 20000
set_option linter.unusedVariables false
set_option maxRecDepth 3000
namespace Go.X.Ke
open Go.Proofs
theorem keeps1 (b : Nat) (vi vc vr : Value) (hi : PHeap) (ins : List Bool) [si : Arr vi encB 1 hi ins] (x : Int) (hx : x < ins.length) : Spec Tryz.prog 103 #[.int .i64 x, ptr b 0] [] [blk b [vi, vc, vr] 48, hi]
  (fun v hs => v = .bool (bad ins x) ∧ hs = []) := by
 refine Spec.intro (fn := Tryz.f103) (N := 14) Tryz.func103 rfl Tryz.ntmps103 rfl fun B => ?_
 refine XK.seq (XK.region rfl (XO.q (Q.assign rfl) (XO.done (XK.seq (XK.region rfl ?_)))))
 refine XO.q (Q.move rfl) ?_
 refine XO.q (Q.lss rfl rfl) ?_
 refine XO.q (Q.move rfl) ?_
 refine XO.q (Quiet.guardF rfl rfl fun g7 p7 => Q.fieldAddr rfl) ?_
 refine XO.q (Quiet.guardF rfl rfl fun g8 p8 => Q.ld (lzv g8 rfl) rfl) ?_
 refine XO.q (Quiet.guardF rfl rfl fun g9 p9 => Q.move rfl) ?_
 refine XO.q (Quiet.guardF rfl rfl fun g10 p10 => Q.ix (lzv g10 rfl) (lzv g10 rfl) (by omega) (by omega)) ?_
 refine XO.q (Quiet.guardF rfl rfl fun g11 p11 => Q.ldE (lzv g11 rfl) (by first | assumption | omega) rfl) ?_
 refine XO.q (Quiet.guardF rfl rfl fun g12 p12 => Q.not (lzv g12 rfl)) ?_
 refine XO.q (Q.or rfl (fun hp => lzv hp rfl)) ?_
 refine XO.q (Q.assign rfl) (XO.done ?_)
 refine XK.rt [] Tryz.func103 Tryz.results103 (.t rfl .n) ?_
 exact ⟨rfl, rfl⟩
theorem keeps_spec (S C K : Nat) (next : List Int) (good : List Bool) (ok : Ok S C K next good) (vn vg : Value) (hn : PHeap) [sn : Arr vn encI 1 hn next] (vi vc vr : Value) (hi : PHeap) (ins : List Bool) [si : Arr vi encB 1 hi ins] [oc : One vc] [orr : One vr] (hlen : ins.length = S) (s u : Nat) (hs : s < S) (hu : u < C) :
  Spec Tryz.prog 46 #[.agg #[vi, vc, vr], .agg #[.int .i64 (S : Nat), .int .i64 (C : Nat), .int .i64 (K : Nat), vn, vg], .int .i64 (s : Nat), .int .i64 (u : Nat)] [] [hn, hi] (fun v hs => v = .bool (keepsP next C K ins s u) ∧ hs = []) := by
 have hmem : ∀ x ∈ leads next C K s u, x < ins.length := fun x hx => by
  have := ok.inr x (List.mem_of_mem_drop (List.mem_of_mem_take hx))
  omega
 refine Spec.intro (fn := Tryz.f46) (N := 16) Tryz.func46 rfl Tryz.ntmps46 rfl fun B => ?_
 refine XK.seq (XK.region rfl ?_)
 refine XO.box rfl fun b4 => ?_
 refine XO.box rfl fun b5 => ?_
 refine XO.q (Q.assign rfl) (XO.done (XK.seq (XK.region rfl ?_)))
 refine XO.q (Q.ldA [_, _, _, _, _] rfl rfl rfl) ?_
 refine XO.q (Q.move rfl) (XO.q (Q.move rfl) ?_)
 refine XO.call Tryz.call102 rfl rfl rfl (leads_spec S C K next good ok vn vg hn s u hs hu) fun v12 s12 R12 => ?_
 obtain ⟨rfl, A12⟩ := R12
 dsimp only [lcA, lnA]
 refine XO.q (Q.func (fun _ he => rfl) (fun _ he => evs_rel he rfl)) ?_
 refine XO.call Tryz.call97 rfl rfl rfl (containsFuncI v12 hn (leads next C K s u) 103 [ptr b4 0] [blk b4 [vi, vc, vr] 48, hi] _ Tryz.call103 (fun x hx => keeps1 b4 vi vc vr hi ins x (hmem x hx))) fun v14 s14 R14 => ?_
 obtain ⟨rfl, rfl⟩ := R14
 dsimp only [lcA, lnA]
 refine XO.q (Q.not rfl) ?_
 refine XO.q (Q.assign rfl) (XO.done ?_)
 refine XK.rt [] Tryz.func46 Tryz.results46 (.t rfl .n) ?_
 exact ⟨rfl, rfl⟩
theorem safe1 (b : Nat) (vi vc vr : Value) (hi : PHeap) (ins : List Bool) [si : Arr vi encB 1 hi ins] :
  It Tryz.prog (.func (.func 161) #[] #[ptr b 0]) ((insL ins).map fun s => [.int .i64 (s : Nat)]) [blk b [vi, vc, vr] 48, hi] := by
 intro f Hr QQ X hy q hq
 have hcl : ∀ args w, (callFunc 161 args).run Tryz.prog w = .ok (.enter 161 args) w := Tryz.call161
 have hap : [] ++ [f] ++ [ptr b 0] = [f, ptr b 0] := rfl
 refine VSpec.fn (P := Tryz.prog) (g := 161) (fst := []) (vs := [f]) (cap := [ptr b 0]) (A := [f, ptr b 0]) (Hm := [q]) hcl hap ?_
 dsimp only [lcA, lnA]
 have hle := si.le
 rw [List.length_map] at *
 have hcall : ∀ s, s < ins.length → ins.getD s default = true → ∀ q, QQ ((List.range s).filter fun s => ins.getD s false).length q →
   VSpec Tryz.prog f [.int .i64 (s : Nat)] [q] Hr (fun v hs => ∃ bb q', v = .bool bb ∧ hs = [q'] ∧ (bb = true → QQ (((List.range s).filter fun s => ins.getD s false).length + 1) q') ∧ (bb = false → X q')) := by
  intro s hs hp q hq
  obtain ⟨h1, h2⟩ := filter_at (p := fun s => ins.getD s false) hs hp
  have := hy _ (by exact h1) q hq
  rw [List.getD_eq_getElem?_getD, List.getElem?_map] at this
  unfold insL at this
  rw [h2] at this
  exact this
 refine Spec.intro (fn := Tryz.f161) (N := 21) Tryz.func161 rfl Tryz.ntmps161 rfl fun B => ?_
 refine XK.seq (XK.region rfl ?_)
 refine XO.q (Q.fieldAddr rfl) ?_
 refine XO.q (Q.ld rfl rfl) ?_
 refine XO.len rfl fun l7 => ?_
 refine XO.q (Q.move rfl) (XO.done (XK.block ?_))
 refine XK.while (X := Nat × PHeap) [3, 4, 8, 9, 10, 11, 12, 13, 14, 15, 16, 17, 18, 19, 20] (fun ⟨s, q1⟩ => [(8, some (.int .i64 (s : Nat)))]) (fun ⟨s, q1⟩ => [q1]) (fun ⟨s, q1⟩ => s ≤ ins.length ∧ QQ ((List.range s).filter fun s => ins.getD s false).length q1) (fun ⟨s, q1⟩ => ins.length - s) (0, q) [q] rfl ⟨by omega, hq⟩ (.c rfl (.base 0 rfl rfl)) ?_
 rintro ⟨s, q1⟩ ⟨hs, hQ⟩ ih0
 dsimp only [lcA, lnA] at ih0 ⊢
 refine XK.seq (XK.region rfl ?_)
 refine XO.q (Q.lss rfl rfl) ?_
 refine XO.done (XK.seq ?_)
 refine XK.if rfl (fun c0 => ?_) (fun c0 => ?_)
 ·skip
  refine XK.skip (XK.seq (XK.block (XK.seq (XK.region rfl (XO.q (Q.move rfl) ?_)))))
  refine XO.ix rfl rfl (by omega) (by omega) fun i11 => ?_
  refine XO.q (Q.ldE rfl (by first | assumption | omega) rfl) ?_
  refine XO.q (Q.assign rfl) (XO.q (Q.assign rfl) (XO.done (XK.seq (XK.region rfl (XO.q (Q.move rfl) ?_)))))
  refine XO.q (Q.move rfl) ?_
  refine XO.q (Quiet.guardT rfl rfl fun g15 p15 => Q.move rfl) ?_
  refine XO.q (Quiet.guardT rfl rfl fun g16 p16 => Q.move rfl) ?_
  refine XO.gvcall rfl rfl (fun g17 => lzv g17 rfl) (fun g17 => .c (lzv g17 rfl) .n) (fun g17 => hcall s (by omega) g17 q1 hQ) (fun g17 v17 s17 R17 => ?_) (fun g17 => ?_)
  ·have _tb := True.intro
   obtain ⟨bb, q2, rfl, rfl, hT, hF⟩ := R17
   dsimp only [lcA, lnA]
   refine XO.q (Quiet.guardT rfl rfl fun g18 p18 => Q.not rfl) ?_
   refine XO.q (Q.and rfl (fun hp => lzv hp rfl)) ?_
   refine XO.done ?_
   refine XK.if rfl (fun c1 => ?_) (fun c1 => ?_)
   ·skip
    refine XK.rt [q2] Tryz.func161 Tryz.results161 (.n) ?_
    exact ⟨q2, rfl, .inr (hF (by cases bb <;> simp_all))⟩
   ·skip
    refine XK.skip ?_
    refine XK.inBlock ?_
    refine XK.region rfl ?_
    refine XO.q (Q.add rfl rfl ⟨by omega, by omega⟩) ?_
    refine XO.q (Q.move rfl) (XO.done ?_)
    exact ih0 (s + 1, q2) _ _ (by refine ⟨by dsimp only; omega, ?_⟩; dsimp only; rw [filter_succ, if_pos (show ins.getD s false = true from g17)]; refine hT ?_; cases bb <;> simp_all) (by first | omega | (dsimp only; omega)) (.c rfl (.base 31 rfl rfl)) inferInstance
  ·have _tb := True.intro
   refine XO.q (Quiet.guardT (v := .bool false) rfl rfl fun g18 p18 => absurd g18 g17) ?_
   refine XO.q (Q.and rfl (fun hp => lzv hp rfl)) ?_
   refine XO.done ?_
   refine XK.if rfl (fun c2 => ?_) (fun c2 => ?_)
   ·skip
    refine XK.rt [q1] Tryz.func161 Tryz.results161 (.n) ?_
    exact absurd c2.1 g17
   ·skip
    refine XK.skip ?_
    refine XK.inBlock ?_
    refine XK.region rfl ?_
    refine XO.q (Q.add rfl rfl ⟨by omega, by omega⟩) ?_
    refine XO.q (Q.move rfl) (XO.done ?_)
    exact ih0 (s + 1, q1) _ _ (by refine ⟨by dsimp only; omega, ?_⟩; dsimp only; rw [filter_succ, if_neg (show ¬ ins.getD s false = true from g17)]; exact hQ) (by first | omega | (dsimp only; omega)) (.c rfl (.base 31 rfl rfl)) inferInstance
 ·skip
  refine XK.exit rfl ?_
  refine XK.fn [q1] Tryz.func161 Tryz.results161 (.n) ?_
  have hss : s = ins.length := by omega
  subst hss
  exact ⟨q1, rfl, .inl hQ⟩
theorem safe_spec (vi vc vr : Value) [oi : One vi] [oc : One vc] [orr : One vr] : Spec Tryz.prog 101 #[.agg #[vi, vc, vr]] [] [] (fun v hs => ∃ b, v = .func (.func 161) #[] #[ptr b 0] ∧ hs = [blk b [vi, vc, vr] 48]) := by
 refine Spec.intro (fn := Tryz.f101) (N := 4) Tryz.func101 rfl Tryz.ntmps101 rfl fun B => ?_
 refine XK.seq (XK.region rfl ?_)
 refine XO.box rfl fun b1 => ?_
 refine XO.q (Q.assign rfl) (XO.done (XK.seq (XK.region rfl ?_)))
 refine XO.q (Q.func (fun _ he => rfl) (fun _ he => evs_rel he rfl)) ?_
 refine XO.q (Q.assign rfl) (XO.done ?_)
 refine XK.rt [blk b1 [vi, vc, vr] 48] Tryz.func101 Tryz.results101 (.t rfl .n) ?_
 exact ⟨b1, rfl, rfl⟩
end Go.X.Ke

set_option linter.unusedSimpArgs false
set_option maxRecDepth 20000
set_option linter.unusedVariables false
set_option maxRecDepth 20000
namespace Go.X.Ke
open Go.Proofs
theorem solve_spec (S C K : Nat) (next : List Int) (good : List Bool) (ok : Ok S C K next good) (vn vg : Value) (hn : PHeap) [sn : Arr vn encI 1 hn next] (hg : PHeap) [sg : Arr vg encB 1 hg good] : Spec Tryz.prog 45 #[.agg #[.int .i64 (S : Nat), .int .i64 (C : Nat), .int .i64 (K : Nat), vn, vg]] [] [hn, hg]
  (fun v hs => ∃ v1 v2 v3 k1 k2 k3, v = .agg #[v1, v2, v3] ∧ hs = [k1, k2, k3] ∧ OArr v1 encB 1 4 k1 (solved S C K next good).1 ∧ OArr v2 encI 1 3 k2 (solved S C K next good).2.1 ∧ OArr v3 encI 1 3 k3 (solved S C K next good).2.2) := by
 refine Spec.intro (fn := Tryz.f45) (N := 87) Tryz.func45 rfl Tryz.ntmps45 rfl fun B => ?_
 have hnil : OArr (.slice none 0 0) encI 1 3 emp ([] : List Int) := OArr.nil (fun _ => rfl)
 have okg := ok.glen
 have oks := ok.s2
 have hcg := List.count_le_length (a := true) (l := good)
 have okc2 := ok.c2
 refine XK.seq (XK.region rfl ?_)
 refine XO.box rfl fun b1 => ?_
 refine XO.alloc fun b2 => ?_
 refine XO.done ?_
 refine XK.scope ?_
 refine XK.seq ?_
 refine XK.meet (X := Nat × Value × PHeap × Value × PHeap × Value × PHeap) [3, 12, 13, 14, 15, 16, 17, 18, 19, 20, 21, 22] (fun ⟨b3, v14, h14, v18, h18, v21, h21⟩ => [(3, some (ptr b3 0))]) (fun ⟨b3, v14, h14, v18, h18, v21, h21⟩ => [blk b3 [v14, v18, v21] 48, h14, h18, h21]) (fun ⟨b3, v14, h14, v18, h18, v21, h21⟩ => OArr v14 encB 1 4 h14 good ∧ OArr v18 encI 1 3 h18 (List.replicate S (-1)) ∧ OArr v21 encI 1 3 h21 (List.replicate S 0)) [] ?_ ?_
 ·rintro ⟨b3, v14, h14, v18, h18, v21, h21⟩ ⟨O14, O18, O21⟩
  dsimp only [lcA, lnA]
  refine XK.seq (XK.region rfl ?_)
  refine XO.q (Q.ldA [_, _, _] rfl rfl rfl) ?_
  refine XO.q (Q.func (fun _ he => evs_rel he rfl) (fun _ he => rfl)) ?_
  refine XO.alloc fun b4 => ?_
  refine XO.st rfl rfl rfl ?_
  refine XO.done (XK.seq ?_)
  refine XK.label ?_
  refine XK.seq (XK.seq (XK.region rfl (XO.q (Q.assign rfl) (XO.done (XK.block ?_)))))
  refine XK.while (X := Int × List Bool × PHeap × List Int × PHeap × List Int × PHeap) [5, 6, 7, 8, 10, 25, 26, 27, 28, 30, 31, 32, 33, 34, 35, 36, 37, 38, 39, 40, 41, 42, 43, 44, 45, 46, 47, 48, 49, 50, 51, 52, 53, 54, 55, 56, 57, 58, 59, 60, 61, 62, 63, 64, 65, 66, 67, 68, 69, 70, 71, 72, 73, 74, 75, 76, 77, 78] (fun ⟨rank, ins, hI, ctl, hC, rnk, hR⟩ => [(5, some (.int .i64 rank))]) (fun ⟨rank, ins, hI, ctl, hC, rnk, hR⟩ => [hI, hC, hR]) (fun ⟨rank, ins, hI, ctl, hC, rnk, hR⟩ => 1 ≤ rank ∧ rank + ins.count true ≤ 401 ∧ ins.length = S ∧ ctl.length = S ∧ rnk.length = S ∧ (∃ f, ins.count true < f ∧ rounds next C K f rank ins ctl rnk = rounds next C K (S + 1) 1 good (List.replicate S (-1)) (List.replicate S 0)) ∧ OArr v14 encB 1 4 hI ins ∧ OArr v18 encI 1 3 hC ctl ∧ OArr v21 encI 1 3 hR rnk) (fun ⟨rank, ins, hI, ctl, hC, rnk, hR⟩ => ins.count true) (1, good, h14, List.replicate S (-1), h18, List.replicate S 0, h21) [h14, h18, h21] rfl ⟨by omega, by omega, okg, by simp, by simp, ⟨S + 1, by omega, rfl⟩, O14, O18, O21⟩ (.c rfl (.base 0 rfl rfl)) ?_
  rintro ⟨rank, ins, hI, ctl, hC, rnk, hR⟩ ⟨hr1, hr2, hli, hlc, hlr, ⟨fu, hfu, hro⟩, OI, OC, OR⟩ ih0
  dsimp only [lcA, lnA] at ih0 ⊢
  refine XK.seq (XK.block (XK.seq (XK.region rfl ?_)))
  refine XO.alloc fun b6 => ?_
  refine XO.done (XK.seq (XK.seq (XK.region rfl ?_)))
  refine XO.q (Q.ldA [_, _, _] rfl rfl rfl) ?_
  refine XO.call Tryz.call101 rfl rfl rfl (safe_spec _ _ _) fun v28 s28 R28 => ?_
  obtain ⟨b28, rfl, rfl⟩ := R28
  dsimp only [lcA, lnA]
  refine XO.done (XK.block ?_)
  refine XK.range (X := List Int × PHeap × Value × PHeap) (ps := [29]) ((insL ins).map fun s => [Value.int .i64 ((s : Nat) : Int)]) (fun ⟨ctl2, hC2, vo, hO⟩ => [hC2, blk b6 [vo] 29, hO]) (fun i ⟨ctl2, hC2, vo, hO⟩ => ctl2 = ctlAt next C K ins ctl ((insL ins).take i) ∧ OArr v18 encI 1 3 hC2 ctl2 ∧ OArr vo encI 1 3 hO ((outsAt next C K ins ((insL ins).take i)).map fun s : Nat => (s : Int))) (fun _ _ => False) (ctl, hC, .slice none 0 0, emp) [hC, blk b6 [.slice none 0 0] 29, emp] rfl ⟨by simp [ctlAt], OC, by simpa [outsAt] using hnil⟩ rfl (safe1 b28 v14 v18 v21 hI ins) rfl (by intro i hi; rw [List.getD_eq_getElem?_getD, List.getElem?_eq_getElem hi]; simp) ?_ ?_ (fun _ _ hJ => hJ.elim)
  ·rintro lq rec B' i ⟨ctl2, hC2, vo, hO⟩ hi ⟨e2, OC2, OO⟩
   dsimp only [lcA, lnA]
   have hi2 : i < (insL ins).length := by rw [List.length_map] at hi; exact hi
   obtain ⟨s, hsL⟩ : ∃ s, (insL ins)[i]? = some s := ⟨_, List.getElem?_eq_getElem hi2⟩
   have hit : ((insL ins).map fun s => [Value.int .i64 ((s : Nat) : Int)]).getD i [] = [.int .i64 (s : Nat)] := by rw [List.getD_eq_getElem?_getD, List.getElem?_map, hsL]; rfl
   rw [hit]
   dsimp only [pars]
   obtain ⟨hsS, hsI⟩ := insL_mem hsL
   rw [hli] at hsS
   have hlc2 : ctl2.length = S := by rw [e2, ctlAt_len]; exact hlc
   have hol := outs_le (next := next) (C := C) (K := K) (ins := ins) (i := i)
   refine XK.region rfl (XO.q (Q.assign rfl) (XO.done ?_))
   refine XK.beginRound ?_
   refine XK.block (XK.seq (XK.region rfl ?_))
   refine XO.q (Q.fieldAddr rfl) ?_
   refine XO.q (Q.ld rfl rfl) ?_
   refine XO.q (Q.move rfl) ?_
   refine XO.ix rfl rfl (by omega) (by omega) fun i33 => ?_
   refine XO.stE _ rfl rfl rfl (by assumption) rfl rfl fun h8_4 O8_4 => ?_
   refine XO.done (XK.seq (XK.seq (XK.region rfl ?_)))
   refine XO.q (Q.fieldAddr rfl) ?_
   refine XO.q (Q.ld rfl rfl) ?_
   refine XO.q (Q.move rfl) (XO.done (XK.block ?_))
   refine XK.while (X := Nat) [8, 36, 37, 38, 39, 40, 41, 42, 43, 44, 45, 46, 47, 48, 49] (fun u => [(36, some (.int .i64 (u : Nat)))]) (fun u => []) (fun u => u ≤ C ∧ ∀ u2 < u, keepsP next C K ins s u2 = false) (fun u => C - u) (0) [] rfl ⟨by omega, fun _ h => by omega⟩ (.c rfl (.base 0 rfl rfl)) ?_
   rintro u ⟨hu, hno⟩ ih1
   dsimp only [lcA, lnA] at ih1 ⊢
   refine XK.seq (XK.region rfl ?_)
   refine XO.q (Q.lss rfl rfl) ?_
   refine XO.done (XK.seq ?_)
   refine XK.if rfl (fun c0 => ?_) (fun c0 => ?_)
   ·skip
    refine XK.skip (XK.seq (XK.block (XK.seq (XK.region rfl (XO.q (Q.move rfl) ?_)))))
    refine XO.q (Q.assign rfl) (XO.done (XK.seq (XK.region rfl ?_)))
    refine XO.q (Q.ld rfl rfl) ?_
    refine XO.q (Q.ldA [_, _, _, _, _] rfl rfl rfl) ?_
    refine XO.q (Q.move rfl) (XO.q (Q.move rfl) ?_)
    refine XO.call Tryz.call46 rfl rfl rfl (keeps_spec S C K next good ok vn vg hn v14 v18 v21 hI ins hli s u (by omega) (by omega)) fun v43 s43 R43 => ?_
    obtain ⟨rfl, rfl⟩ := R43
    dsimp only [lcA, lnA]
    refine XO.done ?_
    refine XK.if rfl (fun c1 => ?_) (fun c1 => ?_)
    ·skip
     refine XK.seq (XK.region rfl ?_)
     refine XO.q (Q.fieldAddr rfl) ?_
     refine XO.q (Q.ld rfl rfl) ?_
     refine XO.q (Q.move rfl) (XO.q (Q.move rfl) ?_)
     refine XO.ix rfl rfl (by omega) (by simp only [List.length_set]; omega) fun i48 => ?_
     refine XO.stE _ rfl rfl rfl (by assumption) rfl rfl fun h13_5 O13_5 => ?_
     refine XO.done ?_
     refine XK.exit rfl ?_
     refine XK.seq (XK.region rfl ?_)
     refine XO.q (Q.fieldAddr rfl) ?_
     refine XO.q (Q.ld rfl rfl) ?_
     refine XO.q (Q.move rfl) ?_
     refine XO.ix rfl rfl (by omega) (by simp only [List.length_set]; omega) fun i53 => ?_
     refine XO.q (Q.ldE rfl (by first | assumption | omega) rfl) ?_
     refine XO.q (Q.lss rfl rfl) ?_
     refine XO.done ?_
     refine XK.if rfl (fun c2 => ?_) (fun c2 => ?_)
     ·skip
      have hg : ((ctl2.set s (-1)).set s (u : Int)).getD s default = (u : Int) := by rw [List.getD_eq_getElem?_getD]; simp [hlc2, hsS]
      exact absurd c2 (by rw [hg]; omega)
     ·skip
      refine XK.skip ?_
      refine XK.inBlock ?_
      have hct := ctlOf_at (by omega) c1 hno
      exact XK.leave (j := none) [h13_5, blk b6 [vo] 29, hO] trivial ⟨((ctl2.set s (-1)).set s (u : Int), h13_5, vo, hO), ⟨by rw [take_snoc hsL, ctlAt_snoc, hct, ← e2, List.set_set], O13_5, by rw [take_snoc hsL, outs_no (by rw [hct]; omega)]; exact OO⟩, rfl⟩
    ·skip
     refine XK.skip ?_
     refine XK.inBlock ?_
     refine XK.region rfl ?_
     refine XO.q (Q.add rfl rfl ⟨by omega, by omega⟩) ?_
     refine XO.q (Q.move rfl) (XO.done ?_)
     exact ih1 (u + 1) _ _ ⟨by omega, fun u2 h2 => by rcases Nat.lt_or_ge u2 u with h3 | h3; exact hno u2 h3; rw [show u2 = u by omega]; simpa using c1⟩ (by first | omega | (dsimp only; omega)) (.c rfl (.base 26 rfl rfl)) inferInstance
   ·skip
    refine XK.exit rfl ?_
    refine XK.seq (XK.region rfl ?_)
    refine XO.q (Q.fieldAddr rfl) ?_
    refine XO.q (Q.ld rfl rfl) ?_
    refine XO.q (Q.move rfl) ?_
    refine XO.ix rfl rfl (by omega) (by simp only [List.length_set]; omega) fun i53 => ?_
    refine XO.q (Q.ldE rfl (by first | assumption | omega) rfl) ?_
    refine XO.q (Q.lss rfl rfl) ?_
    refine XO.done ?_
    refine XK.if rfl (fun c3 => ?_) (fun c3 => ?_)
    ·skip
     refine XK.region rfl ?_
     refine XO.q (Q.ld rfl rfl) ?_
     refine XO.q (Q.move rfl) ?_
     refine XO.lit [_] [_] [_] encI (by rfl) (by rfl) rfl (by rfl) (by exact .c 0 1 rfl rfl rfl (.n _)) (fun _ => rfl) (by rfl) rfl (by infer_instance) rfl fun v58 h58 O58 => ?_
     refine XO.append rfl rfl rfl rfl (by simp only [List.length_map, List.length_cons, List.length_nil]; omega) fun v59 h59 O59 => ?_
     refine XO.st rfl rfl rfl ?_
     refine XO.done ?_
     refine XK.inBlock ?_
     have hct := ctlOf_none (fun u2 h2 => hno u2 (by omega))
     exact XK.leave (j := none) [h8_4, blk b6 [v59] 29, h59] trivial ⟨(ctl2.set s (-1), h8_4, v59, h59), ⟨by rw [take_snoc hsL, ctlAt_snoc, hct, ← e2], O8_4, by rw [take_snoc hsL, outs_yes (by rw [hct]; omega), List.map_append]; exact O59⟩, rfl⟩
    ·skip
     have hg : (ctl2.set s (-1)).getD s default = -1 := by rw [List.getD_eq_getElem?_getD]; simp [hlc2, hsS]
     exact absurd (by rw [hg]; omega) c3
  ·rintro ⟨ctl2, hC2, vo, hO⟩ ⟨e2, OC2, OO⟩
   dsimp only [lcA, lnA]
   rw [List.length_map, List.take_length] at e2 OO
   refine XK.inBlock ?_
   refine XK.seq (XK.seq (XK.region rfl ?_))
   refine XO.q (Q.ld rfl rfl) ?_
   refine XO.len rfl fun l61 => ?_
   refine XO.q (Q.eql rfl rfl) ?_
   refine XO.done ?_
   refine XK.if rfl (fun c4 => ?_) (fun c4 => ?_)
   ·skip
    have h0 : (outsAt next C K ins (insL ins)).length = 0 := by rw [List.length_map] at c4; omega
    have hout := List.length_eq_zero_iff.1 h0
    obtain ⟨f2, rfl⟩ : ∃ f2, fu = f2 + 1 := ⟨fu - 1, by omega⟩
    rw [rounds, if_pos hout, ← e2] at hro
    refine XK.exit rfl ?_
    refine XK.seq (XK.seq (XK.region rfl ?_))
    refine XO.q (Q.ldA [_, _, _] rfl rfl rfl) ?_
    refine XO.call Tryz.call101 rfl rfl rfl (safe_spec _ _ _) fun v80 s80 R80 => ?_
    obtain ⟨b80, rfl, rfl⟩ := R80
    dsimp only [lcA, lnA]
    refine XO.done (XK.block ?_)
    refine XK.range (X := List Int × PHeap) (ps := [81]) ((insL ins).map fun s => [Value.int .i64 ((s : Nat) : Int)]) (fun ⟨rn2, hR2⟩ => [hR2]) (fun i ⟨rn2, hR2⟩ => rn2 = setAll rnk ((insL ins).take i) (-1) ∧ OArr v21 encI 1 3 hR2 rn2) (fun _ _ => False) (rnk, hR) [hR] rfl ⟨by simp [setAll], OR⟩ rfl (safe1 b80 v14 v18 v21 hI ins) rfl (by intro i hi; rw [List.getD_eq_getElem?_getD, List.getElem?_eq_getElem hi]; simp) ?_ ?_ (fun _ _ hJ => hJ.elim)
    ·rintro lq rec B' i ⟨rn2, hR2⟩ hi ⟨e3, OR2⟩
     dsimp only [lcA, lnA]
     have hi2 : i < (insL ins).length := by rw [List.length_map] at hi; exact hi
     obtain ⟨s, hsL⟩ : ∃ s, (insL ins)[i]? = some s := ⟨_, List.getElem?_eq_getElem hi2⟩
     have hit : ((insL ins).map fun s => [Value.int .i64 ((s : Nat) : Int)]).getD i [] = [.int .i64 (s : Nat)] := by rw [List.getD_eq_getElem?_getD, List.getElem?_map, hsL]; rfl
     rw [hit]
     dsimp only [pars]
     obtain ⟨hsS, hsI⟩ := insL_mem hsL
     rw [hli] at hsS
     have hlr2 : rn2.length = S := by rw [e3, setAll_len]; exact hlr
     refine XK.region rfl (XO.q (Q.assign rfl) (XO.done ?_))
     refine XK.beginRound ?_
     refine XK.block (XK.region rfl ?_)
     refine XO.q (Q.fieldAddr rfl) ?_
     refine XO.q (Q.ld rfl rfl) ?_
     refine XO.q (Q.move rfl) ?_
     refine XO.ix rfl rfl (by omega) (by omega) fun i85 => ?_
     refine XO.stE _ rfl rfl rfl (by assumption) rfl rfl fun h25_4 O25_4 => ?_
     refine XO.done ?_
     refine XK.inBlock ?_
     exact XK.leave (j := none) [h25_4] trivial ⟨(rn2.set s (-1), h25_4), ⟨by rw [take_snoc hsL, setAll_snoc, ← e3], O25_4⟩, rfl⟩
    ·rintro ⟨rn2, hR2⟩ ⟨e3, OR2⟩
     dsimp only [lcA, lnA]
     rw [List.length_map, List.take_length] at e3
     refine XK.inBlock ?_
     refine XK.seq (XK.region rfl ?_)
     refine XO.q (Q.ldA [_, _, _] rfl rfl rfl) ?_
     refine XO.st rfl rfl rfl ?_
     refine XO.done ?_
     refine XK.rt [hI, hC2, hR2] Tryz.func45 Tryz.results45 (.cell [_, _, _] rfl rfl rfl (.n)) ?_
     have hsol : solved S C K next good = (ins, ctl2, setAll rnk (insL ins) (-1)) := by unfold solved; rw [← hro]
     rw [hsol]
     exact ⟨v14, v18, v21, hI, hC2, hR2, rfl, rfl, OI, OC2, by rw [← e3]; exact OR2⟩
   ·skip
    have hne : outsAt next C K ins (insL ins) ≠ [] := by intro h0; rw [h0] at c4; exact c4 rfl
    obtain ⟨f2, rfl⟩ : ∃ f2, fu = f2 + 1 := ⟨fu - 1, by omega⟩
    have hlc2 : ctl2.length = S := by rw [e2, ctlAt_len]; exact hlc
    rw [rounds, if_neg hne, ← e2] at hro
    have hmem : ∀ s ∈ outsAt next C K ins (insL ins), s < ins.length ∧ ins.getD s false = true := fun s hs => by
     have h1 := List.mem_filter.1 (List.mem_filter.1 hs).1
     exact ⟨List.mem_range.1 h1.1, h1.2⟩
    have hlt := count_setAll_lt hne hmem
    obtain ⟨outs, hou⟩ : ∃ outs, outs = outsAt next C K ins (insL ins) := ⟨_, rfl⟩
    rw [← hou] at hro hlt OO hne hmem
    refine XK.skip (XK.seq (XK.region rfl ?_))
    refine XO.q (Q.ld rfl rfl) ?_
    refine XO.len rfl fun l64 => ?_
    refine XO.q (Q.move rfl) (XO.done (XK.block ?_))
    refine XK.while (X := Nat × PHeap × PHeap) [10, 65, 66, 67, 68, 69, 70, 71, 72, 73, 74, 75, 76, 77, 78] (fun ⟨j, hI2, hR2⟩ => [(65, some (.int .i64 (j : Nat)))]) (fun ⟨j, hI2, hR2⟩ => [hI2, hR2]) (fun ⟨j, hI2, hR2⟩ => j ≤ outs.length ∧ OArr v14 encB 1 4 hI2 (setAll ins (outs.take j) false) ∧ OArr v21 encI 1 3 hR2 (setAll rnk (outs.take j) rank)) (fun ⟨j, hI2, hR2⟩ => outs.length - j) (0, hI, hR) [hI, hR] rfl ⟨by omega, by simpa [setAll] using OI, by simpa [setAll] using OR⟩ (.c rfl (.base 0 rfl rfl)) ?_
    rintro ⟨j, hI2, hR2⟩ ⟨hj, OI2, OR2⟩ ih2
    dsimp only [lcA, lnA] at ih2 ⊢
    refine XK.seq (XK.region rfl ?_)
    refine XO.q (Q.lss rfl rfl) ?_
    refine XO.done (XK.seq ?_)
    refine XK.if rfl (fun c5 => ?_) (fun c5 => ?_)
    ·skip
     have hj2 : j < outs.length := by simp only [List.length_map] at c5; omega
     obtain ⟨s, hsO⟩ : ∃ s, outs[j]? = some s := ⟨_, List.getElem?_eq_getElem hj2⟩
     have hsm := (hmem s (List.mem_of_getElem? hsO)).1
     rw [hli] at hsm
     have hgs : (outs.map fun s : Nat => (s : Int)).getD j default = (s : Int) := by rw [List.getD_eq_getElem?_getD, List.getElem?_map, hsO]; rfl
     refine XK.skip (XK.seq (XK.block (XK.seq (XK.region rfl ?_))))
     refine XO.ix rfl rfl (by omega) (by omega) fun i67 => ?_
     refine XO.q (Q.ldE rfl (by first | assumption | omega) rfl) ?_
     rw [hgs]
     refine XO.q (Q.assign rfl) (XO.done ?_)
     refine XK.drawn [0, 1, 2, 3, 4, 5, 6, 7, 9] [b3] [] (.q 0 (.q 1 (.q 2 (.q 3 (.q 4 (.q 5 (.q 6 (.q 7 (.br 8 true (.q 9 (.br 10 false .done .stop)) .stop))))))))) Tryz.mixed rfl (by kernel_rfl) ?_
     refine XT.q rfl rfl (Q.fieldAddr rfl) ?_
     refine XT.q rfl rfl (Q.ld rfl rfl) ?_
     refine XT.q rfl rfl (Q.move rfl) ?_
     refine XT.q rfl rfl (Q.fieldAddr rfl) ?_
     refine XT.q rfl rfl (Q.ld rfl rfl) ?_
     refine XT.q rfl rfl (Q.move rfl) ?_
     refine XT.q rfl rfl (Q.move rfl) ?_
     refine XT.ix rfl rfl rfl rfl (by omega) (by rw [setAll_len]; omega) fun i76 => ?_
     refine XT.stE _ rfl rfl rfl rfl rfl (by assumption) rfl rfl (fun h21_8 O21_8 => ⟨inferInstance, ?_⟩) XT.stop
     refine XT.ix rfl rfl rfl rfl (by omega) (by rw [setAll_len]; omega) fun i77 => ?_
     refine XT.stE _ rfl rfl rfl rfl rfl (by assumption) rfl rfl (fun h21_10 O21_10 => ⟨inferInstance, ?_⟩) XT.stop
     refine XT.done ?_
     refine XK.inBlock ?_
     refine XK.region rfl ?_
     refine XO.q (Q.add rfl rfl ⟨by omega, by omega⟩) ?_
     refine XO.q (Q.move rfl) (XO.done ?_)
     exact ih2 (j + 1, h21_8, h21_10) _ _ ⟨by dsimp only; omega, by dsimp only; rw [take_snoc hsO, setAll_snoc]; exact O21_8, by dsimp only; rw [take_snoc hsO, setAll_snoc]; exact O21_10⟩ (by first | omega | (dsimp only; omega)) (.c rfl (.base 31 rfl rfl)) inferInstance
    ·skip
     simp only [List.length_map] at c5
     refine XK.exit rfl ?_
     refine XK.inBlock ?_
     refine XK.region rfl (XO.q (Q.move rfl) ?_)
     refine XO.q (Q.add rfl rfl ⟨by omega, by omega⟩) ?_
     refine XO.q (Q.assign rfl) (XO.done ?_)
     have hj2 : outs.take j = outs := List.take_of_length_le (by omega)
     rw [hj2] at OI2 OR2
     exact ih0 (rank + 1, setAll ins outs false, hI2, ctl2, hC2, setAll rnk outs rank, hR2) _ _ ⟨by dsimp only; omega, by dsimp only; omega, by dsimp only; rw [setAll_len]; exact hli, hlc2, by dsimp only; rw [setAll_len]; exact hlr, ⟨f2, by dsimp only; omega, hro⟩, OI2, OC2, OR2⟩ hlt (.c rfl (.base 88 rfl rfl)) inferInstance
 ·intro mtr1
  dsimp only [lcA, lnA] at mtr1
  refine XK.drawn [0, 1, 4, 5, 7, 8, 10] [b1] [] (.q 0 (.q 1 (.q 4 (.q 5 (.q 7 (.q 8 (.br 2 true (.br 3 true (.br 6 true (.br 9 true (.q 10 (.br 11 true (.br 12 false .done .stop) .stop)) (.br 11 true (.br 9 true (.q 10 (.br 12 false .done .stop)) .stop) .stop)) (.br 9 true (.br 6 true (.q 10 (.br 11 true (.br 12 false .done .stop) .stop)) (.br 11 true (.br 6 true (.q 10 (.br 12 false .done .stop)) .stop) .stop)) (.br 11 true (.br 6 true (.br 9 true (.q 10 (.br 12 false .done .stop)) .stop) (.br 9 true (.br 6 true (.q 10 (.br 12 false .done .stop)) .stop) .stop)) .stop))) (.br 9 true (.br 3 true (.br 6 true (.q 10 (.br 11 true (.br 12 false .done .stop) .stop)) (.br 11 true (.br 6 true (.q 10 (.br 12 false .done .stop)) .stop) .stop)) (.br 11 true (.br 3 true (.br 6 true (.q 10 (.br 12 false .done .stop)) .stop) .stop) .stop)) (.br 11 true (.br 3 true (.br 6 true (.br 9 true (.q 10 (.br 12 false .done .stop)) .stop) (.br 9 true (.br 6 true (.q 10 (.br 12 false .done .stop)) .stop) .stop)) (.br 9 true (.br 3 true (.br 6 true (.q 10 (.br 12 false .done .stop)) .stop) .stop) .stop)) .stop))) (.br 3 true (.br 2 true (.br 6 true (.br 9 true (.q 10 (.br 11 true (.br 12 false .done .stop) .stop)) (.br 11 true (.br 9 true (.q 10 (.br 12 false .done .stop)) .stop) .stop)) (.br 9 true (.br 6 true (.q 10 (.br 11 true (.br 12 false .done .stop) .stop)) (.br 11 true (.br 6 true (.q 10 (.br 12 false .done .stop)) .stop) .stop)) (.br 11 true (.br 6 true (.br 9 true (.q 10 (.br 12 false .done .stop)) .stop) (.br 9 true (.br 6 true (.q 10 (.br 12 false .done .stop)) .stop) .stop)) .stop))) (.br 9 true (.br 2 true (.br 6 true (.q 10 (.br 11 true (.br 12 false .done .stop) .stop)) (.br 11 true (.br 6 true (.q 10 (.br 12 false .done .stop)) .stop) .stop)) (.br 11 true (.br 2 true (.br 6 true (.q 10 (.br 12 false .done .stop)) .stop) .stop) .stop)) (.br 11 true (.br 2 true (.br 6 true (.br 9 true (.q 10 (.br 12 false .done .stop)) .stop) (.br 9 true (.br 6 true (.q 10 (.br 12 false .done .stop)) .stop) .stop)) (.br 9 true (.br 2 true (.br 6 true (.q 10 (.br 12 false .done .stop)) .stop) .stop) .stop)) .stop))) (.br 9 true (.br 2 true (.br 3 true (.br 6 true (.q 10 (.br 11 true (.br 12 false .done .stop) .stop)) (.br 11 true (.br 6 true (.q 10 (.br 12 false .done .stop)) .stop) .stop)) (.br 11 true (.br 3 true (.br 6 true (.q 10 (.br 12 false .done .stop)) .stop) .stop) .stop)) (.br 3 true (.br 2 true (.br 6 true (.q 10 (.br 11 true (.br 12 false .done .stop) .stop)) (.br 11 true (.br 6 true (.q 10 (.br 12 false .done .stop)) .stop) .stop)) (.br 11 true (.br 2 true (.br 6 true (.q 10 (.br 12 false .done .stop)) .stop) .stop) .stop)) (.br 11 true (.br 2 true (.br 3 true (.br 6 true (.q 10 (.br 12 false .done .stop)) .stop) .stop) (.br 3 true (.br 2 true (.br 6 true (.q 10 (.br 12 false .done .stop)) .stop) .stop) .stop)) .stop))) (.br 11 true (.br 2 true (.br 3 true (.br 6 true (.br 9 true (.q 10 (.br 12 false .done .stop)) .stop) (.br 9 true (.br 6 true (.q 10 (.br 12 false .done .stop)) .stop) .stop)) (.br 9 true (.br 3 true (.br 6 true (.q 10 (.br 12 false .done .stop)) .stop) .stop) .stop)) (.br 3 true (.br 2 true (.br 6 true (.br 9 true (.q 10 (.br 12 false .done .stop)) .stop) (.br 9 true (.br 6 true (.q 10 (.br 12 false .done .stop)) .stop) .stop)) (.br 9 true (.br 2 true (.br 6 true (.q 10 (.br 12 false .done .stop)) .stop) .stop) .stop)) (.br 9 true (.br 2 true (.br 3 true (.br 6 true (.q 10 (.br 12 false .done .stop)) .stop) .stop) (.br 3 true (.br 2 true (.br 6 true (.q 10 (.br 12 false .done .stop)) .stop) .stop) .stop)) .stop))) .stop)))))))))) Tryz.mixed rfl (by kernel_rfl) ?_
  refine XT.q rfl rfl (Q.fieldAddr rfl) ?_
  refine XT.q rfl rfl (Q.ld rfl rfl) ?_
  refine XT.q rfl rfl (Q.fieldAddr rfl) ?_
  refine XT.q rfl rfl (Q.ld rfl rfl) ?_
  refine XT.q rfl rfl (Q.fieldAddr rfl) ?_
  refine XT.q rfl rfl (Q.ld rfl rfl) ?_
  refine XT.call rfl rfl Tryz.call99 rfl rfl rfl (cloneB _ _ _ (by omega)) (fun v14 s14 R14 => ?_) ?_
  ·skip
   obtain ⟨h14, rfl, O14⟩ := R14
   dsimp only [lcA, lnA]
   refine ⟨inferInstance, ?_⟩
   refine XT.lit [_] [_] [-1] encI rfl rfl (by rfl) (by rfl) rfl (by rfl) (by exact .c 0 1 rfl rfl rfl (.n _)) (fun _ => rfl) (by rfl) rfl (by infer_instance) rfl (fun v15 h15 O15 => ⟨inferInstance, ?_⟩) ?_
   ·skip
    refine XT.call rfl rfl Tryz.call100 rfl rfl rfl (repeatI _ _ _ S (by omega)) (fun v18 s18 R18 => ?_) ?_
    ·skip
     obtain ⟨h18, rfl, O18⟩ := R18
     dsimp only [lcA, lnA]
     refine ⟨inferInstance, ?_⟩
     refine XT.make encI (0) rfl rfl rfl rfl rfl (by omega) (by omega) (fun _ => rfl) rfl rfl rfl (by dsimp only [encI]; infer_instance) (fun v21 h21 O21 => ⟨inferInstance, ?_⟩) ?_
     ·skip
      refine XT.q rfl rfl (Q.build [_, _, _] (.c 0 1 rfl rfl rfl (.c 1 1 rfl rfl rfl (.c 2 1 rfl rfl rfl (.n _))))) ?_
      refine XT.alloc rfl rfl (fun b3 => ⟨inferInstance, ?_⟩) XT.stop
      refine XT.st rfl rfl rfl rfl rfl ⟨inferInstance, ?_⟩ XT.stop
      refine XT.done ?_
      exact mtr1 ((b3, v14, h14, v18, h18, v21, h21)) _ _ ⟨O14, O18, O21⟩ (.c rfl (.base 12 rfl rfl)) inferInstance
     ·skip
      refine XT.alloc rfl rfl (fun b3 => ⟨inferInstance, ?_⟩) XT.stop
      refine XT.make encI (0) rfl rfl rfl rfl rfl (by omega) (by omega) (fun _ => rfl) rfl rfl rfl (by dsimp only [encI]; infer_instance) (fun v21 h21 O21 => ⟨inferInstance, ?_⟩) XT.stop
      refine XT.q rfl rfl (Q.build [_, _, _] (.c 0 1 rfl rfl rfl (.c 1 1 rfl rfl rfl (.c 2 1 rfl rfl rfl (.n _))))) ?_
      refine XT.st rfl rfl rfl rfl rfl ⟨inferInstance, ?_⟩ XT.stop
      refine XT.done ?_
      exact mtr1 ((b3, v14, h14, v18, h18, v21, h21)) _ _ ⟨O14, O18, O21⟩ (.c rfl (.base 12 rfl rfl)) inferInstance
    ·skip
     refine XT.make encI (0) rfl rfl rfl rfl rfl (by omega) (by omega) (fun _ => rfl) rfl rfl rfl (by dsimp only [encI]; infer_instance) (fun v21 h21 O21 => ⟨inferInstance, ?_⟩) ?_
     ·skip
      refine XT.call rfl rfl Tryz.call100 rfl rfl rfl (repeatI _ _ _ S (by omega)) (fun v18 s18 R18 => ?_) ?_
      ·skip
       obtain ⟨h18, rfl, O18⟩ := R18
       dsimp only [lcA, lnA]
       refine ⟨inferInstance, ?_⟩
       refine XT.q rfl rfl (Q.build [_, _, _] (.c 0 1 rfl rfl rfl (.c 1 1 rfl rfl rfl (.c 2 1 rfl rfl rfl (.n _))))) ?_
       refine XT.alloc rfl rfl (fun b3 => ⟨inferInstance, ?_⟩) XT.stop
       refine XT.st rfl rfl rfl rfl rfl ⟨inferInstance, ?_⟩ XT.stop
       refine XT.done ?_
       exact mtr1 ((b3, v14, h14, v18, h18, v21, h21)) _ _ ⟨O14, O18, O21⟩ (.c rfl (.base 12 rfl rfl)) inferInstance
      ·skip
       refine XT.alloc rfl rfl (fun b3 => ⟨inferInstance, ?_⟩) XT.stop
       refine XT.call rfl rfl Tryz.call100 rfl rfl rfl (repeatI _ _ _ S (by omega)) (fun v18 s18 R18 => ?_) XT.stop
       obtain ⟨h18, rfl, O18⟩ := R18
       dsimp only [lcA, lnA]
       refine ⟨inferInstance, ?_⟩
       refine XT.q rfl rfl (Q.build [_, _, _] (.c 0 1 rfl rfl rfl (.c 1 1 rfl rfl rfl (.c 2 1 rfl rfl rfl (.n _))))) ?_
       refine XT.st rfl rfl rfl rfl rfl ⟨inferInstance, ?_⟩ XT.stop
       refine XT.done ?_
       exact mtr1 ((b3, v14, h14, v18, h18, v21, h21)) _ _ ⟨O14, O18, O21⟩ (.c rfl (.base 12 rfl rfl)) inferInstance
     ·skip
      refine XT.alloc rfl rfl (fun b3 => ⟨inferInstance, ?_⟩) XT.stop
      refine XT.call rfl rfl Tryz.call100 rfl rfl rfl (repeatI _ _ _ S (by omega)) (fun v18 s18 R18 => ?_) ?_
      ·skip
       obtain ⟨h18, rfl, O18⟩ := R18
       dsimp only [lcA, lnA]
       refine ⟨inferInstance, ?_⟩
       refine XT.make encI (0) rfl rfl rfl rfl rfl (by omega) (by omega) (fun _ => rfl) rfl rfl rfl (by dsimp only [encI]; infer_instance) (fun v21 h21 O21 => ⟨inferInstance, ?_⟩) XT.stop
       refine XT.q rfl rfl (Q.build [_, _, _] (.c 0 1 rfl rfl rfl (.c 1 1 rfl rfl rfl (.c 2 1 rfl rfl rfl (.n _))))) ?_
       refine XT.st rfl rfl rfl rfl rfl ⟨inferInstance, ?_⟩ XT.stop
       refine XT.done ?_
       exact mtr1 ((b3, v14, h14, v18, h18, v21, h21)) _ _ ⟨O14, O18, O21⟩ (.c rfl (.base 12 rfl rfl)) inferInstance
      ·skip
       refine XT.make encI (0) rfl rfl rfl rfl rfl (by omega) (by omega) (fun _ => rfl) rfl rfl rfl (by dsimp only [encI]; infer_instance) (fun v21 h21 O21 => ⟨inferInstance, ?_⟩) XT.stop
       refine XT.call rfl rfl Tryz.call100 rfl rfl rfl (repeatI _ _ _ S (by omega)) (fun v18 s18 R18 => ?_) XT.stop
       obtain ⟨h18, rfl, O18⟩ := R18
       dsimp only [lcA, lnA]
       refine ⟨inferInstance, ?_⟩
       refine XT.q rfl rfl (Q.build [_, _, _] (.c 0 1 rfl rfl rfl (.c 1 1 rfl rfl rfl (.c 2 1 rfl rfl rfl (.n _))))) ?_
       refine XT.st rfl rfl rfl rfl rfl ⟨inferInstance, ?_⟩ XT.stop
       refine XT.done ?_
       exact mtr1 ((b3, v14, h14, v18, h18, v21, h21)) _ _ ⟨O14, O18, O21⟩ (.c rfl (.base 12 rfl rfl)) inferInstance
   ·skip
    refine XT.make encI (0) rfl rfl rfl rfl rfl (by omega) (by omega) (fun _ => rfl) rfl rfl rfl (by dsimp only [encI]; infer_instance) (fun v21 h21 O21 => ⟨inferInstance, ?_⟩) ?_
    ·skip
     refine XT.lit [_] [_] [-1] encI rfl rfl (by rfl) (by rfl) rfl (by rfl) (by exact .c 0 1 rfl rfl rfl (.n _)) (fun _ => rfl) (by rfl) rfl (by infer_instance) rfl (fun v15 h15 O15 => ⟨inferInstance, ?_⟩) ?_
     ·skip
      refine XT.call rfl rfl Tryz.call100 rfl rfl rfl (repeatI _ _ _ S (by omega)) (fun v18 s18 R18 => ?_) ?_
      ·skip
       obtain ⟨h18, rfl, O18⟩ := R18
       dsimp only [lcA, lnA]
       refine ⟨inferInstance, ?_⟩
       refine XT.q rfl rfl (Q.build [_, _, _] (.c 0 1 rfl rfl rfl (.c 1 1 rfl rfl rfl (.c 2 1 rfl rfl rfl (.n _))))) ?_
       refine XT.alloc rfl rfl (fun b3 => ⟨inferInstance, ?_⟩) XT.stop
       refine XT.st rfl rfl rfl rfl rfl ⟨inferInstance, ?_⟩ XT.stop
       refine XT.done ?_
       exact mtr1 ((b3, v14, h14, v18, h18, v21, h21)) _ _ ⟨O14, O18, O21⟩ (.c rfl (.base 12 rfl rfl)) inferInstance
      ·skip
       refine XT.alloc rfl rfl (fun b3 => ⟨inferInstance, ?_⟩) XT.stop
       refine XT.call rfl rfl Tryz.call100 rfl rfl rfl (repeatI _ _ _ S (by omega)) (fun v18 s18 R18 => ?_) XT.stop
       obtain ⟨h18, rfl, O18⟩ := R18
       dsimp only [lcA, lnA]
       refine ⟨inferInstance, ?_⟩
       refine XT.q rfl rfl (Q.build [_, _, _] (.c 0 1 rfl rfl rfl (.c 1 1 rfl rfl rfl (.c 2 1 rfl rfl rfl (.n _))))) ?_
       refine XT.st rfl rfl rfl rfl rfl ⟨inferInstance, ?_⟩ XT.stop
       refine XT.done ?_
       exact mtr1 ((b3, v14, h14, v18, h18, v21, h21)) _ _ ⟨O14, O18, O21⟩ (.c rfl (.base 12 rfl rfl)) inferInstance
     ·skip
      refine XT.alloc rfl rfl (fun b3 => ⟨inferInstance, ?_⟩) XT.stop
      refine XT.lit [_] [_] [-1] encI rfl rfl (by rfl) (by rfl) rfl (by rfl) (by exact .c 0 1 rfl rfl rfl (.n _)) (fun _ => rfl) (by rfl) rfl (by infer_instance) rfl (fun v15 h15 O15 => ⟨inferInstance, ?_⟩) XT.stop
      refine XT.call rfl rfl Tryz.call100 rfl rfl rfl (repeatI _ _ _ S (by omega)) (fun v18 s18 R18 => ?_) XT.stop
      obtain ⟨h18, rfl, O18⟩ := R18
      dsimp only [lcA, lnA]
      refine ⟨inferInstance, ?_⟩
      refine XT.q rfl rfl (Q.build [_, _, _] (.c 0 1 rfl rfl rfl (.c 1 1 rfl rfl rfl (.c 2 1 rfl rfl rfl (.n _))))) ?_
      refine XT.st rfl rfl rfl rfl rfl ⟨inferInstance, ?_⟩ XT.stop
      refine XT.done ?_
      exact mtr1 ((b3, v14, h14, v18, h18, v21, h21)) _ _ ⟨O14, O18, O21⟩ (.c rfl (.base 12 rfl rfl)) inferInstance
    ·skip
     refine XT.alloc rfl rfl (fun b3 => ⟨inferInstance, ?_⟩) XT.stop
     refine XT.lit [_] [_] [-1] encI rfl rfl (by rfl) (by rfl) rfl (by rfl) (by exact .c 0 1 rfl rfl rfl (.n _)) (fun _ => rfl) (by rfl) rfl (by infer_instance) rfl (fun v15 h15 O15 => ⟨inferInstance, ?_⟩) ?_
     ·skip
      refine XT.call rfl rfl Tryz.call100 rfl rfl rfl (repeatI _ _ _ S (by omega)) (fun v18 s18 R18 => ?_) ?_
      ·skip
       obtain ⟨h18, rfl, O18⟩ := R18
       dsimp only [lcA, lnA]
       refine ⟨inferInstance, ?_⟩
       refine XT.make encI (0) rfl rfl rfl rfl rfl (by omega) (by omega) (fun _ => rfl) rfl rfl rfl (by dsimp only [encI]; infer_instance) (fun v21 h21 O21 => ⟨inferInstance, ?_⟩) XT.stop
       refine XT.q rfl rfl (Q.build [_, _, _] (.c 0 1 rfl rfl rfl (.c 1 1 rfl rfl rfl (.c 2 1 rfl rfl rfl (.n _))))) ?_
       refine XT.st rfl rfl rfl rfl rfl ⟨inferInstance, ?_⟩ XT.stop
       refine XT.done ?_
       exact mtr1 ((b3, v14, h14, v18, h18, v21, h21)) _ _ ⟨O14, O18, O21⟩ (.c rfl (.base 12 rfl rfl)) inferInstance
      ·skip
       refine XT.make encI (0) rfl rfl rfl rfl rfl (by omega) (by omega) (fun _ => rfl) rfl rfl rfl (by dsimp only [encI]; infer_instance) (fun v21 h21 O21 => ⟨inferInstance, ?_⟩) XT.stop
       refine XT.call rfl rfl Tryz.call100 rfl rfl rfl (repeatI _ _ _ S (by omega)) (fun v18 s18 R18 => ?_) XT.stop
       obtain ⟨h18, rfl, O18⟩ := R18
       dsimp only [lcA, lnA]
       refine ⟨inferInstance, ?_⟩
       refine XT.q rfl rfl (Q.build [_, _, _] (.c 0 1 rfl rfl rfl (.c 1 1 rfl rfl rfl (.c 2 1 rfl rfl rfl (.n _))))) ?_
       refine XT.st rfl rfl rfl rfl rfl ⟨inferInstance, ?_⟩ XT.stop
       refine XT.done ?_
       exact mtr1 ((b3, v14, h14, v18, h18, v21, h21)) _ _ ⟨O14, O18, O21⟩ (.c rfl (.base 12 rfl rfl)) inferInstance
     ·skip
      refine XT.make encI (0) rfl rfl rfl rfl rfl (by omega) (by omega) (fun _ => rfl) rfl rfl rfl (by dsimp only [encI]; infer_instance) (fun v21 h21 O21 => ⟨inferInstance, ?_⟩) XT.stop
      refine XT.lit [_] [_] [-1] encI rfl rfl (by rfl) (by rfl) rfl (by rfl) (by exact .c 0 1 rfl rfl rfl (.n _)) (fun _ => rfl) (by rfl) rfl (by infer_instance) rfl (fun v15 h15 O15 => ⟨inferInstance, ?_⟩) XT.stop
      refine XT.call rfl rfl Tryz.call100 rfl rfl rfl (repeatI _ _ _ S (by omega)) (fun v18 s18 R18 => ?_) XT.stop
      obtain ⟨h18, rfl, O18⟩ := R18
      dsimp only [lcA, lnA]
      refine ⟨inferInstance, ?_⟩
      refine XT.q rfl rfl (Q.build [_, _, _] (.c 0 1 rfl rfl rfl (.c 1 1 rfl rfl rfl (.c 2 1 rfl rfl rfl (.n _))))) ?_
      refine XT.st rfl rfl rfl rfl rfl ⟨inferInstance, ?_⟩ XT.stop
      refine XT.done ?_
      exact mtr1 ((b3, v14, h14, v18, h18, v21, h21)) _ _ ⟨O14, O18, O21⟩ (.c rfl (.base 12 rfl rfl)) inferInstance
  ·skip
   refine XT.lit [_] [_] [-1] encI rfl rfl (by rfl) (by rfl) rfl (by rfl) (by exact .c 0 1 rfl rfl rfl (.n _)) (fun _ => rfl) (by rfl) rfl (by infer_instance) rfl (fun v15 h15 O15 => ⟨inferInstance, ?_⟩) ?_
   ·skip
    refine XT.call rfl rfl Tryz.call99 rfl rfl rfl (cloneB _ _ _ (by omega)) (fun v14 s14 R14 => ?_) ?_
    ·skip
     obtain ⟨h14, rfl, O14⟩ := R14
     dsimp only [lcA, lnA]
     refine ⟨inferInstance, ?_⟩
     refine XT.call rfl rfl Tryz.call100 rfl rfl rfl (repeatI _ _ _ S (by omega)) (fun v18 s18 R18 => ?_) ?_
     ·skip
      obtain ⟨h18, rfl, O18⟩ := R18
      dsimp only [lcA, lnA]
      refine ⟨inferInstance, ?_⟩
      refine XT.make encI (0) rfl rfl rfl rfl rfl (by omega) (by omega) (fun _ => rfl) rfl rfl rfl (by dsimp only [encI]; infer_instance) (fun v21 h21 O21 => ⟨inferInstance, ?_⟩) ?_
      ·skip
       refine XT.q rfl rfl (Q.build [_, _, _] (.c 0 1 rfl rfl rfl (.c 1 1 rfl rfl rfl (.c 2 1 rfl rfl rfl (.n _))))) ?_
       refine XT.alloc rfl rfl (fun b3 => ⟨inferInstance, ?_⟩) XT.stop
       refine XT.st rfl rfl rfl rfl rfl ⟨inferInstance, ?_⟩ XT.stop
       refine XT.done ?_
       exact mtr1 ((b3, v14, h14, v18, h18, v21, h21)) _ _ ⟨O14, O18, O21⟩ (.c rfl (.base 12 rfl rfl)) inferInstance
      ·skip
       refine XT.alloc rfl rfl (fun b3 => ⟨inferInstance, ?_⟩) XT.stop
       refine XT.make encI (0) rfl rfl rfl rfl rfl (by omega) (by omega) (fun _ => rfl) rfl rfl rfl (by dsimp only [encI]; infer_instance) (fun v21 h21 O21 => ⟨inferInstance, ?_⟩) XT.stop
       refine XT.q rfl rfl (Q.build [_, _, _] (.c 0 1 rfl rfl rfl (.c 1 1 rfl rfl rfl (.c 2 1 rfl rfl rfl (.n _))))) ?_
       refine XT.st rfl rfl rfl rfl rfl ⟨inferInstance, ?_⟩ XT.stop
       refine XT.done ?_
       exact mtr1 ((b3, v14, h14, v18, h18, v21, h21)) _ _ ⟨O14, O18, O21⟩ (.c rfl (.base 12 rfl rfl)) inferInstance
     ·skip
      refine XT.make encI (0) rfl rfl rfl rfl rfl (by omega) (by omega) (fun _ => rfl) rfl rfl rfl (by dsimp only [encI]; infer_instance) (fun v21 h21 O21 => ⟨inferInstance, ?_⟩) ?_
      ·skip
       refine XT.call rfl rfl Tryz.call100 rfl rfl rfl (repeatI _ _ _ S (by omega)) (fun v18 s18 R18 => ?_) ?_
       ·skip
        obtain ⟨h18, rfl, O18⟩ := R18
        dsimp only [lcA, lnA]
        refine ⟨inferInstance, ?_⟩
        refine XT.q rfl rfl (Q.build [_, _, _] (.c 0 1 rfl rfl rfl (.c 1 1 rfl rfl rfl (.c 2 1 rfl rfl rfl (.n _))))) ?_
        refine XT.alloc rfl rfl (fun b3 => ⟨inferInstance, ?_⟩) XT.stop
        refine XT.st rfl rfl rfl rfl rfl ⟨inferInstance, ?_⟩ XT.stop
        refine XT.done ?_
        exact mtr1 ((b3, v14, h14, v18, h18, v21, h21)) _ _ ⟨O14, O18, O21⟩ (.c rfl (.base 12 rfl rfl)) inferInstance
       ·skip
        refine XT.alloc rfl rfl (fun b3 => ⟨inferInstance, ?_⟩) XT.stop
        refine XT.call rfl rfl Tryz.call100 rfl rfl rfl (repeatI _ _ _ S (by omega)) (fun v18 s18 R18 => ?_) XT.stop
        obtain ⟨h18, rfl, O18⟩ := R18
        dsimp only [lcA, lnA]
        refine ⟨inferInstance, ?_⟩
        refine XT.q rfl rfl (Q.build [_, _, _] (.c 0 1 rfl rfl rfl (.c 1 1 rfl rfl rfl (.c 2 1 rfl rfl rfl (.n _))))) ?_
        refine XT.st rfl rfl rfl rfl rfl ⟨inferInstance, ?_⟩ XT.stop
        refine XT.done ?_
        exact mtr1 ((b3, v14, h14, v18, h18, v21, h21)) _ _ ⟨O14, O18, O21⟩ (.c rfl (.base 12 rfl rfl)) inferInstance
      ·skip
       refine XT.alloc rfl rfl (fun b3 => ⟨inferInstance, ?_⟩) XT.stop
       refine XT.call rfl rfl Tryz.call100 rfl rfl rfl (repeatI _ _ _ S (by omega)) (fun v18 s18 R18 => ?_) ?_
       ·skip
        obtain ⟨h18, rfl, O18⟩ := R18
        dsimp only [lcA, lnA]
        refine ⟨inferInstance, ?_⟩
        refine XT.make encI (0) rfl rfl rfl rfl rfl (by omega) (by omega) (fun _ => rfl) rfl rfl rfl (by dsimp only [encI]; infer_instance) (fun v21 h21 O21 => ⟨inferInstance, ?_⟩) XT.stop
        refine XT.q rfl rfl (Q.build [_, _, _] (.c 0 1 rfl rfl rfl (.c 1 1 rfl rfl rfl (.c 2 1 rfl rfl rfl (.n _))))) ?_
        refine XT.st rfl rfl rfl rfl rfl ⟨inferInstance, ?_⟩ XT.stop
        refine XT.done ?_
        exact mtr1 ((b3, v14, h14, v18, h18, v21, h21)) _ _ ⟨O14, O18, O21⟩ (.c rfl (.base 12 rfl rfl)) inferInstance
       ·skip
        refine XT.make encI (0) rfl rfl rfl rfl rfl (by omega) (by omega) (fun _ => rfl) rfl rfl rfl (by dsimp only [encI]; infer_instance) (fun v21 h21 O21 => ⟨inferInstance, ?_⟩) XT.stop
        refine XT.call rfl rfl Tryz.call100 rfl rfl rfl (repeatI _ _ _ S (by omega)) (fun v18 s18 R18 => ?_) XT.stop
        obtain ⟨h18, rfl, O18⟩ := R18
        dsimp only [lcA, lnA]
        refine ⟨inferInstance, ?_⟩
        refine XT.q rfl rfl (Q.build [_, _, _] (.c 0 1 rfl rfl rfl (.c 1 1 rfl rfl rfl (.c 2 1 rfl rfl rfl (.n _))))) ?_
        refine XT.st rfl rfl rfl rfl rfl ⟨inferInstance, ?_⟩ XT.stop
        refine XT.done ?_
        exact mtr1 ((b3, v14, h14, v18, h18, v21, h21)) _ _ ⟨O14, O18, O21⟩ (.c rfl (.base 12 rfl rfl)) inferInstance
    ·skip
     refine XT.make encI (0) rfl rfl rfl rfl rfl (by omega) (by omega) (fun _ => rfl) rfl rfl rfl (by dsimp only [encI]; infer_instance) (fun v21 h21 O21 => ⟨inferInstance, ?_⟩) ?_
     ·skip
      refine XT.call rfl rfl Tryz.call99 rfl rfl rfl (cloneB _ _ _ (by omega)) (fun v14 s14 R14 => ?_) ?_
      ·skip
       obtain ⟨h14, rfl, O14⟩ := R14
       dsimp only [lcA, lnA]
       refine ⟨inferInstance, ?_⟩
       refine XT.call rfl rfl Tryz.call100 rfl rfl rfl (repeatI _ _ _ S (by omega)) (fun v18 s18 R18 => ?_) ?_
       ·skip
        obtain ⟨h18, rfl, O18⟩ := R18
        dsimp only [lcA, lnA]
        refine ⟨inferInstance, ?_⟩
        refine XT.q rfl rfl (Q.build [_, _, _] (.c 0 1 rfl rfl rfl (.c 1 1 rfl rfl rfl (.c 2 1 rfl rfl rfl (.n _))))) ?_
        refine XT.alloc rfl rfl (fun b3 => ⟨inferInstance, ?_⟩) XT.stop
        refine XT.st rfl rfl rfl rfl rfl ⟨inferInstance, ?_⟩ XT.stop
        refine XT.done ?_
        exact mtr1 ((b3, v14, h14, v18, h18, v21, h21)) _ _ ⟨O14, O18, O21⟩ (.c rfl (.base 12 rfl rfl)) inferInstance
       ·skip
        refine XT.alloc rfl rfl (fun b3 => ⟨inferInstance, ?_⟩) XT.stop
        refine XT.call rfl rfl Tryz.call100 rfl rfl rfl (repeatI _ _ _ S (by omega)) (fun v18 s18 R18 => ?_) XT.stop
        obtain ⟨h18, rfl, O18⟩ := R18
        dsimp only [lcA, lnA]
        refine ⟨inferInstance, ?_⟩
        refine XT.q rfl rfl (Q.build [_, _, _] (.c 0 1 rfl rfl rfl (.c 1 1 rfl rfl rfl (.c 2 1 rfl rfl rfl (.n _))))) ?_
        refine XT.st rfl rfl rfl rfl rfl ⟨inferInstance, ?_⟩ XT.stop
        refine XT.done ?_
        exact mtr1 ((b3, v14, h14, v18, h18, v21, h21)) _ _ ⟨O14, O18, O21⟩ (.c rfl (.base 12 rfl rfl)) inferInstance
      ·skip
       refine XT.alloc rfl rfl (fun b3 => ⟨inferInstance, ?_⟩) XT.stop
       refine XT.call rfl rfl Tryz.call99 rfl rfl rfl (cloneB _ _ _ (by omega)) (fun v14 s14 R14 => ?_) XT.stop
       obtain ⟨h14, rfl, O14⟩ := R14
       dsimp only [lcA, lnA]
       refine ⟨inferInstance, ?_⟩
       refine XT.call rfl rfl Tryz.call100 rfl rfl rfl (repeatI _ _ _ S (by omega)) (fun v18 s18 R18 => ?_) XT.stop
       obtain ⟨h18, rfl, O18⟩ := R18
       dsimp only [lcA, lnA]
       refine ⟨inferInstance, ?_⟩
       refine XT.q rfl rfl (Q.build [_, _, _] (.c 0 1 rfl rfl rfl (.c 1 1 rfl rfl rfl (.c 2 1 rfl rfl rfl (.n _))))) ?_
       refine XT.st rfl rfl rfl rfl rfl ⟨inferInstance, ?_⟩ XT.stop
       refine XT.done ?_
       exact mtr1 ((b3, v14, h14, v18, h18, v21, h21)) _ _ ⟨O14, O18, O21⟩ (.c rfl (.base 12 rfl rfl)) inferInstance
     ·skip
      refine XT.alloc rfl rfl (fun b3 => ⟨inferInstance, ?_⟩) XT.stop
      refine XT.call rfl rfl Tryz.call99 rfl rfl rfl (cloneB _ _ _ (by omega)) (fun v14 s14 R14 => ?_) ?_
      ·skip
       obtain ⟨h14, rfl, O14⟩ := R14
       dsimp only [lcA, lnA]
       refine ⟨inferInstance, ?_⟩
       refine XT.call rfl rfl Tryz.call100 rfl rfl rfl (repeatI _ _ _ S (by omega)) (fun v18 s18 R18 => ?_) ?_
       ·skip
        obtain ⟨h18, rfl, O18⟩ := R18
        dsimp only [lcA, lnA]
        refine ⟨inferInstance, ?_⟩
        refine XT.make encI (0) rfl rfl rfl rfl rfl (by omega) (by omega) (fun _ => rfl) rfl rfl rfl (by dsimp only [encI]; infer_instance) (fun v21 h21 O21 => ⟨inferInstance, ?_⟩) XT.stop
        refine XT.q rfl rfl (Q.build [_, _, _] (.c 0 1 rfl rfl rfl (.c 1 1 rfl rfl rfl (.c 2 1 rfl rfl rfl (.n _))))) ?_
        refine XT.st rfl rfl rfl rfl rfl ⟨inferInstance, ?_⟩ XT.stop
        refine XT.done ?_
        exact mtr1 ((b3, v14, h14, v18, h18, v21, h21)) _ _ ⟨O14, O18, O21⟩ (.c rfl (.base 12 rfl rfl)) inferInstance
       ·skip
        refine XT.make encI (0) rfl rfl rfl rfl rfl (by omega) (by omega) (fun _ => rfl) rfl rfl rfl (by dsimp only [encI]; infer_instance) (fun v21 h21 O21 => ⟨inferInstance, ?_⟩) XT.stop
        refine XT.call rfl rfl Tryz.call100 rfl rfl rfl (repeatI _ _ _ S (by omega)) (fun v18 s18 R18 => ?_) XT.stop
        obtain ⟨h18, rfl, O18⟩ := R18
        dsimp only [lcA, lnA]
        refine ⟨inferInstance, ?_⟩
        refine XT.q rfl rfl (Q.build [_, _, _] (.c 0 1 rfl rfl rfl (.c 1 1 rfl rfl rfl (.c 2 1 rfl rfl rfl (.n _))))) ?_
        refine XT.st rfl rfl rfl rfl rfl ⟨inferInstance, ?_⟩ XT.stop
        refine XT.done ?_
        exact mtr1 ((b3, v14, h14, v18, h18, v21, h21)) _ _ ⟨O14, O18, O21⟩ (.c rfl (.base 12 rfl rfl)) inferInstance
      ·skip
       refine XT.make encI (0) rfl rfl rfl rfl rfl (by omega) (by omega) (fun _ => rfl) rfl rfl rfl (by dsimp only [encI]; infer_instance) (fun v21 h21 O21 => ⟨inferInstance, ?_⟩) XT.stop
       refine XT.call rfl rfl Tryz.call99 rfl rfl rfl (cloneB _ _ _ (by omega)) (fun v14 s14 R14 => ?_) XT.stop
       obtain ⟨h14, rfl, O14⟩ := R14
       dsimp only [lcA, lnA]
       refine ⟨inferInstance, ?_⟩
       refine XT.call rfl rfl Tryz.call100 rfl rfl rfl (repeatI _ _ _ S (by omega)) (fun v18 s18 R18 => ?_) XT.stop
       obtain ⟨h18, rfl, O18⟩ := R18
       dsimp only [lcA, lnA]
       refine ⟨inferInstance, ?_⟩
       refine XT.q rfl rfl (Q.build [_, _, _] (.c 0 1 rfl rfl rfl (.c 1 1 rfl rfl rfl (.c 2 1 rfl rfl rfl (.n _))))) ?_
       refine XT.st rfl rfl rfl rfl rfl ⟨inferInstance, ?_⟩ XT.stop
       refine XT.done ?_
       exact mtr1 ((b3, v14, h14, v18, h18, v21, h21)) _ _ ⟨O14, O18, O21⟩ (.c rfl (.base 12 rfl rfl)) inferInstance
   ·skip
    refine XT.make encI (0) rfl rfl rfl rfl rfl (by omega) (by omega) (fun _ => rfl) rfl rfl rfl (by dsimp only [encI]; infer_instance) (fun v21 h21 O21 => ⟨inferInstance, ?_⟩) ?_
    ·skip
     refine XT.call rfl rfl Tryz.call99 rfl rfl rfl (cloneB _ _ _ (by omega)) (fun v14 s14 R14 => ?_) ?_
     ·skip
      obtain ⟨h14, rfl, O14⟩ := R14
      dsimp only [lcA, lnA]
      refine ⟨inferInstance, ?_⟩
      refine XT.lit [_] [_] [-1] encI rfl rfl (by rfl) (by rfl) rfl (by rfl) (by exact .c 0 1 rfl rfl rfl (.n _)) (fun _ => rfl) (by rfl) rfl (by infer_instance) rfl (fun v15 h15 O15 => ⟨inferInstance, ?_⟩) ?_
      ·skip
       refine XT.call rfl rfl Tryz.call100 rfl rfl rfl (repeatI _ _ _ S (by omega)) (fun v18 s18 R18 => ?_) ?_
       ·skip
        obtain ⟨h18, rfl, O18⟩ := R18
        dsimp only [lcA, lnA]
        refine ⟨inferInstance, ?_⟩
        refine XT.q rfl rfl (Q.build [_, _, _] (.c 0 1 rfl rfl rfl (.c 1 1 rfl rfl rfl (.c 2 1 rfl rfl rfl (.n _))))) ?_
        refine XT.alloc rfl rfl (fun b3 => ⟨inferInstance, ?_⟩) XT.stop
        refine XT.st rfl rfl rfl rfl rfl ⟨inferInstance, ?_⟩ XT.stop
        refine XT.done ?_
        exact mtr1 ((b3, v14, h14, v18, h18, v21, h21)) _ _ ⟨O14, O18, O21⟩ (.c rfl (.base 12 rfl rfl)) inferInstance
       ·skip
        refine XT.alloc rfl rfl (fun b3 => ⟨inferInstance, ?_⟩) XT.stop
        refine XT.call rfl rfl Tryz.call100 rfl rfl rfl (repeatI _ _ _ S (by omega)) (fun v18 s18 R18 => ?_) XT.stop
        obtain ⟨h18, rfl, O18⟩ := R18
        dsimp only [lcA, lnA]
        refine ⟨inferInstance, ?_⟩
        refine XT.q rfl rfl (Q.build [_, _, _] (.c 0 1 rfl rfl rfl (.c 1 1 rfl rfl rfl (.c 2 1 rfl rfl rfl (.n _))))) ?_
        refine XT.st rfl rfl rfl rfl rfl ⟨inferInstance, ?_⟩ XT.stop
        refine XT.done ?_
        exact mtr1 ((b3, v14, h14, v18, h18, v21, h21)) _ _ ⟨O14, O18, O21⟩ (.c rfl (.base 12 rfl rfl)) inferInstance
      ·skip
       refine XT.alloc rfl rfl (fun b3 => ⟨inferInstance, ?_⟩) XT.stop
       refine XT.lit [_] [_] [-1] encI rfl rfl (by rfl) (by rfl) rfl (by rfl) (by exact .c 0 1 rfl rfl rfl (.n _)) (fun _ => rfl) (by rfl) rfl (by infer_instance) rfl (fun v15 h15 O15 => ⟨inferInstance, ?_⟩) XT.stop
       refine XT.call rfl rfl Tryz.call100 rfl rfl rfl (repeatI _ _ _ S (by omega)) (fun v18 s18 R18 => ?_) XT.stop
       obtain ⟨h18, rfl, O18⟩ := R18
       dsimp only [lcA, lnA]
       refine ⟨inferInstance, ?_⟩
       refine XT.q rfl rfl (Q.build [_, _, _] (.c 0 1 rfl rfl rfl (.c 1 1 rfl rfl rfl (.c 2 1 rfl rfl rfl (.n _))))) ?_
       refine XT.st rfl rfl rfl rfl rfl ⟨inferInstance, ?_⟩ XT.stop
       refine XT.done ?_
       exact mtr1 ((b3, v14, h14, v18, h18, v21, h21)) _ _ ⟨O14, O18, O21⟩ (.c rfl (.base 12 rfl rfl)) inferInstance
     ·skip
      refine XT.lit [_] [_] [-1] encI rfl rfl (by rfl) (by rfl) rfl (by rfl) (by exact .c 0 1 rfl rfl rfl (.n _)) (fun _ => rfl) (by rfl) rfl (by infer_instance) rfl (fun v15 h15 O15 => ⟨inferInstance, ?_⟩) ?_
      ·skip
       refine XT.call rfl rfl Tryz.call99 rfl rfl rfl (cloneB _ _ _ (by omega)) (fun v14 s14 R14 => ?_) ?_
       ·skip
        obtain ⟨h14, rfl, O14⟩ := R14
        dsimp only [lcA, lnA]
        refine ⟨inferInstance, ?_⟩
        refine XT.call rfl rfl Tryz.call100 rfl rfl rfl (repeatI _ _ _ S (by omega)) (fun v18 s18 R18 => ?_) ?_
        ·skip
         obtain ⟨h18, rfl, O18⟩ := R18
         dsimp only [lcA, lnA]
         refine ⟨inferInstance, ?_⟩
         refine XT.q rfl rfl (Q.build [_, _, _] (.c 0 1 rfl rfl rfl (.c 1 1 rfl rfl rfl (.c 2 1 rfl rfl rfl (.n _))))) ?_
         refine XT.alloc rfl rfl (fun b3 => ⟨inferInstance, ?_⟩) XT.stop
         refine XT.st rfl rfl rfl rfl rfl ⟨inferInstance, ?_⟩ XT.stop
         refine XT.done ?_
         exact mtr1 ((b3, v14, h14, v18, h18, v21, h21)) _ _ ⟨O14, O18, O21⟩ (.c rfl (.base 12 rfl rfl)) inferInstance
        ·skip
         refine XT.alloc rfl rfl (fun b3 => ⟨inferInstance, ?_⟩) XT.stop
         refine XT.call rfl rfl Tryz.call100 rfl rfl rfl (repeatI _ _ _ S (by omega)) (fun v18 s18 R18 => ?_) XT.stop
         obtain ⟨h18, rfl, O18⟩ := R18
         dsimp only [lcA, lnA]
         refine ⟨inferInstance, ?_⟩
         refine XT.q rfl rfl (Q.build [_, _, _] (.c 0 1 rfl rfl rfl (.c 1 1 rfl rfl rfl (.c 2 1 rfl rfl rfl (.n _))))) ?_
         refine XT.st rfl rfl rfl rfl rfl ⟨inferInstance, ?_⟩ XT.stop
         refine XT.done ?_
         exact mtr1 ((b3, v14, h14, v18, h18, v21, h21)) _ _ ⟨O14, O18, O21⟩ (.c rfl (.base 12 rfl rfl)) inferInstance
       ·skip
        refine XT.alloc rfl rfl (fun b3 => ⟨inferInstance, ?_⟩) XT.stop
        refine XT.call rfl rfl Tryz.call99 rfl rfl rfl (cloneB _ _ _ (by omega)) (fun v14 s14 R14 => ?_) XT.stop
        obtain ⟨h14, rfl, O14⟩ := R14
        dsimp only [lcA, lnA]
        refine ⟨inferInstance, ?_⟩
        refine XT.call rfl rfl Tryz.call100 rfl rfl rfl (repeatI _ _ _ S (by omega)) (fun v18 s18 R18 => ?_) XT.stop
        obtain ⟨h18, rfl, O18⟩ := R18
        dsimp only [lcA, lnA]
        refine ⟨inferInstance, ?_⟩
        refine XT.q rfl rfl (Q.build [_, _, _] (.c 0 1 rfl rfl rfl (.c 1 1 rfl rfl rfl (.c 2 1 rfl rfl rfl (.n _))))) ?_
        refine XT.st rfl rfl rfl rfl rfl ⟨inferInstance, ?_⟩ XT.stop
        refine XT.done ?_
        exact mtr1 ((b3, v14, h14, v18, h18, v21, h21)) _ _ ⟨O14, O18, O21⟩ (.c rfl (.base 12 rfl rfl)) inferInstance
      ·skip
       refine XT.alloc rfl rfl (fun b3 => ⟨inferInstance, ?_⟩) XT.stop
       refine XT.call rfl rfl Tryz.call99 rfl rfl rfl (cloneB _ _ _ (by omega)) (fun v14 s14 R14 => ?_) ?_
       ·skip
        obtain ⟨h14, rfl, O14⟩ := R14
        dsimp only [lcA, lnA]
        refine ⟨inferInstance, ?_⟩
        refine XT.lit [_] [_] [-1] encI rfl rfl (by rfl) (by rfl) rfl (by rfl) (by exact .c 0 1 rfl rfl rfl (.n _)) (fun _ => rfl) (by rfl) rfl (by infer_instance) rfl (fun v15 h15 O15 => ⟨inferInstance, ?_⟩) XT.stop
        refine XT.call rfl rfl Tryz.call100 rfl rfl rfl (repeatI _ _ _ S (by omega)) (fun v18 s18 R18 => ?_) XT.stop
        obtain ⟨h18, rfl, O18⟩ := R18
        dsimp only [lcA, lnA]
        refine ⟨inferInstance, ?_⟩
        refine XT.q rfl rfl (Q.build [_, _, _] (.c 0 1 rfl rfl rfl (.c 1 1 rfl rfl rfl (.c 2 1 rfl rfl rfl (.n _))))) ?_
        refine XT.st rfl rfl rfl rfl rfl ⟨inferInstance, ?_⟩ XT.stop
        refine XT.done ?_
        exact mtr1 ((b3, v14, h14, v18, h18, v21, h21)) _ _ ⟨O14, O18, O21⟩ (.c rfl (.base 12 rfl rfl)) inferInstance
       ·skip
        refine XT.lit [_] [_] [-1] encI rfl rfl (by rfl) (by rfl) rfl (by rfl) (by exact .c 0 1 rfl rfl rfl (.n _)) (fun _ => rfl) (by rfl) rfl (by infer_instance) rfl (fun v15 h15 O15 => ⟨inferInstance, ?_⟩) XT.stop
        refine XT.call rfl rfl Tryz.call99 rfl rfl rfl (cloneB _ _ _ (by omega)) (fun v14 s14 R14 => ?_) XT.stop
        obtain ⟨h14, rfl, O14⟩ := R14
        dsimp only [lcA, lnA]
        refine ⟨inferInstance, ?_⟩
        refine XT.call rfl rfl Tryz.call100 rfl rfl rfl (repeatI _ _ _ S (by omega)) (fun v18 s18 R18 => ?_) XT.stop
        obtain ⟨h18, rfl, O18⟩ := R18
        dsimp only [lcA, lnA]
        refine ⟨inferInstance, ?_⟩
        refine XT.q rfl rfl (Q.build [_, _, _] (.c 0 1 rfl rfl rfl (.c 1 1 rfl rfl rfl (.c 2 1 rfl rfl rfl (.n _))))) ?_
        refine XT.st rfl rfl rfl rfl rfl ⟨inferInstance, ?_⟩ XT.stop
        refine XT.done ?_
        exact mtr1 ((b3, v14, h14, v18, h18, v21, h21)) _ _ ⟨O14, O18, O21⟩ (.c rfl (.base 12 rfl rfl)) inferInstance
    ·skip
     refine XT.alloc rfl rfl (fun b3 => ⟨inferInstance, ?_⟩) XT.stop
     refine XT.call rfl rfl Tryz.call99 rfl rfl rfl (cloneB _ _ _ (by omega)) (fun v14 s14 R14 => ?_) ?_
     ·skip
      obtain ⟨h14, rfl, O14⟩ := R14
      dsimp only [lcA, lnA]
      refine ⟨inferInstance, ?_⟩
      refine XT.lit [_] [_] [-1] encI rfl rfl (by rfl) (by rfl) rfl (by rfl) (by exact .c 0 1 rfl rfl rfl (.n _)) (fun _ => rfl) (by rfl) rfl (by infer_instance) rfl (fun v15 h15 O15 => ⟨inferInstance, ?_⟩) ?_
      ·skip
       refine XT.call rfl rfl Tryz.call100 rfl rfl rfl (repeatI _ _ _ S (by omega)) (fun v18 s18 R18 => ?_) ?_
       ·skip
        obtain ⟨h18, rfl, O18⟩ := R18
        dsimp only [lcA, lnA]
        refine ⟨inferInstance, ?_⟩
        refine XT.make encI (0) rfl rfl rfl rfl rfl (by omega) (by omega) (fun _ => rfl) rfl rfl rfl (by dsimp only [encI]; infer_instance) (fun v21 h21 O21 => ⟨inferInstance, ?_⟩) XT.stop
        refine XT.q rfl rfl (Q.build [_, _, _] (.c 0 1 rfl rfl rfl (.c 1 1 rfl rfl rfl (.c 2 1 rfl rfl rfl (.n _))))) ?_
        refine XT.st rfl rfl rfl rfl rfl ⟨inferInstance, ?_⟩ XT.stop
        refine XT.done ?_
        exact mtr1 ((b3, v14, h14, v18, h18, v21, h21)) _ _ ⟨O14, O18, O21⟩ (.c rfl (.base 12 rfl rfl)) inferInstance
       ·skip
        refine XT.make encI (0) rfl rfl rfl rfl rfl (by omega) (by omega) (fun _ => rfl) rfl rfl rfl (by dsimp only [encI]; infer_instance) (fun v21 h21 O21 => ⟨inferInstance, ?_⟩) XT.stop
        refine XT.call rfl rfl Tryz.call100 rfl rfl rfl (repeatI _ _ _ S (by omega)) (fun v18 s18 R18 => ?_) XT.stop
        obtain ⟨h18, rfl, O18⟩ := R18
        dsimp only [lcA, lnA]
        refine ⟨inferInstance, ?_⟩
        refine XT.q rfl rfl (Q.build [_, _, _] (.c 0 1 rfl rfl rfl (.c 1 1 rfl rfl rfl (.c 2 1 rfl rfl rfl (.n _))))) ?_
        refine XT.st rfl rfl rfl rfl rfl ⟨inferInstance, ?_⟩ XT.stop
        refine XT.done ?_
        exact mtr1 ((b3, v14, h14, v18, h18, v21, h21)) _ _ ⟨O14, O18, O21⟩ (.c rfl (.base 12 rfl rfl)) inferInstance
      ·skip
       refine XT.make encI (0) rfl rfl rfl rfl rfl (by omega) (by omega) (fun _ => rfl) rfl rfl rfl (by dsimp only [encI]; infer_instance) (fun v21 h21 O21 => ⟨inferInstance, ?_⟩) XT.stop
       refine XT.lit [_] [_] [-1] encI rfl rfl (by rfl) (by rfl) rfl (by rfl) (by exact .c 0 1 rfl rfl rfl (.n _)) (fun _ => rfl) (by rfl) rfl (by infer_instance) rfl (fun v15 h15 O15 => ⟨inferInstance, ?_⟩) XT.stop
       refine XT.call rfl rfl Tryz.call100 rfl rfl rfl (repeatI _ _ _ S (by omega)) (fun v18 s18 R18 => ?_) XT.stop
       obtain ⟨h18, rfl, O18⟩ := R18
       dsimp only [lcA, lnA]
       refine ⟨inferInstance, ?_⟩
       refine XT.q rfl rfl (Q.build [_, _, _] (.c 0 1 rfl rfl rfl (.c 1 1 rfl rfl rfl (.c 2 1 rfl rfl rfl (.n _))))) ?_
       refine XT.st rfl rfl rfl rfl rfl ⟨inferInstance, ?_⟩ XT.stop
       refine XT.done ?_
       exact mtr1 ((b3, v14, h14, v18, h18, v21, h21)) _ _ ⟨O14, O18, O21⟩ (.c rfl (.base 12 rfl rfl)) inferInstance
     ·skip
      refine XT.lit [_] [_] [-1] encI rfl rfl (by rfl) (by rfl) rfl (by rfl) (by exact .c 0 1 rfl rfl rfl (.n _)) (fun _ => rfl) (by rfl) rfl (by infer_instance) rfl (fun v15 h15 O15 => ⟨inferInstance, ?_⟩) ?_
      ·skip
       refine XT.call rfl rfl Tryz.call99 rfl rfl rfl (cloneB _ _ _ (by omega)) (fun v14 s14 R14 => ?_) ?_
       ·skip
        obtain ⟨h14, rfl, O14⟩ := R14
        dsimp only [lcA, lnA]
        refine ⟨inferInstance, ?_⟩
        refine XT.call rfl rfl Tryz.call100 rfl rfl rfl (repeatI _ _ _ S (by omega)) (fun v18 s18 R18 => ?_) ?_
        ·skip
         obtain ⟨h18, rfl, O18⟩ := R18
         dsimp only [lcA, lnA]
         refine ⟨inferInstance, ?_⟩
         refine XT.make encI (0) rfl rfl rfl rfl rfl (by omega) (by omega) (fun _ => rfl) rfl rfl rfl (by dsimp only [encI]; infer_instance) (fun v21 h21 O21 => ⟨inferInstance, ?_⟩) XT.stop
         refine XT.q rfl rfl (Q.build [_, _, _] (.c 0 1 rfl rfl rfl (.c 1 1 rfl rfl rfl (.c 2 1 rfl rfl rfl (.n _))))) ?_
         refine XT.st rfl rfl rfl rfl rfl ⟨inferInstance, ?_⟩ XT.stop
         refine XT.done ?_
         exact mtr1 ((b3, v14, h14, v18, h18, v21, h21)) _ _ ⟨O14, O18, O21⟩ (.c rfl (.base 12 rfl rfl)) inferInstance
        ·skip
         refine XT.make encI (0) rfl rfl rfl rfl rfl (by omega) (by omega) (fun _ => rfl) rfl rfl rfl (by dsimp only [encI]; infer_instance) (fun v21 h21 O21 => ⟨inferInstance, ?_⟩) XT.stop
         refine XT.call rfl rfl Tryz.call100 rfl rfl rfl (repeatI _ _ _ S (by omega)) (fun v18 s18 R18 => ?_) XT.stop
         obtain ⟨h18, rfl, O18⟩ := R18
         dsimp only [lcA, lnA]
         refine ⟨inferInstance, ?_⟩
         refine XT.q rfl rfl (Q.build [_, _, _] (.c 0 1 rfl rfl rfl (.c 1 1 rfl rfl rfl (.c 2 1 rfl rfl rfl (.n _))))) ?_
         refine XT.st rfl rfl rfl rfl rfl ⟨inferInstance, ?_⟩ XT.stop
         refine XT.done ?_
         exact mtr1 ((b3, v14, h14, v18, h18, v21, h21)) _ _ ⟨O14, O18, O21⟩ (.c rfl (.base 12 rfl rfl)) inferInstance
       ·skip
        refine XT.make encI (0) rfl rfl rfl rfl rfl (by omega) (by omega) (fun _ => rfl) rfl rfl rfl (by dsimp only [encI]; infer_instance) (fun v21 h21 O21 => ⟨inferInstance, ?_⟩) XT.stop
        refine XT.call rfl rfl Tryz.call99 rfl rfl rfl (cloneB _ _ _ (by omega)) (fun v14 s14 R14 => ?_) XT.stop
        obtain ⟨h14, rfl, O14⟩ := R14
        dsimp only [lcA, lnA]
        refine ⟨inferInstance, ?_⟩
        refine XT.call rfl rfl Tryz.call100 rfl rfl rfl (repeatI _ _ _ S (by omega)) (fun v18 s18 R18 => ?_) XT.stop
        obtain ⟨h18, rfl, O18⟩ := R18
        dsimp only [lcA, lnA]
        refine ⟨inferInstance, ?_⟩
        refine XT.q rfl rfl (Q.build [_, _, _] (.c 0 1 rfl rfl rfl (.c 1 1 rfl rfl rfl (.c 2 1 rfl rfl rfl (.n _))))) ?_
        refine XT.st rfl rfl rfl rfl rfl ⟨inferInstance, ?_⟩ XT.stop
        refine XT.done ?_
        exact mtr1 ((b3, v14, h14, v18, h18, v21, h21)) _ _ ⟨O14, O18, O21⟩ (.c rfl (.base 12 rfl rfl)) inferInstance
      ·skip
       refine XT.make encI (0) rfl rfl rfl rfl rfl (by omega) (by omega) (fun _ => rfl) rfl rfl rfl (by dsimp only [encI]; infer_instance) (fun v21 h21 O21 => ⟨inferInstance, ?_⟩) XT.stop
       refine XT.call rfl rfl Tryz.call99 rfl rfl rfl (cloneB _ _ _ (by omega)) (fun v14 s14 R14 => ?_) ?_
       ·skip
        obtain ⟨h14, rfl, O14⟩ := R14
        dsimp only [lcA, lnA]
        refine ⟨inferInstance, ?_⟩
        refine XT.lit [_] [_] [-1] encI rfl rfl (by rfl) (by rfl) rfl (by rfl) (by exact .c 0 1 rfl rfl rfl (.n _)) (fun _ => rfl) (by rfl) rfl (by infer_instance) rfl (fun v15 h15 O15 => ⟨inferInstance, ?_⟩) XT.stop
        refine XT.call rfl rfl Tryz.call100 rfl rfl rfl (repeatI _ _ _ S (by omega)) (fun v18 s18 R18 => ?_) XT.stop
        obtain ⟨h18, rfl, O18⟩ := R18
        dsimp only [lcA, lnA]
        refine ⟨inferInstance, ?_⟩
        refine XT.q rfl rfl (Q.build [_, _, _] (.c 0 1 rfl rfl rfl (.c 1 1 rfl rfl rfl (.c 2 1 rfl rfl rfl (.n _))))) ?_
        refine XT.st rfl rfl rfl rfl rfl ⟨inferInstance, ?_⟩ XT.stop
        refine XT.done ?_
        exact mtr1 ((b3, v14, h14, v18, h18, v21, h21)) _ _ ⟨O14, O18, O21⟩ (.c rfl (.base 12 rfl rfl)) inferInstance
       ·skip
        refine XT.lit [_] [_] [-1] encI rfl rfl (by rfl) (by rfl) rfl (by rfl) (by exact .c 0 1 rfl rfl rfl (.n _)) (fun _ => rfl) (by rfl) rfl (by infer_instance) rfl (fun v15 h15 O15 => ⟨inferInstance, ?_⟩) XT.stop
        refine XT.call rfl rfl Tryz.call99 rfl rfl rfl (cloneB _ _ _ (by omega)) (fun v14 s14 R14 => ?_) XT.stop
        obtain ⟨h14, rfl, O14⟩ := R14
        dsimp only [lcA, lnA]
        refine ⟨inferInstance, ?_⟩
        refine XT.call rfl rfl Tryz.call100 rfl rfl rfl (repeatI _ _ _ S (by omega)) (fun v18 s18 R18 => ?_) XT.stop
        obtain ⟨h18, rfl, O18⟩ := R18
        dsimp only [lcA, lnA]
        refine ⟨inferInstance, ?_⟩
        refine XT.q rfl rfl (Q.build [_, _, _] (.c 0 1 rfl rfl rfl (.c 1 1 rfl rfl rfl (.c 2 1 rfl rfl rfl (.n _))))) ?_
        refine XT.st rfl rfl rfl rfl rfl ⟨inferInstance, ?_⟩ XT.stop
        refine XT.done ?_
        exact mtr1 ((b3, v14, h14, v18, h18, v21, h21)) _ _ ⟨O14, O18, O21⟩ (.c rfl (.base 12 rfl rfl)) inferInstance
end Go.X.Ke

set_option linter.unusedSimpArgs false
set_option maxRecDepth 20000
set_option linter.unusedVariables false
set_option maxRecDepth 20000
namespace Go.X.Ke
open Go.Proofs
theorem Solve_spec (g : G) (vn vg : Value) (hn hg : PHeap) [sn : Arr vn encI 1 hn g.next] [sg : Arr vg encB 1 hg g.good] : Spec Tryz.prog 12 #[.agg #[.int .i64 g.S, .int .i64 g.C, .int .i64 g.K, vn, vg]] [] [hn, hg] (fun v hs => ∃ v1 v2 v3 k1 k2 k3, v = .tuple #[.agg #[v1, v2, v3], .int .i64 (gcheck g)] ∧ hs = [k1, k2, k3] ∧ OArr v1 encB 1 4 k1 (solveG g).1 ∧ OArr v2 encI 1 3 k2 (solveG g).2.1 ∧ OArr v3 encI 1 3 k3 (solveG g).2.2) := by
 refine Spec.intro (fn := Tryz.f12) (N := 13) Tryz.func12 rfl Tryz.ntmps12 rfl fun B => ?_
 refine XK.seq (XK.region rfl ?_)
 refine XO.box rfl fun b1 => ?_
 refine XO.alloc fun b2 => ?_
 refine XO.q (Q.assign rfl) (XO.done (XK.seq (XK.seq (XK.region rfl ?_))))
 refine XO.q (Q.ldA [_, _, _, _, _] rfl rfl rfl) ?_
 refine XO.call Tryz.call44 rfl rfl rfl (check _ _ _ _ _) fun v6 s6 R6 => ?_
 obtain ⟨rfl, rfl⟩ := R6
 dsimp only [lcA, lnA]
 refine XO.q (Q.assign rfl) (XO.done (XK.seq (XK.region rfl (XO.q (Q.move rfl) ?_))))
 refine XO.q (Q.neq rfl rfl) ?_
 refine XO.done ?_
 refine XK.if rfl (fun c0 => ?_) (fun c0 => ?_)
 ·skip
  refine XK.seq (XK.region rfl ?_)
  refine XO.q (Q.build [_, _, _] (.n _)) ?_
  refine XO.q (Q.move rfl) ?_
  refine XO.st rfl rfl rfl ?_
  refine XO.q (Q.assign rfl) (XO.done ?_)
  refine XK.rt [emp, emp, emp] Tryz.func12 Tryz.results12 (.cell [_, _, _] rfl rfl rfl (.t rfl .n)) ?_
  have hw : solveG g = ([], [], []) := by rw [solveG, if_pos c0]
  rw [hw]
  exact ⟨.slice none 0 0, .slice none 0 0, .slice none 0 0, emp, emp, emp, rfl, rfl, OArr.nil (fun _ => rfl), OArr.nil (fun _ => rfl), OArr.nil (fun _ => rfl)⟩
 ·skip
  obtain ⟨S, C, K, hS, hC, hK, ok⟩ := gcheck_ok (Decidable.of_not_not c0)
  obtain ⟨gS, gC, gK, next, good⟩ := g
  dsimp only at hS hC hK ok sn sg ⊢
  subst hS hC hK
  refine XK.skip (XK.seq (XK.region rfl ?_))
  refine XO.q (Q.ldA [_, _, _, _, _] rfl rfl rfl) ?_
  refine XO.call Tryz.call45 rfl rfl rfl (solve_spec S C K next good ok vn vg hn hg) fun v12 s12 R12 => ?_
  obtain ⟨v1, v2, v3, k1, k2, k3, rfl, rfl, O1, O2, O3⟩ := R12
  dsimp only [lcA, lnA]
  refine XO.st rfl rfl rfl ?_
  refine XO.q (Q.assign rfl) (XO.done ?_)
  refine XK.rt [k1, k2, k3] Tryz.func12 Tryz.results12 (.cell [_, _, _] rfl rfl rfl (.t rfl .n)) ?_
  have hw : solveG ⟨S, C, K, next, good⟩ = solved S C K next good := by rw [solveG, if_neg c0]; simp
  have hw0 : gcheck ⟨S, C, K, next, good⟩ = 0 := Decidable.of_not_not c0
  rw [hw, hw0]
  exact ⟨v1, v2, v3, k1, k2, k3, rfl, rfl, O1, O2, O3⟩
end Go.X.Ke

set_option linter.unusedSimpArgs false
set_option linter.unusedVariables false
set_option maxRecDepth 20000
namespace Go.X.Pl
open Go.Proofs
def encDraw (x : PDraw) : List Value := [.int .i64 x.power, .int .i64 x.count]
def encPJ (x : Value × PJob) : List Value := [.int .i64 x.2.n0, .int .i64 x.2.n1, .int .i64 x.2.n2, x.1, .int .i64 x.2.group, .int .i64 x.2.worth]
def encRack (x : PRack) : List Value := [.int .i64 x.r0, .int .i64 x.r1, .int .i64 x.r2, .int .i64 x.cap, .int .i64 x.domain]
/-- The draws of jobs lie in one heap. -/
def JobsK (ms : List (Value × PJob)) (K : PHeap) : Prop := ∀ i, i < ms.length → Arr (ms.getD i default).1 encDraw 2 K (ms.getD i default).2.draws
theorem map_snd_atP (l : List (Value × PJob)) (i : Nat) : (l.map Prod.snd).getD i default = (l.getD i default).2 := by
 rw [List.getD_eq_getElem?_getD, List.getD_eq_getElem?_getD, List.getElem?_map]
 cases l[i]? <;> rfl
theorem indexFuncI (v : Value) (h : PHeap) (xs : List Int) [s : Arr v encI 1 h xs] (gid : FuncId) (cap : List Value) (Hr : List PHeap) (p : Int → Bool)
  (hc : ∀ args w, (callFunc gid args).run Tryz.prog w = .ok (.enter gid args) w) (hS : ∀ x ∈ xs, Spec Tryz.prog gid (.int .i64 x :: cap).toArray [] Hr (fun v hs => v = .bool (p x) ∧ hs = [])) :
  Spec Tryz.prog 159 #[v, .func (.func gid) #[] cap.toArray] [] (h :: Hr) (fun v hs => v = .int .i64 (findFirst p xs) ∧ hs = []) := by apply Go.X.Bk.indexFuncI <;> assumption
theorem containsFuncI (v : Value) (h : PHeap) (xs : List Int) [s : Arr v encI 1 h xs] (gid : FuncId) (cap : List Value) (Hr : List PHeap) (p : Int → Bool)
  (hc : ∀ args w, (callFunc gid args).run Tryz.prog w = .ok (.enter gid args) w) (hS : ∀ x ∈ xs, Spec Tryz.prog gid (.int .i64 x :: cap).toArray [] Hr (fun v hs => v = .bool (p x) ∧ hs = [])) :
  Spec Tryz.prog 97 #[v, .func (.func gid) #[] cap.toArray] [] (h :: Hr) (fun v hs => v = .bool (xs.any p) ∧ hs = []) := by apply Go.X.Bk.containsFuncI <;> assumption
theorem indexFuncPJ (v : Value) (h : PHeap) (xs : List (Value × PJob)) [s : Arr v encPJ 6 h xs] (gid : FuncId) (cap : List Value) (Hr : List PHeap) (p : (Value × PJob) → Bool)
  (hc : ∀ args w, (callFunc gid args).run Tryz.prog w = .ok (.enter gid args) w) (hS : ∀ x ∈ xs, Spec Tryz.prog gid (.agg #[.int .i64 x.2.n0, .int .i64 x.2.n1, .int .i64 x.2.n2, x.1, .int .i64 x.2.group, .int .i64 x.2.worth] :: cap).toArray [] Hr (fun v hs => v = .bool (p x) ∧ hs = [])) :
  Spec Tryz.prog 173 #[v, .func (.func gid) #[] cap.toArray] [] (h :: Hr) (fun v hs => v = .int .i64 (findFirst p xs) ∧ hs = []) := by
 refine Spec.intro (fn := Tryz.f173) (N := 19) Tryz.func173 rfl Tryz.ntmps173 rfl fun B => ?_
 refine XK.seq (XK.region rfl (XO.q (Q.assign rfl) (XO.done (XK.seq (XK.seq ?_)))))
 refine XK.region rfl (XO.q (Q.move rfl) ?_)
 refine XO.len rfl fun l7 => ?_
 refine XO.q (Q.move rfl) (XO.done (XK.block ?_))
 refine XK.while (X := Nat) [4, 5, 8, 9, 10, 11, 12, 13, 14, 15, 16, 17, 18] (fun i => [(8, some (.int .i64 (i : Nat)))]) (fun i => []) (fun i => i ≤ xs.length ∧ (xs.take i).any p = false) (fun i => xs.length - i) (0) [] rfl ⟨by omega, rfl⟩ (.c rfl (.base 0 rfl rfl)) ?_
 rintro i ⟨hi, ht⟩ ih0
 dsimp only [lcA, lnA] at ih0 ⊢
 refine XK.seq (XK.region rfl ?_)
 refine XO.q (Q.lss rfl rfl) ?_
 refine XO.done (XK.seq ?_)
 refine XK.if rfl (fun c0 => ?_) (fun c0 => ?_)
 ·skip
  refine XK.skip (XK.seq (XK.block (XK.seq (XK.region rfl (XO.q (Q.move rfl) ?_)))))
  refine XO.q (Q.assign rfl) (XO.done (XK.seq (XK.region rfl (XO.q (Q.move rfl) (XO.q (Q.move rfl) ?_)))))
  refine XO.q (Q.move rfl) ?_
  refine XO.ix rfl rfl (by omega) (by omega) fun i14 => ?_
  refine XO.q (Q.ldEA [_, _, _, _, _, _] rfl (by first | assumption | omega) rfl rfl) ?_
  refine XO.call hc rfl rfl rfl (hS _ (getD_mem (by omega))) fun v16 s16 R16 => ?_
  obtain ⟨rfl, rfl⟩ := R16
  dsimp only [lcA, lnA]
  refine XO.done ?_
  refine XK.if rfl (fun c1 => ?_) (fun c1 => ?_)
  ·skip
   refine XK.seq (XK.region rfl (XO.q (Q.move rfl) (XO.q (Q.assign rfl) (XO.done ?_))))
   refine XK.rt [] Tryz.func173 Tryz.results173 (.t rfl .n) ?_
   exact ⟨by rw [findFirst_here ht (by omega) c1], rfl⟩
  ·skip
   refine XK.skip ?_
   refine XK.inBlock ?_
   refine XK.region rfl ?_
   refine XO.q (Q.add rfl rfl ⟨by omega, by omega⟩) ?_
   refine XO.q (Q.move rfl) (XO.done ?_)
   exact ih0 (i + 1) _ _ ⟨by omega, any_step ht (by omega) (Bool.eq_false_iff.2 c1)⟩ (by first | omega | (dsimp only; omega)) (.c rfl (.base 25 rfl rfl)) inferInstance
 ·skip
  refine XK.exit rfl ?_
  refine XK.seq (XK.region rfl (XO.q (Q.assign rfl) (XO.done ?_)))
  refine XK.rt [] Tryz.func173 Tryz.results173 (.t rfl .n) ?_
  exact ⟨by rw [findFirst_none ht c0], rfl⟩
theorem containsFuncPJ (v : Value) (h : PHeap) (xs : List (Value × PJob)) [s : Arr v encPJ 6 h xs] (gid : FuncId) (cap : List Value) (Hr : List PHeap) (p : (Value × PJob) → Bool)
  (hc : ∀ args w, (callFunc gid args).run Tryz.prog w = .ok (.enter gid args) w) (hS : ∀ x ∈ xs, Spec Tryz.prog gid (.agg #[.int .i64 x.2.n0, .int .i64 x.2.n1, .int .i64 x.2.n2, x.1, .int .i64 x.2.group, .int .i64 x.2.worth] :: cap).toArray [] Hr (fun v hs => v = .bool (p x) ∧ hs = [])) :
  Spec Tryz.prog 124 #[v, .func (.func gid) #[] cap.toArray] [] (h :: Hr) (fun v hs => v = .bool (xs.any p) ∧ hs = []) := by
 refine Spec.intro (fn := Tryz.f124) (N := 9) Tryz.func124 rfl Tryz.ntmps124 rfl fun B => ?_
 refine XK.seq (XK.region rfl (XO.q (Q.assign rfl) (XO.done (XK.seq (XK.region rfl ?_)))))
 refine XO.q (Q.move rfl) (XO.q (Q.move rfl) ?_)
 refine XO.call Tryz.call173 rfl rfl rfl (indexFuncPJ v h xs gid cap Hr p hc hS) fun v7 s7 R7 => ?_
 obtain ⟨rfl, rfl⟩ := R7
 dsimp only [lcA, lnA]
 refine XO.q (Q.geq rfl rfl) ?_
 refine XO.q (Q.assign rfl) (XO.done ?_)
 refine XK.rt [] Tryz.func124 Tryz.results124 (.t rfl .n) ?_
 exact ⟨by rw [← findFirst_any], rfl⟩
theorem indexFuncPR (v : Value) (h : PHeap) (xs : List PRack) [s : Arr v encRack 5 h xs] (gid : FuncId) (cap : List Value) (Hr : List PHeap) (p : PRack → Bool)
  (hc : ∀ args w, (callFunc gid args).run Tryz.prog w = .ok (.enter gid args) w) (hS : ∀ x ∈ xs, Spec Tryz.prog gid (.agg #[.int .i64 x.r0, .int .i64 x.r1, .int .i64 x.r2, .int .i64 x.cap, .int .i64 x.domain] :: cap).toArray [] Hr (fun v hs => v = .bool (p x) ∧ hs = [])) :
  Spec Tryz.prog 201 #[v, .func (.func gid) #[] cap.toArray] [] (h :: Hr) (fun v hs => v = .int .i64 (findFirst p xs) ∧ hs = []) := by
 refine Spec.intro (fn := Tryz.f201) (N := 19) Tryz.func201 rfl Tryz.ntmps201 rfl fun B => ?_
 refine XK.seq (XK.region rfl (XO.q (Q.assign rfl) (XO.done (XK.seq (XK.seq ?_)))))
 refine XK.region rfl (XO.q (Q.move rfl) ?_)
 refine XO.len rfl fun l7 => ?_
 refine XO.q (Q.move rfl) (XO.done (XK.block ?_))
 refine XK.while (X := Nat) [4, 5, 8, 9, 10, 11, 12, 13, 14, 15, 16, 17, 18] (fun i => [(8, some (.int .i64 (i : Nat)))]) (fun i => []) (fun i => i ≤ xs.length ∧ (xs.take i).any p = false) (fun i => xs.length - i) (0) [] rfl ⟨by omega, rfl⟩ (.c rfl (.base 0 rfl rfl)) ?_
 rintro i ⟨hi, ht⟩ ih0
 dsimp only [lcA, lnA] at ih0 ⊢
 refine XK.seq (XK.region rfl ?_)
 refine XO.q (Q.lss rfl rfl) ?_
 refine XO.done (XK.seq ?_)
 refine XK.if rfl (fun c0 => ?_) (fun c0 => ?_)
 ·skip
  refine XK.skip (XK.seq (XK.block (XK.seq (XK.region rfl (XO.q (Q.move rfl) ?_)))))
  refine XO.q (Q.assign rfl) (XO.done (XK.seq (XK.region rfl (XO.q (Q.move rfl) (XO.q (Q.move rfl) ?_)))))
  refine XO.q (Q.move rfl) ?_
  refine XO.ix rfl rfl (by omega) (by omega) fun i14 => ?_
  refine XO.q (Q.ldEA [_, _, _, _, _] rfl (by first | assumption | omega) rfl rfl) ?_
  refine XO.call hc rfl rfl rfl (hS _ (getD_mem (by omega))) fun v16 s16 R16 => ?_
  obtain ⟨rfl, rfl⟩ := R16
  dsimp only [lcA, lnA]
  refine XO.done ?_
  refine XK.if rfl (fun c1 => ?_) (fun c1 => ?_)
  ·skip
   refine XK.seq (XK.region rfl (XO.q (Q.move rfl) (XO.q (Q.assign rfl) (XO.done ?_))))
   refine XK.rt [] Tryz.func201 Tryz.results201 (.t rfl .n) ?_
   exact ⟨by rw [findFirst_here ht (by omega) c1], rfl⟩
  ·skip
   refine XK.skip ?_
   refine XK.inBlock ?_
   refine XK.region rfl ?_
   refine XO.q (Q.add rfl rfl ⟨by omega, by omega⟩) ?_
   refine XO.q (Q.move rfl) (XO.done ?_)
   exact ih0 (i + 1) _ _ ⟨by omega, any_step ht (by omega) (Bool.eq_false_iff.2 c1)⟩ (by first | omega | (dsimp only; omega)) (.c rfl (.base 25 rfl rfl)) inferInstance
 ·skip
  refine XK.exit rfl ?_
  refine XK.seq (XK.region rfl (XO.q (Q.assign rfl) (XO.done ?_)))
  refine XK.rt [] Tryz.func201 Tryz.results201 (.t rfl .n) ?_
  exact ⟨by rw [findFirst_none ht c0], rfl⟩
theorem containsFuncPR (v : Value) (h : PHeap) (xs : List PRack) [s : Arr v encRack 5 h xs] (gid : FuncId) (cap : List Value) (Hr : List PHeap) (p : PRack → Bool)
  (hc : ∀ args w, (callFunc gid args).run Tryz.prog w = .ok (.enter gid args) w) (hS : ∀ x ∈ xs, Spec Tryz.prog gid (.agg #[.int .i64 x.r0, .int .i64 x.r1, .int .i64 x.r2, .int .i64 x.cap, .int .i64 x.domain] :: cap).toArray [] Hr (fun v hs => v = .bool (p x) ∧ hs = [])) :
  Spec Tryz.prog 168 #[v, .func (.func gid) #[] cap.toArray] [] (h :: Hr) (fun v hs => v = .bool (xs.any p) ∧ hs = []) := by
 refine Spec.intro (fn := Tryz.f168) (N := 9) Tryz.func168 rfl Tryz.ntmps168 rfl fun B => ?_
 refine XK.seq (XK.region rfl (XO.q (Q.assign rfl) (XO.done (XK.seq (XK.region rfl ?_)))))
 refine XO.q (Q.move rfl) (XO.q (Q.move rfl) ?_)
 refine XO.call Tryz.call201 rfl rfl rfl (indexFuncPR v h xs gid cap Hr p hc hS) fun v7 s7 R7 => ?_
 obtain ⟨rfl, rfl⟩ := R7
 dsimp only [lcA, lnA]
 refine XO.q (Q.geq rfl rfl) ?_
 refine XO.q (Q.assign rfl) (XO.done ?_)
 refine XK.rt [] Tryz.func168 Tryz.results168 (.t rfl .n) ?_
 exact ⟨by rw [← findFirst_any], rfl⟩
theorem pin1 (b : Nat) (m x : Int) : Spec Tryz.prog 202 #[.int .i64 x, ptr b 0] [] [blk b [.int .i64 m] 3] (fun v hs => v = .bool (pout m x) ∧ hs = []) := by
 refine Spec.intro (fn := Tryz.f202) (N := 11) Tryz.func202 rfl Tryz.ntmps202 rfl fun B => ?_
 refine XK.seq (XK.region rfl (XO.q (Q.assign rfl) (XO.done (XK.seq (XK.region rfl ?_)))))
 refine XO.q (Q.move rfl) ?_
 refine XO.q (Q.lss rfl rfl) ?_
 refine XO.q (Q.move rfl) ?_
 refine XO.q (Quiet.guardF rfl rfl fun g7 p7 => Q.move rfl) ?_
 refine XO.q (Quiet.guardF rfl rfl fun g8 p8 => Q.ld rfl rfl) ?_
 refine XO.q (Quiet.guardF rfl rfl fun g9 p9 => Q.gtr (lzv g9 rfl) (lzv g9 rfl)) ?_
 refine XO.q (Q.or rfl (fun hp => lzv hp rfl)) ?_
 refine XO.q (Q.assign rfl) (XO.done ?_)
 refine XK.rt [] Tryz.func202 Tryz.results202 (.t rfl .n) ?_
 exact ⟨rfl, rfl⟩
theorem pin_spec (m : Int) (v : Value) (h : PHeap) (xs : List Int) [s : Arr v encI 1 h xs] : Spec Tryz.prog 174 #[.int .i64 m, v] [] [h] (fun v hs => v = .bool (pin m xs) ∧ hs = []) := by
 refine Spec.intro (fn := Tryz.f174) (N := 9) Tryz.func174 rfl Tryz.ntmps174 rfl fun B => ?_
 refine XK.seq (XK.region rfl ?_)
 refine XO.box rfl fun b2 => ?_
 refine XO.q (Q.assign rfl) (XO.done (XK.seq (XK.region rfl (XO.q (Q.move rfl) ?_))))
 refine XO.q (Q.func (fun _ he => rfl) (fun _ he => evs_rel he rfl)) ?_
 refine XO.call Tryz.call97 rfl rfl rfl (containsFuncI v h xs 202 [ptr b2 0] [blk b2 [.int .i64 m] 3] (pout m) Tryz.call202 (fun x hx => pin1 b2 m x)) fun v7 s7 R7 => ?_
 obtain ⟨rfl, rfl⟩ := R7
 dsimp only [lcA, lnA]
 refine XO.q (Q.not rfl) ?_
 refine XO.q (Q.assign rfl) (XO.done ?_)
 refine XK.rt [] Tryz.func174 Tryz.results174 (.t rfl .n) ?_
 exact ⟨rfl, rfl⟩
theorem divisor_spec (a b : Nat) (ha : (a : Int) ≤ 9223372036854775807) (hb : (b : Int) ≤ 9223372036854775807) : Spec Tryz.prog 128 #[.int .i64 (a : Nat), .int .i64 (b : Nat)] [] [] (fun v hs => v = .int .i64 (Nat.gcd a b : Nat) ∧ hs = []) := by
 refine Spec.intro (fn := Tryz.f128) (N := 12) Tryz.func128 rfl Tryz.ntmps128 rfl fun B => ?_
 refine XK.seq (XK.region rfl (XO.q (Q.assign rfl) (XO.done (XK.seq (XK.block ?_)))))
 refine XK.while (X := Nat × Nat) [0, 1, 5, 6, 7, 8, 9, 10] (fun ⟨x, y⟩ => [(0, some (.int .i64 (x : Nat))), (1, some (.int .i64 (y : Nat)))]) (fun ⟨x, y⟩ => []) (fun ⟨x, y⟩ => ((x : Int) ≤ 9223372036854775807 ∧ (y : Int) ≤ 9223372036854775807) ∧ Nat.gcd x y = Nat.gcd a b) (fun ⟨x, y⟩ => y) (a, b) [] rfl ⟨⟨ha, hb⟩, rfl⟩ (.c rfl (.c rfl (.base 0 rfl rfl))) ?_
 rintro ⟨x, y⟩ ⟨⟨hx, hyb⟩, hg⟩ ih0
 dsimp only [lcA, lnA] at ih0 ⊢
 refine XK.seq (XK.seq (XK.region rfl (XO.q (Q.move rfl) ?_)))
 refine XO.q (Q.neq rfl rfl) ?_
 refine XO.done ?_
 refine XK.if rfl (fun c0 => ?_) (fun c0 => ?_)
 ·skip
  have hy : 0 < y := by omega
  have hm := Nat.mod_lt x hy
  refine XK.skip (XK.block ?_)
  refine XK.drawn [0, 1, 2, 3, 4, 5] [] [] (.q 0 (.q 1 (.q 2 (.q 3 (.q 4 (.q 5 .done)))))) Tryz.mixed rfl (by kernel_rfl) ?_
  refine XT.q rfl rfl (Q.move rfl) ?_
  refine XT.q rfl rfl (Q.move rfl) ?_
  refine XT.q rfl rfl (Q.move rfl) ?_
  refine XT.q rfl rfl (Q.rem rfl rfl (by omega) (by omega)) ?_
  rw [show (x : Int) % (y : Int) = ((x % y : Nat) : Int) from rfl]
  refine XT.q rfl rfl (Q.assign rfl) ?_
  refine XT.q rfl rfl (Q.assign rfl) ?_
  refine XT.done ?_
  refine XK.inBlock ?_
  exact ih0 (y, x % y) _ _ ⟨⟨by dsimp only; omega, by dsimp only; omega⟩, by dsimp only; rw [← hg, Nat.gcd_comm y, ← Nat.gcd_rec, Nat.gcd_comm]⟩ (by first | omega | (dsimp only; omega)) (.c rfl (.c rfl (.base 18 rfl rfl))) inferInstance
 ·skip
  have hy : y = 0 := by omega
  subst hy
  refine XK.exit rfl ?_
  refine XK.seq (XK.region rfl (XO.q (Q.move rfl) (XO.q (Q.assign rfl) (XO.done ?_))))
  refine XK.rt [] Tryz.func128 Tryz.results128 (.t rfl .n) ?_
  exact ⟨by rw [← hg, Nat.gcd_zero_right], rfl⟩
theorem chance_spec (r : PRat) : Spec Tryz.prog 171 #[.agg #[.int .i64 r.n, .int .i64 r.d]] [] [] (fun v hs => v = .bool (chanceR r) ∧ hs = []) := by
 refine Spec.intro (fn := Tryz.f171) (N := 27) Tryz.func171 rfl Tryz.ntmps171 rfl fun B => ?_
 refine XK.seq (XK.region rfl ?_)
 refine XO.box rfl fun b1 => ?_
 refine XO.q (Q.assign rfl) (XO.done (XK.seq (XK.region rfl ?_)))
 refine XO.q (Q.fieldAddr rfl) ?_
 refine XO.q (Q.ld rfl rfl) ?_
 refine XO.q (Q.geq rfl rfl) ?_
 refine XO.q (Q.move rfl) ?_
 refine XO.q (Quiet.guardT rfl rfl fun g7 p7 => Q.fieldAddr rfl) ?_
 refine XO.q (Quiet.guardT rfl rfl fun g8 p8 => Q.ld (lzv g8 rfl) rfl) ?_
 refine XO.q (Quiet.guardT rfl rfl fun g9 p9 => Q.leq (lzv g9 rfl) rfl) ?_
 refine XO.q (Q.and rfl (fun hp => lzv hp rfl)) ?_
 refine XO.q (Q.move rfl) ?_
 refine XO.q (Quiet.guardT rfl rfl fun g12 p12 => Q.fieldAddr rfl) ?_
 refine XO.q (Quiet.guardT rfl rfl fun g13 p13 => Q.ld (lzv g13 rfl) rfl) ?_
 refine XO.q (Quiet.guardT rfl rfl fun g14 p14 => Q.fieldAddr rfl) ?_
 refine XO.q (Quiet.guardT rfl rfl fun g15 p15 => Q.ld (lzv g15 rfl) rfl) ?_
 refine XO.lit1 [_] [_] [r.n] encI rfl rfl (by rfl) (by rfl) rfl (by rfl) (fun g16 => by exact .c 0 1 (lzv g16 rfl) rfl rfl (.n _)) (fun _ => rfl) (by rfl) rfl (fun _ => by infer_instance) rfl (fun v16 h16 O16 => ?_)
 refine XO.gcallT rfl rfl Tryz.call174 rfl (fun g17 => .c (lzv g17 rfl) (.c (lzv g17 rfl) .n)) rfl (fun g17 p17 => by haveI := O16 g17; exact pin_spec r.d v16 h16 [r.n]) ?_
 refine XO.q (Q.and rfl (fun hp => lzv hp rfl)) ?_
 refine XO.q (Q.move rfl) ?_
 refine XO.q (Quiet.guardT rfl rfl fun g20 p20 => Q.fieldAddr rfl) ?_
 refine XO.q (Quiet.guardT rfl rfl fun g21 p21 => Q.ld (lzv g21 rfl) rfl) ?_
 refine XO.q (Quiet.guardT rfl rfl fun g22 p22 => Q.fieldAddr rfl) ?_
 refine XO.q (Quiet.guardT rfl rfl fun g23 p23 => Q.ld (lzv g23 rfl) rfl) ?_
 refine XO.gcallT rfl rfl Tryz.call128 rfl (fun g24 => .c (lzv g24 rfl) (.c (lzv g24 rfl) .n)) rfl (fun g24 p24 => (by
  have q := pin_one.1 p24.2
  have e1 : r.n = (r.n.toNat : Int) := by omega
  have e2 : r.d = (r.d.toNat : Int) := by omega
  have s := divisor_spec r.n.toNat r.d.toNat (by omega) (by omega)
  rw [← e1, ← e2] at s
  exact s)) ?_
 refine XO.q (Quiet.guardT rfl rfl fun g25 p25 => Q.eql (lzv g25 rfl) rfl) ?_
 refine XO.q (Q.and rfl (fun hp => lzv hp rfl)) ?_
 refine XO.q (Q.assign rfl) (XO.done ?_)
 refine XK.rt [] Tryz.func171 Tryz.results171 (.t rfl .n) ?_
 refine ⟨?_, rfl⟩
 unfold chanceR
 by_cases h : pin r.d [r.n] = true
 ·have q := pin_one.1 h
  have e : Int.gcd r.n r.d = r.n.toNat.gcd r.d.toNat := by
   unfold Int.gcd
   rw [show r.n.natAbs = r.n.toNat by omega, show r.d.natAbs = r.d.toNat by omega]
  have e3 : (((r.n.toNat.gcd r.d.toNat : Nat) : Int) = 1) ↔ (r.n.toNat.gcd r.d.toNat = 1) := by omega
  rw [e]
  simp only [e3]
 ·rw [Bool.eq_false_iff.2 h]; simp
end Go.X.Pl

set_option linter.unusedSimpArgs false
set_option linter.unusedVariables false
set_option maxRecDepth 20000
namespace Go.X.Pl
open Go.Proofs
theorem rackR_spec (r : PRack) : Spec Tryz.prog 170 #[.agg #[.int .i64 r.r0, .int .i64 r.r1, .int .i64 r.r2, .int .i64 r.cap, .int .i64 r.domain]] [] [] (fun v hs => v = .bool (rackR r) ∧ hs = []) := by
 refine Spec.intro (fn := Tryz.f170) (N := 18) Tryz.func170 rfl Tryz.ntmps170 rfl fun B => ?_
 refine XK.seq (XK.region rfl ?_)
 refine XO.box rfl fun b1 => ?_
 refine XO.q (Q.assign rfl) (XO.done (XK.seq (XK.region rfl ?_)))
 refine XO.q (Q.fieldAddr rfl) ?_
 refine XO.q (Q.sliceA rfl) ?_
 refine XO.call Tryz.call174 rfl rfl rfl (by haveI := arr3 (b := b1) (a0 := r.r0) (a1 := r.r1) (a2 := r.r2) (rest := [.int .i64 r.cap, .int .i64 r.domain]) (T := 85); exact pin_spec 1000000 (.slice (some ⟨b1, 0, none⟩) 3 3) (blk b1 (.int .i64 r.r0 :: .int .i64 r.r1 :: .int .i64 r.r2 :: [.int .i64 r.cap, .int .i64 r.domain]) 85) [r.r0, r.r1, r.r2]) fun v5 s5 R5 => ?_
 obtain ⟨rfl, rfl⟩ := R5
 dsimp only [lcA, lnA]
 refine XO.q (Q.move rfl) ?_
 refine XO.q (Quiet.guardT rfl rfl fun g7 p7 => Q.fieldAddr rfl) ?_
 refine XO.q (Quiet.guardT rfl rfl fun g8 p8 => Q.ld (lzv g8 rfl) rfl) ?_
 refine XO.lit1 [_] [_] [r.cap] encI rfl rfl (by rfl) (by rfl) rfl (by rfl) (fun g9 => by exact .c 0 1 (lzv g9 rfl) rfl rfl (.n _)) (fun _ => rfl) (by rfl) rfl (fun _ => by infer_instance) rfl (fun v9 h9 O9 => ?_)
 refine XO.gcallT rfl rfl Tryz.call174 rfl (fun g10 => .c rfl (.c (lzv g10 rfl) .n)) rfl (fun g10 p10 => by haveI := O9 g10; exact pin_spec 10000 v9 h9 [r.cap]) ?_
 refine XO.q (Q.and rfl (fun hp => lzv hp rfl)) ?_
 refine XO.q (Q.move rfl) ?_
 refine XO.q (Quiet.guardT rfl rfl fun g13 p13 => Q.fieldAddr rfl) ?_
 refine XO.q (Quiet.guardT rfl rfl fun g14 p14 => Q.ld (lzv g14 rfl) rfl) ?_
 refine XO.lit1 [_] [_] [r.domain] encI rfl rfl (by rfl) (by rfl) rfl (by rfl) (fun g15 => by exact .c 0 1 (lzv g15 rfl) rfl rfl (.n _)) (fun _ => rfl) (by rfl) rfl (fun _ => by infer_instance) rfl (fun v15 h15 O15 => ?_)
 refine XO.gcallT rfl rfl Tryz.call174 rfl (fun g16 => .c rfl (.c (lzv g16 rfl) .n)) rfl (fun g16 p16 => by haveI := O15 g16; exact pin_spec 100 v15 h15 [r.domain]) ?_
 refine XO.q (Q.and rfl (fun hp => lzv hp rfl)) ?_
 refine XO.q (Q.assign rfl) (XO.done ?_)
 refine XK.rt [] Tryz.func170 Tryz.results170 (.t rfl .n) ?_
 exact ⟨rfl, rfl⟩
theorem draws_next {j : PJob} {i : Nat} (h : ∀ k, k < i → DrawOk j.draws k) (hi : DrawOk j.draws i) : ∀ k, k < i + 1 → DrawOk j.draws k := fun k hk => by
 by_cases e : k = i
 ·subst e; exact hi
 ·exact h k (by omega)
theorem jobR_no {j : PJob} (h : (((¬pin 1000000 [j.n0, j.n1, j.n2] = true ∨ ¬pin 100 [j.group] = true) ∨ ¬pin 1000000 [j.worth] = true) ∨ (j.draws.length : Int) < 1) ∨ 8 < (j.draws.length : Int)) : jobR j = false := by
 refine Bool.eq_false_iff.2 fun hc => ?_
 have k := jobR_iff.1 hc
 have := k.few
 rcases h with (((h | h) | h) | h) | h
 ·exact h k.need
 ·exact h (pin_one.2 k.grp)
 ·exact h (pin_one.2 k.wor)
 ·omega
 ·omega
theorem jobR_yes {j : PJob} (h : ¬ ((((¬pin 1000000 [j.n0, j.n1, j.n2] = true ∨ ¬pin 100 [j.group] = true) ∨ ¬pin 1000000 [j.worth] = true) ∨ (j.draws.length : Int) < 1) ∨ 8 < (j.draws.length : Int))) (hg : ∀ k, k < j.draws.length → DrawOk j.draws k) : jobR j = true := by
 simp only [not_or, Decidable.not_not, pin_one] at h
 obtain ⟨⟨⟨⟨a, b⟩, c⟩, d⟩, e⟩ := h
 exact jobR_iff.2 ⟨a, b, c, ⟨by omega, by omega⟩, hg⟩
theorem drawOk_no {l : List PDraw} {i : Nat} (h : ((¬pin 1000 [(l.getD i default).power] = true ∨ (l.getD i default).count < 1) ∨ 64 < (l.getD i default).count) ∨ 0 < (i : Int) ∧ (l.getD i default).power ≤ (l.getD ((i : Int) - 1).toNat default).power) : ¬ DrawOk l i := fun hd => by
 unfold DrawOk at hd
 rw [pin_one] at h
 rw [show ((i : Int) - 1).toNat = i - 1 by omega] at h
 omega
theorem drawOk_yes {l : List PDraw} {i : Nat} (h : ¬ (((¬pin 1000 [(l.getD i default).power] = true ∨ (l.getD i default).count < 1) ∨ 64 < (l.getD i default).count) ∨ 0 < (i : Int) ∧ (l.getD i default).power ≤ (l.getD ((i : Int) - 1).toNat default).power)) : DrawOk l i := by
 unfold DrawOk
 rw [pin_one] at h
 rw [show ((i : Int) - 1).toNat = i - 1 by omega] at h
 omega
set_option maxHeartbeats 2000000 in
theorem jobR_spec (j : PJob) (vd : Value) (hd : PHeap) [id_ : Arr vd encDraw 2 hd j.draws] : Spec Tryz.prog 126 #[.agg #[.int .i64 j.n0, .int .i64 j.n1, .int .i64 j.n2, vd, .int .i64 j.group, .int .i64 j.worth]] [] [hd] (fun v hs => v = .bool (jobR j) ∧ hs = []) := by
 have ld := id_.le
 refine Spec.intro (fn := Tryz.f126) (N := 75) Tryz.func126 rfl Tryz.ntmps126 rfl fun B => ?_
 refine XK.seq (XK.region rfl ?_)
 refine XO.box rfl fun b1 => ?_
 refine XO.q (Q.assign rfl) (XO.done (XK.seq (XK.seq (XK.region rfl ?_))))
 refine XO.q (Q.fieldAddr rfl) ?_
 refine XO.q (Q.sliceA rfl) ?_
 refine XO.call Tryz.call174 rfl rfl rfl (by haveI := arr3 (b := b1) (a0 := j.n0) (a1 := j.n1) (a2 := j.n2) (rest := [vd, .int .i64 j.group, .int .i64 j.worth]) (T := 88); exact pin_spec 1000000 (.slice (some ⟨b1, 0, none⟩) 3 3) (blk b1 (.int .i64 j.n0 :: .int .i64 j.n1 :: .int .i64 j.n2 :: [vd, .int .i64 j.group, .int .i64 j.worth]) 88) [j.n0, j.n1, j.n2]) fun v7 s7 R7 => ?_
 obtain ⟨rfl, rfl⟩ := R7
 dsimp only [lcA, lnA]
 refine XO.q (Q.not rfl) ?_
 refine XO.q (Q.move rfl) ?_
 refine XO.q (Quiet.guardF rfl rfl fun g10 p10 => Q.fieldAddr rfl) ?_
 refine XO.q (Quiet.guardF rfl rfl fun g11 p11 => Q.ld (lzv g11 rfl) rfl) ?_
 refine XO.lit1 [_] [_] [j.group] encI rfl rfl (by rfl) (by rfl) rfl (by rfl) (fun g12 => by exact .c 0 1 (lzv g12 rfl) rfl rfl (.n _)) (fun _ => rfl) (by rfl) rfl (fun _ => by infer_instance) rfl (fun v12 h12 O12 => ?_)
 refine XO.gcallF rfl rfl Tryz.call174 rfl (fun g13 => .c rfl (.c (lzv g13 rfl) .n)) rfl (fun g13 p13 => by haveI := O12 g13; exact pin_spec 100 v12 h12 [j.group]) ?_
 refine XO.q (Quiet.guardF rfl rfl fun g14 p14 => Q.not (lzv g14 rfl)) ?_
 refine XO.q (Q.or rfl (fun hp => lzv hp rfl)) ?_
 refine XO.q (Q.move rfl) ?_
 refine XO.q (Quiet.guardF rfl rfl fun g17 p17 => Q.fieldAddr rfl) ?_
 refine XO.q (Quiet.guardF rfl rfl fun g18 p18 => Q.ld (lzv g18 rfl) rfl) ?_
 refine XO.lit1 [_] [_] [j.worth] encI rfl rfl (by rfl) (by rfl) rfl (by rfl) (fun g19 => by exact .c 0 1 (lzv g19 rfl) rfl rfl (.n _)) (fun _ => rfl) (by rfl) rfl (fun _ => by infer_instance) rfl (fun v19 h19 O19 => ?_)
 refine XO.gcallF rfl rfl Tryz.call174 rfl (fun g20 => .c rfl (.c (lzv g20 rfl) .n)) rfl (fun g20 p20 => by haveI := O19 g20; exact pin_spec 1000000 v19 h19 [j.worth]) ?_
 refine XO.q (Quiet.guardF rfl rfl fun g21 p21 => Q.not (lzv g21 rfl)) ?_
 refine XO.q (Q.or rfl (fun hp => lzv hp rfl)) ?_
 refine XO.q (Q.move rfl) ?_
 refine XO.q (Quiet.guardF rfl rfl fun g24 p24 => Q.fieldAddr rfl) ?_
 refine XO.q (Quiet.guardF rfl rfl fun g25 p25 => Q.ld (lzv g25 rfl) rfl) ?_
 refine XO.q (Quiet.guardF rfl rfl fun g26 p26 => Q.len (lzv g26 rfl)) ?_
 refine XO.q (Quiet.guardF rfl rfl fun g27 p27 => Q.lss (lzv g27 rfl) rfl) ?_
 refine XO.q (Q.or rfl (fun hp => lzv hp rfl)) ?_
 refine XO.q (Q.move rfl) ?_
 refine XO.q (Quiet.guardF rfl rfl fun g30 p30 => Q.fieldAddr rfl) ?_
 refine XO.q (Quiet.guardF rfl rfl fun g31 p31 => Q.ld (lzv g31 rfl) rfl) ?_
 refine XO.q (Quiet.guardF rfl rfl fun g32 p32 => Q.len (lzv g32 rfl)) ?_
 refine XO.q (Quiet.guardF rfl rfl fun g33 p33 => Q.gtr (lzv g33 rfl) rfl) ?_
 refine XO.q (Q.or rfl (fun hp => lzv hp rfl)) ?_
 refine XO.done ?_
 refine XK.if rfl (fun c0 => ?_) (fun c0 => ?_)
 ·skip
  refine XK.seq (XK.region rfl (XO.q (Q.assign rfl) (XO.done ?_)))
  refine XK.rt [] Tryz.func126 Tryz.results126 (.t rfl .n) ?_
  exact ⟨by rw [jobR_no c0], rfl⟩
 ·skip
  refine XK.skip (XK.seq (XK.seq (XK.region rfl ?_)))
  refine XO.q (Q.fieldAddr rfl) ?_
  refine XO.q (Q.ld rfl rfl) ?_
  refine XO.len rfl fun l37 => ?_
  refine XO.q (Q.move rfl) (XO.done (XK.block ?_))
  refine XK.while (X := Nat) [2, 3, 4, 38, 39, 40, 41, 42, 43, 44, 45, 46, 47, 48, 49, 50, 51, 52, 53, 54, 55, 56, 57, 58, 59, 60, 61, 62, 63, 64, 65, 66, 67, 68, 69, 70, 71, 72, 73, 74] (fun i => [(38, some (.int .i64 (i : Nat)))]) (fun i => []) (fun i => i ≤ j.draws.length ∧ ∀ k, k < i → DrawOk j.draws k) (fun i => j.draws.length - i) (0) [] rfl ⟨by omega, fun k hk => by omega⟩ (.c rfl (.base 0 rfl rfl)) ?_
  rintro i ⟨hi, hg⟩ ih0
  dsimp only [lcA, lnA] at ih0 ⊢
  refine XK.seq (XK.region rfl ?_)
  refine XO.q (Q.lss rfl rfl) ?_
  refine XO.done (XK.seq ?_)
  refine XK.if rfl (fun c1 => ?_) (fun c1 => ?_)
  ·skip
   refine XK.skip (XK.seq (XK.block (XK.seq (XK.region rfl (XO.q (Q.move rfl) ?_)))))
   refine XO.ix rfl rfl (by omega) (by omega) fun i41 => ?_
   refine XO.q (Q.ldEA [_, _] rfl (by first | assumption | omega) rfl rfl) ?_
   refine XO.alloc fun b4 => ?_
   refine XO.q (Q.assign rfl) ?_
   refine XO.st rfl rfl rfl ?_
   refine XO.done (XK.seq ?_)
   refine XK.drawn [0, 1, 4, 5, 6, 7, 8, 9, 10, 11, 12, 13, 14, 15, 16, 17, 18, 19, 20, 21, 22, 23, 24, 25, 26, 27, 28, 29, 30] [b4, b1] [] (.q 0 (.q 1 (.br 2 true (.br 3 true (.q 4 (.q 5 (.q 6 (.q 7 (.q 8 (.q 9 (.q 10 (.q 11 (.q 12 (.q 13 (.q 14 (.q 15 (.q 16 (.q 17 (.q 18 (.q 19 (.q 20 (.q 21 (.q 22 (.q 23 (.q 24 (.q 25 (.q 26 (.q 27 (.q 28 (.q 29 (.q 30 .done))))))))))))))))))))))))))) .stop) .stop))) Tryz.mixed rfl (by kernel_rfl) ?_
   refine XT.q rfl rfl (Q.fieldAddr rfl) ?_
   refine XT.q rfl rfl (Q.ld rfl rfl) ?_
   refine XT.lit [_] [_] [(j.draws.getD i default).power] encI rfl rfl (by rfl) (by rfl) rfl (by rfl) (by exact .c 0 1 rfl rfl rfl (.n _)) (fun _ => rfl) (by rfl) rfl (by infer_instance) rfl (fun v45 h45 O45 => ⟨inferInstance, ?_⟩) XT.stop
   refine XT.call rfl rfl Tryz.call174 rfl rfl rfl (pin_spec 1000 v45 h45 [(j.draws.getD i default).power]) (fun v46 s46 R46 => ?_) XT.stop
   obtain ⟨rfl, rfl⟩ := R46
   dsimp only [lcA, lnA]
   refine ⟨inferInstance, ?_⟩
   refine XT.q rfl rfl (Q.not rfl) ?_
   refine XT.q rfl rfl (Q.move rfl) ?_
   refine XT.q rfl rfl (Quiet.guardF rfl rfl fun g49 p49 => Q.fieldAddr rfl) ?_
   refine XT.q rfl rfl (Quiet.guardF rfl rfl fun g50 p50 => Q.ld (lzv g50 rfl) rfl) ?_
   refine XT.q rfl rfl (Quiet.guardF rfl rfl fun g51 p51 => Q.lss (lzv g51 rfl) rfl) ?_
   refine XT.q rfl rfl (Q.or rfl (fun hp => lzv hp rfl)) ?_
   refine XT.q rfl rfl (Q.move rfl) ?_
   refine XT.q rfl rfl (Quiet.guardF rfl rfl fun g54 p54 => Q.fieldAddr rfl) ?_
   refine XT.q rfl rfl (Quiet.guardF rfl rfl fun g55 p55 => Q.ld (lzv g55 rfl) rfl) ?_
   refine XT.q rfl rfl (Quiet.guardF rfl rfl fun g56 p56 => Q.gtr (lzv g56 rfl) rfl) ?_
   refine XT.q rfl rfl (Q.or rfl (fun hp => lzv hp rfl)) ?_
   refine XT.q rfl rfl (Q.move rfl) ?_
   refine XT.q rfl rfl (Quiet.guardF rfl rfl fun g59 p59 => Q.move rfl) ?_
   refine XT.q rfl rfl (Quiet.guardF rfl rfl fun g60 p60 => Q.gtr (lzv g60 rfl) rfl) ?_
   refine XT.q rfl rfl (Quiet.guardF rfl rfl fun g61 p61 => Q.move (lzv g61 rfl)) ?_
   refine XT.q rfl rfl (Quiet.guard2 rfl rfl fun g62a g62b => have p62a := bpF g62a; have p62b := bpT g62b; Q.fieldAddr rfl) ?_
   refine XT.q rfl rfl (Quiet.guard2 rfl rfl fun g63a g63b => have p63a := bpF g63a; have p63b := bpT g63b; Q.ld (lzv g63b (lzv g63a rfl)) rfl) ?_
   refine XT.q rfl rfl (Quiet.guard2 rfl rfl fun g64a g64b => have p64a := bpF g64a; have p64b := bpT g64b; Q.fieldAddr rfl) ?_
   refine XT.q rfl rfl (Quiet.guard2 rfl rfl fun g65a g65b => have p65a := bpF g65a; have p65b := bpT g65b; Q.ld (lzv g65b (lzv g65a rfl)) rfl) ?_
   refine XT.q rfl rfl (Quiet.guard2 rfl rfl fun g66a g66b => have p66a := bpF g66a; have p66b := bpT g66b; Q.move rfl) ?_
   refine XT.q rfl rfl (Quiet.guard2 rfl rfl fun g67a g67b => have p67a := bpF g67a; have p67b := bpT g67b; Q.sub (lzv g67b (lzv g67a rfl)) rfl ⟨by omega, by omega⟩) ?_
   refine XT.q rfl rfl (Quiet.guard2 rfl rfl fun g68a g68b => have p68a := bpF g68a; have p68b := bpT g68b; Q.ix (lzv g68b (lzv g68a rfl)) (lzv g68b (lzv g68a rfl)) (by omega) (by omega)) ?_
   refine XT.q rfl rfl (Quiet.guard2 rfl rfl fun g69a g69b => have p69a := bpF g69a; have p69b := bpT g69b; Q.fieldQ (lzv g69b (lzv g69a rfl)) (by first | assumption | omega)) ?_
   refine XT.q rfl rfl (Quiet.guard2 rfl rfl fun g70a g70b => have p70a := bpF g70a; have p70b := bpT g70b; Q.ldE (lzv g70b (lzv g70a rfl)) (by first | assumption | omega) rfl) ?_
   refine XT.q rfl rfl (Quiet.guard2 rfl rfl fun g71a g71b => have p71a := bpF g71a; have p71b := bpT g71b; Q.leq (lzv g71b (lzv g71a rfl)) (lzv g71b (lzv g71a rfl))) ?_
   refine XT.q rfl rfl (Quiet.guardF rfl rfl fun g72 p72 => Q.and (lzv g72 rfl) (fun hp => (lzv hp (lzv g72 rfl)))) ?_
   refine XT.q rfl rfl (Q.or rfl (fun hp => lzv hp rfl)) ?_
   refine XT.done ?_
   refine XK.if rfl (fun c2 => ?_) (fun c2 => ?_)
   ·skip
    refine XK.seq (XK.region rfl (XO.q (Q.assign rfl) (XO.done ?_)))
    refine XK.rt [] Tryz.func126 Tryz.results126 (.t rfl .n) ?_
    exact ⟨by rw [Bool.eq_false_iff.2 (fun h => drawOk_no c2 ((jobR_iff.1 h).draw i (by omega)))], rfl⟩
   ·skip
    refine XK.skip ?_
    refine XK.inBlock ?_
    refine XK.region rfl ?_
    refine XO.q (Q.add rfl rfl ⟨by omega, by omega⟩) ?_
    refine XO.q (Q.move rfl) (XO.done ?_)
    exact ih0 (i + 1) _ _ ⟨by omega, draws_next hg (drawOk_yes c2)⟩ (by first | omega | (dsimp only; omega)) (.c rfl (.base 80 rfl rfl)) inferInstance
  ·skip
   refine XK.exit rfl ?_
   refine XK.seq (XK.region rfl (XO.q (Q.assign rfl) (XO.done ?_)))
   refine XK.rt [] Tryz.func126 Tryz.results126 (.t rfl .n) ?_
   exact ⟨by rw [jobR_yes c0 (fun k hk => hg k (by omega))], rfl⟩
theorem JobsK.mem {l : List (Value × PJob)} {K : PHeap} (h : JobsK l K) {x : Value × PJob} (hx : x ∈ l) : Arr x.1 encDraw 2 K x.2.draws := by
 obtain ⟨i, hi, rfl⟩ := List.getElem_of_mem hx
 have := h i hi
 rwa [List.getD_eq_getElem?_getD, List.getElem?_eq_getElem hi] at this
theorem check1 (j : PJob) (vd : Value) (hd : PHeap) [id_ : Arr vd encDraw 2 hd j.draws] : Spec Tryz.prog 167 #[.agg #[.int .i64 j.n0, .int .i64 j.n1, .int .i64 j.n2, vd, .int .i64 j.group, .int .i64 j.worth]] [] [hd] (fun v hs => v = .bool (!jobR j) ∧ hs = []) := by
 refine Spec.intro (fn := Tryz.f167) (N := 6) Tryz.func167 rfl Tryz.ntmps167 rfl fun B => ?_
 refine XK.seq (XK.region rfl ?_)
 refine XO.box rfl fun b1 => ?_
 refine XO.q (Q.assign rfl) (XO.done (XK.seq (XK.region rfl ?_)))
 refine XO.q (Q.ldA [_, _, _, _, _, _] rfl rfl rfl) ?_
 refine XO.call Tryz.call126 rfl rfl rfl (jobR_spec j vd hd) fun v4 s4 R4 => ?_
 obtain ⟨rfl, rfl⟩ := R4
 dsimp only [lcA, lnA]
 refine XO.q (Q.not rfl) ?_
 refine XO.q (Q.assign rfl) (XO.done ?_)
 refine XK.rt [] Tryz.func167 Tryz.results167 (.t rfl .n) ?_
 exact ⟨rfl, rfl⟩
theorem listed1 (j : PJob) (vd : Value) (hd : PHeap) [id_ : Arr vd encDraw 2 hd j.draws] : Spec Tryz.prog 125 #[.agg #[.int .i64 j.n0, .int .i64 j.n1, .int .i64 j.n2, vd, .int .i64 j.group, .int .i64 j.worth]] [] [hd] (fun v hs => v = .bool (!jobR j) ∧ hs = []) := by
 refine Spec.intro (fn := Tryz.f125) (N := 6) Tryz.func125 rfl Tryz.ntmps125 rfl fun B => ?_
 refine XK.seq (XK.region rfl ?_)
 refine XO.box rfl fun b1 => ?_
 refine XO.q (Q.assign rfl) (XO.done (XK.seq (XK.region rfl ?_)))
 refine XO.q (Q.ldA [_, _, _, _, _, _] rfl rfl rfl) ?_
 refine XO.call Tryz.call126 rfl rfl rfl (jobR_spec j vd hd) fun v4 s4 R4 => ?_
 obtain ⟨rfl, rfl⟩ := R4
 dsimp only [lcA, lnA]
 refine XO.q (Q.not rfl) ?_
 refine XO.q (Q.assign rfl) (XO.done ?_)
 refine XK.rt [] Tryz.func125 Tryz.results125 (.t rfl .n) ?_
 exact ⟨rfl, rfl⟩
theorem check2 (r : PRack) : Spec Tryz.prog 169 #[.agg #[.int .i64 r.r0, .int .i64 r.r1, .int .i64 r.r2, .int .i64 r.cap, .int .i64 r.domain]] [] [] (fun v hs => v = .bool (!rackR r) ∧ hs = []) := by
 refine Spec.intro (fn := Tryz.f169) (N := 6) Tryz.func169 rfl Tryz.ntmps169 rfl fun B => ?_
 refine XK.seq (XK.region rfl ?_)
 refine XO.box rfl fun b1 => ?_
 refine XO.q (Q.assign rfl) (XO.done (XK.seq (XK.region rfl ?_)))
 refine XO.q (Q.ldA [_, _, _, _, _] rfl rfl rfl) ?_
 refine XO.call Tryz.call170 rfl rfl rfl (rackR_spec r) fun v4 s4 R4 => ?_
 obtain ⟨rfl, rfl⟩ := R4
 dsimp only [lcA, lnA]
 refine XO.q (Q.not rfl) ?_
 refine XO.q (Q.assign rfl) (XO.done ?_)
 refine XK.rt [] Tryz.func169 Tryz.results169 (.t rfl .n) ?_
 exact ⟨rfl, rfl⟩
theorem any_jobs {l : List (Value × PJob)} : (l.any fun x => !jobR x.2) = ((l.map Prod.snd).any fun j => !jobR j) := by rw [List.any_map]; rfl
theorem Check_spec (l : List (Value × PJob)) (vl : Value) (hl K : PHeap) [jl : Arr vl encPJ 6 hl l] (aL : JobsK l K) (rs : List PRack) (vr : Value) (hr : PHeap) [jr : Arr vr encRack 5 hr rs] (m : PRat) : Spec Tryz.prog 119 #[.agg #[vl, vr, .int .i64 m.n, .int .i64 m.d]] [] [hl, K, hr] (fun v hs => v = .int .i64 (pcheck ⟨(l.map Prod.snd), rs, m⟩) ∧ hs = []) := by
 refine Spec.intro (fn := Tryz.f119) (N := 34) Tryz.func119 rfl Tryz.ntmps119 rfl fun B => ?_
 refine XK.seq (XK.region rfl ?_)
 refine XO.box rfl fun b1 => ?_
 refine XO.q (Q.assign rfl) (XO.done (XK.seq (XK.block (XK.seq (XK.region rfl ?_)))))
 refine XO.q (Q.fieldAddr rfl) ?_
 refine XO.q (Q.ld rfl rfl) ?_
 refine XO.len rfl fun l6 => ?_
 refine XO.q (Q.gtr rfl rfl) ?_
 refine XO.q (Q.move rfl) ?_
 refine XO.q (Quiet.guardF rfl rfl fun g9 p9 => Q.fieldAddr rfl) ?_
 refine XO.q (Quiet.guardF rfl rfl fun g10 p10 => Q.ld (lzv g10 rfl) rfl) ?_
 refine XO.q (Quiet.guardF rfl rfl fun g11 p11 => Q.len (lzv g11 rfl)) ?_
 refine XO.q (Quiet.guardF rfl rfl fun g12 p12 => Q.lss (lzv g12 rfl) rfl) ?_
 refine XO.q (Q.or rfl (fun hp => lzv hp rfl)) ?_
 refine XO.q (Q.move rfl) ?_
 refine XO.q (Quiet.guardF rfl rfl fun g15 p15 => Q.fieldAddr rfl) ?_
 refine XO.q (Quiet.guardF rfl rfl fun g16 p16 => Q.ld (lzv g16 rfl) rfl) ?_
 refine XO.q (Quiet.guardF rfl rfl fun g17 p17 => Q.len (lzv g17 rfl)) ?_
 refine XO.q (Quiet.guardF rfl rfl fun g18 p18 => Q.gtr (lzv g18 rfl) rfl) ?_
 refine XO.q (Q.or rfl (fun hp => lzv hp rfl)) ?_
 refine XO.q (Q.assign rfl) (XO.done ?_)
 refine XK.if rfl (fun c0 => ?_) (fun c0 => ?_)
 ·skip
  refine XK.seq (XK.region rfl (XO.q (Q.assign rfl) (XO.done ?_)))
  refine XK.rt [] Tryz.func119 Tryz.results119 (.t rfl .n) ?_
  exact ⟨by rw [pcheck, if_pos (by dsimp only; rw [List.length_map]; omega)], rfl⟩
 ·skip
  refine XK.seq (XK.region rfl ?_)
  refine XO.q (Q.fieldAddr rfl) ?_
  refine XO.q (Q.ld rfl rfl) ?_
  refine XO.call Tryz.call124 rfl rfl rfl (containsFuncPJ vl hl l 167 [] [K] (fun x => !jobR x.2) Tryz.call167 (fun x hx => by haveI := aL.mem hx; exact check1 x.2 x.1 K)) fun v23 s23 R23 => ?_
  obtain ⟨rfl, rfl⟩ := R23
  dsimp only [lcA, lnA]
  rw [any_jobs]
  refine XO.q (Q.move rfl) ?_
  refine XO.q (Quiet.guardF rfl rfl fun g25 p25 => Q.fieldAddr rfl) ?_
  refine XO.q (Quiet.guardF rfl rfl fun g26 p26 => Q.ld (lzv g26 rfl) rfl) ?_
  refine XO.gcallF rfl rfl Tryz.call168 rfl (fun g27 => .c (lzv g27 rfl) (.c rfl .n)) rfl (fun g27 p27 => containsFuncPR vr hr rs 169 [] [] (fun x => !rackR x) Tryz.call169 (fun x hx => check2 x)) ?_
  refine XO.q (Q.or rfl (fun hp => lzv hp rfl)) ?_
  refine XO.q (Q.assign rfl) (XO.done ?_)
  refine XK.if rfl (fun c1 => ?_) (fun c1 => ?_)
  ·skip
   refine XK.seq (XK.region rfl (XO.q (Q.assign rfl) (XO.done ?_)))
   refine XK.rt [] Tryz.func119 Tryz.results119 (.t rfl .n) ?_
   exact ⟨by rw [pcheck, if_neg (by dsimp only; rw [List.length_map]; omega), if_pos (by dsimp only; rw [Bool.or_eq_true]; exact c1)], rfl⟩
  ·skip
   refine XK.seq (XK.region rfl ?_)
   refine XO.q (Q.fieldAddr rfl) ?_
   refine XO.q (Q.ldA [_, _] rfl rfl rfl) ?_
   refine XO.call Tryz.call171 rfl rfl rfl (chance_spec m) fun v32 s32 R32 => ?_
   obtain ⟨rfl, rfl⟩ := R32
   dsimp only [lcA, lnA]
   refine XO.q (Q.not rfl) ?_
   refine XO.q (Q.assign rfl) (XO.done ?_)
   refine XK.if rfl (fun c2 => ?_) (fun c2 => ?_)
   ·skip
    refine XK.seq (XK.region rfl (XO.q (Q.assign rfl) (XO.done ?_)))
    refine XK.rt [] Tryz.func119 Tryz.results119 (.t rfl .n) ?_
    exact ⟨by rw [pcheck, if_neg (by dsimp only; rw [List.length_map]; omega), if_neg (by dsimp only; rw [Bool.or_eq_true]; exact c1), if_pos c2], rfl⟩
   ·skip
    refine XK.skip ?_
    refine XK.inBlock ?_
    refine XK.seq (XK.region rfl (XO.q (Q.assign rfl) (XO.done ?_)))
    refine XK.rt [] Tryz.func119 Tryz.results119 (.t rfl .n) ?_
    exact ⟨by rw [pcheck, if_neg (by dsimp only; rw [List.length_map]; omega), if_neg (by dsimp only; rw [Bool.or_eq_true]; exact c1), if_neg c2], rfl⟩
end Go.X.Pl

set_option linter.unusedSimpArgs false
set_option linter.unusedVariables false
set_option maxRecDepth 20000
namespace Go.X.Pl
open Go.Proofs
theorem listed_spec (l : List (Value × PJob)) (vl : Value) (hl K : PHeap) [jl : Arr vl encPJ 6 hl l] (aL : JobsK l K) : Spec Tryz.prog 73 #[vl] [] [hl, K] (fun v hs => v = .tuple #[.int .i64 (listedG (l.map Prod.snd)).1, .int .i64 (listedG (l.map Prod.snd)).2] ∧ hs = []) := by
 have ll := jl.le
 have lm : (l.map Prod.snd).length = l.length := List.length_map ..
 refine Spec.intro (fn := Tryz.f73) (N := 40) Tryz.func73 rfl Tryz.ntmps73 rfl fun B => ?_
 refine XK.seq (XK.region rfl (XO.q (Q.assign rfl) (XO.q (Q.assign rfl) (XO.done (XK.seq ?_)))))
 refine XK.seq (XK.region rfl (XO.q (Q.move rfl) ?_))
 refine XO.len rfl fun l11 => ?_
 refine XO.q (Q.gtr rfl rfl) ?_
 refine XO.done ?_
 refine XK.if rfl (fun c0 => ?_) (fun c0 => ?_)
 ·skip
  refine XK.seq (XK.region rfl (XO.q (Q.assign rfl) (XO.q (Q.assign rfl) (XO.done ?_))))
  refine XK.rt [] Tryz.func73 Tryz.results73 (.t rfl (.t rfl .n)) ?_
  exact ⟨by rw [listedG, if_pos (by omega)], rfl⟩
 ·skip
  refine XK.skip (XK.seq (XK.seq (XK.region rfl (XO.q (Q.move rfl) ?_))))
  refine XO.call Tryz.call124 rfl rfl rfl (containsFuncPJ vl hl l 125 [] [K] (fun x => !jobR x.2) Tryz.call125 (fun x hx => by haveI := aL.mem hx; exact listed1 x.2 x.1 K)) fun v14 s14 R14 => ?_
  obtain ⟨rfl, rfl⟩ := R14
  dsimp only [lcA, lnA]
  rw [any_jobs]
  refine XO.done ?_
  refine XK.if rfl (fun c1 => ?_) (fun c1 => ?_)
  ·skip
   refine XK.seq (XK.region rfl (XO.q (Q.assign rfl) (XO.q (Q.assign rfl) (XO.done ?_))))
   refine XK.rt [] Tryz.func73 Tryz.results73 (.t rfl (.t rfl .n)) ?_
   exact ⟨by rw [listedG, if_neg (by omega), if_pos c1], rfl⟩
  ·skip
   have hJ : ∀ k, k < l.length → PJobOk (l.getD k default).2 := fun k hk => jobR_iff.1 (by
    have := any_false_at (Bool.eq_false_iff.2 c1) (i := k) (by rw [lm]; exact hk)
    rw [map_snd_atP] at this
    simpa using this)
   refine XK.skip (XK.seq (XK.region rfl (XO.q (Q.assign rfl) (XO.done (XK.seq ?_)))))
   refine XK.seq (XK.region rfl (XO.q (Q.move rfl) ?_))
   refine XO.len rfl fun l16 => ?_
   refine XO.q (Q.move rfl) (XO.done (XK.block ?_))
   refine XK.while (X := Nat) [2, 3, 4, 6, 7, 9, 17, 18, 19, 20, 21, 22, 23, 24, 25, 26, 27, 28, 29, 30, 31, 32, 33, 34, 35, 36, 37, 38] (fun i => [(17, some (.int .i64 (i : Nat))), (4, some (.int .i64 (prodJ (l.map Prod.snd) i)))]) (fun i => []) (fun i => (i ≤ l.length ∧ (1 ≤ prodJ (l.map Prod.snd) i ∧ prodJ (l.map Prod.snd) i ≤ 1099511627776)) ∧ ∀ k, k < i → prodJ (l.map Prod.snd) (k + 1) ≤ 1099511627776) (fun i => l.length - i) (0) [] rfl ⟨⟨by omega, by (try unfold prodJ); omega⟩, fun k hk => by omega⟩ (.c rfl (.c rfl (.base 0 rfl rfl))) ?_
   rintro i ⟨⟨hi, pp⟩, hp⟩ ih0
   dsimp only [lcA, lnA] at ih0 ⊢
   refine XK.seq (XK.region rfl ?_)
   refine XO.q (Q.lss rfl rfl) ?_
   refine XO.done (XK.seq ?_)
   refine XK.if rfl (fun c2 => ?_) (fun c2 => ?_)
   ·skip
    have ji := map_snd_atP l i
    have ai := aL i (by omega)
    have jok := hJ i (by omega)
    have pn := prod_next (l := l.map Prod.snd) (i := i) (by omega) (by rw [ji]; exact jok) pp
    rw [ji] at pn
    have jf := jok.few
    refine XK.skip (XK.seq (XK.block (XK.seq (XK.region rfl ?_))))
    refine XO.ix rfl rfl (by omega) (by omega) fun i19 => ?_
    refine XO.q (Q.ldEA [_, _, _, _, _, _] rfl (by first | assumption | omega) rfl rfl) ?_
    refine XO.alloc fun b6 => ?_
    refine XO.st rfl rfl rfl ?_
    refine XO.done (XK.seq (XK.region rfl (XO.q (Q.assign rfl) (XO.done (XK.seq ?_)))))
    refine XK.seq (XK.region rfl ?_)
    refine XO.q (Q.fieldAddr rfl) ?_
    refine XO.q (Q.ld rfl rfl) ?_
    refine XO.len rfl fun l23 => ?_
    refine XO.q (Q.move rfl) (XO.done (XK.block ?_))
    refine XK.while (X := Nat) [7, 9, 24, 25, 26, 27, 28, 29, 30, 31, 32] (fun k => [(24, some (.int .i64 (k : Nat))), (7, some (.int .i64 (cntTo (l.getD i default).2 k)))]) (fun k => []) (fun k => k ≤ (l.getD i default).2.draws.length) (fun k => (l.getD i default).2.draws.length - k) (0) [] rfl (by omega) (.c rfl (.c rfl (.base 0 rfl rfl))) ?_
    rintro k hk ih1
    dsimp only [lcA, lnA] at ih1 ⊢
    refine XK.seq (XK.region rfl ?_)
    refine XO.q (Q.lss rfl rfl) ?_
    refine XO.done (XK.seq ?_)
    refine XK.if rfl (fun c3 => ?_) (fun c3 => ?_)
    ·skip
     have ct := cntTo_rng jok k (by omega)
     have dk := jok.draw k (by omega)
     unfold DrawOk at dk
     refine XK.skip (XK.seq (XK.block (XK.seq (XK.region rfl ?_))))
     refine XO.ix rfl rfl (by omega) (by omega) fun i26 => ?_
     refine XO.q (Q.ldEA [_, _] rfl (by first | assumption | omega) rfl rfl) ?_
     refine XO.alloc fun b9 => ?_
     refine XO.st rfl rfl rfl ?_
     refine XO.done (XK.region rfl (XO.q (Q.move rfl) ?_))
     refine XO.q (Q.fieldAddr rfl) ?_
     refine XO.q (Q.ld rfl rfl) ?_
     refine XO.q (Q.add rfl rfl ⟨by omega, by omega⟩) ?_
     refine XO.q (Q.assign rfl) (XO.done ?_)
     refine XK.inBlock ?_
     refine XK.region rfl ?_
     refine XO.q (Q.add rfl rfl ⟨by omega, by omega⟩) ?_
     refine XO.q (Q.move rfl) (XO.done ?_)
     rw [← cntTo_succ (by omega)]
     exact ih1 (k + 1) _ _ (by omega) (by first | omega | (dsimp only; omega)) (.c rfl (.c rfl (.base 24 rfl rfl))) inferInstance
    ·skip
     have hkl : k = (l.getD i default).2.draws.length := by omega
     subst hkl
     rw [cntTo_all]
     have tr := total_rng jok
     refine XK.exit rfl ?_
     refine XK.seq (XK.region rfl (XO.q (Q.move rfl) (XO.q (Q.move rfl) ?_)))
     refine XO.q (Q.mul rfl rfl ⟨by omega, by omega⟩) ?_
     refine XO.q (Q.assign rfl) (XO.done (XK.seq (XK.region rfl (XO.q (Q.move rfl) ?_))))
     refine XO.q (Q.gtr rfl rfl) ?_
     refine XO.done ?_
     refine XK.if rfl (fun c4 => ?_) (fun c4 => ?_)
     ·skip
      have mt := manyTo_true (l := l.map Prod.snd) (n := (l.map Prod.snd).length) (i := i) (by omega) (by rw [pn.1]; omega)
      refine XK.seq (XK.region rfl (XO.q (Q.assign rfl) (XO.q (Q.assign rfl) (XO.done ?_))))
      refine XK.rt [] Tryz.func73 Tryz.results73 (.t rfl (.t rfl .n)) ?_
      exact ⟨by rw [listedG, if_neg (by omega), if_neg c1, if_pos mt], rfl⟩
     ·skip
      refine XK.skip ?_
      refine XK.inBlock ?_
      refine XK.region rfl ?_
      refine XO.q (Q.add rfl rfl ⟨by omega, by omega⟩) ?_
      refine XO.q (Q.move rfl) (XO.done ?_)
      rw [← pn.1]
      exact ih0 (i + 1) _ _ ⟨⟨by omega, by rw [pn.1]; omega⟩, fun k hk => by
       by_cases h : k = i
       ·subst h; rw [pn.1]; omega
       ·exact hp k (by omega)⟩ (by first | omega | (dsimp only; omega)) (.c rfl (.c rfl (.base 61 rfl rfl))) inferInstance
   ·skip
    refine XK.exit rfl ?_
    refine XK.seq (XK.region rfl (XO.q (Q.move rfl) (XO.q (Q.assign rfl) (XO.q (Q.assign rfl) (XO.done ?_)))))
    refine XK.rt [] Tryz.func73 Tryz.results73 (.t rfl (.t rfl .n)) ?_
    have hil : i = (l.map Prod.snd).length := by omega
    exact ⟨by rw [listedG, if_neg (by omega), if_neg c1, if_neg (by rw [manyTo_false.2 fun k hk => hp k (by omega)]; decide), ← hil], rfl⟩
theorem keyI : KeyT Tryz.prog 3 encK1 := KeyT.int (by kernel_rfl)
set_option maxHeartbeats 2000000 in
theorem sums_spec (l : List (Value × PJob)) (vl : Value) (hl K : PHeap) [jl : Arr vl encPJ 6 hl l] (aL : JobsK l K) (ok : ListOk (l.map Prod.snd)) : Spec Tryz.prog 127 #[vl] [] [hl, K] (fun v hs => ∃ b es, v = .map (some b) ∧ hs = [mapH b encK1 es] ∧ MapIs es (combos (l.map Prod.snd))) := by
 haveI := keyI
 have ll := jl.le
 have lm : (l.map Prod.snd).length = l.length := List.length_map ..
 have few := ok.few
 refine Spec.intro (fn := Tryz.f127) (N := 49) Tryz.func127 rfl Tryz.ntmps127 rfl fun B => ?_
 refine XK.seq (XK.region rfl (XO.q (Q.assign rfl) (XO.done (XK.seq (XK.region rfl ?_)))))
 refine XO.map encK1 fun b11 => ?_
 refine XO.insert (enc := encK1) (0) rfl rfl rfl ?_
 refine XO.q (Q.move rfl) (XO.q (Q.assign rfl) (XO.done (XK.seq (XK.seq (XK.region rfl ?_)))))
 refine XO.q (Q.move rfl) ?_
 refine XO.len rfl fun l14 => ?_
 refine XO.q (Q.move rfl) (XO.done (XK.block ?_))
 refine XK.while (X := Nat × Nat × List (Int × Value)) [3, 5, 6, 7, 8, 10, 15, 16, 17, 18, 19, 20, 21, 22, 23, 24, 25, 26, 27, 28, 29, 30, 31, 32, 33, 34, 35, 36, 37, 38, 39, 40, 41, 42, 43, 44, 45, 46, 47] (fun ⟨i, b, es⟩ => [(15, some (.int .i64 (i : Nat))), (3, some (.map (some b)))]) (fun ⟨i, b, es⟩ => [mapH b encK1 es]) (fun ⟨i, b, es⟩ => i ≤ l.length ∧ MapIs es (combos ((l.map Prod.snd).take i))) (fun ⟨i, b, es⟩ => l.length - i) (0, b11, putM 0 (.int .i64 1) []) [mapH b11 encK1 (putM 0 (.int .i64 1) [])] rfl ⟨by omega, MapIs.one⟩ (.c rfl (.c rfl (.base 0 rfl rfl))) ?_
 rintro ⟨i, b, es⟩ ⟨hi, mi⟩ ih0
 dsimp only [lcA, lnA] at ih0 ⊢
 refine XK.seq (XK.region rfl ?_)
 refine XO.q (Q.lss rfl rfl) ?_
 refine XO.done (XK.seq ?_)
 refine XK.if rfl (fun c0 => ?_) (fun c0 => ?_)
 ·skip
  have ji := map_snd_atP l i
  have ai := aL i (by omega)
  have sb := step_bound ok (i := i) (by omega)
  rw [ji] at sb
  have jok := ok.job i (by omega)
  rw [ji] at jok
  have jf := jok.few
  refine XK.skip (XK.seq (XK.block (XK.seq (XK.region rfl ?_))))
  refine XO.ix rfl rfl (by omega) (by omega) fun i17 => ?_
  refine XO.q (Q.ldEA [_, _, _, _, _, _] rfl (by first | assumption | omega) rfl rfl) ?_
  refine XO.alloc fun b5 => ?_
  refine XO.st rfl rfl rfl ?_
  refine XO.done (XK.seq (XK.region rfl ?_))
  refine XO.map encK1 fun b19 => ?_
  refine XO.q (Q.assign rfl) (XO.done (XK.seq (XK.seq (XK.region rfl (XO.q (Q.move rfl) ?_)))))
  refine XO.range rfl fun q21 => ?_
  refine XO.done (XK.block ?_)
  refine XK.while (X := List Nat × List (Int × Value)) [7, 8, 10, 22, 23, 24, 25, 26, 27, 28, 29, 30, 31, 32, 33, 34, 35, 36, 37, 38, 39, 40, 41, 42, 43, 44, 45] (fun ⟨seen, es2⟩ => []) (fun ⟨seen, es2⟩ => [itH q21 b es.length seen, mapH b19 encK1 es2]) (fun ⟨seen, es2⟩ => seen.Nodup ∧ (∀ i ∈ seen, i < es.length) ∧ MapIs es2 (given es (l.getD i default).2 seen)) (fun ⟨seen, es2⟩ => es.length - seen.length) ([], []) [itH q21 b es.length [], mapH b19 encK1 []] rfl ⟨List.nodup_nil, fun i h => (by cases h), MapIs.nil⟩ (.base 0 rfl rfl) ?_
  rintro ⟨seen, es2⟩ ⟨hnd, hlt, h2⟩ ih1
  dsimp only [lcA, lnA] at ih1 ⊢
  refine XK.seq (XK.region rfl ?_)
  refine XO.next rfl rfl fun more22 nl22 seen22 out22 => ?_
  refine XO.q (Q.extract0 rfl) ?_
  refine XO.done (XK.seq ?_)
  refine XK.if rfl (fun c1 => ?_) (fun c1 => ?_)
  ·skip
   obtain ⟨q, hq, hqs, rfl⟩ := (Out.next out22) c1
   have kr := combos_rng ok i (by omega) _ (mi.at hq).2.2
   refine XK.skip (XK.block (XK.seq (XK.region rfl ?_)))
   refine XO.q (Q.entry (i := q) rfl rfl hq) ?_
   refine XO.q (Q.extract rfl rfl) ?_
   refine XO.q (Q.extract rfl rfl) ?_
   rw [(mi.at hq).1]
   refine XO.q (Q.assign rfl) (XO.q (Q.assign rfl) (XO.done (XK.seq (XK.region rfl ?_))))
   refine XO.q (Q.fieldAddr rfl) ?_
   refine XO.q (Q.ld rfl rfl) ?_
   refine XO.len rfl fun l29 => ?_
   refine XO.q (Q.move rfl) (XO.done (XK.block ?_))
   refine XK.while (X := Nat × List (Int × Value)) [10, 30, 31, 32, 33, 34, 35, 36, 37, 38, 39, 40, 41, 42, 43, 44, 45] (fun ⟨k, es3⟩ => [(30, some (.int .i64 (k : Nat)))]) (fun ⟨k, es3⟩ => [mapH b19 encK1 es3]) (fun ⟨k, es3⟩ => k ≤ (l.getD i default).2.draws.length ∧ MapIs es3 (given es (l.getD i default).2 seen ++ give (l.getD i default).2 k (es.getD q default))) (fun ⟨k, es3⟩ => (l.getD i default).2.draws.length - k) (0, es2) [mapH b19 encK1 es2] rfl ⟨by omega, by (try dsimp only); rw [count_nil_give]; exact h2⟩ (.c rfl (.base 0 rfl rfl)) ?_
   rintro ⟨k, es3⟩ ⟨hk, h4⟩ ih2
   dsimp only [lcA, lnA] at ih2 ⊢
   refine XK.seq (XK.region rfl ?_)
   refine XO.q (Q.lss rfl rfl) ?_
   refine XO.done (XK.seq ?_)
   refine XK.if rfl (fun c2 => ?_) (fun c2 => ?_)
   ·skip
    have dk := jok.draw k (by omega)
    unfold DrawOk at dk
    refine XK.skip (XK.seq (XK.block (XK.seq (XK.region rfl ?_))))
    refine XO.ix rfl rfl (by omega) (by omega) fun i32 => ?_
    refine XO.q (Q.ldEA [_, _] rfl (by first | assumption | omega) rfl rfl) ?_
    refine XO.alloc fun b10 => ?_
    refine XO.st rfl rfl rfl ?_
    refine XO.done (XK.region rfl (XO.q (Q.move rfl) (XO.q (Q.move rfl) ?_)))
    refine XO.q (Q.fieldAddr rfl) ?_
    refine XO.q (Q.ld rfl rfl) ?_
    refine XO.q (Q.add rfl rfl ⟨by omega, by omega⟩) ?_
    refine XO.q (Q.lookup (enc := encK1) _ Tryz.zeroValue3 ((es.getD q default).1 + ((l.getD i default).2.draws.getD k default).power) rfl rfl) ?_
    rw [h4.get]
    refine XO.q (Q.move rfl) ?_
    refine XO.q (Q.fieldAddr rfl) ?_
    refine XO.q (Q.ld rfl rfl) ?_
    obtain ⟨gv1, gv2, gv3⟩ := mi.give jok h4 hq (by omega) hnd hlt hqs sb.1 sb.2 rfl rfl rfl
    refine XO.q (Q.mul rfl rfl ⟨by omega, by omega⟩) ?_
    refine XO.q (Q.add rfl rfl ⟨by omega, by omega⟩) ?_
    refine XO.mapUpdate (enc := encK1) ((es.getD q default).1 + ((l.getD i default).2.draws.getD k default).power) rfl rfl rfl ?_
    refine XO.done ?_
    refine XK.inBlock ?_
    refine XK.region rfl ?_
    refine XO.q (Q.add rfl rfl ⟨by omega, by omega⟩) ?_
    refine XO.q (Q.move rfl) (XO.done ?_)
    exact ih2 (k + 1, _) _ _ ⟨by dsimp only; omega, gv3⟩ (by first | omega | (dsimp only; omega)) (.c rfl (.base 35 rfl rfl)) inferInstance
   ·skip
    have hkl : k = (l.getD i default).2.draws.length := by omega
    subst hkl
    refine XK.exit rfl ?_
    refine XK.inBlock ?_
    exact ih1 (seen ++ [q], es3) _ _ ⟨nodup_snoc hnd hqs, mem_snoc hlt hq, by dsimp only; rw [given_snoc]; exact h4⟩ (by have := seen_few (nodup_snoc hnd hqs) (mem_snoc hlt hq); rw [List.length_append, List.length_singleton] at this; dsimp only; rw [List.length_append, List.length_singleton]; omega) (.base 57 rfl rfl) inferInstance
  ·skip
   obtain ⟨rfl, hall⟩ := Out.done out22 (by simpa using c1)
   have h3 := h2.perm (given_all mi hnd hlt hall)
   refine XK.exit rfl ?_
   refine XK.region rfl (XO.q (Q.move rfl) (XO.q (Q.assign rfl) (XO.done ?_)))
   refine XK.inBlock ?_
   refine XK.region rfl ?_
   refine XO.q (Q.add rfl rfl ⟨by omega, by omega⟩) ?_
   refine XO.q (Q.move rfl) (XO.done ?_)
   exact ih0 (i + 1, b19, es2) _ _ ⟨by dsimp only; omega, by dsimp only; rw [combos_succ (by omega), ji]; exact h3⟩ (by first | omega | (dsimp only; omega)) (.c rfl (.c rfl (.base 82 rfl rfl))) inferInstance
 ·skip
  refine XK.exit rfl ?_
  refine XK.seq (XK.region rfl (XO.q (Q.move rfl) (XO.q (Q.assign rfl) (XO.done ?_))))
  refine XK.rt [mapH b encK1 es] Tryz.func127 Tryz.results127 (.t rfl .n) ?_
  have hil : i = l.length := by omega
  rw [← lm] at hil
  rw [hil, List.take_length] at mi
  exact ⟨b, es, rfl, rfl, mi⟩
end Go.X.Pl

set_option linter.unusedSimpArgs false
set_option linter.unusedVariables false
set_option maxRecDepth 20000
namespace Go.X.Pl
open Go.Proofs
set_option maxHeartbeats 2000000 in
theorem over_spec (l : List (Value × PJob)) (vl : Value) (hl K : PHeap) [jl : Arr vl encPJ 6 hl l] (aL : JobsK l K) (ok : ListOk (l.map Prod.snd)) (limit all : Int) (ha : 1 ≤ all ∧ all ≤ 1099511627776) : Spec Tryz.prog 74 #[vl, .int .i64 limit, .int .i64 all] [] [hl, K] (fun v hs => v = .agg #[.int .i64 (overG (l.map Prod.snd) limit all).n, .int .i64 (overG (l.map Prod.snd) limit all).d] ∧ hs = []) := by
 have cl := combos_len ok (l.map Prod.snd).length (Nat.le_refl _)
 rw [List.take_length] at cl
 have pr := ok.prod (l.map Prod.snd).length (Nat.le_refl _)
 have ol := over_len (combos (l.map Prod.snd)) limit
 have gp := gcd_pos (n := ((overN (combos (l.map Prod.snd)) limit : Nat) : Int)) ha.1
 refine Spec.intro (fn := Tryz.f74) (N := 35) Tryz.func74 rfl Tryz.ntmps74 rfl fun B => ?_
 refine XK.seq (XK.region rfl ?_)
 refine XO.alloc fun b6 => ?_
 refine XO.done (XK.seq (XK.region rfl (XO.q (Q.assign rfl) (XO.done (XK.seq ?_)))))
 refine XK.seq (XK.region rfl (XO.q (Q.move rfl) ?_))
 refine XO.call Tryz.call127 rfl rfl rfl (sums_spec l vl hl K aL ok) fun v12 s12 R12 => ?_
 obtain ⟨b, es, rfl, rfl, mi⟩ := R12
 dsimp only [lcA, lnA]
 refine XO.range rfl fun q13 => ?_
 refine XO.done (XK.block ?_)
 refine XK.while (X := List Nat) [7, 8, 9, 14, 15, 16, 17, 18, 19, 20, 21, 22, 23, 24] (fun seen => [(7, some (.int .i64 (overS es limit seen)))]) (fun seen => [itH q13 b es.length seen]) (fun seen => seen.Nodup ∧ (∀ i ∈ seen, i < es.length)) (fun seen => es.length - seen.length) ([]) [itH q13 b es.length []] rfl ⟨List.nodup_nil, fun i h => (by cases h)⟩ (.c rfl (.base 0 rfl rfl)) ?_
 rintro seen ⟨hnd, hlt⟩ ih0
 dsimp only [lcA, lnA] at ih0 ⊢
 refine XK.seq (XK.region rfl ?_)
 refine XO.next rfl rfl fun more14 nl14 seen14 out14 => ?_
 refine XO.q (Q.extract0 rfl) ?_
 refine XO.done (XK.seq ?_)
 refine XK.if rfl (fun c0 => ?_) (fun c0 => ?_)
 ·skip
  obtain ⟨q, hq, hqs, rfl⟩ := Out.next out14 c0
  refine XK.skip (XK.block (XK.seq (XK.region rfl ?_)))
  refine XO.q (Q.entry (i := q) rfl rfl hq) ?_
  refine XO.q (Q.extract rfl rfl) ?_
  refine XO.q (Q.extract rfl rfl) ?_
  rw [(mi.at hq).1]
  have os := overS_snoc es limit seen q
  rw [(mi.at hq).2.1] at os
  have orr := overS_rng (limit := limit) mi hnd hlt
  have cle : List.count (es.getD q default).1 (combos (l.map Prod.snd)) ≤ (combos (l.map Prod.snd)).length := List.count_le_length
  refine XO.q (Q.assign rfl) (XO.q (Q.assign rfl) (XO.done (XK.seq (XK.region rfl (XO.q (Q.move rfl) ?_)))))
  refine XO.q (Q.move rfl) ?_
  refine XO.q (Q.gtr rfl rfl) ?_
  refine XO.done ?_
  refine XK.if rfl (fun c1 => ?_) (fun c1 => ?_)
  ·skip
   rw [if_pos c1] at os
   refine XK.region rfl (XO.q (Q.move rfl) (XO.q (Q.move rfl) ?_))
   refine XO.q (Q.add rfl rfl ⟨by omega, by omega⟩) ?_
   refine XO.q (Q.assign rfl) (XO.done ?_)
   refine XK.inBlock ?_
   rw [← os]
   exact ih0 (seen ++ [q]) _ _ ⟨nodup_snoc hnd hqs, mem_snoc hlt hq⟩ (by have := seen_few (nodup_snoc hnd hqs) (mem_snoc hlt hq); rw [List.length_append, List.length_singleton] at this; (try dsimp only); rw [List.length_append, List.length_singleton]; omega) (.c rfl (.base 29 rfl rfl)) inferInstance
  ·skip
   rw [if_neg c1, Int.add_zero] at os
   refine XK.skip ?_
   refine XK.inBlock ?_
   rw [← os]
   exact ih0 (seen ++ [q]) _ _ ⟨nodup_snoc hnd hqs, mem_snoc hlt hq⟩ (by have := seen_few (nodup_snoc hnd hqs) (mem_snoc hlt hq); rw [List.length_append, List.length_singleton] at this; (try dsimp only); rw [List.length_append, List.length_singleton]; omega) (.c rfl (.base 25 rfl rfl)) inferInstance
 ·skip
  obtain ⟨rfl, hall⟩ := Out.done out14 (by simpa using c0)
  rw [overS_all mi hnd hlt hall]
  refine XK.exit rfl ?_
  refine XK.seq (XK.region rfl (XO.q (Q.move rfl) (XO.q (Q.move rfl) ?_)))
  refine XO.call Tryz.call128 rfl rfl rfl ((by
   have q := divisor_spec (overN (combos (l.map Prod.snd)) limit) all.toNat (by omega) (by omega)
   rw [show ((all.toNat : Nat) : Int) = all by omega] at q
   exact q)) fun v27 s27 R27 => ?_
  obtain ⟨rfl, rfl⟩ := R27
  dsimp only [lcA, lnA]
  rw [show (Nat.gcd (overN (combos (l.map Prod.snd)) limit) all.toNat : Nat) = Int.gcd ((overN (combos (l.map Prod.snd)) limit : Nat) : Int) all by unfold Int.gcd; rw [Int.natAbs_natCast, show all.natAbs = all.toNat by omega]]
  refine XO.q (Q.assign rfl) (XO.done (XK.seq ?_))
  refine XK.drawn [0, 1, 2, 3, 4, 5, 6] [] [] (.q 0 (.q 1 (.q 2 (.q 3 (.q 4 (.q 5 (.q 6 (.br 7 false .done .stop)))))))) Tryz.mixed rfl (by kernel_rfl) ?_
  refine XT.q rfl rfl (Q.move rfl) ?_
  refine XT.q rfl rfl (Q.move rfl) ?_
  refine XT.q rfl rfl (Q.quo rfl rfl (by omega) (by omega) (by omega)) ?_
  refine XT.q rfl rfl (Q.move rfl) ?_
  refine XT.q rfl rfl (Q.move rfl) ?_
  refine XT.q rfl rfl (Q.quo rfl rfl (by omega) (by omega) (by omega)) ?_
  refine XT.q rfl rfl (Q.build [_, _] (.c 0 1 rfl rfl rfl (.c 1 1 rfl rfl rfl (.n _)))) ?_
  refine XT.st rfl rfl rfl rfl rfl ⟨inferInstance, ?_⟩ XT.stop
  refine XT.done ?_
  refine XK.rt [] Tryz.func74 Tryz.results74 (.cell [_, _] rfl rfl rfl (.n)) ?_
  exact ⟨rfl, rfl⟩
theorem listed_rng {l : List PJob} (ok : ListOk l) : listedG l = (prodJ l l.length, 0) ∧ 1 ≤ prodJ l l.length ∧ prodJ l l.length ≤ 1099511627776 := ⟨listed_prod ok, prod_pos ok _ (Nat.le_refl _), ok.prod _ (Nat.le_refl _)⟩
theorem Chance_spec (l : List (Value × PJob)) (vl : Value) (hl K : PHeap) [jl : Arr vl encPJ 6 hl l] (aL : JobsK l K) (limit : Int) : Spec Tryz.prog 26 #[vl, .int .i64 limit] [] [hl, K] (fun v hs => v = .tuple #[.agg #[.int .i64 (chanceG (l.map Prod.snd) limit).1.n, .int .i64 (chanceG (l.map Prod.snd) limit).1.d], .int .i64 (chanceG (l.map Prod.snd) limit).2] ∧ hs = []) := by
 refine Spec.intro (fn := Tryz.f26) (N := 21) Tryz.func26 rfl Tryz.ntmps26 rfl fun B => ?_
 refine XK.seq (XK.region rfl ?_)
 refine XO.alloc fun b4 => ?_
 refine XO.q (Q.assign rfl) (XO.done (XK.seq (XK.region rfl (XO.q (Q.move rfl) ?_))))
 refine XO.call Tryz.call73 rfl rfl rfl (listed_spec l vl hl K aL) fun v10 s10 R10 => ?_
 obtain ⟨rfl, rfl⟩ := R10
 dsimp only [lcA, lnA]
 refine XO.q (Q.move rfl) ?_
 refine XO.q (Q.extract rfl rfl) ?_
 refine XO.q (Q.extract rfl rfl) ?_
 refine XO.q (Q.assign rfl) (XO.q (Q.assign rfl) (XO.done (XK.seq (XK.seq (XK.region rfl ?_)))))
 refine XO.q (Q.move rfl) ?_
 refine XO.q (Q.neq rfl rfl) ?_
 refine XO.done ?_
 refine XK.if rfl (fun c0 => ?_) (fun c0 => ?_)
 ·skip
  refine XK.seq (XK.region rfl ?_)
  refine XO.q (Q.build [_, _] (.n _)) ?_
  refine XO.q (Q.move rfl) ?_
  refine XO.st rfl rfl rfl ?_
  refine XO.q (Q.assign rfl) (XO.done ?_)
  refine XK.rt [] Tryz.func26 Tryz.results26 (.cell [_, _] rfl rfl rfl (.t rfl .n)) ?_
  exact ⟨by rw [chanceG, if_pos c0], rfl⟩
 ·skip
  have ok := listed_ok.1 (Decidable.of_not_not c0)
  have lr := listed_rng ok
  refine XK.skip (XK.seq (XK.region rfl (XO.q (Q.move rfl) (XO.q (Q.move rfl) (XO.q (Q.move rfl) ?_)))))
  refine XO.call Tryz.call74 rfl rfl rfl (over_spec l vl hl K aL ok limit (listedG (l.map Prod.snd)).1 (by rw [lr.1]; exact lr.2)) fun v20 s20 R20 => ?_
  obtain ⟨rfl, rfl⟩ := R20
  dsimp only [lcA, lnA]
  refine XO.st rfl rfl rfl ?_
  refine XO.q (Q.assign rfl) (XO.done ?_)
  refine XK.rt [] Tryz.func26 Tryz.results26 (.cell [_, _] rfl rfl rfl (.t rfl .n)) ?_
  exact ⟨by rw [chanceG, if_neg c0], rfl⟩
end Go.X.Pl
