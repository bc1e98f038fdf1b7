/- A part of the proof: a small program logic, plain laws and contracts of functions, each proved by a walk through its operations. No condition but those that stand in each theorem. -/
import Derived.Test.YtkoojoljdpbnoaaGreatA6
set_option linter.unusedSimpArgs false
set_option linter.unusedVariables false
set_option maxRecDepth 20000
namespace Go.X.Ht
open Go.Proofs
theorem Bounds_spec (h : Hall) (vr vw vb vc : Value) (hr hw hb hc : PHeap) [ir : Arr vr encRoom 2 hr h.rooms] [iw : Arr vw encWall 3 hw h.walls] [ib : Arr vb encBranch 3 hb h.branches] [ic : Arr vc encCooler 5 hc h.coolers] (a d : HCase) (va vd : Value) (ha hd : PHeap) [ia : Arr va encI 1 ha a.load] [id : Arr vd encI 1 hd d.load] (lo hi : List Int) (vlo vhi : Value) (hlo hhi : PHeap) [ilo : Arr vlo encI 1 hlo lo] [ihi : Arr vhi encI 1 hhi hi] (m : Int) : Spec Tryz.prog 22 #[.agg #[vr, vw, vb, vc], vlo, vhi, .agg #[va, .int .i64 a.out, .int .i64 a.pump, vd, .int .i64 d.out, .int .i64 d.pump], .int .i64 m] [] [hr, hw, hb, hc, ha, hd, hlo, hhi]
  (fun v hs => ∃ v1 v2 k1 k2 K1 K2 us ws, v = .tuple #[v1, v2, .int .i64 (boundsG h lo hi a d m).2.2] ∧ hs = [k1, k2, K1, K2] ∧ OArr v1 encV 1 29 k1 us ∧ OArr v2 encV 1 29 k2 ws ∧ Rows us K1 (boundsG h lo hi a d m).1 ∧ Rows ws K2 (boundsG h lo hi a d m).2.1) := by
 have hnil : OArr (.slice none 0 0) encV 1 29 emp ([] : List Value) := OArr.nil (fun _ => rfl)
 refine Spec.intro (fn := Tryz.f22) (N := 59) Tryz.func22 rfl Tryz.ntmps22 rfl fun B => ?_
 refine XK.seq (XK.region rfl ?_)
 refine XO.box rfl fun b5 => ?_
 refine XO.box rfl fun b8 => ?_
 refine XO.q (Q.assign rfl) (XO.q (Q.assign rfl) (XO.q (Q.assign rfl) (XO.done (XK.seq (XK.seq ?_)))))
 refine XK.region rfl ?_
 refine XO.q (Q.ldA [_, _, _, _] rfl rfl rfl) ?_
 refine XO.q (Q.move rfl) (XO.q (Q.move rfl) ?_)
 refine XO.q (Q.ldA [_, _, _, _, _, _] rfl rfl rfl) ?_
 refine XO.call Tryz.call60 rfl rfl rfl (boxed_spec h vr vw vb vc hr hw hb hc a d va vd ha hd lo hi vlo vhi hlo hhi) fun v24 s24 R24 => ?_
 obtain ⟨rfl, rfl⟩ := R24
 dsimp only [lcA, lnA]
 refine XO.q (Q.assign rfl) (XO.done (XK.seq (XK.region rfl (XO.q (Q.move rfl) ?_))))
 refine XO.q (Q.neq rfl rfl) ?_
 refine XO.done ?_
 refine XK.if rfl (fun c0 => ?_) (fun c0 => ?_)
 ·skip
  refine XK.seq (XK.region rfl (XO.q (Q.move rfl) (XO.q (Q.assign rfl) (XO.q (Q.assign rfl) (XO.q (Q.assign rfl) ?_)))))
  refine XO.done ?_
  refine XK.rt [emp, emp, emp, emp] Tryz.func22 Tryz.results22 (.t rfl (.t rfl (.t rfl .n))) ?_
  have hw0 : boundsG h lo hi a d m = ([], [], boxedG h lo hi a d) := by rw [boundsG, if_pos c0]
  rw [hw0]
  exact ⟨.slice none 0 0, .slice none 0 0, emp, emp, emp, emp, [], [], rfl, rfl, OArr.nil (fun _ => rfl), OArr.nil (fun _ => rfl), ⟨rfl, fun i hi => absurd hi (Nat.not_lt_zero i)⟩, rfl, fun i hi => absurd hi (Nat.not_lt_zero i)⟩
 ·skip
  obtain ⟨ok0, oka, okd, oklo, okhi, _, _⟩ := boxed_ok (Decidable.of_not_not c0)
  refine XK.skip (XK.seq (XK.seq (XK.region rfl (XO.q (Q.move rfl) ?_))))
  refine XO.call Tryz.call61 rfl rfl rfl (in_spec _ _) fun v29 s29 R29 => ?_
  obtain ⟨rfl, rfl⟩ := R29
  dsimp only [lcA, lnA]
  refine XO.q (Q.not rfl) ?_
  refine XO.done ?_
  refine XK.if rfl (fun c1 => ?_) (fun c1 => ?_)
  ·skip
   refine XK.seq (XK.region rfl (XO.q (Q.assign rfl) (XO.q (Q.assign rfl) (XO.q (Q.assign rfl) (XO.done ?_)))))
   refine XK.rt [emp, emp, emp, emp] Tryz.func22 Tryz.results22 (.t rfl (.t rfl (.t rfl .n))) ?_
   have hw0 : boundsG h lo hi a d m = ([], [], 2) := by rw [boundsG, if_neg c0, if_pos c1]
   rw [hw0]
   exact ⟨.slice none 0 0, .slice none 0 0, emp, emp, emp, emp, [], [], rfl, rfl, OArr.nil (fun _ => rfl), OArr.nil (fun _ => rfl), ⟨rfl, fun i hi => absurd hi (Nat.not_lt_zero i)⟩, rfl, fun i hi => absurd hi (Nat.not_lt_zero i)⟩
  ·skip
   obtain ⟨hm0, hm1⟩ := inP_le (Decidable.of_not_not c1)
   obtain ⟨N, eN⟩ : ∃ N : Nat, m = N := ⟨m.toNat, by omega⟩
   subst eN
   refine XK.skip (XK.seq (XK.region rfl ?_))
   refine XO.alloc fun b14 => ?_
   refine XO.alloc fun b15 => ?_
   refine XO.done (XK.seq (XK.seq ?_))
   refine XK.drawn [0, 1, 2, 3, 4] [b5, b8] [] (.q 0 (.q 1 (.q 2 (.q 3 (.q 4 (.br 5 true (.br 6 true .done .stop) .stop)))))) Tryz.mixed rfl (by kernel_rfl) ?_
   refine XT.q rfl rfl (Q.ldA [_, _, _, _] rfl rfl rfl) ?_
   refine XT.q rfl rfl (Q.move rfl) ?_
   refine XT.q rfl rfl (Q.move rfl) ?_
   refine XT.q rfl rfl (Q.fieldAddr rfl) ?_
   refine XT.q rfl rfl (Q.ldA [_, _, _] rfl rfl rfl) ?_
   refine XT.call rfl rfl Tryz.call63 rfl rfl rfl (always_spec a va) (fun v36 s36 R36 => ?_) XT.stop
   obtain ⟨bC36, rfl, oneF36, ofC36⟩ := R36
   dsimp only [lcA, lnA]
   refine ⟨inferInstance, ?_⟩
   refine XT.call rfl rfl Tryz.call62 rfl rfl rfl (seconds_spec h vr vw vb vc hr hw hb hc (hcheck_ok ok0) (fun _ => a) N (by omega) lo vlo hlo oklo (fun _ _ => oka) (fun _ => va) ha (fun _ _ => inferInstance) v36 (blk bC36 [va, .int .i64 a.out, .int .i64 a.pump] 31) (blk bC36 [va, .int .i64 a.out, .int .i64 a.pump] 31) (ofC36 N).two) (fun v37 s37 R37 => ?_) XT.stop
   obtain ⟨k371, k372, k373, k374, rfl, hit37⟩ := R37
   dsimp only [lcA, lnA]
   refine ⟨inferInstance, ?_⟩
   refine XT.done ?_
   refine XK.block ?_
   refine XK.rangeK (X := Value × PHeap × List Value) (ps := [38, 39]) (fun ⟨vo, ko, us⟩ => [blk b14 [vo] 66, ko]) (fun i ⟨vo, ko, us⟩ K0 => OArr vo encV 1 29 ko us ∧ RowsTo us K0 h (fun _ => a) lo i) (fun j0 ⟨vo, ko, us⟩ K0 => False) (.slice none 0 0, emp, []) [blk b14 [.slice none 0 0] 66, emp] rfl (hit37) rfl (fun i x K K' hle hI => ⟨hI.1, hI.2.mono hle⟩) (⟨hnil, RowsTo.nil⟩) rfl (fun i K vs hY => by obtain ⟨sl, rfl, _⟩ := hY; rfl) ?_ ?_ (fun _ _ _ hJ => hJ.elim)
   ·rintro lq rec B' i ⟨vo, ko, us⟩ K0 vs hi ⟨v39, rfl, av39⟩ ⟨OO0, rT0⟩
    dsimp only [lcA, lnA]
    have hul := rT0.1
    refine XK.region rfl (XO.q (Q.assign rfl) (XO.done ?_))
    refine XK.beginRound ?_
    refine XK.block (XK.region rfl ?_)
    refine XO.q (Q.ld rfl rfl) ?_
    refine XO.q (Q.move rfl) ?_
    refine XO.lit [_] [_] [v39] encV (by rfl) (by rfl) rfl (by rfl) (by exact .c 0 1 rfl rfl rfl (.n _)) (fun _ => rfl) (by rfl) rfl (by infer_instance) rfl fun v42 h42 O42 => ?_
    refine XO.append rfl rfl rfl rfl (by simp only [List.length_cons, List.length_nil]; omega) fun v43 h43 O43 => ?_
    refine XO.st rfl rfl rfl ?_
    refine XO.done ?_
    refine XK.inBlock ?_
    exact XK.leave (j := none) [blk b14 [v43] 66, h43] trivial ⟨(v43, h43, us ++ [v39]), ⟨O43, rT0.snoc av39⟩, rfl⟩
   ·rintro ⟨vo, ko, us⟩ K0 ⟨OO0, rT0⟩
    dsimp only [lcA, lnA]
    refine XK.inBlock ?_
    refine XK.seq (XK.seq ?_)
    refine XK.drawn [0, 1, 2, 3, 4] [b5, b8] [] (.q 0 (.q 1 (.q 2 (.q 3 (.q 4 (.br 5 true (.br 6 true .done .stop) .stop)))))) Tryz.mixed rfl (by kernel_rfl) ?_
    refine XT.q rfl rfl (Q.ldA [_, _, _, _] rfl rfl rfl) ?_
    refine XT.q rfl rfl (Q.move rfl) ?_
    refine XT.q rfl rfl (Q.move rfl) ?_
    refine XT.q rfl rfl (Q.fieldAddr rfl) ?_
    refine XT.q rfl rfl (Q.ldA [_, _, _] rfl rfl rfl) ?_
    refine XT.call rfl rfl Tryz.call63 rfl rfl rfl (always_spec d vd) (fun v49 s49 R49 => ?_) XT.stop
    obtain ⟨bC49, rfl, oneF49, ofC49⟩ := R49
    dsimp only [lcA, lnA]
    refine ⟨inferInstance, ?_⟩
    refine XT.call rfl rfl Tryz.call62 rfl rfl rfl (seconds_spec h vr vw vb vc hr hw hb hc (hcheck_ok ok0) (fun _ => d) N (by omega) hi vhi hhi okhi (fun _ _ => okd) (fun _ => vd) hd (fun _ _ => inferInstance) v49 (blk bC49 [vd, .int .i64 d.out, .int .i64 d.pump] 31) (blk bC49 [vd, .int .i64 d.out, .int .i64 d.pump] 31) (ofC49 N).two) (fun v50 s50 R50 => ?_) XT.stop
    obtain ⟨k501, k502, k503, k504, rfl, hit50⟩ := R50
    dsimp only [lcA, lnA]
    refine ⟨inferInstance, ?_⟩
    refine XT.done ?_
    refine XK.block ?_
    refine XK.rangeK (X := Value × PHeap × List Value) (ps := [51, 52]) (fun ⟨wo, jo, ws⟩ => [blk b15 [wo] 66, jo]) (fun i ⟨wo, jo, ws⟩ K1 => OArr wo encV 1 29 jo ws ∧ RowsTo ws K1 h (fun _ => d) hi i) (fun j1 ⟨wo, jo, ws⟩ K1 => False) (.slice none 0 0, emp, []) [blk b15 [.slice none 0 0] 66, emp] rfl (hit50) rfl (fun i x K K' hle hI => ⟨hI.1, hI.2.mono hle⟩) (⟨hnil, RowsTo.nil⟩) rfl (fun i K vs hY => by obtain ⟨sl, rfl, _⟩ := hY; rfl) ?_ ?_ (fun _ _ _ hJ => hJ.elim)
    ·rintro lq rec B' i ⟨wo, jo, ws⟩ K1 vs hi ⟨v52, rfl, av52⟩ ⟨OO1, rT1⟩
     dsimp only [lcA, lnA]
     have hul := rT1.1
     refine XK.region rfl (XO.q (Q.assign rfl) (XO.done ?_))
     refine XK.beginRound ?_
     refine XK.block (XK.region rfl ?_)
     refine XO.q (Q.ld rfl rfl) ?_
     refine XO.q (Q.move rfl) ?_
     refine XO.lit [_] [_] [v52] encV (by rfl) (by rfl) rfl (by rfl) (by exact .c 0 1 rfl rfl rfl (.n _)) (fun _ => rfl) (by rfl) rfl (by infer_instance) rfl fun v55 h55 O55 => ?_
     refine XO.append rfl rfl rfl rfl (by simp only [List.length_cons, List.length_nil]; omega) fun v56 h56 O56 => ?_
     refine XO.st rfl rfl rfl ?_
     refine XO.done ?_
     refine XK.inBlock ?_
     exact XK.leave (j := none) [blk b15 [v56] 66, h56] trivial ⟨(v56, h56, ws ++ [v52]), ⟨O56, rT1.snoc av52⟩, rfl⟩
    ·rintro ⟨wo, jo, ws⟩ K1 ⟨OO1, rT1⟩
     dsimp only [lcA, lnA]
     refine XK.inBlock ?_
     refine XK.seq ?_
     refine XK.drawn [0, 1, 2, 3, 4] [b14, b15] [] (.q 0 (.q 1 (.q 2 (.q 3 (.q 4 .done))))) Tryz.mixed rfl (by kernel_rfl) ?_
     refine XT.q rfl rfl (Q.ld rfl rfl) ?_
     refine XT.q rfl rfl (Q.ld rfl rfl) ?_
     refine XT.q rfl rfl (Q.assign rfl) ?_
     refine XT.q rfl rfl (Q.assign rfl) ?_
     refine XT.q rfl rfl (Q.assign rfl) ?_
     refine XT.done ?_
     refine XK.rt [ko, jo, K0, K1] Tryz.func22 Tryz.results22 (.t rfl (.t rfl (.t rfl .n))) ?_
     have hw0 : boundsG h lo hi a d N = (rowsL h (fun _ => a) lo N, rowsL h (fun _ => d) hi N, 0) := by rw [boundsG, if_neg c0, if_neg c1, Int.toNat_natCast]
     rw [hw0]
     exact ⟨vo, wo, ko, jo, K0, K1, us, ws, rfl, rfl, OO0, OO1, rT0.rows, rT1.rows⟩
theorem Ride_spec (h : Hall) (vr vw vb vc : Value) (hr hw hb hc : PHeap) [ir : Arr vr encRoom 2 hr h.rooms] [iw : Arr vw encWall 3 hw h.walls] [ib : Arr vb encBranch 3 hb h.branches] [ic : Arr vc encCooler 5 hc h.coolers] (t : List Int) (vt : Value) (ht : PHeap) [it : Arr vt encI 1 ht t] (a d : HCase) (va vd : Value) (ha hd : PHeap) [ia : Arr va encI 1 ha a.load] [id : Arr vd encI 1 hd d.load] (m : Int) : Spec Tryz.prog 23 #[.agg #[vr, vw, vb, vc], vt, .agg #[va, .int .i64 a.out, .int .i64 a.pump, vd, .int .i64 d.out, .int .i64 d.pump], .int .i64 m] [] [hr, hw, hb, hc, ht, ha, hd]
  (fun v hs => v = .tuple #[.int .i64 (rideG h t a d m).1, .int .i64 (rideG h t a d m).2.1, .int .i64 (rideG h t a d m).2.2] ∧ hs = []) := by
 refine Spec.intro (fn := Tryz.f23) (N := 56) Tryz.func23 rfl Tryz.ntmps23 rfl fun B => ?_
 refine XK.seq (XK.region rfl ?_)
 refine XO.box rfl fun b4 => ?_
 refine XO.box rfl fun b6 => ?_
 refine XO.alloc fun b8 => ?_
 refine XO.alloc fun b9 => ?_
 refine XO.alloc fun b10 => ?_
 refine XO.done (XK.seq (XK.seq (XK.region rfl ?_)))
 refine XO.q (Q.ldA [_, _, _, _] rfl rfl rfl) ?_
 refine XO.q (Q.ldA [_, _, _, _, _, _] rfl rfl rfl) ?_
 refine XO.call Tryz.call64 rfl rfl rfl (Classed_spec h vr vw vb vc hr hw hb hc a d va vd ha hd [] (.slice none 0 0) hr hr (il := Arr.nil (fun _ => rfl)) (by simp) (fun i hi => absurd hi (Nat.not_lt_zero i))) fun v19 s19 R19 => ?_
 obtain ⟨rfl, rfl⟩ := R19
 dsimp only [lcA, lnA]
 rw [List.map_nil]
 refine XO.q (Q.assign rfl) (XO.done (XK.seq (XK.region rfl (XO.q (Q.move rfl) ?_))))
 refine XO.q (Q.neq rfl rfl) ?_
 refine XO.done ?_
 refine XK.if rfl (fun c0 => ?_) (fun c0 => ?_)
 ·skip
  refine XK.seq (XK.region rfl (XO.q (Q.move rfl) ?_))
  refine XO.st rfl rfl rfl ?_
  refine XO.st rfl rfl rfl ?_
  refine XO.st rfl rfl rfl ?_
  refine XO.done ?_
  refine XK.rt [] Tryz.func23 Tryz.results23 (.cell1 rfl rfl (.cell1 rfl rfl (.cell1 rfl rfl (.n)))) ?_
  exact ⟨by rw [rideG, if_pos c0], rfl⟩
 ·skip
  refine XK.skip (XK.seq (XK.seq (XK.region rfl ?_)))
  refine XO.q (Q.ldA [_, _, _, _] rfl rfl rfl) ?_
  refine XO.q (Q.move rfl) ?_
  refine XO.call Tryz.call51 rfl rfl rfl (warm_spec h vr vw vb vc hr vt ht t) fun v25 s25 R25 => ?_
  obtain ⟨rfl, rfl⟩ := R25
  dsimp only [lcA, lnA]
  refine XO.q (Q.assign rfl) (XO.done (XK.seq (XK.region rfl (XO.q (Q.move rfl) ?_))))
  refine XO.q (Q.neq rfl rfl) ?_
  refine XO.done ?_
  refine XK.if rfl (fun c1 => ?_) (fun c1 => ?_)
  ·skip
   refine XK.seq (XK.region rfl (XO.q (Q.move rfl) ?_))
   refine XO.st rfl rfl rfl ?_
   refine XO.st rfl rfl rfl ?_
   refine XO.st rfl rfl rfl ?_
   refine XO.done ?_
   refine XK.rt [] Tryz.func23 Tryz.results23 (.cell1 rfl rfl (.cell1 rfl rfl (.cell1 rfl rfl (.n)))) ?_
   exact ⟨by rw [rideG, if_neg c0, if_pos c1], rfl⟩
  ·skip
   obtain ⟨ok0, oka, okd, _, _⟩ := classed_ok (Decidable.of_not_not c0)
   have okt : TOk h t := warm_ok (Decidable.of_not_not c1)
   refine XK.skip (XK.seq (XK.seq (XK.region rfl (XO.q (Q.move rfl) ?_))))
   refine XO.call Tryz.call61 rfl rfl rfl (in_spec _ _) fun v30 s30 R30 => ?_
   obtain ⟨rfl, rfl⟩ := R30
   dsimp only [lcA, lnA]
   refine XO.q (Q.not rfl) ?_
   refine XO.done ?_
   refine XK.if rfl (fun c2 => ?_) (fun c2 => ?_)
   ·skip
    refine XK.seq (XK.region rfl ?_)
    refine XO.st rfl rfl rfl ?_
    refine XO.st rfl rfl rfl ?_
    refine XO.st rfl rfl rfl ?_
    refine XO.done ?_
    refine XK.rt [] Tryz.func23 Tryz.results23 (.cell1 rfl rfl (.cell1 rfl rfl (.cell1 rfl rfl (.n)))) ?_
    exact ⟨by rw [rideG, if_neg c0, if_neg c1, if_pos c2], rfl⟩
   ·skip
    obtain ⟨hm0, hm1⟩ := inP_le (Decidable.of_not_not c2)
    obtain ⟨N, eN⟩ : ∃ N : Nat, m = N := ⟨m.toNat, by omega⟩
    subst eN
    have hw0 : rideG h t a d N = ((rideL h d N 0 t).1, (rideL h d N 0 t).2, 0) := by rw [rideG, if_neg c0, if_neg c1, if_neg c2, Int.toNat_natCast]
    rw [hw0]
    dsimp only
    refine XK.skip (XK.seq (XK.seq (XK.region rfl ?_)))
    refine XO.q (Q.ldA [_, _, _, _] rfl rfl rfl) ?_
    refine XO.q (Q.move rfl) ?_
    refine XO.call Tryz.call65 rfl rfl rfl (hot_spec h vr vw vb vc hr hw hb hc t vt ht (by rw [okt.len]; exact Nat.le_refl _)) fun v34 s34 R34 => ?_
    obtain ⟨rfl, rfl⟩ := R34
    dsimp only [lcA, lnA]
    refine XO.q (Q.assign rfl) (XO.done (XK.seq (XK.region rfl (XO.q (Q.move rfl) ?_))))
    refine XO.q (Q.geq rfl rfl) ?_
    refine XO.done ?_
    refine XK.if rfl (fun c3 => ?_) (fun c3 => ?_)
    ·skip
     refine XK.seq (XK.region rfl (XO.q (Q.move rfl) ?_))
     refine XO.st rfl rfl rfl ?_
     refine XO.st rfl rfl rfl ?_
     refine XO.st rfl rfl rfl ?_
     refine XO.done ?_
     refine XK.rt [] Tryz.func23 Tryz.results23 (.cell1 rfl rfl (.cell1 rfl rfl (.cell1 rfl rfl (.n)))) ?_
     exact ⟨by rw [rideL_hot c3]; rfl, rfl⟩
    ·skip
     refine XK.skip (XK.seq (XK.seq ?_))
     refine XK.drawn [0, 1, 2, 3, 4] [b4, b6] [] (.q 0 (.q 1 (.q 2 (.q 3 (.q 4 (.br 5 true (.br 6 true .done .stop) .stop)))))) Tryz.mixed rfl (by kernel_rfl) ?_
     refine XT.q rfl rfl (Q.ldA [_, _, _, _] rfl rfl rfl) ?_
     refine XT.q rfl rfl (Q.move rfl) ?_
     refine XT.q rfl rfl (Q.move rfl) ?_
     refine XT.q rfl rfl (Q.fieldAddr rfl) ?_
     refine XT.q rfl rfl (Q.ldA [_, _, _] rfl rfl rfl) ?_
     refine XT.call rfl rfl Tryz.call63 rfl rfl rfl (always_spec d vd) (fun v43 s43 R43 => ?_) XT.stop
     obtain ⟨bC43, rfl, oneF43, ofC43⟩ := R43
     dsimp only [lcA, lnA]
     refine ⟨inferInstance, ?_⟩
     refine XT.call rfl rfl Tryz.call62 rfl rfl rfl (seconds_spec h vr vw vb vc hr hw hb hc (hcheck_ok ok0) (fun _ => d) N (by omega) t vt ht okt (fun _ _ => okd) (fun _ => vd) hd (fun _ _ => inferInstance) v43 (blk bC43 [vd, .int .i64 d.out, .int .i64 d.pump] 31) (blk bC43 [vd, .int .i64 d.out, .int .i64 d.pump] 31) (ofC43 N).two) (fun v44 s44 R44 => ?_) XT.stop
     obtain ⟨k441, k442, k443, k444, rfl, hit44⟩ := R44
     dsimp only [lcA, lnA]
     refine ⟨inferInstance, ?_⟩
     refine XT.done ?_
     refine XK.block ?_
     refine XK.rangeK (X := Value × Value × Value) (ps := [45, 46]) (fun ⟨v8, v9, v10⟩ => [blk b8 [v8] 3, blk b9 [v9] 3, blk b10 [v10] 49]) (fun i ⟨v8, v9, v10⟩ K0 => rideL h d N 0 t = rideL h d (N - i) i (iterT h (fun _ => d) t i) ∧ ¬ 0 ≤ hotP h (iterT h (fun _ => d) t i)) (fun j0 ⟨v8, v9, v10⟩ K0 => j0 = Code.ret ∧ v8 = .int .i64 (rideL h d N 0 t).1 ∧ v9 = .int .i64 (rideL h d N 0 t).2 ∧ v10 = .int .i64 0) (.int .i64 0, .int .i64 0, .int .i64 0) [blk b8 [.int .i64 0] 3, blk b9 [.int .i64 0] 3, blk b10 [.int .i64 0] 49] rfl (hit44) rfl (fun i x K K' hle hI => hI) (⟨rfl, c3⟩) rfl (fun i K vs hY => by obtain ⟨sl, rfl, _⟩ := hY; rfl) ?_ ?_ ?_
     ·rintro lq rec B' i ⟨v8, v9, v10⟩ K0 vs hi ⟨v46, rfl, a46⟩ ⟨hrd, hnh⟩
      dsimp only [lcA, lnA]
      have hst : rideL h d N 0 t = rideL h d (N - (i + 1)) (i + 1) (iterT h (fun _ => d) t (i + 1)) := by rw [hrd, show N - i = (N - (i + 1)) + 1 by omega, rideL_go hnh]; rfl
      refine XK.seq (XK.region rfl (XO.q (Q.assign rfl) (XO.done (XK.region rfl (XO.q (Q.assign rfl) ?_)))))
      refine XO.done ?_
      refine XK.beginRound ?_
      refine XK.block (XK.seq (XK.region rfl ?_))
      refine XO.q (Q.ldA [_, _, _, _] rfl rfl rfl) ?_
      refine XO.q (Q.move rfl) ?_
      refine XO.call Tryz.call65 rfl rfl rfl (hot_spec h vr vw vb vc hr hw hb hc (iterT h (fun _ => d) t (i + 1)) v46 K0 (by rw [iter_len okt.len]; exact Nat.le_refl _)) fun v49 s49 R49 => ?_
      obtain ⟨rfl, rfl⟩ := R49
      dsimp only [lcA, lnA]
      refine XO.q (Q.assign rfl) (XO.done (XK.seq (XK.region rfl (XO.q (Q.move rfl) ?_))))
      refine XO.q (Q.geq rfl rfl) ?_
      refine XO.done ?_
      refine XK.if rfl (fun c4 => ?_) (fun c4 => ?_)
      ·skip
       refine XK.seq (XK.region rfl (XO.q (Q.move rfl) (XO.q (Q.move rfl) ?_)))
       refine XO.st rfl rfl rfl ?_
       refine XO.st rfl rfl rfl ?_
       refine XO.st rfl rfl rfl ?_
       refine XO.done ?_
       have hh : rideL h d N 0 t = (((i + 1 : Nat) : Int), hotP h (iterT h (fun _ => d) t (i + 1))) := by rw [hst, rideL_hot c4]
       exact XK.leave (j := some .ret) [blk b8 [.int .i64 ((i : Int) + 1)] 3, blk b9 [.int .i64 (hotP h (iterT h (fun _ => d) t (i + 1)))] 3, blk b10 [.int .i64 0] 49] trivial ⟨(.int .i64 ((i : Int) + 1), .int .i64 (hotP h (iterT h (fun _ => d) t (i + 1))), .int .i64 0), ⟨rfl, ⟨by rw [hh]; rfl, by rw [hh], rfl⟩⟩, rfl⟩
      ·skip
       refine XK.skip ?_
       refine XK.inBlock ?_
       exact XK.leave (j := none) [blk b8 [v8] 3, blk b9 [v9] 3, blk b10 [v10] 49] trivial ⟨(v8, v9, v10), ⟨hst, c4⟩, rfl⟩
     ·rintro ⟨v8, v9, v10⟩ K0 ⟨hrd, hnh⟩
      dsimp only [lcA, lnA]
      refine XK.inBlock ?_
      refine XK.seq (XK.region rfl (XO.q (Q.move rfl) ?_))
      refine XO.q (Q.add rfl rfl ⟨by omega, by omega⟩) ?_
      refine XO.st rfl rfl rfl ?_
      refine XO.st rfl rfl rfl ?_
      refine XO.st rfl rfl rfl ?_
      refine XO.done ?_
      refine XK.rt [] Tryz.func23 Tryz.results23 (.cell1 rfl rfl (.cell1 rfl rfl (.cell1 rfl rfl (.n)))) ?_
      exact ⟨by rw [hrd, Nat.sub_self, rideL_end hnh], rfl⟩
     ·rintro _ ⟨v8, v9, v10⟩ K0 ⟨rfl, ⟨rfl, rfl, rfl⟩⟩
      dsimp only [lcA, lnA]
      refine XK.rt [] Tryz.func23 Tryz.results23 (.cell1 rfl rfl (.cell1 rfl rfl (.cell1 rfl rfl (.n)))) ?_
      exact ⟨rfl, rfl⟩
theorem mul64_one (n : Nat) (h : n ≤ 4294967295) : Spec Tryz.prog 199 #[.int .u64 1, .int .u64 (n : Nat)] [] [] (fun v hs => v = .tuple #[.int .u64 0, .int .u64 (n : Nat)] ∧ hs = []) := by apply Go.X.Ke.mul64_one <;> assumption
theorem mul_one' (n : Nat) (h : n ≤ 4294967295) : Spec Tryz.prog 160 #[.int .u64 1, .int .u64 (n : Nat)] [] [] (fun v hs => v = .tuple #[.int .u64 0, .int .u64 (n : Nat)] ∧ hs = []) := by apply Go.X.Ke.mul_one' <;> assumption
end Go.X.Ht

set_option linter.unusedSimpArgs false
set_option linter.unusedVariables false
set_option maxRecDepth 20000
namespace Go.X.Bk
open Go.Proofs
end Go.X.Bk

set_option linter.unusedSimpArgs false
set_option linter.unusedVariables false
set_option maxRecDepth 20000
namespace Go.X.Bk
open Go.Proofs
end Go.X.Bk

set_option linter.unusedSimpArgs false
set_option linter.unusedVariables false
set_option maxRecDepth 20000
namespace Go.X.Bk
open Go.Proofs
end Go.X.Bk

set_option linter.unusedSimpArgs false
set_option linter.unusedVariables false
set_option maxRecDepth 20000
namespace Go.X
open Go.Proofs
theorem nextT (b : Nat) (vx : Value) (hx : PHeap) (x : List UInt8) [jx : Arr vx encU8 1 hx x] (i n : Nat) (hi : i ≤ 1000000000) (hn : 0 < n) (hn2 : n ≤ 1000000) : Spec Tryz.prog 10 #[ptr b 0, .int .i64 (n : Nat)] [blk b [vx, .int .i64 ((i : Nat) : Int)] 38] [hx]
  (fun v hs => hs = [blk b [vx, .int .i64 ((i + 1 : Nat) : Int)] 38] ∧ ∃ r : Nat, v = .int .i64 (r : Nat) ∧ r < n) := by
 refine Spec.intro (fn := Tryz.f10) (N := 36) Tryz.func10 rfl Tryz.ntmps10 rfl fun B => ?_
 refine XK.seq (XK.region rfl (XO.q (Q.assign rfl) (XO.done (XK.seq (XK.region rfl ?_)))))
 refine XO.q (Q.move rfl) ?_
 refine XO.q (Q.nilCheck rfl) ?_
 refine XO.q (Q.fieldAddr rfl) ?_
 refine XO.q (Q.ld rfl rfl) ?_
 refine XO.q (Q.add rfl rfl ⟨by omega, by omega⟩) ?_
 rw [show ((i : Int) + 1) = ((i + 1 : Nat) : Int) from rfl]
 refine XO.q (Q.nilCheck rfl) ?_
 refine XO.q (Q.fieldAddr rfl) ?_
 refine XO.st rfl rfl rfl ?_
 refine XO.done (XK.seq (XK.seq ?_))
 refine XK.drawn [0, 1, 2, 3, 4, 5, 6, 7, 8, 9] [b] [] (.q 0 (.q 1 (.q 2 (.q 3 (.q 4 (.q 5 (.q 6 (.q 7 (.q 8 (.q 9 .done)))))))))) Tryz.mixed rfl (by kernel_rfl) ?_
 refine XT.q rfl rfl (Q.move rfl) ?_
 refine XT.q rfl rfl (Q.nilCheck rfl) ?_
 refine XT.q rfl rfl (Q.fieldAddr rfl) ?_
 refine XT.q rfl rfl (Q.ld rfl rfl) ?_
 refine XT.q rfl rfl (Q.move rfl) ?_
 refine XT.q rfl rfl (Q.nilCheck rfl) ?_
 refine XT.q rfl rfl (Q.fieldAddr rfl) ?_
 refine XT.q rfl rfl (Q.ld rfl rfl) ?_
 refine XT.q rfl rfl (Q.len rfl) ?_
 refine XT.q rfl rfl (Q.gtr rfl rfl) ?_
 refine XT.done ?_
 refine XK.if rfl (fun c0 => ?_) (fun c0 => ?_)
 ·skip
  refine XK.seq (XK.region rfl (XO.q (Q.assign rfl) (XO.done ?_)))
  refine XK.rt [blk b [vx, .int .i64 ((i + 1 : Nat) : Int)] 38] Tryz.func10 Tryz.results10 (.t rfl .n) ?_
  exact ⟨rfl, 0, rfl, hn⟩
 ·skip
  refine XK.skip (XK.seq ?_)
  refine XK.drawn [0, 1, 2, 3, 4, 5, 6, 7, 8, 9, 10, 11, 12, 13, 14] [b] [] (.q 0 (.q 1 (.q 2 (.q 3 (.q 4 (.q 5 (.q 6 (.q 7 (.q 8 (.q 9 (.q 10 (.q 11 (.q 12 (.q 13 (.q 14 .done))))))))))))))) Tryz.mixed rfl (by kernel_rfl) ?_
  refine XT.q rfl rfl (Q.move rfl) ?_
  refine XT.q rfl rfl (Q.nilCheck rfl) ?_
  refine XT.q rfl rfl (Q.fieldAddr rfl) ?_
  refine XT.q rfl rfl (Q.ld rfl rfl) ?_
  refine XT.q rfl rfl (Q.move rfl) ?_
  refine XT.q rfl rfl (Q.nilCheck rfl) ?_
  refine XT.q rfl rfl (Q.fieldAddr rfl) ?_
  refine XT.q rfl rfl (Q.ld rfl rfl) ?_
  refine XT.q rfl rfl (Q.sub rfl rfl ⟨by omega, by omega⟩) ?_
  rw [show (((i + 1 : Nat) : Int) - 1) = (i : Int) by omega]
  refine XT.ix rfl rfl rfl rfl (by omega) (by omega) fun i31 => ?_
  refine XT.q rfl rfl (Q.ldE rfl (by first | assumption | omega) rfl) ?_
  refine XT.q rfl rfl (Q.conv rfl) ?_
  have hu := (x.getD i default).toNat_lt
  rw [wrap64_of ⟨by omega, by omega⟩]
  refine XT.q rfl rfl (Q.move rfl) ?_
  refine XT.q rfl rfl (Q.rem rfl rfl (by omega) (by omega)) ?_
  rw [show ((((x.getD i default).toNat : Nat) : Int) % (n : Int)) = (((x.getD i default).toNat % n : Nat) : Int) from rfl]
  refine XT.q rfl rfl (Q.assign rfl) ?_
  refine XT.done ?_
  refine XK.rt [blk b [vx, .int .i64 ((i + 1 : Nat) : Int)] 38] Tryz.func10 Tryz.results10 (.t rfl .n) ?_
  exact ⟨rfl, (x.getD i default).toNat % n, rfl, Nat.mod_lt _ hn⟩
theorem midT (b bd j : Nat) (hj : j ≤ 1000000) (vp : Value) (hp : PHeap) (p : List UInt8) [sp : Arr vp encU8 1 hp p] (x y : Int) (hxy : x ≤ y) (hx : -1000000 ≤ x) (hy : y ≤ 1000000) :
  Spec Tryz.prog 54 #[.int .i64 x, .int .i64 y, ptr bd 0] [blk b [vp, .int .i64 ((j : Nat) : Int)] 38] [hp, blk bd [ptr b 0] 36] (fun v hs => ∃ m : Int, v = .int .i64 m ∧ hs = [blk b [vp, .int .i64 ((j + 1 : Nat) : Int)] 38] ∧ x ≤ m ∧ m ≤ y) := by
 refine Spec.intro (fn := Tryz.f54) (N := 15) Tryz.func54 rfl Tryz.ntmps54 rfl fun B => ?_
 refine XK.seq (XK.region rfl (XO.q (Q.assign rfl) (XO.done (XK.seq (XK.region rfl ?_)))))
 refine XO.q (Q.move rfl) (XO.q (Q.move rfl) (XO.q (Q.move rfl) ?_))
 refine XO.q (Q.sub rfl rfl ⟨by omega, by omega⟩) ?_
 refine XO.q (Q.ld rfl rfl) ?_
 refine XO.callB b Tryz.call10 rfl rfl rfl (nextT b vp hp p (j) (256) (by omega) (by omega) (by omega)) fun v11 s11 R11 => ?_
 obtain ⟨rfl, n11, rfl, h11⟩ := R11
 dsimp only [lcA, lnA]
 obtain ⟨m1, m2, m3, m4⟩ := Ht.mid_rng hxy h11
 refine XO.q (Q.mul rfl rfl ⟨by omega, by omega⟩) ?_
 refine XO.q (Q.quo rfl rfl (by omega) (by omega) (by omega)) ?_
 refine XO.q (Q.add rfl rfl ⟨by omega, by omega⟩) ?_
 refine XO.q (Q.assign rfl) (XO.done ?_)
 refine XK.rt [blk b [vp, .int .i64 ((j + 1 : Nat) : Int)] 38] Tryz.func54 Tryz.results54 (.t rfl .n) ?_
 exact ⟨_, rfl, rfl, m3, m4⟩
theorem betweenT (m : Nat) (hm : m ≤ 8) (a d : HCase) (va vd : Value) (ha hd : PHeap) [ia : Arr va encI 1 ha a.load] [id : Arr vd encI 1 hd d.load] (qa : Ht.CasedOk m a) (qd : Ht.CasedOk m d) (ad : Ht.LeC a d) (b q : Nat) (hq : q ≤ 100000) (vp : Value) (hp : PHeap) (p : List UInt8) [sp : Arr vp encU8 1 hp p] : Spec Tryz.prog 17 #[.agg #[va, .int .i64 a.out, .int .i64 a.pump, vd, .int .i64 d.out, .int .i64 d.pump], ptr b 0] [blk b [vp, .int .i64 ((q : Nat) : Int)] 38] [ha, hd, hp]
  (fun v hs => ∃ (c : HCase) (v1 : Value) (k : PHeap), v = .agg #[v1, .int .i64 c.out, .int .i64 c.pump] ∧ hs = [k, blk b [vp, .int .i64 ((q + 2 + m : Nat) : Int)] 38] ∧ OArr v1 encI 1 3 k c.load ∧ c.load.length = a.load.length ∧ Ht.LeC a c ∧ Ht.LeC c d) := by
 have hnil : OArr (.slice none 0 0) encI 1 3 emp ([] : List Int) := OArr.nil (fun _ => rfl)
 have q1 := qa.2.1
 have q2 := qd.2.1
 have q3 := qa.2.2
 have q4 := qd.2.2
 have q5 := ad.out
 have q6 := ad.pump
 have q7 := qa.1.1
 have q8 := qd.1.1
 refine Spec.intro (fn := Tryz.f17) (N := 54) Tryz.func17 rfl Tryz.ntmps17 rfl fun B => ?_
 refine XK.seq (XK.region rfl ?_)
 refine XO.box rfl fun b2 => ?_
 refine XO.box rfl fun b3 => ?_
 refine XO.alloc fun b4 => ?_
 refine XO.done (XK.seq (XK.region rfl ?_))
 refine XO.q (Q.func (fun _ he => rfl) (fun _ he => evs_rel he rfl)) ?_
 refine XO.q (Q.assign rfl) (XO.done (XK.seq ?_))
 refine XK.meet (X := Nat × Int × Int) [6, 9, 10, 11, 12, 13, 14, 15, 16, 17, 18, 19, 20, 21, 22, 23, 24, 25] (fun ⟨b6, m16, m24⟩ => [(6, some (ptr b6 0))]) (fun ⟨b6, m16, m24⟩ => [blk b6 [.slice none 0 0, .int .i64 m16, .int .i64 m24] 31, blk b [vp, .int .i64 ((q + 2 : Nat) : Int)] 38]) (fun ⟨b6, m16, m24⟩ => (a.out ≤ m16 ∧ m16 ≤ d.out) ∧ d.pump ≤ m24 ∧ m24 ≤ a.pump) [blk b [vp, .int .i64 ((q : Nat) : Int)] 38] ?_ ?_
 ·rintro ⟨b6, m16, m24⟩ ⟨⟨l16, u16⟩, l24, u24⟩
  dsimp only [lcA, lnA]
  refine XK.seq (XK.seq (XK.region rfl ?_))
  refine XO.q (Q.fieldAddr rfl) ?_
  refine XO.q (Q.fieldAddr rfl) ?_
  refine XO.q (Q.ld rfl rfl) ?_
  refine XO.len rfl fun l29 => ?_
  refine XO.q (Q.move rfl) (XO.done (XK.block ?_))
  refine XK.while (X := Nat × Value × PHeap × List Int) [7, 30, 31, 32, 33, 34, 35, 36, 37, 38, 39, 40, 41, 42, 43, 44, 45, 46, 47, 48, 49, 50, 51, 52] (fun ⟨i, v, k, t⟩ => [(30, some (.int .i64 (i : Nat)))]) (fun ⟨i, v, k, t⟩ => [blk b6 [v, .int .i64 m16, .int .i64 m24] 31, blk b [vp, .int .i64 ((q + 2 + i : Nat) : Int)] 38, k]) (fun ⟨i, v, k, t⟩ => i ≤ a.load.length ∧ t.length = i ∧ OArr v encI 1 3 k t ∧ ∀ j, j < i → a.load.getD j 0 ≤ t.getD j 0 ∧ t.getD j 0 ≤ d.load.getD j 0) (fun ⟨i, v, k, t⟩ => a.load.length - i) (0, .slice none 0 0, emp, []) [blk b6 [.slice none 0 0, .int .i64 m16, .int .i64 m24] 31, blk b [vp, .int .i64 ((q + 2 : Nat) : Int)] 38, emp] rfl ⟨by omega, rfl, hnil, fun j hj => by omega⟩ (.c rfl (.base 0 rfl rfl)) ?_
  rintro ⟨i, v, k, t⟩ ⟨hi, htl, OT, hT⟩ ih0
  dsimp only [lcA, lnA] at ih0 ⊢
  refine XK.seq (XK.region rfl ?_)
  refine XO.q (Q.lss rfl rfl) ?_
  refine XO.done (XK.seq ?_)
  refine XK.if rfl (fun c0 => ?_) (fun c0 => ?_)
  ·skip
   have r1 := qa.1.2 i (by omega)
   have r2 := qd.1.2 i (by omega)
   have r3 := ad.load i (by omega)
   change 0 ≤ a.load.getD i default ∧ a.load.getD i default ≤ _ at r1
   change 0 ≤ d.load.getD i default ∧ d.load.getD i default ≤ _ at r2
   change a.load.getD i default ≤ d.load.getD i default at r3
   refine XK.skip (XK.seq (XK.block (XK.seq (XK.region rfl (XO.q (Q.move rfl) ?_)))))
   refine XO.q (Q.assign rfl) (XO.done ?_)
   refine XK.drawn [0, 1, 2, 3, 4, 5, 6, 7, 8, 9, 10, 11, 12, 13, 14, 18] [b6, b2] [] (.q 0 (.q 1 (.q 2 (.q 3 (.q 4 (.q 5 (.q 6 (.q 7 (.q 8 (.q 9 (.q 10 (.q 11 (.q 12 (.q 13 (.q 14 (.br 15 true (.br 16 true (.br 17 true (.q 18 (.br 19 false .done .stop)) .stop) .stop) .stop)))))))))))))))) Tryz.mixed rfl (by kernel_rfl) ?_
   refine XT.q rfl rfl (Q.fieldAddr rfl) ?_
   refine XT.q rfl rfl (Q.ld rfl rfl) ?_
   refine XT.q rfl rfl (Q.move rfl) ?_
   refine XT.q rfl rfl (Q.fieldAddr rfl) ?_
   refine XT.q rfl rfl (Q.fieldAddr rfl) ?_
   refine XT.q rfl rfl (Q.ld rfl rfl) ?_
   refine XT.q rfl rfl (Q.move rfl) ?_
   refine XT.ix rfl rfl rfl rfl (by omega) (by omega) fun i40 => ?_
   refine XT.q rfl rfl (Q.ldE rfl (by first | assumption | omega) rfl) ?_
   refine XT.q rfl rfl (Q.fieldAddr rfl) ?_
   refine XT.q rfl rfl (Q.fieldAddr rfl) ?_
   refine XT.q rfl rfl (Q.ld rfl rfl) ?_
   refine XT.q rfl rfl (Q.move rfl) ?_
   refine XT.ix rfl rfl rfl rfl (by omega) (by omega) fun i46 => ?_
   refine XT.q rfl rfl (Q.ldE rfl (by first | assumption | omega) rfl) ?_
   refine XT.vcall rfl rfl rfl rfl (VSpec.fn (fst := []) (cap := [ptr b3 0]) Tryz.call54 rfl (midT b b3 (q + 2 + i) (by omega) vp hp p (a.load.getD i default) (d.load.getD i default) (by omega) (by omega) (by omega))) (fun v48 s48 R48 => ?_) XT.stop
   obtain ⟨m48, rfl, rfl, l48, u48⟩ := R48
   dsimp only [lcA, lnA]
   refine ⟨inferInstance, ?_⟩
   refine XT.lit [_] [_] [_] encI rfl rfl (by rfl) (by rfl) rfl (by rfl) (by exact .c 0 1 rfl rfl rfl (.n _)) (fun _ => rfl) (by rfl) rfl (by infer_instance) rfl (fun v49 h49 O49 => ⟨inferInstance, ?_⟩) XT.stop
   refine XT.append rfl rfl rfl rfl rfl rfl (by simp only [List.length_cons, List.length_nil]; omega) (fun v50 h50 O50 => ⟨inferInstance, ?_⟩) XT.stop
   refine XT.q rfl rfl (Q.fieldAddr rfl) ?_
   refine XT.st rfl rfl rfl rfl rfl ⟨inferInstance, ?_⟩ XT.stop
   refine XT.done ?_
   refine XK.inBlock ?_
   refine XK.region rfl ?_
   refine XO.q (Q.add rfl rfl ⟨by omega, by omega⟩) ?_
   refine XO.q (Q.move rfl) (XO.done ?_)
   exact ih0 (i + 1, v50, h50, _) _ _ ⟨by dsimp only; omega, by dsimp only; rw [List.length_append, htl]; rfl, O50, fun j hj => by
     dsimp only
     rw [Ht.snoc_getD, htl]
     by_cases hji : j < i
     ·rw [if_pos hji]; exact hT j hji
     ·rw [if_neg hji, if_pos (by omega), show j = i by omega]; exact ⟨l48, u48⟩⟩ (by first | omega | (dsimp only; omega)) (.c rfl (.base 49 rfl rfl)) inferInstance
  ·skip
   refine XK.exit rfl ?_
   refine XK.seq (XK.region rfl ?_)
   refine XO.q (Q.ldA [_, _, _] rfl rfl rfl) ?_
   refine XO.st rfl rfl rfl ?_
   refine XO.done ?_
   obtain rfl : m = i := by omega
   refine XK.rt [k, blk b [vp, .int .i64 ((q + 2 + m : Nat) : Int)] 38] Tryz.func17 Tryz.results17 (.cell [_, _, _] rfl rfl rfl (.n)) ?_
   exact ⟨⟨t, m16, m24⟩, v, k, rfl, rfl, OT, by dsimp only; omega, ⟨fun j hj => (hT j (by omega)).1, l16, u24⟩, ⟨fun j hj => (hT j (by dsimp only at hj; omega)).2, u16, l24⟩⟩
 ·intro mtr2
  dsimp only [lcA, lnA] at mtr2
  refine XK.drawn [0, 1, 2, 3, 4, 5, 6, 8, 9, 10, 11, 12, 13, 14, 16] [b2] [] (.q 0 (.q 1 (.q 2 (.q 3 (.q 4 (.q 5 (.q 6 (.q 8 (.q 9 (.q 10 (.q 11 (.q 12 (.q 13 (.q 14 (.br 7 true (.br 15 true (.q 16 (.br 17 true (.br 18 false .done .stop) .stop)) (.br 17 true (.br 15 true (.q 16 (.br 18 false .done .stop)) .stop) .stop)) (.br 17 true (.br 7 true (.br 15 true (.q 16 (.br 18 false .done .stop)) .stop) .stop) .stop)))))))))))))))) Tryz.mixed rfl (by kernel_rfl) ?_
  refine XT.q rfl rfl (Q.move rfl) ?_
  refine XT.q rfl rfl (Q.fieldAddr rfl) ?_
  refine XT.q rfl rfl (Q.fieldAddr rfl) ?_
  refine XT.q rfl rfl (Q.ld rfl rfl) ?_
  refine XT.q rfl rfl (Q.fieldAddr rfl) ?_
  refine XT.q rfl rfl (Q.fieldAddr rfl) ?_
  refine XT.q rfl rfl (Q.ld rfl rfl) ?_
  refine XT.q rfl rfl (Q.move rfl) ?_
  refine XT.q rfl rfl (Q.fieldAddr rfl) ?_
  refine XT.q rfl rfl (Q.fieldAddr rfl) ?_
  refine XT.q rfl rfl (Q.ld rfl rfl) ?_
  refine XT.q rfl rfl (Q.fieldAddr rfl) ?_
  refine XT.q rfl rfl (Q.fieldAddr rfl) ?_
  refine XT.q rfl rfl (Q.ld rfl rfl) ?_
  refine XT.vcall rfl rfl rfl rfl (VSpec.fn (fst := []) (cap := [ptr b3 0]) Tryz.call54 rfl (midT b b3 (q) (by omega) vp hp p (a.out) (d.out) (by omega) (by omega) (by omega))) (fun v16 s16 R16 => ?_) ?_
  ·skip
   obtain ⟨m16, rfl, rfl, l16, u16⟩ := R16
   dsimp only [lcA, lnA]
   refine ⟨inferInstance, ?_⟩
   refine XT.vcall rfl rfl rfl rfl (VSpec.fn (fst := []) (cap := [ptr b3 0]) Tryz.call54 rfl (midT b b3 (q + 1) (by omega) vp hp p (d.pump) (a.pump) (by omega) (by omega) (by omega))) (fun v24 s24 R24 => ?_) ?_
   ·skip
    obtain ⟨m24, rfl, rfl, l24, u24⟩ := R24
    dsimp only [lcA, lnA]
    refine ⟨inferInstance, ?_⟩
    refine XT.q rfl rfl (Q.build [_, _, _] (.c 1 1 rfl rfl rfl (.c 2 1 rfl rfl rfl (.n _)))) ?_
    refine XT.alloc rfl rfl (fun b6 => ⟨inferInstance, ?_⟩) XT.stop
    refine XT.st rfl rfl rfl rfl rfl ⟨inferInstance, ?_⟩ XT.stop
    refine XT.done ?_
    exact mtr2 ((b6, m16, m24)) _ _ ⟨⟨l16, u16⟩, l24, u24⟩ (.c rfl (.base 18 rfl rfl)) inferInstance
   ·skip
    refine XT.alloc rfl rfl (fun b6 => ⟨inferInstance, ?_⟩) XT.stop
    refine XT.vcall rfl rfl rfl rfl (VSpec.fn (fst := []) (cap := [ptr b3 0]) Tryz.call54 rfl (midT b b3 (q + 1) (by omega) vp hp p (d.pump) (a.pump) (by omega) (by omega) (by omega))) (fun v24 s24 R24 => ?_) XT.stop
    obtain ⟨m24, rfl, rfl, l24, u24⟩ := R24
    dsimp only [lcA, lnA]
    refine ⟨inferInstance, ?_⟩
    refine XT.q rfl rfl (Q.build [_, _, _] (.c 1 1 rfl rfl rfl (.c 2 1 rfl rfl rfl (.n _)))) ?_
    refine XT.st rfl rfl rfl rfl rfl ⟨inferInstance, ?_⟩ XT.stop
    refine XT.done ?_
    exact mtr2 ((b6, m16, m24)) _ _ ⟨⟨l16, u16⟩, l24, u24⟩ (.c rfl (.base 18 rfl rfl)) inferInstance
  ·skip
   refine XT.alloc rfl rfl (fun b6 => ⟨inferInstance, ?_⟩) XT.stop
   refine XT.vcall rfl rfl rfl rfl (VSpec.fn (fst := []) (cap := [ptr b3 0]) Tryz.call54 rfl (midT b b3 (q) (by omega) vp hp p (a.out) (d.out) (by omega) (by omega) (by omega))) (fun v16 s16 R16 => ?_) XT.stop
   obtain ⟨m16, rfl, rfl, l16, u16⟩ := R16
   dsimp only [lcA, lnA]
   refine ⟨inferInstance, ?_⟩
   refine XT.vcall rfl rfl rfl rfl (VSpec.fn (fst := []) (cap := [ptr b3 0]) Tryz.call54 rfl (midT b b3 (q + 1) (by omega) vp hp p (d.pump) (a.pump) (by omega) (by omega) (by omega))) (fun v24 s24 R24 => ?_) XT.stop
   obtain ⟨m24, rfl, rfl, l24, u24⟩ := R24
   dsimp only [lcA, lnA]
   refine ⟨inferInstance, ?_⟩
   refine XT.q rfl rfl (Q.build [_, _, _] (.c 1 1 rfl rfl rfl (.c 2 1 rfl rfl rfl (.n _)))) ?_
   refine XT.st rfl rfl rfl rfl rfl ⟨inferInstance, ?_⟩ XT.stop
   refine XT.done ?_
   exact mtr2 ((b6, m16, m24)) _ _ ⟨⟨l16, u16⟩, l24, u24⟩ (.c rfl (.base 18 rfl rfl)) inferInstance
theorem getD_setI {xs : List Int} {i j : Nat} {m : Int} (hi : i < xs.length) : (xs.set i m).getD j 0 = if j = i then m else xs.getD j 0 := by
 rw [List.getD_eq_getElem?_getD, List.getElem?_set]
 by_cases h : i = j
 ·subst h; rw [if_pos rfl, if_pos rfl, if_pos hi]; rfl
 ·rw [if_neg h, if_neg (fun e => h e.symm), ← List.getD_eq_getElem?_getD]
structure PairOk (n i : Nat) (xs ys : List Int) : Prop where
 a : Ht.LoadOk n xs
 b : Ht.LoadOk n ys
 le : ∀ j, j < i → xs.getD j 0 ≤ ys.getD j 0
theorem PairOk.step {n i : Nat} {xs ys : List Int} (p : PairOk n i xs ys) (hi : i < n) : PairOk n (i + 1) (xs.set i (min (xs.getD i default) (ys.getD i default))) (ys.set i (max (xs.getD i default) (ys.getD i default))) := by
 have e1 := p.a.1
 have e2 := p.b.1
 have r1 := p.a.2 i (by omega)
 have r2 := p.b.2 i (by omega)
 change 0 ≤ xs.getD i default ∧ xs.getD i default ≤ _ at r1
 change 0 ≤ ys.getD i default ∧ ys.getD i default ≤ _ at r2
 refine ⟨⟨by rw [List.length_set]; exact e1, fun j hj => ?_⟩, ⟨by rw [List.length_set]; exact e2, fun j hj => ?_⟩, fun j hj => ?_⟩
 ·rw [List.length_set] at hj
  rw [getD_setI (by omega)]
  split
  ·omega
  ·exact p.a.2 j hj
 ·rw [List.length_set] at hj
  rw [getD_setI (by omega)]
  split
  ·omega
  ·exact p.b.2 j hj
 ·rw [getD_setI (by omega), getD_setI (by omega)]
  by_cases h : j = i
  ·rw [if_pos h, if_pos h]; omega
  ·rw [if_neg h, if_neg h]; exact p.le j (by omega)
set_option maxHeartbeats 2000000 in
set_option synthInstance.maxSize 1000 in
theorem hallT (v1 : Value) (h1 : PHeap) (x1 : List UInt8) [i1 : Arr v1 encU8 1 h1 x1] (v2 : Value) (h2 : PHeap) (x2 : List UInt8) [i2 : Arr v2 encU8 1 h2 x2] (v3 : Value) (h3 : PHeap) (x3 : List UInt8) [i3 : Arr v3 encU8 1 h3 x3] (v4 : Value) (h4 : PHeap) (x4 : List UInt8) [i4 : Arr v4 encU8 1 h4 x4] : Spec Tryz.prog 19 #[v1, v2, v3, v4] [] [h1, h2, h3, h4] (fun v hs => ∃ (h : Hall) (vr vw vb vc vt wlo whi : Value) (kr kw kb kc kt jlo jhi : PHeap) (t : List Int) (ca cb : HCase),
  v = .tuple #[.agg #[vr, vw, vb, vc], vt, .agg #[wlo, .int .i64 ca.out, .int .i64 ca.pump, whi, .int .i64 cb.out, .int .i64 cb.pump]] ∧ hs = [kr, kw, kb, kc, kt, jlo, jhi] ∧ (OArr vr Ht.encRoom 2 55 kr h.rooms ∧ OArr vw Ht.encWall 3 164 kw h.walls ∧ OArr vb Ht.encBranch 3 166 kb h.branches ∧ OArr vc Ht.encCooler 5 168 kc h.coolers) ∧ Ht.MOk h ∧
  OArr vt encI 1 3 kt t ∧ Ht.WarmOk h.rooms.length t ∧ OArr wlo encI 1 3 jlo ca.load ∧ OArr whi encI 1 3 jhi cb.load ∧ Ht.CasedOk h.rooms.length ca ∧ Ht.CasedOk h.rooms.length cb ∧ Ht.LeC ca cb) := by
 refine Spec.intro (fn := Tryz.f19) (N := 91) Tryz.func19 rfl Tryz.ntmps19 rfl fun B => ?_
 refine XK.seq (XK.region rfl ?_)
 refine XO.alloc fun b8 => ?_
 refine XO.q (Q.assign rfl) ?_
 refine XO.alloc fun b10 => ?_
 refine XO.done (XK.seq (XK.region rfl (XO.q (Q.move rfl) ?_)))
 refine XO.call Tryz.call55 rfl rfl rfl (Ht.made7 v1 h1 x1) fun v16 s16 R16 => ?_
 obtain ⟨h, vr, vw, vb, vc, kr, kw, kb, kc, rfl, rfl, Or, Ow, Ob, Oc, mk⟩ := R16
 dsimp only [lcA, lnA]
 have ok := hcheck_ok mk.ok
 have r1 := ok.r1
 have r2 := ok.r2
 refine XO.alloc fun b11 => ?_
 refine XO.st rfl rfl rfl ?_
 refine XO.done (XK.seq ?_)
 refine XK.meet (X := HCase × Value × PHeap × HCase × Value × PHeap × Nat × Nat) [12, 13, 17, 18, 19, 20, 21, 22] (fun ⟨c1, u1, k1, c2, u2, k2, b12, b13⟩ => [(12, some (ptr b12 0)), (13, some (ptr b13 0))]) (fun ⟨c1, u1, k1, c2, u2, k2, b12, b13⟩ => [blk b12 [u1, .int .i64 c1.out, .int .i64 c1.pump] 31, k1, blk b13 [u2, .int .i64 c2.out, .int .i64 c2.pump] 31, k2]) (fun ⟨c1, u1, k1, c2, u2, k2, b12, b13⟩ => OArr u1 encI 1 3 k1 c1.load ∧ OArr u2 encI 1 3 k2 c2.load ∧ Ht.CasedOk h.rooms.length c1 ∧ Ht.CasedOk h.rooms.length c2) [] ?_ ?_
 ·rintro ⟨c1, u1, k1, c2, u2, k2, b12, b13⟩ ⟨OU1, OU2, q1, q2⟩
  dsimp only [lcA, lnA]
  have e1 := q1.1.1
  have e2 := q2.1.1
  refine XK.seq (XK.seq (XK.region rfl ?_))
  refine XO.q (Q.fieldAddr rfl) ?_
  refine XO.q (Q.ld rfl rfl) ?_
  refine XO.len rfl fun l25 => ?_
  refine XO.q (Q.move rfl) (XO.done (XK.block ?_))
  refine XK.while (X := Nat × PHeap × PHeap × List Int × List Int) [14, 26, 27, 28, 29, 30, 31, 32, 33, 34, 35, 36, 37, 38, 39, 40, 41, 42, 43, 44, 45, 46, 47, 48, 49, 50, 51, 52, 53, 54, 55, 56, 57, 58, 59] (fun ⟨i, kx, ky, xs, ys⟩ => [(26, some (.int .i64 (i : Nat)))]) (fun ⟨i, kx, ky, xs, ys⟩ => [kx, ky]) (fun ⟨i, kx, ky, xs, ys⟩ => i ≤ h.rooms.length ∧ PairOk h.rooms.length i xs ys ∧ OArr u1 encI 1 3 kx xs ∧ OArr u2 encI 1 3 ky ys) (fun ⟨i, kx, ky, xs, ys⟩ => h.rooms.length - i) (0, k1, k2, c1.load, c2.load) [k1, k2] rfl ⟨by omega, ⟨q1.1, q2.1, fun j hj => absurd hj (Nat.not_lt_zero j)⟩, OU1, OU2⟩ (.c rfl (.base 0 rfl rfl)) ?_
  rintro ⟨i, kx, ky, xs, ys⟩ ⟨hi, pk, OX, OY⟩ ih0
  dsimp only [lcA, lnA] at ih0 ⊢
  have e3 := pk.a.1
  have e4 := pk.b.1
  refine XK.seq (XK.region rfl ?_)
  refine XO.q (Q.lss rfl rfl) ?_
  refine XO.done (XK.seq ?_)
  refine XK.if rfl (fun c0 => ?_) (fun c0 => ?_)
  ·skip
   refine XK.skip (XK.seq (XK.block (XK.seq (XK.region rfl (XO.q (Q.move rfl) ?_)))))
   refine XO.q (Q.assign rfl) (XO.done ?_)
   refine XK.draw2 [(0, []), (1, [2]), (2, []), (3, []), (4, [3]), (5, []), (6, []), (7, [2]), (8, []), (9, []), (10, [0]), (11, []), (12, [3]), (13, []), (14, []), (15, [1]), (16, []), (17, []), (18, [2]), (19, []), (20, []), (21, [0]), (22, []), (23, [3]), (24, []), (25, []), (26, [1]), (27, []), (28, []), (30, [])] [kx, ky, blk b12 [u1, .int .i64 c1.out, .int .i64 c1.pump] 31, blk b13 [u2, .int .i64 c2.out, .int .i64 c2.pump] 31] (.q 0 (.q 1 (.q 2 (.q 3 (.q 4 (.q 5 (.q 6 (.q 7 (.q 8 (.q 9 (.q 10 (.q 11 (.q 12 (.q 13 (.q 14 (.q 15 (.q 16 (.q 17 (.q 18 (.q 19 (.q 20 (.q 21 (.q 22 (.q 23 (.q 24 (.q 25 (.q 26 (.q 27 (.q 28 (.br 29 true (.q 30 (.br 31 true .done .stop)) .stop)))))))))))))))))))))))))))))) Tryz.mixed rfl (by kernel_rfl) (by rfl) ?_
   refine XT2.q (ks := []) rfl rfl rfl (Q.fieldAddr rfl) ?_
   refine XT2.q (ks := [blk b12 [u1, .int .i64 c1.out, .int .i64 c1.pump] 31]) rfl rfl rfl (Q.ld rfl rfl) ?_
   refine XT2.q (ks := []) rfl rfl rfl (Q.move rfl) ?_
   refine XT2.q (ks := []) rfl rfl rfl (Q.fieldAddr rfl) ?_
   refine XT2.q (ks := [blk b13 [u2, .int .i64 c2.out, .int .i64 c2.pump] 31]) rfl rfl rfl (Q.ld rfl rfl) ?_
   refine XT2.q (ks := []) rfl rfl rfl (Q.move rfl) ?_
   refine XT2.q (ks := []) rfl rfl rfl (Q.fieldAddr rfl) ?_
   refine XT2.q (ks := [blk b12 [u1, .int .i64 c1.out, .int .i64 c1.pump] 31]) rfl rfl rfl (Q.ld rfl rfl) ?_
   refine XT2.q (ks := []) rfl rfl rfl (Q.move rfl) ?_
   refine XT2.ix rfl rfl rfl rfl (by omega) (by omega) fun i38 => ?_
   refine XT2.q (ks := [kx]) rfl rfl rfl (Q.ldE rfl (by first | assumption | omega) rfl) ?_
   refine XT2.q (ks := []) rfl rfl rfl (Q.fieldAddr rfl) ?_
   refine XT2.q (ks := [blk b13 [u2, .int .i64 c2.out, .int .i64 c2.pump] 31]) rfl rfl rfl (Q.ld rfl rfl) ?_
   refine XT2.q (ks := []) rfl rfl rfl (Q.move rfl) ?_
   refine XT2.ix rfl rfl rfl rfl (by omega) (by omega) fun i43 => ?_
   refine XT2.q (ks := [ky]) rfl rfl rfl (Q.ldE rfl (by first | assumption | omega) rfl) ?_
   refine XT2.q (ks := []) rfl rfl rfl (Q.min rfl rfl) ?_
   refine XT2.q (ks := []) rfl rfl rfl (Q.fieldAddr rfl) ?_
   refine XT2.q (ks := [blk b12 [u1, .int .i64 c1.out, .int .i64 c1.pump] 31]) rfl rfl rfl (Q.ld rfl rfl) ?_
   refine XT2.q (ks := []) rfl rfl rfl (Q.move rfl) ?_
   refine XT2.ix rfl rfl rfl rfl (by omega) (by omega) fun i49 => ?_
   refine XT2.q (ks := [kx]) rfl rfl rfl (Q.ldE rfl (by first | assumption | omega) rfl) ?_
   refine XT2.q (ks := []) rfl rfl rfl (Q.fieldAddr rfl) ?_
   refine XT2.q (ks := [blk b13 [u2, .int .i64 c2.out, .int .i64 c2.pump] 31]) rfl rfl rfl (Q.ld rfl rfl) ?_
   refine XT2.q (ks := []) rfl rfl rfl (Q.move rfl) ?_
   refine XT2.ix rfl rfl rfl rfl (by omega) (by omega) fun i54 => ?_
   refine XT2.q (ks := [ky]) rfl rfl rfl (Q.ldE rfl (by first | assumption | omega) rfl) ?_
   refine XT2.q (ks := []) rfl rfl rfl (Q.max rfl rfl) ?_
   refine XT2.ix rfl rfl rfl rfl (by omega) (by omega) fun i57 => ?_
   refine XT2.stE (ns := [3, 2, 3]) (ks := [blk b13 [u2, .int .i64 c2.out, .int .i64 c2.pump] 31, blk b12 [u1, .int .i64 c1.out, .int .i64 c1.pump] 31, blk b13 [u2, .int .i64 c2.out, .int .i64 c2.pump] 31]) _ rfl rfl (by kernel_rfl) rfl rfl rfl rfl (by assumption) rfl rfl fun h6_29 O6_29 => ?_
   refine XT2.ix rfl rfl rfl rfl (by omega) (by omega) fun i58 => ?_
   refine XT2.stE (ns := []) (ks := []) _ rfl rfl (by kernel_rfl) rfl rfl rfl rfl (by assumption) rfl rfl fun h6_31 O6_31 => ?_
   refine XT2.done ?_
   refine XK.inBlock ?_
   refine XK.region rfl ?_
   refine XO.q (Q.add rfl rfl ⟨by omega, by omega⟩) ?_
   refine XO.q (Q.move rfl) (XO.done ?_)
   exact ih0 (i + 1, h6_29, h6_31, _, _) _ _ ⟨by dsimp only; omega, pk.step (by omega), O6_29, O6_31⟩ (by first | omega | (dsimp only; omega)) (.c rfl (.base 71 rfl rfl)) inferInstance
  ·skip
   have hin : i = h.rooms.length := by omega
   refine XK.exit rfl ?_
   refine XK.seq ?_
   refine XK.draw2 [(0, []), (1, [0]), (2, []), (3, [1]), (4, []), (5, []), (6, [0]), (7, []), (8, [1]), (9, []), (10, []), (11, [0]), (12, []), (13, [1]), (14, []), (15, []), (16, [0]), (17, []), (18, [1]), (19, []), (20, []), (22, []), (24, []), (26, [])] [blk b12 [u1, .int .i64 c1.out, .int .i64 c1.pump] 31, blk b13 [u2, .int .i64 c2.out, .int .i64 c2.pump] 31] (.q 0 (.q 1 (.q 2 (.q 3 (.q 4 (.q 5 (.q 6 (.q 7 (.q 8 (.q 9 (.q 10 (.q 11 (.q 12 (.q 13 (.q 14 (.q 15 (.q 16 (.q 17 (.q 18 (.q 19 (.q 20 (.br 21 true (.q 22 (.br 23 true (.q 24 (.br 25 true (.q 26 (.br 27 true .done .stop)) .stop)) .stop)) .stop)))))))))))))))))))))) Tryz.mixed rfl (by kernel_rfl) (by rfl) ?_
   refine XT2.q (ks := []) rfl rfl rfl (Q.fieldAddr rfl) ?_
   refine XT2.q (ks := [blk b12 [u1, .int .i64 c1.out, .int .i64 c1.pump] 31]) rfl rfl rfl (Q.ld rfl rfl) ?_
   refine XT2.q (ks := []) rfl rfl rfl (Q.fieldAddr rfl) ?_
   refine XT2.q (ks := [blk b13 [u2, .int .i64 c2.out, .int .i64 c2.pump] 31]) rfl rfl rfl (Q.ld rfl rfl) ?_
   refine XT2.q (ks := []) rfl rfl rfl (Q.min rfl rfl) ?_
   refine XT2.q (ks := []) rfl rfl rfl (Q.fieldAddr rfl) ?_
   refine XT2.q (ks := [blk b12 [u1, .int .i64 c1.out, .int .i64 c1.pump] 31]) rfl rfl rfl (Q.ld rfl rfl) ?_
   refine XT2.q (ks := []) rfl rfl rfl (Q.fieldAddr rfl) ?_
   refine XT2.q (ks := [blk b13 [u2, .int .i64 c2.out, .int .i64 c2.pump] 31]) rfl rfl rfl (Q.ld rfl rfl) ?_
   refine XT2.q (ks := []) rfl rfl rfl (Q.max rfl rfl) ?_
   refine XT2.q (ks := []) rfl rfl rfl (Q.fieldAddr rfl) ?_
   refine XT2.q (ks := [blk b12 [u1, .int .i64 c1.out, .int .i64 c1.pump] 31]) rfl rfl rfl (Q.ld rfl rfl) ?_
   refine XT2.q (ks := []) rfl rfl rfl (Q.fieldAddr rfl) ?_
   refine XT2.q (ks := [blk b13 [u2, .int .i64 c2.out, .int .i64 c2.pump] 31]) rfl rfl rfl (Q.ld rfl rfl) ?_
   refine XT2.q (ks := []) rfl rfl rfl (Q.max rfl rfl) ?_
   refine XT2.q (ks := []) rfl rfl rfl (Q.fieldAddr rfl) ?_
   refine XT2.q (ks := [blk b12 [u1, .int .i64 c1.out, .int .i64 c1.pump] 31]) rfl rfl rfl (Q.ld rfl rfl) ?_
   refine XT2.q (ks := []) rfl rfl rfl (Q.fieldAddr rfl) ?_
   refine XT2.q (ks := [blk b13 [u2, .int .i64 c2.out, .int .i64 c2.pump] 31]) rfl rfl rfl (Q.ld rfl rfl) ?_
   refine XT2.q (ks := []) rfl rfl rfl (Q.min rfl rfl) ?_
   refine XT2.q (ks := []) rfl rfl rfl (Q.fieldAddr rfl) ?_
   refine XT2.st (ns := [1]) (ks := [blk b13 [u2, .int .i64 c2.out, .int .i64 c2.pump] 31]) rfl rfl (by kernel_rfl) rfl rfl rfl rfl ?_
   refine XT2.q (ks := []) rfl rfl rfl (Q.fieldAddr rfl) ?_
   refine XT2.st (ns := []) (ks := []) rfl rfl (by kernel_rfl) rfl rfl rfl rfl ?_
   refine XT2.q (ks := []) rfl rfl rfl (Q.fieldAddr rfl) ?_
   refine XT2.st (ns := []) (ks := []) rfl rfl (by kernel_rfl) rfl rfl rfl rfl ?_
   refine XT2.q (ks := []) rfl rfl rfl (Q.fieldAddr rfl) ?_
   refine XT2.st (ns := []) (ks := []) rfl rfl (by kernel_rfl) rfl rfl rfl rfl ?_
   refine XT2.done ?_
   refine XK.seq ?_
   refine XK.drawn [0, 1, 2, 4, 5, 6, 8] [b11, b12, b13] [] (.q 0 (.q 1 (.q 2 (.q 4 (.q 5 (.q 6 (.br 3 true (.br 7 true (.q 8 (.br 9 false .done .stop)) .stop) .stop))))))) Tryz.mixed rfl (by kernel_rfl) ?_
   refine XT.q rfl rfl (Q.ldA [_, _, _, _] rfl rfl rfl) ?_
   refine XT.q rfl rfl (Q.ldA [_, _, _, _] rfl rfl rfl) ?_
   refine XT.q rfl rfl (Q.move rfl) ?_
   refine XT.q rfl rfl (Q.ldA [_, _, _] rfl rfl rfl) ?_
   refine XT.q rfl rfl (Q.ldA [_, _, _] rfl rfl rfl) ?_
   refine XT.q rfl rfl (Q.build [_, _, _, _, _, _] (.c 0 3 rfl rfl rfl (.c 3 3 rfl rfl rfl (.n _)))) ?_
   refine XT.call rfl rfl Tryz.call20 rfl rfl rfl (Ht.warm_made vr vw vb vc kr h.rooms r2 v2 h2 x2) (fun v87 s87 R87 => ?_) XT.stop
   obtain ⟨t, kt, rfl, OT, wt⟩ := R87
   dsimp only [lcA, lnA]
   refine ⟨inferInstance, ?_⟩
   refine XT.st rfl rfl rfl rfl rfl ⟨inferInstance, ?_⟩ XT.stop
   refine XT.q rfl rfl (Q.assign rfl) ?_
   refine XT.st rfl rfl rfl rfl rfl ⟨inferInstance, ?_⟩ XT.stop
   refine XT.done ?_
   refine XK.rt [kr, kw, kb, kc, kt, kx, ky] Tryz.func19 Tryz.results19 (.cell [_, _, _, _] rfl rfl rfl (.t rfl (.cell [_, _, _, _, _, _] rfl rfl rfl (.n)))) ?_
   refine ⟨h, vr, vw, vb, vc, v87, u1, u2, kr, kw, kb, kc, kt, kx, ky, t, ⟨xs, min c1.out c2.out, max c1.pump c2.pump⟩, ⟨ys, max c1.out c2.out, min c1.pump c2.pump⟩, rfl, rfl, ⟨Or, Ow, Ob, Oc⟩, mk, OT, wt, OX, OY, ⟨pk.a, by have := q1.2.1; have := q2.2.1; dsimp only; omega, by have := q1.2.2; have := q2.2.2; dsimp only; omega⟩, ⟨pk.b, by have := q1.2.1; have := q2.2.1; dsimp only; omega, by have := q1.2.2; have := q2.2.2; dsimp only; omega⟩, ⟨fun j hj => pk.le j (by dsimp only at hj; omega), by dsimp only; omega, by dsimp only; omega⟩⟩
 ·intro mtr2
  dsimp only [lcA, lnA] at mtr2
  refine XK.drawn [0, 1, 3, 4] [b11] [] (.q 0 (.q 1 (.q 3 (.q 4 (.br 2 true (.br 5 true (.br 6 true (.br 7 true (.br 8 true (.br 9 false .done .stop) .stop) .stop) (.br 7 true (.br 6 true (.br 8 true (.br 9 false .done .stop) .stop) .stop) .stop)) (.br 6 true (.br 5 true (.br 7 true (.br 8 true (.br 9 false .done .stop) .stop) .stop) (.br 7 true (.br 5 true (.br 8 true (.br 9 false .done .stop) .stop) .stop) .stop)) (.br 7 true (.br 5 true (.br 6 true (.br 8 true (.br 9 false .done .stop) .stop) .stop) (.br 6 true (.br 5 true (.br 8 true (.br 9 false .done .stop) .stop) .stop) .stop)) .stop))) (.br 6 true (.br 2 true (.br 5 true (.br 7 true (.br 8 true (.br 9 false .done .stop) .stop) .stop) (.br 7 true (.br 5 true (.br 8 true (.br 9 false .done .stop) .stop) .stop) .stop)) (.br 7 true (.br 2 true (.br 5 true (.br 8 true (.br 9 false .done .stop) .stop) .stop) .stop) .stop)) (.br 7 true (.br 2 true (.br 5 true (.br 6 true (.br 8 true (.br 9 false .done .stop) .stop) .stop) (.br 6 true (.br 5 true (.br 8 true (.br 9 false .done .stop) .stop) .stop) .stop)) (.br 6 true (.br 2 true (.br 5 true (.br 8 true (.br 9 false .done .stop) .stop) .stop) .stop) .stop)) .stop))))))) Tryz.mixed rfl (by kernel_rfl) ?_
  refine XT.q rfl rfl (Q.ldA [_, _, _, _] rfl rfl rfl) ?_
  refine XT.q rfl rfl (Q.move rfl) ?_
  refine XT.q rfl rfl (Q.ldA [_, _, _, _] rfl rfl rfl) ?_
  refine XT.q rfl rfl (Q.move rfl) ?_
  refine XT.call rfl rfl Tryz.call56 rfl rfl rfl (Ht.cased_made vr vw vb vc kr h.rooms r2 v3 h3 x3) (fun v19 s19 R19 => ?_) ?_
  ·skip
   obtain ⟨c19, u19, k19, rfl, rfl, O19, q19⟩ := R19
   dsimp only [lcA, lnA]
   refine ⟨inferInstance, ?_⟩
   refine XT.call rfl rfl Tryz.call56 rfl rfl rfl (Ht.cased_made vr vw vb vc kr h.rooms r2 v4 h4 x4) (fun v22 s22 R22 => ?_) ?_
   ·skip
    obtain ⟨c22, u22, k22, rfl, rfl, O22, q22⟩ := R22
    dsimp only [lcA, lnA]
    refine ⟨inferInstance, ?_⟩
    refine XT.alloc rfl rfl (fun b12 => ⟨inferInstance, ?_⟩) ?_
    ·skip
     refine XT.alloc rfl rfl (fun b13 => ⟨inferInstance, ?_⟩) XT.stop
     refine XT.st rfl rfl rfl rfl rfl ⟨inferInstance, ?_⟩ XT.stop
     refine XT.st rfl rfl rfl rfl rfl ⟨inferInstance, ?_⟩ XT.stop
     refine XT.done ?_
     exact mtr2 ((c19, u19, k19, c22, u22, k22, b12, b13)) _ _ ⟨O19, O22, q19, q22⟩ (.c rfl (.c rfl (.base 8 rfl rfl))) inferInstance
    ·skip
     refine XT.alloc rfl rfl (fun b13 => ⟨inferInstance, ?_⟩) XT.stop
     refine XT.alloc rfl rfl (fun b12 => ⟨inferInstance, ?_⟩) XT.stop
     refine XT.st rfl rfl rfl rfl rfl ⟨inferInstance, ?_⟩ XT.stop
     refine XT.st rfl rfl rfl rfl rfl ⟨inferInstance, ?_⟩ XT.stop
     refine XT.done ?_
     exact mtr2 ((c19, u19, k19, c22, u22, k22, b12, b13)) _ _ ⟨O19, O22, q19, q22⟩ (.c rfl (.c rfl (.base 8 rfl rfl))) inferInstance
   ·skip
    refine XT.alloc rfl rfl (fun b12 => ⟨inferInstance, ?_⟩) ?_
    ·skip
     refine XT.call rfl rfl Tryz.call56 rfl rfl rfl (Ht.cased_made vr vw vb vc kr h.rooms r2 v4 h4 x4) (fun v22 s22 R22 => ?_) ?_
     ·skip
      obtain ⟨c22, u22, k22, rfl, rfl, O22, q22⟩ := R22
      dsimp only [lcA, lnA]
      refine ⟨inferInstance, ?_⟩
      refine XT.alloc rfl rfl (fun b13 => ⟨inferInstance, ?_⟩) XT.stop
      refine XT.st rfl rfl rfl rfl rfl ⟨inferInstance, ?_⟩ XT.stop
      refine XT.st rfl rfl rfl rfl rfl ⟨inferInstance, ?_⟩ XT.stop
      refine XT.done ?_
      exact mtr2 ((c19, u19, k19, c22, u22, k22, b12, b13)) _ _ ⟨O19, O22, q19, q22⟩ (.c rfl (.c rfl (.base 8 rfl rfl))) inferInstance
     ·skip
      refine XT.alloc rfl rfl (fun b13 => ⟨inferInstance, ?_⟩) XT.stop
      refine XT.call rfl rfl Tryz.call56 rfl rfl rfl (Ht.cased_made vr vw vb vc kr h.rooms r2 v4 h4 x4) (fun v22 s22 R22 => ?_) XT.stop
      obtain ⟨c22, u22, k22, rfl, rfl, O22, q22⟩ := R22
      dsimp only [lcA, lnA]
      refine ⟨inferInstance, ?_⟩
      refine XT.st rfl rfl rfl rfl rfl ⟨inferInstance, ?_⟩ XT.stop
      refine XT.st rfl rfl rfl rfl rfl ⟨inferInstance, ?_⟩ XT.stop
      refine XT.done ?_
      exact mtr2 ((c19, u19, k19, c22, u22, k22, b12, b13)) _ _ ⟨O19, O22, q19, q22⟩ (.c rfl (.c rfl (.base 8 rfl rfl))) inferInstance
    ·skip
     refine XT.alloc rfl rfl (fun b13 => ⟨inferInstance, ?_⟩) XT.stop
     refine XT.call rfl rfl Tryz.call56 rfl rfl rfl (Ht.cased_made vr vw vb vc kr h.rooms r2 v4 h4 x4) (fun v22 s22 R22 => ?_) ?_
     ·skip
      obtain ⟨c22, u22, k22, rfl, rfl, O22, q22⟩ := R22
      dsimp only [lcA, lnA]
      refine ⟨inferInstance, ?_⟩
      refine XT.alloc rfl rfl (fun b12 => ⟨inferInstance, ?_⟩) XT.stop
      refine XT.st rfl rfl rfl rfl rfl ⟨inferInstance, ?_⟩ XT.stop
      refine XT.st rfl rfl rfl rfl rfl ⟨inferInstance, ?_⟩ XT.stop
      refine XT.done ?_
      exact mtr2 ((c19, u19, k19, c22, u22, k22, b12, b13)) _ _ ⟨O19, O22, q19, q22⟩ (.c rfl (.c rfl (.base 8 rfl rfl))) inferInstance
     ·skip
      refine XT.alloc rfl rfl (fun b12 => ⟨inferInstance, ?_⟩) XT.stop
      refine XT.call rfl rfl Tryz.call56 rfl rfl rfl (Ht.cased_made vr vw vb vc kr h.rooms r2 v4 h4 x4) (fun v22 s22 R22 => ?_) XT.stop
      obtain ⟨c22, u22, k22, rfl, rfl, O22, q22⟩ := R22
      dsimp only [lcA, lnA]
      refine ⟨inferInstance, ?_⟩
      refine XT.st rfl rfl rfl rfl rfl ⟨inferInstance, ?_⟩ XT.stop
      refine XT.st rfl rfl rfl rfl rfl ⟨inferInstance, ?_⟩ XT.stop
      refine XT.done ?_
      exact mtr2 ((c19, u19, k19, c22, u22, k22, b12, b13)) _ _ ⟨O19, O22, q19, q22⟩ (.c rfl (.c rfl (.base 8 rfl rfl))) inferInstance
  ·skip
   refine XT.alloc rfl rfl (fun b12 => ⟨inferInstance, ?_⟩) ?_
   ·skip
    refine XT.call rfl rfl Tryz.call56 rfl rfl rfl (Ht.cased_made vr vw vb vc kr h.rooms r2 v3 h3 x3) (fun v19 s19 R19 => ?_) ?_
    ·skip
     obtain ⟨c19, u19, k19, rfl, rfl, O19, q19⟩ := R19
     dsimp only [lcA, lnA]
     refine ⟨inferInstance, ?_⟩
     refine XT.call rfl rfl Tryz.call56 rfl rfl rfl (Ht.cased_made vr vw vb vc kr h.rooms r2 v4 h4 x4) (fun v22 s22 R22 => ?_) ?_
     ·skip
      obtain ⟨c22, u22, k22, rfl, rfl, O22, q22⟩ := R22
      dsimp only [lcA, lnA]
      refine ⟨inferInstance, ?_⟩
      refine XT.alloc rfl rfl (fun b13 => ⟨inferInstance, ?_⟩) XT.stop
      refine XT.st rfl rfl rfl rfl rfl ⟨inferInstance, ?_⟩ XT.stop
      refine XT.st rfl rfl rfl rfl rfl ⟨inferInstance, ?_⟩ XT.stop
      refine XT.done ?_
      exact mtr2 ((c19, u19, k19, c22, u22, k22, b12, b13)) _ _ ⟨O19, O22, q19, q22⟩ (.c rfl (.c rfl (.base 8 rfl rfl))) inferInstance
     ·skip
      refine XT.alloc rfl rfl (fun b13 => ⟨inferInstance, ?_⟩) XT.stop
      refine XT.call rfl rfl Tryz.call56 rfl rfl rfl (Ht.cased_made vr vw vb vc kr h.rooms r2 v4 h4 x4) (fun v22 s22 R22 => ?_) XT.stop
      obtain ⟨c22, u22, k22, rfl, rfl, O22, q22⟩ := R22
      dsimp only [lcA, lnA]
      refine ⟨inferInstance, ?_⟩
      refine XT.st rfl rfl rfl rfl rfl ⟨inferInstance, ?_⟩ XT.stop
      refine XT.st rfl rfl rfl rfl rfl ⟨inferInstance, ?_⟩ XT.stop
      refine XT.done ?_
      exact mtr2 ((c19, u19, k19, c22, u22, k22, b12, b13)) _ _ ⟨O19, O22, q19, q22⟩ (.c rfl (.c rfl (.base 8 rfl rfl))) inferInstance
    ·skip
     refine XT.alloc rfl rfl (fun b13 => ⟨inferInstance, ?_⟩) XT.stop
     refine XT.call rfl rfl Tryz.call56 rfl rfl rfl (Ht.cased_made vr vw vb vc kr h.rooms r2 v3 h3 x3) (fun v19 s19 R19 => ?_) XT.stop
     obtain ⟨c19, u19, k19, rfl, rfl, O19, q19⟩ := R19
     dsimp only [lcA, lnA]
     refine ⟨inferInstance, ?_⟩
     refine XT.call rfl rfl Tryz.call56 rfl rfl rfl (Ht.cased_made vr vw vb vc kr h.rooms r2 v4 h4 x4) (fun v22 s22 R22 => ?_) XT.stop
     obtain ⟨c22, u22, k22, rfl, rfl, O22, q22⟩ := R22
     dsimp only [lcA, lnA]
     refine ⟨inferInstance, ?_⟩
     refine XT.st rfl rfl rfl rfl rfl ⟨inferInstance, ?_⟩ XT.stop
     refine XT.st rfl rfl rfl rfl rfl ⟨inferInstance, ?_⟩ XT.stop
     refine XT.done ?_
     exact mtr2 ((c19, u19, k19, c22, u22, k22, b12, b13)) _ _ ⟨O19, O22, q19, q22⟩ (.c rfl (.c rfl (.base 8 rfl rfl))) inferInstance
   ·skip
    refine XT.alloc rfl rfl (fun b13 => ⟨inferInstance, ?_⟩) XT.stop
    refine XT.call rfl rfl Tryz.call56 rfl rfl rfl (Ht.cased_made vr vw vb vc kr h.rooms r2 v3 h3 x3) (fun v19 s19 R19 => ?_) ?_
    ·skip
     obtain ⟨c19, u19, k19, rfl, rfl, O19, q19⟩ := R19
     dsimp only [lcA, lnA]
     refine ⟨inferInstance, ?_⟩
     refine XT.call rfl rfl Tryz.call56 rfl rfl rfl (Ht.cased_made vr vw vb vc kr h.rooms r2 v4 h4 x4) (fun v22 s22 R22 => ?_) ?_
     ·skip
      obtain ⟨c22, u22, k22, rfl, rfl, O22, q22⟩ := R22
      dsimp only [lcA, lnA]
      refine ⟨inferInstance, ?_⟩
      refine XT.alloc rfl rfl (fun b12 => ⟨inferInstance, ?_⟩) XT.stop
      refine XT.st rfl rfl rfl rfl rfl ⟨inferInstance, ?_⟩ XT.stop
      refine XT.st rfl rfl rfl rfl rfl ⟨inferInstance, ?_⟩ XT.stop
      refine XT.done ?_
      exact mtr2 ((c19, u19, k19, c22, u22, k22, b12, b13)) _ _ ⟨O19, O22, q19, q22⟩ (.c rfl (.c rfl (.base 8 rfl rfl))) inferInstance
     ·skip
      refine XT.alloc rfl rfl (fun b12 => ⟨inferInstance, ?_⟩) XT.stop
      refine XT.call rfl rfl Tryz.call56 rfl rfl rfl (Ht.cased_made vr vw vb vc kr h.rooms r2 v4 h4 x4) (fun v22 s22 R22 => ?_) XT.stop
      obtain ⟨c22, u22, k22, rfl, rfl, O22, q22⟩ := R22
      dsimp only [lcA, lnA]
      refine ⟨inferInstance, ?_⟩
      refine XT.st rfl rfl rfl rfl rfl ⟨inferInstance, ?_⟩ XT.stop
      refine XT.st rfl rfl rfl rfl rfl ⟨inferInstance, ?_⟩ XT.stop
      refine XT.done ?_
      exact mtr2 ((c19, u19, k19, c22, u22, k22, b12, b13)) _ _ ⟨O19, O22, q19, q22⟩ (.c rfl (.c rfl (.base 8 rfl rfl))) inferInstance
    ·skip
     refine XT.alloc rfl rfl (fun b12 => ⟨inferInstance, ?_⟩) XT.stop
     refine XT.call rfl rfl Tryz.call56 rfl rfl rfl (Ht.cased_made vr vw vb vc kr h.rooms r2 v3 h3 x3) (fun v19 s19 R19 => ?_) XT.stop
     obtain ⟨c19, u19, k19, rfl, rfl, O19, q19⟩ := R19
     dsimp only [lcA, lnA]
     refine ⟨inferInstance, ?_⟩
     refine XT.call rfl rfl Tryz.call56 rfl rfl rfl (Ht.cased_made vr vw vb vc kr h.rooms r2 v4 h4 x4) (fun v22 s22 R22 => ?_) XT.stop
     obtain ⟨c22, u22, k22, rfl, rfl, O22, q22⟩ := R22
     dsimp only [lcA, lnA]
     refine ⟨inferInstance, ?_⟩
     refine XT.st rfl rfl rfl rfl rfl ⟨inferInstance, ?_⟩ XT.stop
     refine XT.st rfl rfl rfl rfl rfl ⟨inferInstance, ?_⟩ XT.stop
     refine XT.done ?_
     exact mtr2 ((c19, u19, k19, c22, u22, k22, b12, b13)) _ _ ⟨O19, O22, q19, q22⟩ (.c rfl (.c rfl (.base 8 rfl rfl))) inferInstance
end Go.X

set_option linter.unusedSimpArgs false
set_option linter.unusedVariables false
set_option maxRecDepth 20000
namespace Go.X
open Go.Proofs
theorem index1T (b : Nat) (m x : Int) : Spec Tryz.prog 114 #[.int .i64 x, ptr b 0] [] [blk b [.int .i64 m] 3] (fun v hs => v = .bool (decide (x < 0) || decide (m ≤ x)) ∧ hs = []) := by
 refine Spec.intro (fn := Tryz.f114) (N := 11) Tryz.func114 rfl Tryz.ntmps114 rfl fun B => ?_
 refine XK.seq (XK.region rfl (XO.q (Q.assign rfl) (XO.done (XK.seq (XK.region rfl ?_)))))
 refine XO.q (Q.move rfl) ?_
 refine XO.q (Q.lss rfl rfl) ?_
 refine XO.q (Q.move rfl) ?_
 refine XO.q (Quiet.guardF rfl rfl fun g7 p7 => Q.move rfl) ?_
 refine XO.q (Quiet.guardF rfl rfl fun g8 p8 => Q.ld rfl rfl) ?_
 refine XO.q (Quiet.guardF rfl rfl fun g9 p9 => Q.geq (lzv g9 rfl) (lzv g9 rfl)) ?_
 refine XO.q (Q.or rfl (fun hp => lzv hp rfl)) ?_
 refine XO.q (Q.assign rfl) (XO.done ?_)
 refine XK.rt [] Tryz.func114 Tryz.results114 (.t rfl .n) ?_
 exact ⟨rfl, rfl⟩
theorem indexT (m : Int) (v : Value) (h : PHeap) (xs : List Int) [s : Arr v encI 1 h xs] : Spec Tryz.prog 58 #[.int .i64 m, v] [] [h] (fun v hs => v = .bool (!xs.any (fun x => decide (x < 0) || decide (m ≤ x))) ∧ hs = []) := by
 refine Spec.intro (fn := Tryz.f58) (N := 9) Tryz.func58 rfl Tryz.ntmps58 rfl fun B => ?_
 refine XK.seq (XK.region rfl ?_)
 refine XO.box rfl fun b2 => ?_
 refine XO.q (Q.assign rfl) (XO.done (XK.seq (XK.region rfl (XO.q (Q.move rfl) ?_))))
 refine XO.q (Q.func (fun _ he => rfl) (fun _ he => evs_rel he rfl)) ?_
 refine XO.call Tryz.call97 rfl rfl rfl (Ke.containsFuncI v h xs 114 [ptr b2 0] [blk b2 [.int .i64 m] 3] _ Tryz.call114 (fun x _ => index1T b2 m x)) fun v7 s7 R7 => ?_
 obtain ⟨rfl, rfl⟩ := R7
 dsimp only [lcA, lnA]
 refine XO.q (Q.not rfl) ?_
 refine XO.q (Q.assign rfl) (XO.done ?_)
 refine XK.rt [] Tryz.func58 Tryz.results58 (.t rfl .n) ?_
 exact ⟨rfl, rfl⟩
set_option maxHeartbeats 2000000 in
set_option synthInstance.maxSize 1000 in
theorem BoxT (h : Hall) (vr vw vb vc : Value) (kr kw kb kc : PHeap) [ir : Arr vr Ht.encRoom 2 kr h.rooms] [iw : Arr vw Ht.encWall 3 kw h.walls] [ib : Arr vb Ht.encBranch 3 kb h.branches] [ic : Arr vc Ht.encCooler 5 kc h.coolers] (hc : hcheck h = 0) (ca cb : HCase) (wlo whi : Value) (jlo jhi : PHeap) [ia : Arr wlo encI 1 jlo ca.load] [id : Arr whi encI 1 jhi cb.load] (ak : COk h ca) (dk : COk h cb) (ad : Ht.LeC ca cb) (lo hi : List Int) (vlo vhi : Value) (klo khi : PHeap) [ilo : Arr vlo encI 1 klo lo] [ihi : Arr vhi encI 1 khi hi] (tl : TOk h lo) (th : TOk h hi) (le : Ht.LeL lo hi) (m : Nat) (hm : m ≤ 20000) :
  Spec Tryz.prog 21 #[.agg #[vr, vw, vb, vc], vlo, vhi, .agg #[wlo, .int .i64 ca.out, .int .i64 ca.pump, whi, .int .i64 cb.out, .int .i64 cb.pump], .int .i64 (m : Nat)] [] [kr, kw, kb, kc, jlo, jhi, klo, khi] (fun v hs => ∃ vp vq kp kq p q n e, v = .tuple #[vp, vq, .int .i64 n, .int .i64 e] ∧ hs = [kp, kq] ∧ OArr vp encI 1 3 kp p ∧ OArr vq encI 1 3 kq q ∧ (e = 60 ∨ (e = 0 ∧ HeldB h ca cb lo hi p q))) := by
 have nI : OArr (.slice none 0 0) encI 1 3 emp ([] : List Int) := OArr.nil (fun _ => rfl)
 have ok := hcheck_ok hc
 have r2 := ok.r2
 have l1 := tl.len
 have l2 := th.len
 refine Spec.intro (fn := Tryz.f21) (N := 108) Tryz.func21 rfl Tryz.ntmps21 rfl fun B => ?_
 refine XK.seq (XK.region rfl ?_)
 refine XO.box rfl fun b5 => ?_
 refine XO.box rfl fun b8 => ?_
 refine XO.q (Q.assign rfl) (XO.q (Q.assign rfl) (XO.q (Q.assign rfl) (XO.q (Q.assign rfl) (XO.done (XK.seq ?_)))))
 refine XK.seq (XK.region rfl ?_)
 refine XO.q (Q.ldA [_, _, _, _] rfl rfl rfl) ?_
 refine XO.q (Q.move rfl) (XO.q (Q.move rfl) ?_)
 refine XO.q (Q.ldA [_, _, _, _, _, _] rfl rfl rfl) ?_
 refine XO.call Tryz.call22 rfl rfl rfl (Ht.Bounds_spec h vr vw vb vc kr kw kb kc ca cb wlo whi jlo jhi lo hi vlo vhi klo khi 0) fun v29 s29 R29 => ?_
 obtain ⟨xL, xH, yL, yH, KLo, KHi, usL, usH, rfl, rfl, OL, OH, RL, RH⟩ := R29
 dsimp only [lcA, lnA]
 rw [show Ht.boundsG h lo hi ca cb 0 = _ from Ht.bounds_fine (n := 0) hc ak dk ad tl th le (by omega)]
 dsimp only
 refine XO.q (Q.move rfl) ?_
 refine XO.q (Q.extract rfl rfl) ?_
 refine XO.q (Q.extract rfl rfl) ?_
 refine XO.q (Q.extract rfl rfl) ?_
 refine XO.q (Q.assign rfl) (XO.q (Q.assign rfl) (XO.q (Q.assign rfl) (XO.done (XK.seq (XK.region rfl ?_)))))
 refine XO.q (Q.move rfl) ?_
 refine XO.q (Q.neq rfl rfl) ?_
 refine XO.done ?_
 refine XK.if rfl (fun c0 => ?_) (fun c0 => ?_)
 ·skip
  simp at c0
 ·skip
  refine XK.skip (XK.seq (XK.seq (XK.region rfl (XO.q (Q.move rfl) ?_))))
  refine XO.lit [_] [_] [((m : Nat) : Int)] encI (by rfl) (by rfl) rfl (by rfl) (by exact .c 0 1 rfl rfl rfl (.n _)) (fun _ => rfl) (by rfl) rfl (by infer_instance) rfl fun v37 h37 O37 => ?_
  refine XO.call Tryz.call58 rfl rfl rfl (indexT 20001 v37 h37 [((m : Nat) : Int)]) fun v38 s38 R38 => ?_
  obtain ⟨rfl, rfl⟩ := R38
  dsimp only [lcA, lnA]
  rw [show ([((m : Nat) : Int)] : List Int).any (fun x => decide (x < 0) || decide ((20001 : Int) ≤ x)) = false by rw [List.any_cons, List.any_nil, Bool.or_false, Bool.or_eq_false_iff, decide_eq_false_iff_not, decide_eq_false_iff_not]; omega]
  refine XO.q (Q.not rfl) ?_
  refine XO.done ?_
  refine XK.if rfl (fun c1 => ?_) (fun c1 => ?_)
  ·skip
   simp at c1
  ·skip
   refine XK.skip (XK.seq (XK.region rfl (XO.q (Q.move rfl) ?_)))
   refine XO.call Tryz.call59 rfl rfl rfl (Ht.cloneI vlo klo lo (by omega)) fun v41 s41 R41 => ?_
   obtain ⟨k41, rfl, O41⟩ := R41
   dsimp only [lcA, lnA]
   refine XO.q (Q.move rfl) ?_
   refine XO.call Tryz.call59 rfl rfl rfl (Ht.cloneI vhi khi hi (by omega)) fun v43 s43 R43 => ?_
   obtain ⟨k43, rfl, O43⟩ := R43
   dsimp only [lcA, lnA]
   refine XO.q (Q.assign rfl) (XO.q (Q.assign rfl) (XO.done (XK.seq (XK.seq (XK.region rfl ?_)))))
   refine XO.q (Q.move rfl) (XO.q (Q.move rfl) (XO.done (XK.block ?_)))
   refine XK.while (X := Nat × PHeap × PHeap × List Int × List Int) [10, 11, 12, 13, 17, 18, 19, 20, 21, 22, 23, 45, 46, 47, 48, 49, 50, 51, 52, 53, 54, 55, 56, 57, 58, 59, 60, 61, 62, 63, 64, 65, 66, 67, 68, 69, 70, 71, 72, 73, 74, 75, 76, 77, 78, 79, 80, 81, 82, 83, 84, 85, 86, 87, 88, 89, 90, 91, 92, 93, 94, 95, 96, 97, 98, 99, 100, 101, 102, 103, 104, 105, 106, 107] (fun ⟨n, kl, kh, p, q⟩ => [(45, some (.int .i64 (n : Nat)))]) (fun ⟨n, kl, kh, p, q⟩ => [kl, kh]) (fun ⟨n, kl, kh, p, q⟩ => n ≤ m ∧ OArr v41 encI 1 3 kl p ∧ OArr v43 encI 1 3 kh q ∧ TOk h p ∧ TOk h q ∧ Ht.LeL p lo ∧ Ht.LeL hi q) (fun ⟨n, kl, kh, p, q⟩ => m - n) (0, k41, k43, lo, hi) [k41, k43] rfl ⟨by omega, O41, O43, tl, th, fun i _ => Int.le_refl _, fun i _ => Int.le_refl _⟩ (.c rfl (.base 0 rfl rfl)) ?_
   rintro ⟨n, kl, kh, p, q⟩ ⟨hn, OP, OQ, tp, tq, lp0, lq0⟩ ih0
   dsimp only [lcA, lnA] at ih0 ⊢
   refine XK.seq (XK.region rfl ?_)
   refine XO.q (Q.lss rfl rfl) ?_
   refine XO.done (XK.seq ?_)
   refine XK.if rfl (fun c2 => ?_) (fun c2 => ?_)
   ·skip
    refine XK.skip (XK.seq (XK.block (XK.seq (XK.region rfl (XO.q (Q.move rfl) ?_)))))
    refine XO.q (Q.assign rfl) (XO.done (XK.seq (XK.region rfl ?_)))
    refine XO.q (Q.ldA [_, _, _, _] rfl rfl rfl) ?_
    refine XO.q (Q.move rfl) ?_
    refine XO.q (Q.fieldAddr rfl) ?_
    refine XO.q (Q.ldA [_, _, _] rfl rfl rfl) ?_
    refine XO.call Tryz.call16 rfl rfl rfl (Ht.Next_spec h vr vw vb vc kr kw kb kc p v41 kl ca wlo jlo) fun v53 s53 R53 => ?_
    obtain ⟨x53, y53, rfl, rfl, X53⟩ := R53
    dsimp only [lcA, lnA]
    have hN53 : nextG h p ca = (nextL h p ca, 0) := Ht.next_fine hc tp ak
    rw [hN53] at X53 ⊢
    dsimp only at X53 ⊢
    refine XO.q (Q.move rfl) ?_
    refine XO.q (Q.extract rfl rfl) ?_
    refine XO.q (Q.extract rfl rfl) ?_
    refine XO.q (Q.assign rfl) (XO.q (Q.assign rfl) (XO.done (XK.seq (XK.region rfl ?_))))
    refine XO.q (Q.ldA [_, _, _, _] rfl rfl rfl) ?_
    refine XO.q (Q.move rfl) ?_
    refine XO.q (Q.fieldAddr rfl) ?_
    refine XO.q (Q.ldA [_, _, _] rfl rfl rfl) ?_
    refine XO.call Tryz.call16 rfl rfl rfl (Ht.Next_spec h vr vw vb vc kr kw kb kc q v43 kh cb whi jhi) fun v61 s61 R61 => ?_
    obtain ⟨x61, y61, rfl, rfl, X61⟩ := R61
    dsimp only [lcA, lnA]
    have hN61 : nextG h q cb = (nextL h q cb, 0) := Ht.next_fine hc tq dk
    rw [hN61] at X61 ⊢
    dsimp only at X61 ⊢
    refine XO.q (Q.move rfl) ?_
    refine XO.q (Q.extract rfl rfl) ?_
    refine XO.q (Q.extract rfl rfl) ?_
    refine XO.q (Q.assign rfl) (XO.q (Q.assign rfl) (XO.done (XK.seq (XK.region rfl (XO.q (Q.assign rfl) ?_)))))
    refine XO.done (XK.seq (XK.seq (XK.region rfl ?_)))
    have okA := Ht.next_ok ok tp ak
    have okB := Ht.next_ok ok tq dk
    have lA := okA.len
    have lB := okB.len
    have lp := tp.len
    have lq := tq.len
    refine XO.q (Q.move rfl) ?_
    refine XO.len rfl fun l65 => ?_
    refine XO.q (Q.move rfl) (XO.done (XK.block ?_))
    refine XK.while (X := Nat × PHeap × PHeap × List Int × List Int × Bool) [22, 23, 66, 67, 68, 69, 70, 71, 72, 73, 74, 75, 76, 77, 78, 79, 80, 81, 82, 83, 84, 85, 86, 87, 88, 89, 90, 91, 92, 93, 94, 95, 96, 97, 98, 99, 100, 101] (fun ⟨i, kl2, kh2, p2, q2, ch⟩ => [(66, some (.int .i64 (i : Nat))), (22, some (.bool ch))]) (fun ⟨i, kl2, kh2, p2, q2, ch⟩ => [kl2, kh2]) (fun ⟨i, kl2, kh2, p2, q2, ch⟩ => i ≤ h.rooms.length ∧ OArr v41 encI 1 3 kl2 p2 ∧ OArr v43 encI 1 3 kh2 q2 ∧ BoxIn h lo hi p q (nextL h p ca) (nextL h q cb) i p2 q2 ch) (fun ⟨i, kl2, kh2, p2, q2, ch⟩ => h.rooms.length - i) (0, kl, kh, p, q, false) [kl, kh] rfl ⟨by omega, OP, OQ, ⟨tp, tq, lp0, lq0, fun _ => ⟨rfl, rfl, fun j hj => absurd hj (Nat.not_lt_zero j)⟩⟩⟩ (.c rfl (.c rfl (.base 0 rfl rfl))) ?_
    rintro ⟨i, kl2, kh2, p2, q2, ch⟩ ⟨hi0, OP2, OQ2, bx⟩ ih1
    dsimp only [lcA, lnA] at ih1 ⊢
    refine XK.seq (XK.region rfl ?_)
    refine XO.q (Q.lss rfl rfl) ?_
    refine XO.done (XK.seq ?_)
    refine XK.if rfl (fun c3 => ?_) (fun c3 => ?_)
    ·skip
     have e3 := bx.t1.len
     have e4 := bx.t2.len
     refine XK.skip (XK.seq (XK.block (XK.seq (XK.region rfl (XO.q (Q.move rfl) ?_)))))
     refine XO.q (Q.assign rfl) (XO.done (XK.seq (XK.seq ?_)))
     refine XK.drawn [0, 1, 2, 3, 4, 5, 6, 7, 8] [] [y53, kl2] (.q 0 (.q 1 (.q 2 (.q 3 (.q 4 (.q 5 (.q 6 (.q 7 (.q 8 .done))))))))) Tryz.mixed rfl (by kernel_rfl) ?_
     refine XT.q rfl rfl (Q.move rfl) ?_
     refine XT.q rfl rfl (Q.move rfl) ?_
     refine XT.ix rfl rfl rfl rfl (by omega) (by omega) fun i71 => ?_
     refine XT.q rfl rfl (Q.ldE rfl (by first | assumption | omega) rfl) ?_
     refine XT.q rfl rfl (Q.move rfl) ?_
     refine XT.q rfl rfl (Q.move rfl) ?_
     refine XT.ix rfl rfl rfl rfl (by omega) (by omega) fun i75 => ?_
     refine XT.q rfl rfl (Q.ldE rfl (by first | assumption | omega) rfl) ?_
     refine XT.q rfl rfl (Q.lss rfl rfl) ?_
     refine XT.done ?_
     refine XK.if rfl (fun c4 => ?_) (fun c4 => ?_)
     ·skip
      have bl := bx.low okA tl (by omega) c4
      refine XK.region rfl (XO.q (Q.move rfl) (XO.q (Q.move rfl) (XO.q (Q.move rfl) (XO.q (Q.move rfl) ?_))))
      refine XO.ix rfl rfl (by omega) (by omega) fun i82 => ?_
      refine XO.q (Q.ldE rfl (by first | assumption | omega) rfl) ?_
      refine XO.ix rfl rfl (by omega) (by omega) fun i84 => ?_
      refine XO.stE _ rfl rfl rfl (by assumption) rfl rfl fun h17_7 O17_7 => ?_
      refine XO.q (Q.assign rfl) (XO.done (XK.seq ?_))
      refine XK.drawn [0, 1, 2, 3, 4, 5, 6, 7, 8] [] [y61, kh2] (.q 0 (.q 1 (.q 2 (.q 3 (.q 4 (.q 5 (.q 6 (.q 7 (.q 8 .done))))))))) Tryz.mixed rfl (by kernel_rfl) ?_
      refine XT.q rfl rfl (Q.move rfl) ?_
      refine XT.q rfl rfl (Q.move rfl) ?_
      refine XT.ix rfl rfl rfl rfl (by omega) (by omega) fun i87 => ?_
      refine XT.q rfl rfl (Q.ldE rfl (by first | assumption | omega) rfl) ?_
      refine XT.q rfl rfl (Q.move rfl) ?_
      refine XT.q rfl rfl (Q.move rfl) ?_
      refine XT.ix rfl rfl rfl rfl (by omega) (by omega) fun i91 => ?_
      refine XT.q rfl rfl (Q.ldE rfl (by first | assumption | omega) rfl) ?_
      refine XT.q rfl rfl (Q.gtr rfl rfl) ?_
      refine XT.done ?_
      refine XK.if rfl (fun c5 => ?_) (fun c5 => ?_)
      ·skip
       refine XK.region rfl (XO.q (Q.move rfl) (XO.q (Q.move rfl) (XO.q (Q.move rfl) (XO.q (Q.move rfl) ?_))))
       refine XO.ix rfl rfl (by omega) (by omega) fun i98 => ?_
       refine XO.q (Q.ldE rfl (by first | assumption | omega) rfl) ?_
       refine XO.ix rfl rfl (by omega) (by omega) fun i100 => ?_
       refine XO.stE _ rfl rfl rfl (by assumption) rfl rfl fun h19_7 O19_7 => ?_
       refine XO.q (Q.assign rfl) (XO.done ?_)
       refine XK.inBlock ?_
       refine XK.region rfl ?_
       refine XO.q (Q.add rfl rfl ⟨by omega, by omega⟩) ?_
       refine XO.q (Q.move rfl) (XO.done ?_)
       exact ih1 (i + 1, h17_7, h19_7, _, _, true) _ _ ⟨by dsimp only; omega, O17_7, O19_7, (bl.high okB th (by omega) c5).on⟩ (by first | omega | (dsimp only; omega)) (.c rfl (.c rfl (.base 79 rfl rfl))) inferInstance
      ·skip
       refine XK.skip ?_
       refine XK.inBlock ?_
       refine XK.region rfl ?_
       refine XO.q (Q.add rfl rfl ⟨by omega, by omega⟩) ?_
       refine XO.q (Q.move rfl) (XO.done ?_)
       exact ih1 (i + 1, h17_7, kh2, _, q2, true) _ _ ⟨by dsimp only; omega, O17_7, OQ2, bl.on⟩ (by first | omega | (dsimp only; omega)) (.c rfl (.c rfl (.base 71 rfl rfl))) inferInstance
     ·skip
      refine XK.skip (XK.seq ?_)
      refine XK.drawn [0, 1, 2, 3, 4, 5, 6, 7, 8] [] [y61, kh2] (.q 0 (.q 1 (.q 2 (.q 3 (.q 4 (.q 5 (.q 6 (.q 7 (.q 8 .done))))))))) Tryz.mixed rfl (by kernel_rfl) ?_
      refine XT.q rfl rfl (Q.move rfl) ?_
      refine XT.q rfl rfl (Q.move rfl) ?_
      refine XT.ix rfl rfl rfl rfl (by omega) (by omega) fun i87 => ?_
      refine XT.q rfl rfl (Q.ldE rfl (by first | assumption | omega) rfl) ?_
      refine XT.q rfl rfl (Q.move rfl) ?_
      refine XT.q rfl rfl (Q.move rfl) ?_
      refine XT.ix rfl rfl rfl rfl (by omega) (by omega) fun i91 => ?_
      refine XT.q rfl rfl (Q.ldE rfl (by first | assumption | omega) rfl) ?_
      refine XT.q rfl rfl (Q.gtr rfl rfl) ?_
      refine XT.done ?_
      refine XK.if rfl (fun c6 => ?_) (fun c6 => ?_)
      ·skip
       refine XK.region rfl (XO.q (Q.move rfl) (XO.q (Q.move rfl) (XO.q (Q.move rfl) (XO.q (Q.move rfl) ?_))))
       refine XO.ix rfl rfl (by omega) (by omega) fun i98 => ?_
       refine XO.q (Q.ldE rfl (by first | assumption | omega) rfl) ?_
       refine XO.ix rfl rfl (by omega) (by omega) fun i100 => ?_
       refine XO.stE _ rfl rfl rfl (by assumption) rfl rfl fun h19_7 O19_7 => ?_
       refine XO.q (Q.assign rfl) (XO.done ?_)
       refine XK.inBlock ?_
       refine XK.region rfl ?_
       refine XO.q (Q.add rfl rfl ⟨by omega, by omega⟩) ?_
       refine XO.q (Q.move rfl) (XO.done ?_)
       exact ih1 (i + 1, kl2, h19_7, p2, _, true) _ _ ⟨by dsimp only; omega, OP2, O19_7, (bx.high okB th (by omega) c6).on⟩ (by first | omega | (dsimp only; omega)) (.c rfl (.c rfl (.base 71 rfl rfl))) inferInstance
      ·skip
       refine XK.skip ?_
       refine XK.inBlock ?_
       refine XK.region rfl ?_
       refine XO.q (Q.add rfl rfl ⟨by omega, by omega⟩) ?_
       refine XO.q (Q.move rfl) (XO.done ?_)
       exact ih1 (i + 1, kl2, kh2, p2, q2, ch) _ _ ⟨by dsimp only; omega, OP2, OQ2, bx.skip c4 c6⟩ (by first | omega | (dsimp only; omega)) (.c rfl (.c rfl (.base 63 rfl rfl))) inferInstance
    ·skip
     have hin : i = h.rooms.length := by omega
     subst hin
     refine XK.exit rfl ?_
     refine XK.seq (XK.region rfl (XO.q (Q.move rfl) ?_))
     refine XO.q (Q.not rfl) ?_
     refine XO.done ?_
     refine XK.if rfl (fun c7 => ?_) (fun c7 => ?_)
     ·skip
      obtain rfl : ch = false := by simpa using c7
      refine XK.seq (XK.region rfl (XO.q (Q.move rfl) (XO.q (Q.move rfl) (XO.q (Q.move rfl) (XO.q (Q.assign rfl) ?_)))))
      refine XO.q (Q.assign rfl) (XO.q (Q.assign rfl) (XO.q (Q.assign rfl) (XO.done ?_)))
      refine XK.rt [kl2, kh2] Tryz.func21 Tryz.results21 (.t rfl (.t rfl (.t rfl (.t rfl .n)))) ?_
      exact ⟨v41, v43, kl2, kh2, p2, q2, n, 0, rfl, rfl, OP2, OQ2, .inr ⟨rfl, bx.held⟩⟩
     ·skip
      refine XK.skip ?_
      refine XK.inBlock ?_
      refine XK.region rfl ?_
      refine XO.q (Q.add rfl rfl ⟨by omega, by omega⟩) ?_
      refine XO.q (Q.move rfl) (XO.done ?_)
      exact ih0 (n + 1, kl2, kh2, p2, q2) _ _ ⟨by dsimp only; omega, OP2, OQ2, bx.t1, bx.t2, bx.le1, bx.le2⟩ (by first | omega | (dsimp only; omega)) (.c rfl (.base 147 rfl rfl)) inferInstance
   ·skip
    refine XK.exit rfl ?_
    refine XK.seq (XK.region rfl (XO.q (Q.assign rfl) (XO.q (Q.assign rfl) (XO.q (Q.assign rfl) (XO.q (Q.assign rfl) ?_)))))
    refine XO.done ?_
    refine XK.rt [emp, emp] Tryz.func21 Tryz.results21 (.t rfl (.t rfl (.t rfl (.t rfl .n)))) ?_
    exact ⟨.slice none 0 0, .slice none 0 0, emp, emp, [], [], 0, 60, rfl, rfl, nI, nI, .inl rfl⟩
end Go.X

set_option linter.unusedSimpArgs false
set_option linter.unusedVariables false
set_option maxRecDepth 20000
namespace Go.X
open Go.Proofs
structure PairW (n i : Nat) (xs ys : List Int) : Prop where
 a : Ht.WarmOk n xs
 b : Ht.WarmOk n ys
 le : ∀ j, j < i → xs.getD j 0 ≤ ys.getD j 0
theorem PairW.step {n i : Nat} {xs ys : List Int} (p : PairW n i xs ys) (hi : i < n) : PairW n (i + 1) (xs.set i (min (xs.getD i default) (ys.getD i default))) (ys.set i (max (xs.getD i default) (ys.getD i default))) := by
 have e1 := p.a.1
 have e2 := p.b.1
 have r1 := p.a.2 i (by omega)
 have r2 := p.b.2 i (by omega)
 change 12000 ≤ xs.getD i default ∧ xs.getD i default ≤ _ at r1
 change 12000 ≤ ys.getD i default ∧ ys.getD i default ≤ _ at r2
 refine ⟨⟨by rw [List.length_set]; exact e1, fun j hj => ?_⟩, ⟨by rw [List.length_set]; exact e2, fun j hj => ?_⟩, fun j hj => ?_⟩
 ·rw [List.length_set] at hj
  rw [getD_setB (by omega)]
  split
  ·omega
  ·exact p.a.2 j hj
 ·rw [List.length_set] at hj
  rw [getD_setB (by omega)]
  split
  ·omega
  ·exact p.b.2 j hj
 ·rw [getD_setB (by omega), getD_setB (by omega)]
  by_cases h : j = i
  ·rw [if_pos h, if_pos h]; omega
  ·rw [if_neg h, if_neg h]; exact p.le j (by omega)
theorem row_atB {us : List Value} {K : PHeap} {h : Hall} {c : Nat → HCase} {t : List Int} {n i : Nat} (r : Ht.Rows us K (Ht.rowsL h c t n)) (hi : i < n) : Arr (us.getD i default) encI 1 K (Ht.iterT h c t (i + 1)) := by
 have := r.2 i (by rw [r.1, Ht.rows_len]; exact hi)
 rwa [Ht.rows_at hi] at this
set_option maxHeartbeats 8000000 in
set_option synthInstance.maxSize 1000 in
set_option synthInstance.maxHeartbeats 400000 in
theorem TopBoxed_spec (v0 : Value) (h0 : PHeap) (x0 : List UInt8) [i0 : Arr v0 encU8 1 h0 x0] (v1 : Value) (h1 : PHeap) (x1 : List UInt8) [i1 : Arr v1 encU8 1 h1 x1] (v2 : Value) (h2 : PHeap) (x2 : List UInt8) [i2 : Arr v2 encU8 1 h2 x2] (v3 : Value) (h3 : PHeap) (x3 : List UInt8) [i3 : Arr v3 encU8 1 h3 x3] (v4 : Value) (h4 : PHeap) (x4 : List UInt8) [i4 : Arr v4 encU8 1 h4 x4] (v5 : Value) (h5 : PHeap) (x5 : List UInt8) [i5 : Arr v5 encU8 1 h5 x5] : Spec Tryz.prog 4 #[v0, v1, v2, v3, v4, v5] [] [h0, h1, h2, h3, h4, h5] (fun v hs => v = .bool true ∧ hs = []) := by
 refine Spec.intro (fn := Tryz.f4) (N := 272) Tryz.func4 rfl Tryz.ntmps4 rfl fun B => ?_
 refine XK.seq (XK.region rfl (XO.q (Q.assign rfl) (XO.done (XK.seq (XK.region rfl ?_)))))
 refine XO.q (Q.move rfl) (XO.q (Q.move rfl) (XO.q (Q.move rfl) (XO.q (Q.move rfl) ?_)))
 refine XO.call Tryz.call19 rfl rfl rfl (hallT v0 h0 x0 v1 h1 x1 v3 h3 x3 v4 h4 x4) fun v41 s41 R41 => ?_
 obtain ⟨h, vr, vw, vb, vc, vt, wlo, whi, kr, kw, kb, kc, kt, jlo, jhi, t, ca, cb, rfl, rfl, ⟨Or, Ow, Ob, Oc⟩, mk, OT, wt, Plo, Phi, qa, qb, lab⟩ := R41
 dsimp only [lcA, lnA]
 have ok := hcheck_ok mk.ok
 have r1 := ok.r1
 have r2 := ok.r2
 have tl := wt.1
 refine XO.q (Q.move rfl) ?_
 refine XO.q (Q.extract rfl rfl) ?_
 refine XO.q (Q.extract rfl rfl) ?_
 refine XO.q (Q.extract rfl rfl) ?_
 refine XO.alloc fun b13 => ?_
 refine XO.alloc fun b15 => ?_
 refine XO.st rfl rfl rfl ?_
 refine XO.q (Q.assign rfl) ?_
 refine XO.st rfl rfl rfl ?_
 refine XO.done (XK.seq (XK.region rfl ?_))
 refine XO.q (Q.ldA [_, _, _, _] rfl rfl rfl) ?_
 refine XO.q (Q.move rfl) ?_
 refine XO.call Tryz.call20 rfl rfl rfl (Ht.warm_made vr vw vb vc kr h.rooms r2 v2 h2 x2) fun v47 s47 R47 => ?_
 obtain ⟨u, ku, rfl, OU, wu⟩ := R47
 dsimp only [lcA, lnA]
 have ul := wu.1
 obtain ⟨vu, rfl⟩ : ∃ w, w = v47 := ⟨_, rfl⟩
 refine XO.q (Q.assign rfl) (XO.done (XK.seq (XK.seq (XK.region rfl (XO.q (Q.move rfl) ?_)))))
 refine XO.len rfl fun l49 => ?_
 refine XO.q (Q.move rfl) (XO.done (XK.block ?_))
 refine XK.while (X := Nat × PHeap × PHeap × List Int × List Int) [17, 50, 51, 52, 53, 54, 55, 56, 57, 58, 59, 60, 61, 62, 63, 64, 65, 66, 67, 68, 69, 70, 71, 72, 73, 74, 75, 76, 77] (fun ⟨i, kx, ky, xs, ys⟩ => [(50, some (.int .i64 (i : Nat)))]) (fun ⟨i, kx, ky, xs, ys⟩ => [kx, ky]) (fun ⟨i, kx, ky, xs, ys⟩ => i ≤ h.rooms.length ∧ PairW h.rooms.length i xs ys ∧ OArr vt encI 1 3 kx xs ∧ OArr vu encI 1 3 ky ys) (fun ⟨i, kx, ky, xs, ys⟩ => h.rooms.length - i) (0, kt, ku, t, u) [kt, ku] rfl ⟨by omega, ⟨wt, wu, fun j hj => absurd hj (Nat.not_lt_zero j)⟩, OT, OU⟩ (.c rfl (.base 0 rfl rfl)) ?_
 rintro ⟨i, kx, ky, xs, ys⟩ ⟨hi, pk, OX, OY⟩ ih0
 dsimp only [lcA, lnA] at ih0 ⊢
 have e3 := pk.a.1
 have e4 := pk.b.1
 refine XK.seq (XK.region rfl ?_)
 refine XO.q (Q.lss rfl rfl) ?_
 refine XO.done (XK.seq ?_)
 refine XK.if rfl (fun c0 => ?_) (fun c0 => ?_)
 ·skip
  refine XK.skip (XK.seq (XK.block (XK.seq (XK.region rfl (XO.q (Q.move rfl) ?_)))))
  refine XO.q (Q.assign rfl) (XO.done ?_)
  refine XK.draw2 [(0, []), (1, []), (2, []), (3, []), (4, []), (5, []), (6, []), (7, [0]), (8, []), (9, []), (10, []), (11, [1]), (12, []), (13, []), (14, []), (15, []), (16, [0]), (17, []), (18, []), (19, []), (20, [1]), (21, []), (22, []), (24, [])] [kx, ky] (.q 0 (.q 1 (.q 2 (.q 3 (.q 4 (.q 5 (.q 6 (.q 7 (.q 8 (.q 9 (.q 10 (.q 11 (.q 12 (.q 13 (.q 14 (.q 15 (.q 16 (.q 17 (.q 18 (.q 19 (.q 20 (.q 21 (.q 22 (.br 23 true (.q 24 (.br 25 true .done .stop)) .stop)))))))))))))))))))))))) Tryz.mixed rfl (by kernel_rfl) (by rfl) ?_
  refine XT2.q (ks := []) rfl rfl rfl (Q.move rfl) ?_
  refine XT2.q (ks := []) rfl rfl rfl (Q.move rfl) ?_
  refine XT2.q (ks := []) rfl rfl rfl (Q.move rfl) ?_
  refine XT2.q (ks := []) rfl rfl rfl (Q.move rfl) ?_
  refine XT2.q (ks := []) rfl rfl rfl (Q.move rfl) ?_
  refine XT2.q (ks := []) rfl rfl rfl (Q.move rfl) ?_
  refine XT2.ix rfl rfl rfl rfl (by omega) (by omega) fun i59 => ?_
  refine XT2.q (ks := [kx]) rfl rfl rfl (Q.ldE rfl (by first | assumption | omega) rfl) ?_
  refine XT2.q (ks := []) rfl rfl rfl (Q.move rfl) ?_
  refine XT2.q (ks := []) rfl rfl rfl (Q.move rfl) ?_
  refine XT2.ix rfl rfl rfl rfl (by omega) (by omega) fun i63 => ?_
  refine XT2.q (ks := [ky]) rfl rfl rfl (Q.ldE rfl (by first | assumption | omega) rfl) ?_
  refine XT2.q (ks := []) rfl rfl rfl (Q.min rfl rfl) ?_
  refine XT2.q (ks := []) rfl rfl rfl (Q.move rfl) ?_
  refine XT2.q (ks := []) rfl rfl rfl (Q.move rfl) ?_
  refine XT2.ix rfl rfl rfl rfl (by omega) (by omega) fun i68 => ?_
  refine XT2.q (ks := [kx]) rfl rfl rfl (Q.ldE rfl (by first | assumption | omega) rfl) ?_
  refine XT2.q (ks := []) rfl rfl rfl (Q.move rfl) ?_
  refine XT2.q (ks := []) rfl rfl rfl (Q.move rfl) ?_
  refine XT2.ix rfl rfl rfl rfl (by omega) (by omega) fun i72 => ?_
  refine XT2.q (ks := [ky]) rfl rfl rfl (Q.ldE rfl (by first | assumption | omega) rfl) ?_
  refine XT2.q (ks := []) rfl rfl rfl (Q.max rfl rfl) ?_
  refine XT2.ix rfl rfl rfl rfl (by omega) (by omega) fun i75 => ?_
  refine XT2.stE (ns := []) (ks := []) _ rfl rfl (by kernel_rfl) rfl rfl rfl rfl (by assumption) rfl rfl fun h6_23 O6_23 => ?_
  refine XT2.ix rfl rfl rfl rfl (by omega) (by omega) fun i76 => ?_
  refine XT2.stE (ns := []) (ks := []) _ rfl rfl (by kernel_rfl) rfl rfl rfl rfl (by assumption) rfl rfl fun h6_25 O6_25 => ?_
  refine XT2.done ?_
  refine XK.inBlock ?_
  refine XK.region rfl ?_
  refine XO.q (Q.add rfl rfl ⟨by omega, by omega⟩) ?_
  refine XO.q (Q.move rfl) (XO.done ?_)
  exact ih0 (i + 1, h6_23, h6_25, _, _) _ _ ⟨by dsimp only; omega, pk.step (by omega), O6_23, O6_25⟩ (by first | omega | (dsimp only; omega)) (.c rfl (.base 59 rfl rfl)) inferInstance
 ·skip
  have hin : i = h.rooms.length := by omega
  subst hin
  refine XK.exit rfl ?_
  refine XK.seq (XK.region rfl ?_)
  have tkx := pk.a.tok
  have tky := pk.b.tok
  have lexy : Ht.LeL xs ys := fun j hj => pk.le j (by omega)
  have lx := pk.a.1
  have ly := pk.b.1
  refine XO.q (Q.ldA [_, _, _, _] rfl rfl rfl) ?_
  refine XO.q (Q.move rfl) (XO.q (Q.move rfl) ?_)
  refine XO.q (Q.ldA [_, _, _, _, _, _] rfl rfl rfl) ?_
  refine XO.call Tryz.call21 rfl rfl rfl (BoxT h vr vw vb vc kr kw kb kc mk.ok ca cb wlo whi jlo jhi qa.cok qb.cok lab xs ys vt vu kx ky tkx tky lexy 2000 (by omega)) fun v83 s83 R83 => ?_
  obtain ⟨vp, vq, kp, kq, p, q, nn, e, rfl, rfl, OP, OQ, hb⟩ := R83
  dsimp only [lcA, lnA]
  refine XO.q (Q.move rfl) ?_
  refine XO.q (Q.extract rfl rfl) ?_
  refine XO.q (Q.extract rfl rfl) ?_
  refine XO.q (Q.extract rfl rfl) ?_
  refine XO.q (Q.extract rfl rfl) ?_
  refine XO.q (Q.assign rfl) (XO.q (Q.assign rfl) (XO.q (Q.assign rfl) (XO.q (Q.assign rfl) (XO.done (XK.seq ?_)))))
  refine XK.seq (XK.region rfl (XO.q (Q.move rfl) ?_))
  refine XO.q (Q.neq rfl rfl) ?_
  refine XO.done ?_
  refine XK.if rfl (fun c1 => ?_) (fun c1 => ?_)
  ·skip
   obtain rfl : e = 60 := hb.resolve_right (fun hx => c1 hx.1)
   refine XK.seq (XK.region rfl (XO.q (Q.move rfl) ?_))
   refine XO.q (Q.eql rfl rfl) ?_
   first | rw [decide_eq_true (show (60 : Int) = (60 : Int) from rfl)] | skip
   refine XO.q (Q.move rfl) ?_
   refine XO.callS rfl rfl rfl Tryz.call14 rfl (.n) rfl (there_spec) fun v93 s93 R93 => ?_
   obtain ⟨rfl, rfl⟩ := R93
   dsimp only [lcA, lnA]
   refine XO.q (Q.and rfl (fun _ => rfl)) ?_
   refine XO.q (Q.assign rfl) (XO.done ?_)
   refine XK.rt [] Tryz.func4 Tryz.results4 (.t rfl .n) ?_
   exact ⟨by simp, rfl⟩
  ·skip
   obtain ⟨rfl, hd⟩ : e = 0 ∧ HeldB h ca cb xs ys p q := hb.resolve_left (fun hx => by omega)
   have lpx : Ht.LeL p xs := hd.le1
   have lyq : Ht.LeL ys q := hd.le2
   have lpy : Ht.LeL p ys := LeL.tr lpx lexy (by rw [hd.t1.len, lx]; exact Nat.le_refl _)
   have lxq : Ht.LeL xs q := LeL.tr lexy lyq (by rw [lx, ly]; exact Nat.le_refl _)
   have hil := held_iter ok hd qa.cok qb.cok qa.cok Ht.LeC.refl lab tkx lpx lxq
   have hih := held_iter ok hd qa.cok qb.cok qb.cok lab Ht.LeC.refl tky lpy lyq
   have lp := hd.t1.len
   have lq := hd.t2.len
   refine XK.skip (XK.seq (XK.region rfl ?_))
   skip
   refine XO.q (Q.ldA [_, _, _, _] rfl rfl rfl) ?_
   refine XO.q (Q.move rfl) (XO.q (Q.move rfl) ?_)
   refine XO.q (Q.ldA [_, _, _, _, _, _] rfl rfl rfl) ?_
   refine XO.call Tryz.call22 rfl rfl rfl (Ht.Bounds_spec h vr vw vb vc kr kw kb kc ca cb wlo whi jlo jhi xs ys vt vu kx ky 100) fun v100 s100 R100 => ?_
   obtain ⟨xL, xH, yL, yH, KLo, KHi, usL, usH, rfl, rfl, OL, OH, RL, RH⟩ := R100
   dsimp only [lcA, lnA]
   rw [show Ht.boundsG h xs ys ca cb 100 = (Ht.rowsL h (fun _ => ca) xs 100, Ht.rowsL h (fun _ => cb) ys 100, 0) from Ht.bounds_fine (n := 100) mk.ok qa.cok qb.cok lab tkx tky lexy (by omega)] at RL RH ⊢
   dsimp only at RL RH ⊢
   have lL : usL.length = 100 := RL.1.trans (Ht.rows_len ..)
   have lH : usH.length = 100 := RH.1.trans (Ht.rows_len ..)
   refine XO.q (Q.move rfl) ?_
   refine XO.q (Q.extract rfl rfl) ?_
   refine XO.q (Q.extract rfl rfl) ?_
   refine XO.q (Q.extract rfl rfl) ?_
   refine XO.q (Q.assign rfl) (XO.q (Q.assign rfl) (XO.q (Q.assign rfl) (XO.done (XK.seq (XK.region rfl ?_)))))
   refine XO.q (Q.ldA [_, _, _, _] rfl rfl rfl) ?_
   refine XO.q (Q.move rfl) ?_
   refine XO.q (Q.ldA [_, _, _, _, _, _] rfl rfl rfl) ?_
   refine XO.call Tryz.call23 rfl rfl rfl (Ht.Ride_spec h vr vw vb vc kr kw kb kc ys vu ky ca cb wlo whi jlo jhi 300) fun v108 s108 R108 => ?_
   obtain ⟨rfl, rfl⟩ := R108
   dsimp only [lcA, lnA]
   rw [show Ht.rideG h ys ca cb 300 = ((Ht.rideL h cb 300 0 ys).1, (Ht.rideL h cb 300 0 ys).2, 0) from Ht.ride_fine (n := 300) mk.ok qa.cok qb.cok lab tky (by omega)]
   dsimp only
   have hrl := held_ride (h := h) (d := cb) (q := q) (t := ys) (m := 300) (fun n => ⟨(hih n).1.len, (hih n).2.2⟩)
   obtain ⟨rd, erd⟩ : ∃ x, x = (Ht.rideL h cb 300 0 ys).1 := ⟨_, rfl⟩
   rw [← erd] at hrl ⊢
   refine XO.q (Q.move rfl) ?_
   refine XO.q (Q.extract rfl rfl) ?_
   refine XO.q (Q.extract rfl rfl) ?_
   refine XO.q (Q.extract rfl rfl) ?_
   refine XO.q (Q.assign rfl) (XO.q (Q.assign rfl) (XO.q (Q.assign rfl) (XO.done (XK.seq (XK.seq ?_)))))
   refine XK.region rfl (XO.q (Q.move rfl) ?_)
   refine XO.q (Q.neq rfl rfl) ?_
   first | rw [decide_eq_false (show ¬ (0 : Int) ≠ (0 : Int) from fun h => h rfl)] | skip
   refine XO.q (Q.move rfl) ?_
   refine XO.q (Quiet.guardF rfl rfl fun g115 p115 => Q.move rfl) ?_
   refine XO.q (Quiet.guardF rfl rfl fun g116 p116 => Q.neq (lzv rfl rfl) rfl) ?_
   first | rw [decide_eq_false (show ¬ (0 : Int) ≠ (0 : Int) from fun h => h rfl)] | skip
   refine XO.q (Q.or rfl (fun hp => lzv hp rfl)) ?_
   refine XO.q (Q.move rfl) ?_
   refine XO.q (Quiet.guardF rfl rfl fun g119 p119 => Q.move rfl) ?_
   refine XO.q (Quiet.guardF rfl rfl fun g120 p120 => Q.len (lzv rfl rfl)) ?_
   refine XO.q (Quiet.guardF rfl rfl fun g121 p121 => Q.move rfl) ?_
   refine XO.q (Quiet.guardF rfl rfl fun g122 p122 => Q.len (lzv rfl rfl)) ?_
   refine XO.q (Quiet.guardF rfl rfl fun g123 p123 => Q.neq (lzv rfl rfl) (lzv rfl rfl)) ?_
   rw [hd.t1.len, lx]
   first | rw [decide_eq_false (show ¬ ((h.rooms.length : Nat) : Int) ≠ ((h.rooms.length : Nat) : Int) from fun h => h rfl)] | skip
   refine XO.q (Q.or rfl (fun hp => lzv hp rfl)) ?_
   refine XO.q (Q.move rfl) ?_
   refine XO.q (Quiet.guardF rfl rfl fun g126 p126 => Q.move rfl) ?_
   refine XO.q (Quiet.guardF rfl rfl fun g127 p127 => Q.len (lzv rfl rfl)) ?_
   refine XO.q (Quiet.guardF rfl rfl fun g128 p128 => Q.move rfl) ?_
   refine XO.q (Quiet.guardF rfl rfl fun g129 p129 => Q.len (lzv rfl rfl)) ?_
   refine XO.q (Quiet.guardF rfl rfl fun g130 p130 => Q.neq (lzv rfl rfl) (lzv rfl rfl)) ?_
   rw [hd.t2.len, lx]
   first | rw [decide_eq_false (show ¬ ((h.rooms.length : Nat) : Int) ≠ ((h.rooms.length : Nat) : Int) from fun h => h rfl)] | skip
   refine XO.q (Q.or rfl (fun hp => lzv hp rfl)) ?_
   refine XO.q (Q.move rfl) ?_
   refine XO.q (Quiet.guardF rfl rfl fun g133 p133 => Q.move rfl) ?_
   refine XO.q (Quiet.guardF rfl rfl fun g134 p134 => Q.len (lzv rfl rfl)) ?_
   refine XO.q (Quiet.guardF rfl rfl fun g135 p135 => Q.neq (lzv rfl rfl) rfl) ?_
   rw [lL]
   first | rw [decide_eq_false (show ¬ ((100 : Nat) : Int) ≠ ((100 : Nat) : Int) from fun h => h rfl)] | skip
   refine XO.q (Q.or rfl (fun hp => lzv hp rfl)) ?_
   refine XO.q (Q.move rfl) ?_
   refine XO.q (Quiet.guardF rfl rfl fun g138 p138 => Q.move rfl) ?_
   refine XO.q (Quiet.guardF rfl rfl fun g139 p139 => Q.len (lzv rfl rfl)) ?_
   refine XO.q (Quiet.guardF rfl rfl fun g140 p140 => Q.neq (lzv rfl rfl) rfl) ?_
   rw [lH]
   first | rw [decide_eq_false (show ¬ ((100 : Nat) : Int) ≠ ((100 : Nat) : Int) from fun h => h rfl)] | skip
   refine XO.q (Q.or rfl (fun hp => lzv hp rfl)) ?_
   refine XO.done ?_
   refine XK.if rfl (fun c2 => ?_) (fun c2 => ?_)
   ·skip
    simp at c2
   ·skip
    refine XK.skip (XK.seq (XK.region rfl (XO.q (Q.move rfl) ?_)))
    refine XO.q (Q.build [_, _] (.c 0 1 rfl rfl rfl (.n _))) ?_
    refine XO.box rfl fun b144 => ?_
    refine XO.q (Q.assign rfl) (XO.done (XK.seq (XK.region rfl (XO.q (Q.move rfl) (XO.q (Q.assign rfl) ?_)))))
    refine XO.done (XK.seq (XK.region rfl (XO.q (Q.assign rfl) (XO.done (XK.seq ?_)))))
    refine XK.seq (XK.region rfl ?_)
    refine XO.q (Q.fieldAddr rfl) ?_
    refine XO.q (Q.ld rfl rfl) ?_
    refine XO.len rfl fun l148 => ?_
    refine XO.q (Q.move rfl) (XO.done (XK.block ?_))
    refine XK.while (X := Nat × Bool) [29, 30, 31, 149, 150, 151, 152, 153, 154, 155, 156, 157, 158, 159, 160, 161, 162, 163, 164] (fun ⟨i2, cl⟩ => [(149, some (.int .i64 (i2 : Nat))), (29, some (.bool cl))]) (fun ⟨i2, cl⟩ => []) (fun ⟨i2, cl⟩ => i2 ≤ h.rooms.length ∧ (cl = true → ∀ j, j < i2 → q.getD j 0 ≤ (h.rooms.getD j default).limit)) (fun ⟨i2, cl⟩ => h.rooms.length - i2) (0, true) [] rfl ⟨by omega, fun _ j hj => absurd hj (Nat.not_lt_zero j)⟩ (.c rfl (.c rfl (.base 0 rfl rfl))) ?_
    rintro ⟨i2, cl⟩ ⟨hi2, hcl⟩ ih1
    dsimp only [lcA, lnA] at ih1 ⊢
    refine XK.seq (XK.region rfl ?_)
    refine XO.q (Q.lss rfl rfl) ?_
    refine XO.done (XK.seq ?_)
    refine XK.if rfl (fun c3 => ?_) (fun c3 => ?_)
    ·skip
     refine XK.skip (XK.seq (XK.block (XK.seq (XK.region rfl (XO.q (Q.move rfl) ?_)))))
     refine XO.ix rfl rfl (by omega) (by omega) fun i152 => ?_
     refine XO.q (Q.ldEA [_, _] rfl (by first | assumption | omega) rfl rfl) ?_
     refine XO.alloc fun b31 => ?_
     refine XO.q (Q.assign rfl) ?_
     refine XO.st rfl rfl rfl ?_
     refine XO.done ?_
     refine XK.drawn [0, 1, 2, 3, 4, 5, 6, 7, 8, 9, 10] [b31] [kq] (.q 0 (.q 1 (.q 2 (.q 3 (.q 4 (.q 5 (.q 6 (.q 7 (.q 8 (.q 9 (.q 10 .done))))))))))) Tryz.mixed rfl (by kernel_rfl) ?_
     refine XT.q rfl rfl (Q.move rfl) ?_
     refine XT.q rfl rfl (Q.move rfl) ?_
     refine XT.q rfl rfl (Quiet.guardT rfl rfl fun g156 p156 => Q.move rfl) ?_
     refine XT.q rfl rfl (Quiet.guardT rfl rfl fun g157 p157 => Q.move rfl) ?_
     refine XT.q rfl rfl (Quiet.guardT rfl rfl fun g158 p158 => Q.ix (lzv g158 rfl) (lzv g158 rfl) (by omega) (by omega)) ?_
     refine XT.q rfl rfl (Quiet.guardT rfl rfl fun g159 p159 => Q.ldE (lzv g159 rfl) (by first | assumption | omega) rfl) ?_
     refine XT.q rfl rfl (Quiet.guardT rfl rfl fun g160 p160 => Q.fieldAddr rfl) ?_
     refine XT.q rfl rfl (Quiet.guardT rfl rfl fun g161 p161 => Q.ld (lzv g161 rfl) rfl) ?_
     refine XT.q rfl rfl (Quiet.guardT rfl rfl fun g162 p162 => Q.leq (lzv g162 rfl) (lzv g162 rfl)) ?_
     refine XT.q rfl rfl (Q.and rfl (fun hp => lzv hp rfl)) ?_
     refine XT.q rfl rfl (Q.assign rfl) ?_
     refine XT.done ?_
     refine XK.inBlock ?_
     refine XK.region rfl ?_
     refine XO.q (Q.add rfl rfl ⟨by omega, by omega⟩) ?_
     refine XO.q (Q.move rfl) (XO.done ?_)
     exact ih1 (i2 + 1, (cl && decide (q.getD i2 default ≤ (h.rooms.getD i2 default).limit))) _ _ ⟨by dsimp only; omega, fun hh j hj => by
      rw [Bool.and_eq_true, decide_eq_true_eq] at hh
      by_cases hji : j < i2
      ·exact hcl hh.1 j hji
      ·obtain rfl : j = i2 := by dsimp only at hj; omega
       exact hh.2⟩ (by first | omega | (dsimp only; omega)) (.c rfl (.c rfl (.base 40 rfl rfl))) inferInstance
    ·skip
     have hin2 : i2 = h.rooms.length := by omega
     subst hin2
     refine XK.exit rfl ?_
     refine XK.seq (XK.seq (XK.region rfl (XO.q (Q.move rfl) (XO.done (XK.block ?_)))))
     refine XK.while (X := Nat × Value × PHeap × List Int × Nat) [12, 28, 32, 33, 34, 35, 165, 166, 167, 168, 169, 170, 171, 172, 173, 174, 175, 176, 177, 178, 179, 180, 181, 182, 183, 184, 185, 186, 187, 188, 189, 190, 191, 192, 193, 194, 195, 196, 197, 198, 199, 200, 201, 202, 203, 204, 205, 206, 207, 208, 209, 210, 211, 212, 213, 214, 215, 216, 217, 218, 219, 220, 221, 222, 223, 224, 225, 226, 227, 228, 229, 230, 231, 232, 233, 234, 235, 236, 237, 238, 239, 240, 241, 242, 243, 244, 245, 246, 247, 248, 249, 250, 251, 252, 253, 254, 255, 256, 257, 258, 259, 260, 261, 262] (fun ⟨s, vn, kn, now, qn⟩ => [(165, some (.int .i64 (s : Nat))), (28, some (vn))]) (fun ⟨s, vn, kn, now, qn⟩ => [blk b144 [v5, .int .i64 ((qn : Nat) : Int)] 38, kn]) (fun ⟨s, vn, kn, now, qn⟩ => s ≤ 100 ∧ qn ≤ s * 20 ∧ OArr vn encI 1 3 kn now ∧ TOk h now ∧ Ht.LeL p now ∧ Ht.LeL now q) (fun ⟨s, vn, kn, now, qn⟩ => 100 - s) (0, vt, kx, xs, 0) [blk b144 [v5, .int .i64 ((0 : Nat) : Int)] 38, kx] rfl ⟨by omega, by omega, OX, tkx, lpx, lxq⟩ (.c rfl (.c rfl (.base 0 rfl rfl))) ?_
     rintro ⟨s, vn, kn, now, qn⟩ ⟨hs, hq, ON2, nk, h1, h2⟩ ih2
     dsimp only [lcA, lnA] at ih2 ⊢
     refine XK.seq (XK.region rfl ?_)
     refine XO.q (Q.lss rfl rfl) ?_
     refine XO.done (XK.seq ?_)
     refine XK.if rfl (fun c4 => ?_) (fun c4 => ?_)
     ·skip
      refine XK.skip (XK.seq (XK.block (XK.seq (XK.region rfl (XO.q (Q.move rfl) ?_)))))
      refine XO.q (Q.assign rfl) (XO.done (XK.seq ?_))
      refine XK.drawn [0, 1, 2, 3, 6, 7, 8, 9, 10] [b13, b15] [] (.q 0 (.q 1 (.q 2 (.q 3 (.br 4 true (.br 5 true (.q 6 (.q 7 (.q 8 (.q 9 (.q 10 .done))))) .stop) .stop))))) Tryz.mixed rfl (by kernel_rfl) ?_
      refine XT.q rfl rfl (Q.ldA [_, _, _, _] rfl rfl rfl) ?_
      refine XT.q rfl rfl (Q.move rfl) ?_
      refine XT.q rfl rfl (Q.ldA [_, _, _, _, _, _] rfl rfl rfl) ?_
      refine XT.q rfl rfl (Q.move rfl) ?_
      refine XT.call rfl rfl Tryz.call17 rfl rfl rfl (betweenT h.rooms.length r2 ca cb wlo whi jlo jhi qa qb lab b144 qn (by omega) v5 h5 x5) (fun v173 s173 R173 => ?_) XT.stop
      obtain ⟨cc, vcc, kcc, rfl, rfl, Occ, lcc, acc, ccb⟩ := R173
      dsimp only [lcA, lnA]
      refine ⟨inferInstance, ?_⟩
      have ckk := (qa.mid qb lcc acc ccb).cok
      refine XT.call rfl rfl Tryz.call16 rfl rfl rfl (Ht.Next_spec h vr vw vb vc kr kw kb kc now vn kn cc vcc kcc) (fun v174 s174 R174 => ?_) XT.stop
      obtain ⟨xn, yn, rfl, rfl, XN⟩ := R174
      dsimp only [lcA, lnA]
      refine ⟨inferInstance, ?_⟩
      have hN : nextG h now cc = (nextL h now cc, 0) := Ht.next_fine mk.ok nk ckk
      rw [hN] at XN ⊢
      dsimp only at XN ⊢
      have lN := Ht.nextL_len h now cc
      obtain ⟨us1, us2, us3⟩ := held_step ok hd qa.cok qb.cok ckk acc ccb nk h1 h2
      refine XT.q rfl rfl (Q.move rfl) ?_
      refine XT.q rfl rfl (Q.extract rfl rfl) ?_
      refine XT.q rfl rfl (Q.extract rfl rfl) ?_
      refine XT.q rfl rfl (Q.assign rfl) ?_
      refine XT.q rfl rfl (Q.assign rfl) ?_
      refine XT.done ?_
      refine XK.seq (XK.seq (XK.region rfl (XO.q (Q.move rfl) ?_)))
      refine XO.q (Q.neq rfl rfl) ?_
      first | rw [decide_eq_false (show ¬ (0 : Int) ≠ (0 : Int) from fun h => h rfl)] | skip
      refine XO.q (Q.move rfl) ?_
      refine XO.q (Quiet.guardF rfl rfl fun g180 p180 => Q.move rfl) ?_
      refine XO.q (Quiet.guardF rfl rfl fun g181 p181 => Q.len (lzv rfl rfl)) ?_
      refine XO.q (Quiet.guardF rfl rfl fun g182 p182 => Q.fieldAddr rfl) ?_
      refine XO.q (Quiet.guardF rfl rfl fun g183 p183 => Q.ld (lzv rfl rfl) rfl) ?_
      refine XO.q (Quiet.guardF rfl rfl fun g184 p184 => Q.len (lzv rfl rfl)) ?_
      refine XO.q (Quiet.guardF rfl rfl fun g185 p185 => Q.neq (lzv rfl rfl) (lzv rfl rfl)) ?_
      rw [lN]
      first | rw [decide_eq_false (show ¬ ((h.rooms.length : Nat) : Int) ≠ ((h.rooms.length : Nat) : Int) from fun h => h rfl)] | skip
      refine XO.q (Q.or rfl (fun hp => lzv hp rfl)) ?_
      refine XO.done ?_
      refine XK.if rfl (fun c5 => ?_) (fun c5 => ?_)
      ·skip
       simp at c5
      ·skip
       refine XK.skip (XK.seq (XK.region rfl (XO.q (Q.move rfl) (XO.q (Q.assign rfl) (XO.done ?_)))))
       refine XK.seq (XK.region rfl (XO.q (Q.move rfl) ?_))
       refine XO.len rfl fun l189 => ?_
       rw [lN]
       refine XO.q (Q.move rfl) (XO.done (XK.block ?_))
       refine XK.while (X := Nat) [12, 35, 190, 191, 192, 193, 194, 195, 196, 197, 198, 199, 200, 201, 202, 203, 204, 205, 206, 207, 208, 209, 210, 211, 212, 213, 214, 215, 216, 217, 218, 219, 220, 221, 222, 223, 224, 225, 226, 227, 228, 229, 230, 231, 232, 233, 234, 235, 236, 237, 238, 239, 240, 241, 242, 243, 244, 245, 246, 247, 248, 249, 250, 251, 252, 253, 254, 255, 256, 257, 258, 259, 260, 261] (fun j => [(190, some (.int .i64 (j : Nat)))]) (fun j => []) (fun j => j ≤ h.rooms.length) (fun j => h.rooms.length - j) (0) [] rfl (by omega) (.c rfl (.base 0 rfl rfl)) ?_
       rintro j hj ih3
       dsimp only [lcA, lnA] at ih3 ⊢
       refine XK.seq (XK.region rfl ?_)
       refine XO.q (Q.lss rfl rfl) ?_
       refine XO.done (XK.seq ?_)
       refine XK.if rfl (fun c6 => ?_) (fun c6 => ?_)
       ·skip
        have aLs := row_atB RL (i := s) (by omega)
        have aHs := row_atB RH (i := s) (by omega)
        obtain ⟨tls, lls, uls⟩ := hil (s + 1)
        obtain ⟨ths, lhs, uhs⟩ := hih (s + 1)
        have lLs := tls.len
        have lHs := ths.len
        have z1 := lls j (by omega)
        have z2 := uhs j (by omega)
        have z3 := us2 j (by omega)
        have z4 := us3 j (by omega)
        change p.getD j default ≤ (Ht.iterT h (fun _ => ca) xs (s + 1)).getD j default at z1
        change (Ht.iterT h (fun _ => cb) ys (s + 1)).getD j default ≤ q.getD j default at z2
        change p.getD j default ≤ (nextL h now cc).getD j default at z3
        change (nextL h now cc).getD j default ≤ q.getD j default at z4
        refine XK.skip (XK.seq (XK.block (XK.seq (XK.region rfl (XO.q (Q.move rfl) ?_)))))
        refine XO.q (Q.assign rfl) (XO.done (XK.seq ?_))
        refine XK.drawn [0, 1, 2, 3, 4, 5, 6, 7, 8, 9, 10, 11, 12, 13, 14, 15, 16, 17, 18, 19, 20, 21, 22, 23, 24, 25, 26, 27, 28, 29, 30, 31, 32, 33, 34, 35, 36, 37, 38, 39, 40, 41, 42, 43, 44, 45, 46, 47, 48, 49, 50, 51, 52, 53, 54, 55, 56, 57, 58, 59, 60, 61, 62, 63, 64, 65, 66, 67] [] [yL, yH, KLo, KHi, kp, kq, yn] (.q 0 (.q 1 (.q 2 (.q 3 (.q 4 (.q 5 (.q 6 (.q 7 (.q 8 (.q 9 (.q 10 (.q 11 (.q 12 (.q 13 (.q 14 (.q 15 (.q 16 (.q 17 (.q 18 (.q 19 (.q 20 (.q 21 (.q 22 (.q 23 (.q 24 (.q 25 (.q 26 (.q 27 (.q 28 (.q 29 (.q 30 (.q 31 (.q 32 (.q 33 (.q 34 (.q 35 (.q 36 (.q 37 (.q 38 (.q 39 (.q 40 (.q 41 (.q 42 (.q 43 (.q 44 (.q 45 (.q 46 (.q 47 (.q 48 (.q 49 (.q 50 (.q 51 (.q 52 (.q 53 (.q 54 (.q 55 (.q 56 (.q 57 (.q 58 (.q 59 (.q 60 (.q 61 (.q 62 (.q 63 (.q 64 (.q 65 (.q 66 (.q 67 .done)))))))))))))))))))))))))))))))))))))))))))))))))))))))))))))))))))) Tryz.mixed rfl (by kernel_rfl) ?_
        refine XT.q rfl rfl (Q.move rfl) ?_
        refine XT.q rfl rfl (Q.move rfl) ?_
        refine XT.ix rfl rfl rfl rfl (by omega) (by omega) fun i195 => ?_
        refine XT.q rfl rfl (Q.ldE rfl (by first | assumption | omega) rfl) ?_
        refine XT.q rfl rfl (Q.len rfl) ?_
        refine XT.q rfl rfl (Q.move rfl) ?_
        refine XT.q rfl rfl (Q.len rfl) ?_
        refine XT.q rfl rfl (Q.neq rfl rfl) ?_
        rw [lLs, lN]
        first | rw [decide_eq_false (show ¬ ((h.rooms.length : Nat) : Int) ≠ ((h.rooms.length : Nat) : Int) from fun h => h rfl)] | skip
        refine XT.q rfl rfl (Q.move rfl) ?_
        refine XT.q rfl rfl (Quiet.guardF rfl rfl fun g202 p202 => Q.move rfl) ?_
        refine XT.q rfl rfl (Quiet.guardF rfl rfl fun g203 p203 => Q.move rfl) ?_
        refine XT.q rfl rfl (Quiet.guardF rfl rfl fun g204 p204 => Q.ix (lzv rfl rfl) (lzv rfl rfl) (by omega) (by omega)) ?_
        refine XT.q rfl rfl (Quiet.guardF rfl rfl fun g205 p205 => Q.ldE (lzv rfl rfl) (by first | assumption | omega) rfl) ?_
        refine XT.q rfl rfl (Quiet.guardF rfl rfl fun g206 p206 => Q.len (lzv rfl rfl)) ?_
        refine XT.q rfl rfl (Quiet.guardF rfl rfl fun g207 p207 => Q.move rfl) ?_
        refine XT.q rfl rfl (Quiet.guardF rfl rfl fun g208 p208 => Q.len (lzv rfl rfl)) ?_
        refine XT.q rfl rfl (Quiet.guardF rfl rfl fun g209 p209 => Q.neq (lzv rfl rfl) (lzv rfl rfl)) ?_
        rw [lHs, lN]
        first | rw [decide_eq_false (show ¬ ((h.rooms.length : Nat) : Int) ≠ ((h.rooms.length : Nat) : Int) from fun h => h rfl)] | skip
        refine XT.q rfl rfl (Q.or rfl (fun hp => lzv hp rfl)) ?_
        refine XT.q rfl rfl (Q.move rfl) ?_
        refine XT.q rfl rfl (Quiet.guardF rfl rfl fun g212 p212 => Q.move rfl) ?_
        refine XT.q rfl rfl (Quiet.guardF rfl rfl fun g213 p213 => Q.move rfl) ?_
        refine XT.q rfl rfl (Quiet.guardF rfl rfl fun g214 p214 => Q.ix (lzv rfl rfl) (lzv rfl rfl) (by omega) (by omega)) ?_
        refine XT.q rfl rfl (Quiet.guardF rfl rfl fun g215 p215 => Q.ldE (lzv rfl rfl) (by first | assumption | omega) rfl) ?_
        refine XT.q rfl rfl (Quiet.guardF rfl rfl fun g216 p216 => Q.move rfl) ?_
        refine XT.q rfl rfl (Quiet.guardF rfl rfl fun g217 p217 => Q.ix (lzv rfl rfl) (lzv rfl rfl) (by omega) (by omega)) ?_
        refine XT.q rfl rfl (Quiet.guardF rfl rfl fun g218 p218 => Q.ldE (lzv rfl rfl) (by first | assumption | omega) rfl) ?_
        refine XT.q rfl rfl (Quiet.guardF rfl rfl fun g219 p219 => Q.move rfl) ?_
        refine XT.q rfl rfl (Quiet.guardF rfl rfl fun g220 p220 => Q.move rfl) ?_
        refine XT.q rfl rfl (Quiet.guardF rfl rfl fun g221 p221 => Q.ix (lzv rfl rfl) (lzv rfl rfl) (by omega) (by omega)) ?_
        refine XT.q rfl rfl (Quiet.guardF rfl rfl fun g222 p222 => Q.ldE (lzv rfl rfl) (by first | assumption | omega) rfl) ?_
        refine XT.q rfl rfl (Quiet.guardF rfl rfl fun g223 p223 => Q.lss (lzv rfl rfl) (lzv rfl rfl)) ?_
        rw [decide_eq_false (show ¬ (Ht.iterT h (fun _ => ca) xs (s + 1)).getD j default < p.getD j default by omega)]
        refine XT.q rfl rfl (Q.or rfl (fun hp => lzv hp rfl)) ?_
        refine XT.q rfl rfl (Q.move rfl) ?_
        refine XT.q rfl rfl (Quiet.guardF rfl rfl fun g226 p226 => Q.move rfl) ?_
        refine XT.q rfl rfl (Quiet.guardF rfl rfl fun g227 p227 => Q.move rfl) ?_
        refine XT.q rfl rfl (Quiet.guardF rfl rfl fun g228 p228 => Q.ix (lzv rfl rfl) (lzv rfl rfl) (by omega) (by omega)) ?_
        refine XT.q rfl rfl (Quiet.guardF rfl rfl fun g229 p229 => Q.ldE (lzv rfl rfl) (by first | assumption | omega) rfl) ?_
        refine XT.q rfl rfl (Quiet.guardF rfl rfl fun g230 p230 => Q.move rfl) ?_
        refine XT.q rfl rfl (Quiet.guardF rfl rfl fun g231 p231 => Q.ix (lzv rfl rfl) (lzv rfl rfl) (by omega) (by omega)) ?_
        refine XT.q rfl rfl (Quiet.guardF rfl rfl fun g232 p232 => Q.ldE (lzv rfl rfl) (by first | assumption | omega) rfl) ?_
        refine XT.q rfl rfl (Quiet.guardF rfl rfl fun g233 p233 => Q.move rfl) ?_
        refine XT.q rfl rfl (Quiet.guardF rfl rfl fun g234 p234 => Q.move rfl) ?_
        refine XT.q rfl rfl (Quiet.guardF rfl rfl fun g235 p235 => Q.ix (lzv rfl rfl) (lzv rfl rfl) (by omega) (by omega)) ?_
        refine XT.q rfl rfl (Quiet.guardF rfl rfl fun g236 p236 => Q.ldE (lzv rfl rfl) (by first | assumption | omega) rfl) ?_
        refine XT.q rfl rfl (Quiet.guardF rfl rfl fun g237 p237 => Q.gtr (lzv rfl rfl) (lzv rfl rfl)) ?_
        rw [decide_eq_false (show ¬ q.getD j default < (Ht.iterT h (fun _ => cb) ys (s + 1)).getD j default by omega)]
        refine XT.q rfl rfl (Q.or rfl (fun hp => lzv hp rfl)) ?_
        refine XT.q rfl rfl (Q.move rfl) ?_
        refine XT.q rfl rfl (Quiet.guardF rfl rfl fun g240 p240 => Q.move rfl) ?_
        refine XT.q rfl rfl (Quiet.guardF rfl rfl fun g241 p241 => Q.move rfl) ?_
        refine XT.q rfl rfl (Quiet.guardF rfl rfl fun g242 p242 => Q.ix (lzv rfl rfl) (lzv rfl rfl) (by omega) (by omega)) ?_
        refine XT.q rfl rfl (Quiet.guardF rfl rfl fun g243 p243 => Q.ldE (lzv rfl rfl) (by first | assumption | omega) rfl) ?_
        refine XT.q rfl rfl (Quiet.guardF rfl rfl fun g244 p244 => Q.move rfl) ?_
        refine XT.q rfl rfl (Quiet.guardF rfl rfl fun g245 p245 => Q.move rfl) ?_
        refine XT.q rfl rfl (Quiet.guardF rfl rfl fun g246 p246 => Q.ix (lzv rfl rfl) (lzv rfl rfl) (by omega) (by omega)) ?_
        refine XT.q rfl rfl (Quiet.guardF rfl rfl fun g247 p247 => Q.ldE (lzv rfl rfl) (by first | assumption | omega) rfl) ?_
        refine XT.q rfl rfl (Quiet.guardF rfl rfl fun g248 p248 => Q.lss (lzv rfl rfl) (lzv rfl rfl)) ?_
        rw [decide_eq_false (show ¬ (nextL h now cc).getD j default < p.getD j default by omega)]
        refine XT.q rfl rfl (Q.or rfl (fun hp => lzv hp rfl)) ?_
        refine XT.q rfl rfl (Q.move rfl) ?_
        refine XT.q rfl rfl (Quiet.guardF rfl rfl fun g251 p251 => Q.move rfl) ?_
        refine XT.q rfl rfl (Quiet.guardF rfl rfl fun g252 p252 => Q.move rfl) ?_
        refine XT.q rfl rfl (Quiet.guardF rfl rfl fun g253 p253 => Q.ix (lzv rfl rfl) (lzv rfl rfl) (by omega) (by omega)) ?_
        refine XT.q rfl rfl (Quiet.guardF rfl rfl fun g254 p254 => Q.ldE (lzv rfl rfl) (by first | assumption | omega) rfl) ?_
        refine XT.q rfl rfl (Quiet.guardF rfl rfl fun g255 p255 => Q.move rfl) ?_
        refine XT.q rfl rfl (Quiet.guardF rfl rfl fun g256 p256 => Q.move rfl) ?_
        refine XT.q rfl rfl (Quiet.guardF rfl rfl fun g257 p257 => Q.ix (lzv rfl rfl) (lzv rfl rfl) (by omega) (by omega)) ?_
        refine XT.q rfl rfl (Quiet.guardF rfl rfl fun g258 p258 => Q.ldE (lzv rfl rfl) (by first | assumption | omega) rfl) ?_
        refine XT.q rfl rfl (Quiet.guardF rfl rfl fun g259 p259 => Q.gtr (lzv rfl rfl) (lzv rfl rfl)) ?_
        rw [decide_eq_false (show ¬ q.getD j default < (nextL h now cc).getD j default by omega)]
        refine XT.q rfl rfl (Q.or rfl (fun hp => lzv hp rfl)) ?_
        refine XT.done ?_
        refine XK.if rfl (fun c7 => ?_) (fun c7 => ?_)
        ·skip
         simp at c7
        ·skip
         refine XK.skip ?_
         refine XK.inBlock ?_
         refine XK.region rfl ?_
         refine XO.q (Q.add rfl rfl ⟨by omega, by omega⟩) ?_
         refine XO.q (Q.move rfl) (XO.done ?_)
         exact ih3 (j + 1) _ _ (by omega) (by first | omega | (dsimp only; omega)) (.c rfl (.base 148 rfl rfl)) inferInstance
       ·skip
        refine XK.exit rfl ?_
        refine XK.inBlock ?_
        refine XK.region rfl ?_
        refine XO.q (Q.add rfl rfl ⟨by omega, by omega⟩) ?_
        refine XO.q (Q.move rfl) (XO.done ?_)
        exact ih2 (s + 1, xn, yn, nextL h now cc, qn + 2 + h.rooms.length) _ _ ⟨by dsimp only; omega, by dsimp only; omega, XN, us1, us2, us3⟩ (by first | omega | (dsimp only; omega)) (.c rfl (.c rfl (.base 213 rfl rfl))) inferInstance
     ·skip
      refine XK.exit rfl ?_
      refine XK.seq (XK.region rfl (XO.q (Q.move rfl) ?_))
      refine XO.q (Q.not rfl) ?_
      refine XO.q (Q.move rfl) ?_
      refine XO.q (Quiet.guardF rfl rfl fun g266 p266 => Q.move rfl) ?_
      refine XO.q (Quiet.guardF rfl rfl fun g267 p267 => Q.eql (lzv g267 rfl) rfl) ?_
      refine XO.q (Q.or rfl (fun hp => lzv hp rfl)) ?_
      rw [show (!cl || decide (rd = 301)) = true by
       cases cl
       ·rfl
       ·rw [decide_eq_true (show rd = 301 from (hrl (hcl rfl)).trans rfl)]; rfl]
      refine XO.q (Q.move rfl) ?_
      refine XO.callS rfl rfl rfl Tryz.call14 rfl (.n) rfl (there_spec) fun v270 s270 R270 => ?_
      obtain ⟨rfl, rfl⟩ := R270
      dsimp only [lcA, lnA]
      refine XO.q (Q.and rfl (fun _ => rfl)) ?_
      refine XO.q (Q.assign rfl) (XO.done ?_)
      refine XK.rt [] Tryz.func4 Tryz.results4 (.t rfl .n) ?_
      exact ⟨by simp, rfl⟩
end Go.X
