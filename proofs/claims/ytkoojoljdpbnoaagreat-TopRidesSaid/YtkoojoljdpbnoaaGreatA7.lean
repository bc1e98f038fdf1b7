/- A part of the proof: a small program logic, plain laws and contracts of functions, each proved by a walk through its operations. No condition but those that stand in each theorem. -/
import Derived.Test.YtkoojoljdpbnoaaGreatA6
set_option linter.unusedSimpArgs false
set_option linter.unusedVariables false
set_option maxRecDepth 20000
namespace Go.X.Ht
open Go.Proofs
theorem Bounds_spec (h : Hall) (vr vw vb vc : Value) (hr hw hb hc : PHeap) [ir : Arr vr encRoom 2 hr h.rooms] [iw : Arr vw encWall 3 hw h.walls] [ib : Arr vb encBranch 3 hb h.branches] [ic : Arr vc encCooler 5 hc h.coolers] (a d : HCase) (va vd : Value) (ha hd : PHeap) [ia : Arr va encI 1 ha a.load] [id : Arr vd encI 1 hd d.load] (lo hi : List Int) (vlo vhi : Value) (hlo hhi : PHeap) [ilo : Arr vlo encI 1 hlo lo] [ihi : Arr vhi encI 1 hhi hi] (m : Int) : Spec Tryz.prog 22 #[.agg #[vr, vw, vb, vc], vlo, vhi, .agg #[va, .int .i64 a.out, .int .i64 a.pump, vd, .int .i64 d.out, .int .i64 d.pump], .int .i64 m] [] [hr, hw, hb, hc, ha, hd, hlo, hhi]
  (fun v hs => ∃ v1 v2 k1 k2 K1 K2 us ws, v = .tuple #[v1, v2, .int .i64 (boundsG h lo hi a d m).2.2] ∧ hs = [k1, k2, K1, K2] ∧ OArr v1 encV 1 29 k1 us ∧ OArr v2 encV 1 29 k2 ws ∧ Rows us K1 (boundsG h lo hi a d m).1 ∧ Rows ws K2 (boundsG h lo hi a d m).2.1) := by
 have hnil : OArr (.slice none 0 0) encV 1 29 emp ([] : List Value) := OArr.nil (fun _ => rfl)
 refine Spec.intro (fn := Tryz.f22) (N := 59) Tryz.func22 rfl Tryz.ntmps22 rfl fun B => ?_
 refine XK.seq (XK.region rfl ?_)
 refine XO.box rfl fun b5 => ?_
 refine XO.box rfl fun b8 => ?_
 refine XO.q (Q.assign rfl) (XO.q (Q.assign rfl) (XO.q (Q.assign rfl) (XO.done (XK.seq (XK.seq ?_)))))
 refine XK.region rfl ?_
 refine XO.q (Q.ldA [_, _, _, _] rfl rfl rfl) ?_
 refine XO.q (Q.move rfl) (XO.q (Q.move rfl) ?_)
 refine XO.q (Q.ldA [_, _, _, _, _, _] rfl rfl rfl) ?_
 refine XO.call Tryz.call60 rfl rfl rfl (boxed_spec h vr vw vb vc hr hw hb hc a d va vd ha hd lo hi vlo vhi hlo hhi) fun v24 s24 R24 => ?_
 obtain ⟨rfl, rfl⟩ := R24
 dsimp only [lcA, lnA]
 refine XO.q (Q.assign rfl) (XO.done (XK.seq (XK.region rfl (XO.q (Q.move rfl) ?_))))
 refine XO.q (Q.neq rfl rfl) ?_
 refine XO.done ?_
 refine XK.if rfl (fun c0 => ?_) (fun c0 => ?_)
 ·skip
  refine XK.seq (XK.region rfl (XO.q (Q.move rfl) (XO.q (Q.assign rfl) (XO.q (Q.assign rfl) (XO.q (Q.assign rfl) ?_)))))
  refine XO.done ?_
  refine XK.rt [emp, emp, emp, emp] Tryz.func22 Tryz.results22 (.t rfl (.t rfl (.t rfl .n))) ?_
  have hw0 : boundsG h lo hi a d m = ([], [], boxedG h lo hi a d) := by rw [boundsG, if_pos c0]
  rw [hw0]
  exact ⟨.slice none 0 0, .slice none 0 0, emp, emp, emp, emp, [], [], rfl, rfl, OArr.nil (fun _ => rfl), OArr.nil (fun _ => rfl), ⟨rfl, fun i hi => absurd hi (Nat.not_lt_zero i)⟩, rfl, fun i hi => absurd hi (Nat.not_lt_zero i)⟩
 ·skip
  obtain ⟨ok0, oka, okd, oklo, okhi, _, _⟩ := boxed_ok (Decidable.of_not_not c0)
  refine XK.skip (XK.seq (XK.seq (XK.region rfl (XO.q (Q.move rfl) ?_))))
  refine XO.call Tryz.call61 rfl rfl rfl (in_spec _ _) fun v29 s29 R29 => ?_
  obtain ⟨rfl, rfl⟩ := R29
  dsimp only [lcA, lnA]
  refine XO.q (Q.not rfl) ?_
  refine XO.done ?_
  refine XK.if rfl (fun c1 => ?_) (fun c1 => ?_)
  ·skip
   refine XK.seq (XK.region rfl (XO.q (Q.assign rfl) (XO.q (Q.assign rfl) (XO.q (Q.assign rfl) (XO.done ?_)))))
   refine XK.rt [emp, emp, emp, emp] Tryz.func22 Tryz.results22 (.t rfl (.t rfl (.t rfl .n))) ?_
   have hw0 : boundsG h lo hi a d m = ([], [], 2) := by rw [boundsG, if_neg c0, if_pos c1]
   rw [hw0]
   exact ⟨.slice none 0 0, .slice none 0 0, emp, emp, emp, emp, [], [], rfl, rfl, OArr.nil (fun _ => rfl), OArr.nil (fun _ => rfl), ⟨rfl, fun i hi => absurd hi (Nat.not_lt_zero i)⟩, rfl, fun i hi => absurd hi (Nat.not_lt_zero i)⟩
  ·skip
   obtain ⟨hm0, hm1⟩ := inP_le (Decidable.of_not_not c1)
   obtain ⟨N, eN⟩ : ∃ N : Nat, m = N := ⟨m.toNat, by omega⟩
   subst eN
   refine XK.skip (XK.seq (XK.region rfl ?_))
   refine XO.alloc fun b14 => ?_
   refine XO.alloc fun b15 => ?_
   refine XO.done (XK.seq (XK.seq ?_))
   refine XK.drawn [0, 1, 2, 3, 4] [b5, b8] [] (.q 0 (.q 1 (.q 2 (.q 3 (.q 4 (.br 5 true (.br 6 true .done .stop) .stop)))))) Tryz.mixed rfl (by kernel_rfl) ?_
   refine XT.q rfl rfl (Q.ldA [_, _, _, _] rfl rfl rfl) ?_
   refine XT.q rfl rfl (Q.move rfl) ?_
   refine XT.q rfl rfl (Q.move rfl) ?_
   refine XT.q rfl rfl (Q.fieldAddr rfl) ?_
   refine XT.q rfl rfl (Q.ldA [_, _, _] rfl rfl rfl) ?_
   refine XT.call rfl rfl Tryz.call63 rfl rfl rfl (always_spec a va) (fun v36 s36 R36 => ?_) XT.stop
   obtain ⟨bC36, rfl, oneF36, ofC36⟩ := R36
   dsimp only [lcA, lnA]
   refine ⟨inferInstance, ?_⟩
   refine XT.call rfl rfl Tryz.call62 rfl rfl rfl (seconds_spec h vr vw vb vc hr hw hb hc (hcheck_ok ok0) (fun _ => a) N (by omega) lo vlo hlo oklo (fun _ _ => oka) (fun _ => va) ha (fun _ _ => inferInstance) v36 (blk bC36 [va, .int .i64 a.out, .int .i64 a.pump] 31) (blk bC36 [va, .int .i64 a.out, .int .i64 a.pump] 31) (ofC36 N).two) (fun v37 s37 R37 => ?_) XT.stop
   obtain ⟨k371, k372, k373, k374, rfl, hit37⟩ := R37
   dsimp only [lcA, lnA]
   refine ⟨inferInstance, ?_⟩
   refine XT.done ?_
   refine XK.block ?_
   refine XK.rangeK (X := Value × PHeap × List Value) (ps := [38, 39]) (fun ⟨vo, ko, us⟩ => [blk b14 [vo] 66, ko]) (fun i ⟨vo, ko, us⟩ K0 => OArr vo encV 1 29 ko us ∧ RowsTo us K0 h (fun _ => a) lo i) (fun j0 ⟨vo, ko, us⟩ K0 => False) (.slice none 0 0, emp, []) [blk b14 [.slice none 0 0] 66, emp] rfl (hit37) rfl (fun i x K K' hle hI => ⟨hI.1, hI.2.mono hle⟩) (⟨hnil, RowsTo.nil⟩) rfl (fun i K vs hY => by obtain ⟨sl, rfl, _⟩ := hY; rfl) ?_ ?_ (fun _ _ _ hJ => hJ.elim)
   ·rintro lq rec B' i ⟨vo, ko, us⟩ K0 vs hi ⟨v39, rfl, av39⟩ ⟨OO0, rT0⟩
    dsimp only [lcA, lnA]
    have hul := rT0.1
    refine XK.region rfl (XO.q (Q.assign rfl) (XO.done ?_))
    refine XK.beginRound ?_
    refine XK.block (XK.region rfl ?_)
    refine XO.q (Q.ld rfl rfl) ?_
    refine XO.q (Q.move rfl) ?_
    refine XO.lit [_] [_] [v39] encV (by rfl) (by rfl) rfl (by rfl) (by exact .c 0 1 rfl rfl rfl (.n _)) (fun _ => rfl) (by rfl) rfl (by infer_instance) rfl fun v42 h42 O42 => ?_
    refine XO.append rfl rfl rfl rfl (by simp only [List.length_cons, List.length_nil]; omega) fun v43 h43 O43 => ?_
    refine XO.st rfl rfl rfl ?_
    refine XO.done ?_
    refine XK.inBlock ?_
    exact XK.leave (j := none) [blk b14 [v43] 66, h43] trivial ⟨(v43, h43, us ++ [v39]), ⟨O43, rT0.snoc av39⟩, rfl⟩
   ·rintro ⟨vo, ko, us⟩ K0 ⟨OO0, rT0⟩
    dsimp only [lcA, lnA]
    refine XK.inBlock ?_
    refine XK.seq (XK.seq ?_)
    refine XK.drawn [0, 1, 2, 3, 4] [b5, b8] [] (.q 0 (.q 1 (.q 2 (.q 3 (.q 4 (.br 5 true (.br 6 true .done .stop) .stop)))))) Tryz.mixed rfl (by kernel_rfl) ?_
    refine XT.q rfl rfl (Q.ldA [_, _, _, _] rfl rfl rfl) ?_
    refine XT.q rfl rfl (Q.move rfl) ?_
    refine XT.q rfl rfl (Q.move rfl) ?_
    refine XT.q rfl rfl (Q.fieldAddr rfl) ?_
    refine XT.q rfl rfl (Q.ldA [_, _, _] rfl rfl rfl) ?_
    refine XT.call rfl rfl Tryz.call63 rfl rfl rfl (always_spec d vd) (fun v49 s49 R49 => ?_) XT.stop
    obtain ⟨bC49, rfl, oneF49, ofC49⟩ := R49
    dsimp only [lcA, lnA]
    refine ⟨inferInstance, ?_⟩
    refine XT.call rfl rfl Tryz.call62 rfl rfl rfl (seconds_spec h vr vw vb vc hr hw hb hc (hcheck_ok ok0) (fun _ => d) N (by omega) hi vhi hhi okhi (fun _ _ => okd) (fun _ => vd) hd (fun _ _ => inferInstance) v49 (blk bC49 [vd, .int .i64 d.out, .int .i64 d.pump] 31) (blk bC49 [vd, .int .i64 d.out, .int .i64 d.pump] 31) (ofC49 N).two) (fun v50 s50 R50 => ?_) XT.stop
    obtain ⟨k501, k502, k503, k504, rfl, hit50⟩ := R50
    dsimp only [lcA, lnA]
    refine ⟨inferInstance, ?_⟩
    refine XT.done ?_
    refine XK.block ?_
    refine XK.rangeK (X := Value × PHeap × List Value) (ps := [51, 52]) (fun ⟨wo, jo, ws⟩ => [blk b15 [wo] 66, jo]) (fun i ⟨wo, jo, ws⟩ K1 => OArr wo encV 1 29 jo ws ∧ RowsTo ws K1 h (fun _ => d) hi i) (fun j1 ⟨wo, jo, ws⟩ K1 => False) (.slice none 0 0, emp, []) [blk b15 [.slice none 0 0] 66, emp] rfl (hit50) rfl (fun i x K K' hle hI => ⟨hI.1, hI.2.mono hle⟩) (⟨hnil, RowsTo.nil⟩) rfl (fun i K vs hY => by obtain ⟨sl, rfl, _⟩ := hY; rfl) ?_ ?_ (fun _ _ _ hJ => hJ.elim)
    ·rintro lq rec B' i ⟨wo, jo, ws⟩ K1 vs hi ⟨v52, rfl, av52⟩ ⟨OO1, rT1⟩
     dsimp only [lcA, lnA]
     have hul := rT1.1
     refine XK.region rfl (XO.q (Q.assign rfl) (XO.done ?_))
     refine XK.beginRound ?_
     refine XK.block (XK.region rfl ?_)
     refine XO.q (Q.ld rfl rfl) ?_
     refine XO.q (Q.move rfl) ?_
     refine XO.lit [_] [_] [v52] encV (by rfl) (by rfl) rfl (by rfl) (by exact .c 0 1 rfl rfl rfl (.n _)) (fun _ => rfl) (by rfl) rfl (by infer_instance) rfl fun v55 h55 O55 => ?_
     refine XO.append rfl rfl rfl rfl (by simp only [List.length_cons, List.length_nil]; omega) fun v56 h56 O56 => ?_
     refine XO.st rfl rfl rfl ?_
     refine XO.done ?_
     refine XK.inBlock ?_
     exact XK.leave (j := none) [blk b15 [v56] 66, h56] trivial ⟨(v56, h56, ws ++ [v52]), ⟨O56, rT1.snoc av52⟩, rfl⟩
    ·rintro ⟨wo, jo, ws⟩ K1 ⟨OO1, rT1⟩
     dsimp only [lcA, lnA]
     refine XK.inBlock ?_
     refine XK.seq ?_
     refine XK.drawn [0, 1, 2, 3, 4] [b14, b15] [] (.q 0 (.q 1 (.q 2 (.q 3 (.q 4 .done))))) Tryz.mixed rfl (by kernel_rfl) ?_
     refine XT.q rfl rfl (Q.ld rfl rfl) ?_
     refine XT.q rfl rfl (Q.ld rfl rfl) ?_
     refine XT.q rfl rfl (Q.assign rfl) ?_
     refine XT.q rfl rfl (Q.assign rfl) ?_
     refine XT.q rfl rfl (Q.assign rfl) ?_
     refine XT.done ?_
     refine XK.rt [ko, jo, K0, K1] Tryz.func22 Tryz.results22 (.t rfl (.t rfl (.t rfl .n))) ?_
     have hw0 : boundsG h lo hi a d N = (rowsL h (fun _ => a) lo N, rowsL h (fun _ => d) hi N, 0) := by rw [boundsG, if_neg c0, if_neg c1, Int.toNat_natCast]
     rw [hw0]
     exact ⟨vo, wo, ko, jo, K0, K1, us, ws, rfl, rfl, OO0, OO1, rT0.rows, rT1.rows⟩
theorem Ride_spec (h : Hall) (vr vw vb vc : Value) (hr hw hb hc : PHeap) [ir : Arr vr encRoom 2 hr h.rooms] [iw : Arr vw encWall 3 hw h.walls] [ib : Arr vb encBranch 3 hb h.branches] [ic : Arr vc encCooler 5 hc h.coolers] (t : List Int) (vt : Value) (ht : PHeap) [it : Arr vt encI 1 ht t] (a d : HCase) (va vd : Value) (ha hd : PHeap) [ia : Arr va encI 1 ha a.load] [id : Arr vd encI 1 hd d.load] (m : Int) : Spec Tryz.prog 23 #[.agg #[vr, vw, vb, vc], vt, .agg #[va, .int .i64 a.out, .int .i64 a.pump, vd, .int .i64 d.out, .int .i64 d.pump], .int .i64 m] [] [hr, hw, hb, hc, ht, ha, hd]
  (fun v hs => v = .tuple #[.int .i64 (rideG h t a d m).1, .int .i64 (rideG h t a d m).2.1, .int .i64 (rideG h t a d m).2.2] ∧ hs = []) := by
 refine Spec.intro (fn := Tryz.f23) (N := 56) Tryz.func23 rfl Tryz.ntmps23 rfl fun B => ?_
 refine XK.seq (XK.region rfl ?_)
 refine XO.box rfl fun b4 => ?_
 refine XO.box rfl fun b6 => ?_
 refine XO.alloc fun b8 => ?_
 refine XO.alloc fun b9 => ?_
 refine XO.alloc fun b10 => ?_
 refine XO.done (XK.seq (XK.seq (XK.region rfl ?_)))
 refine XO.q (Q.ldA [_, _, _, _] rfl rfl rfl) ?_
 refine XO.q (Q.ldA [_, _, _, _, _, _] rfl rfl rfl) ?_
 refine XO.call Tryz.call64 rfl rfl rfl (Classed_spec h vr vw vb vc hr hw hb hc a d va vd ha hd [] (.slice none 0 0) hr hr (il := Arr.nil (fun _ => rfl)) (by simp) (fun i hi => absurd hi (Nat.not_lt_zero i))) fun v19 s19 R19 => ?_
 obtain ⟨rfl, rfl⟩ := R19
 dsimp only [lcA, lnA]
 rw [List.map_nil]
 refine XO.q (Q.assign rfl) (XO.done (XK.seq (XK.region rfl (XO.q (Q.move rfl) ?_))))
 refine XO.q (Q.neq rfl rfl) ?_
 refine XO.done ?_
 refine XK.if rfl (fun c0 => ?_) (fun c0 => ?_)
 ·skip
  refine XK.seq (XK.region rfl (XO.q (Q.move rfl) ?_))
  refine XO.st rfl rfl rfl ?_
  refine XO.st rfl rfl rfl ?_
  refine XO.st rfl rfl rfl ?_
  refine XO.done ?_
  refine XK.rt [] Tryz.func23 Tryz.results23 (.cell1 rfl rfl (.cell1 rfl rfl (.cell1 rfl rfl (.n)))) ?_
  exact ⟨by rw [rideG, if_pos c0], rfl⟩
 ·skip
  refine XK.skip (XK.seq (XK.seq (XK.region rfl ?_)))
  refine XO.q (Q.ldA [_, _, _, _] rfl rfl rfl) ?_
  refine XO.q (Q.move rfl) ?_
  refine XO.call Tryz.call51 rfl rfl rfl (warm_spec h vr vw vb vc hr vt ht t) fun v25 s25 R25 => ?_
  obtain ⟨rfl, rfl⟩ := R25
  dsimp only [lcA, lnA]
  refine XO.q (Q.assign rfl) (XO.done (XK.seq (XK.region rfl (XO.q (Q.move rfl) ?_))))
  refine XO.q (Q.neq rfl rfl) ?_
  refine XO.done ?_
  refine XK.if rfl (fun c1 => ?_) (fun c1 => ?_)
  ·skip
   refine XK.seq (XK.region rfl (XO.q (Q.move rfl) ?_))
   refine XO.st rfl rfl rfl ?_
   refine XO.st rfl rfl rfl ?_
   refine XO.st rfl rfl rfl ?_
   refine XO.done ?_
   refine XK.rt [] Tryz.func23 Tryz.results23 (.cell1 rfl rfl (.cell1 rfl rfl (.cell1 rfl rfl (.n)))) ?_
   exact ⟨by rw [rideG, if_neg c0, if_pos c1], rfl⟩
  ·skip
   obtain ⟨ok0, oka, okd, _, _⟩ := classed_ok (Decidable.of_not_not c0)
   have okt : TOk h t := warm_ok (Decidable.of_not_not c1)
   refine XK.skip (XK.seq (XK.seq (XK.region rfl (XO.q (Q.move rfl) ?_))))
   refine XO.call Tryz.call61 rfl rfl rfl (in_spec _ _) fun v30 s30 R30 => ?_
   obtain ⟨rfl, rfl⟩ := R30
   dsimp only [lcA, lnA]
   refine XO.q (Q.not rfl) ?_
   refine XO.done ?_
   refine XK.if rfl (fun c2 => ?_) (fun c2 => ?_)
   ·skip
    refine XK.seq (XK.region rfl ?_)
    refine XO.st rfl rfl rfl ?_
    refine XO.st rfl rfl rfl ?_
    refine XO.st rfl rfl rfl ?_
    refine XO.done ?_
    refine XK.rt [] Tryz.func23 Tryz.results23 (.cell1 rfl rfl (.cell1 rfl rfl (.cell1 rfl rfl (.n)))) ?_
    exact ⟨by rw [rideG, if_neg c0, if_neg c1, if_pos c2], rfl⟩
   ·skip
    obtain ⟨hm0, hm1⟩ := inP_le (Decidable.of_not_not c2)
    obtain ⟨N, eN⟩ : ∃ N : Nat, m = N := ⟨m.toNat, by omega⟩
    subst eN
    have hw0 : rideG h t a d N = ((rideL h d N 0 t).1, (rideL h d N 0 t).2, 0) := by rw [rideG, if_neg c0, if_neg c1, if_neg c2, Int.toNat_natCast]
    rw [hw0]
    dsimp only
    refine XK.skip (XK.seq (XK.seq (XK.region rfl ?_)))
    refine XO.q (Q.ldA [_, _, _, _] rfl rfl rfl) ?_
    refine XO.q (Q.move rfl) ?_
    refine XO.call Tryz.call65 rfl rfl rfl (hot_spec h vr vw vb vc hr hw hb hc t vt ht (by rw [okt.len]; exact Nat.le_refl _)) fun v34 s34 R34 => ?_
    obtain ⟨rfl, rfl⟩ := R34
    dsimp only [lcA, lnA]
    refine XO.q (Q.assign rfl) (XO.done (XK.seq (XK.region rfl (XO.q (Q.move rfl) ?_))))
    refine XO.q (Q.geq rfl rfl) ?_
    refine XO.done ?_
    refine XK.if rfl (fun c3 => ?_) (fun c3 => ?_)
    ·skip
     refine XK.seq (XK.region rfl (XO.q (Q.move rfl) ?_))
     refine XO.st rfl rfl rfl ?_
     refine XO.st rfl rfl rfl ?_
     refine XO.st rfl rfl rfl ?_
     refine XO.done ?_
     refine XK.rt [] Tryz.func23 Tryz.results23 (.cell1 rfl rfl (.cell1 rfl rfl (.cell1 rfl rfl (.n)))) ?_
     exact ⟨by rw [rideL_hot c3]; rfl, rfl⟩
    ·skip
     refine XK.skip (XK.seq (XK.seq ?_))
     refine XK.drawn [0, 1, 2, 3, 4] [b4, b6] [] (.q 0 (.q 1 (.q 2 (.q 3 (.q 4 (.br 5 true (.br 6 true .done .stop) .stop)))))) Tryz.mixed rfl (by kernel_rfl) ?_
     refine XT.q rfl rfl (Q.ldA [_, _, _, _] rfl rfl rfl) ?_
     refine XT.q rfl rfl (Q.move rfl) ?_
     refine XT.q rfl rfl (Q.move rfl) ?_
     refine XT.q rfl rfl (Q.fieldAddr rfl) ?_
     refine XT.q rfl rfl (Q.ldA [_, _, _] rfl rfl rfl) ?_
     refine XT.call rfl rfl Tryz.call63 rfl rfl rfl (always_spec d vd) (fun v43 s43 R43 => ?_) XT.stop
     obtain ⟨bC43, rfl, oneF43, ofC43⟩ := R43
     dsimp only [lcA, lnA]
     refine ⟨inferInstance, ?_⟩
     refine XT.call rfl rfl Tryz.call62 rfl rfl rfl (seconds_spec h vr vw vb vc hr hw hb hc (hcheck_ok ok0) (fun _ => d) N (by omega) t vt ht okt (fun _ _ => okd) (fun _ => vd) hd (fun _ _ => inferInstance) v43 (blk bC43 [vd, .int .i64 d.out, .int .i64 d.pump] 31) (blk bC43 [vd, .int .i64 d.out, .int .i64 d.pump] 31) (ofC43 N).two) (fun v44 s44 R44 => ?_) XT.stop
     obtain ⟨k441, k442, k443, k444, rfl, hit44⟩ := R44
     dsimp only [lcA, lnA]
     refine ⟨inferInstance, ?_⟩
     refine XT.done ?_
     refine XK.block ?_
     refine XK.rangeK (X := Value × Value × Value) (ps := [45, 46]) (fun ⟨v8, v9, v10⟩ => [blk b8 [v8] 3, blk b9 [v9] 3, blk b10 [v10] 49]) (fun i ⟨v8, v9, v10⟩ K0 => rideL h d N 0 t = rideL h d (N - i) i (iterT h (fun _ => d) t i) ∧ ¬ 0 ≤ hotP h (iterT h (fun _ => d) t i)) (fun j0 ⟨v8, v9, v10⟩ K0 => j0 = Code.ret ∧ v8 = .int .i64 (rideL h d N 0 t).1 ∧ v9 = .int .i64 (rideL h d N 0 t).2 ∧ v10 = .int .i64 0) (.int .i64 0, .int .i64 0, .int .i64 0) [blk b8 [.int .i64 0] 3, blk b9 [.int .i64 0] 3, blk b10 [.int .i64 0] 49] rfl (hit44) rfl (fun i x K K' hle hI => hI) (⟨rfl, c3⟩) rfl (fun i K vs hY => by obtain ⟨sl, rfl, _⟩ := hY; rfl) ?_ ?_ ?_
     ·rintro lq rec B' i ⟨v8, v9, v10⟩ K0 vs hi ⟨v46, rfl, a46⟩ ⟨hrd, hnh⟩
      dsimp only [lcA, lnA]
      have hst : rideL h d N 0 t = rideL h d (N - (i + 1)) (i + 1) (iterT h (fun _ => d) t (i + 1)) := by rw [hrd, show N - i = (N - (i + 1)) + 1 by omega, rideL_go hnh]; rfl
      refine XK.seq (XK.region rfl (XO.q (Q.assign rfl) (XO.done (XK.region rfl (XO.q (Q.assign rfl) ?_)))))
      refine XO.done ?_
      refine XK.beginRound ?_
      refine XK.block (XK.seq (XK.region rfl ?_))
      refine XO.q (Q.ldA [_, _, _, _] rfl rfl rfl) ?_
      refine XO.q (Q.move rfl) ?_
      refine XO.call Tryz.call65 rfl rfl rfl (hot_spec h vr vw vb vc hr hw hb hc (iterT h (fun _ => d) t (i + 1)) v46 K0 (by rw [iter_len okt.len]; exact Nat.le_refl _)) fun v49 s49 R49 => ?_
      obtain ⟨rfl, rfl⟩ := R49
      dsimp only [lcA, lnA]
      refine XO.q (Q.assign rfl) (XO.done (XK.seq (XK.region rfl (XO.q (Q.move rfl) ?_))))
      refine XO.q (Q.geq rfl rfl) ?_
      refine XO.done ?_
      refine XK.if rfl (fun c4 => ?_) (fun c4 => ?_)
      ·skip
       refine XK.seq (XK.region rfl (XO.q (Q.move rfl) (XO.q (Q.move rfl) ?_)))
       refine XO.st rfl rfl rfl ?_
       refine XO.st rfl rfl rfl ?_
       refine XO.st rfl rfl rfl ?_
       refine XO.done ?_
       have hh : rideL h d N 0 t = (((i + 1 : Nat) : Int), hotP h (iterT h (fun _ => d) t (i + 1))) := by rw [hst, rideL_hot c4]
       exact XK.leave (j := some .ret) [blk b8 [.int .i64 ((i : Int) + 1)] 3, blk b9 [.int .i64 (hotP h (iterT h (fun _ => d) t (i + 1)))] 3, blk b10 [.int .i64 0] 49] trivial ⟨(.int .i64 ((i : Int) + 1), .int .i64 (hotP h (iterT h (fun _ => d) t (i + 1))), .int .i64 0), ⟨rfl, ⟨by rw [hh]; rfl, by rw [hh], rfl⟩⟩, rfl⟩
      ·skip
       refine XK.skip ?_
       refine XK.inBlock ?_
       exact XK.leave (j := none) [blk b8 [v8] 3, blk b9 [v9] 3, blk b10 [v10] 49] trivial ⟨(v8, v9, v10), ⟨hst, c4⟩, rfl⟩
     ·rintro ⟨v8, v9, v10⟩ K0 ⟨hrd, hnh⟩
      dsimp only [lcA, lnA]
      refine XK.inBlock ?_
      refine XK.seq (XK.region rfl (XO.q (Q.move rfl) ?_))
      refine XO.q (Q.add rfl rfl ⟨by omega, by omega⟩) ?_
      refine XO.st rfl rfl rfl ?_
      refine XO.st rfl rfl rfl ?_
      refine XO.st rfl rfl rfl ?_
      refine XO.done ?_
      refine XK.rt [] Tryz.func23 Tryz.results23 (.cell1 rfl rfl (.cell1 rfl rfl (.cell1 rfl rfl (.n)))) ?_
      exact ⟨by rw [hrd, Nat.sub_self, rideL_end hnh], rfl⟩
     ·rintro _ ⟨v8, v9, v10⟩ K0 ⟨rfl, ⟨rfl, rfl, rfl⟩⟩
      dsimp only [lcA, lnA]
      refine XK.rt [] Tryz.func23 Tryz.results23 (.cell1 rfl rfl (.cell1 rfl rfl (.cell1 rfl rfl (.n)))) ?_
      exact ⟨rfl, rfl⟩
theorem mul64_one (n : Nat) (h : n ≤ 4294967295) : Spec Tryz.prog 199 #[.int .u64 1, .int .u64 (n : Nat)] [] [] (fun v hs => v = .tuple #[.int .u64 0, .int .u64 (n : Nat)] ∧ hs = []) := by apply Go.X.Ke.mul64_one <;> assumption
theorem mul_one' (n : Nat) (h : n ≤ 4294967295) : Spec Tryz.prog 160 #[.int .u64 1, .int .u64 (n : Nat)] [] [] (fun v hs => v = .tuple #[.int .u64 0, .int .u64 (n : Nat)] ∧ hs = []) := by apply Go.X.Ke.mul_one' <;> assumption
end Go.X.Ht

set_option linter.unusedSimpArgs false
set_option linter.unusedVariables false
set_option maxRecDepth 20000
namespace Go.X.Bk
open Go.Proofs
/-- What lists yields. -/
def ListY (items : List (List Int)) (i : Nat) (K : PHeap) (vs : List Value) : Prop := ∃ sl, vs = [sl] ∧ Arr sl encI 1 K (items.getD i default)
theorem lists1 (b : BBank) (vb vg : Value) (hb hg : PHeap) [ib : Arr vb encBat 4 hb b.bats] [ig : Arr vg encGen 5 hg b.gens] (ok : BOk b) (most : Int) (hm0 : 0 ≤ most) (hm1 : most ≤ 9223372036854775807) (b1 b2 : Nat) (f : Value) (Hr : List PHeap) (Qc : Nat → PHeap → PHeap → Prop) (Xc : PHeap → PHeap → Prop)
  (mono : ∀ i K K' q, leH K K' → Qc i K q → Qc i K' q)
  (round : ∀ i, i < (listsP b most).length → ∀ K vs q, ListY (listsP b most) i K vs → Qc i K q → VSpec Tryz.prog f vs [q] (K :: Hr) (fun v hs => ∃ b q', v = .bool b ∧ hs = [q'] ∧ (b = true → Qc (i + 1) K q') ∧ (b = false → Xc K q')))
  (q : PHeap) (hQ : Qc 0 emp q) : Spec Tryz.prog 184 #[f, ptr b1 0, ptr b2 0] [q, blk b1 [vb, vg] 96, blk b2 [.int .i64 most] 3] (hg :: Hr) (fun _ hs => ∃ q' K, hs = [q', K] ∧ (Qc (listsP b most).length K q' ∨ Xc K q')) := by
 have lg := ig.le
 have n6 := ok.ng
 have hne := listsP_ne ok hm0
 have hfirst := lists_first ok hm0
 have htl : (triesP b).length = b.gens.length := by simp [triesP]
 refine Spec.intro (fn := Tryz.f184) (N := 56) Tryz.func184 rfl Tryz.ntmps184 rfl fun B => ?_
 refine XK.scope ?_
 refine XK.seq (XK.region rfl ?_)
 refine XO.q (Q.fieldAddr rfl) ?_
 refine XO.q (Q.ld rfl rfl) ?_
 refine XO.len rfl fun l9 => ?_
 refine XO.make encI (0) rfl rfl rfl (by omega) (by omega) (fun _ => rfl) rfl rfl rfl (by dsimp only [encI]; infer_instance) fun v10 h10 O10 => ?_
 refine XO.q (Q.assign rfl) (XO.done (XK.seq (XK.region rfl ?_)))
 refine XO.q (Q.ld rfl rfl) ?_
 refine XO.q (Q.assign rfl) (XO.done (XK.seq ?_))
 refine XK.label ?_
 refine XK.block ?_
 refine XK.while (X := Nat × PHeap × PHeap × PHeap) [5, 6, 12, 13, 14, 15, 16, 17, 18, 19, 20, 21, 22, 23, 24, 25, 26, 27, 28, 29, 30, 31, 32, 33, 34, 35, 36, 37, 38, 39, 40, 41, 42, 43, 44, 45, 46, 47, 48, 49, 50, 51, 52, 53, 54, 55] (fun ⟨k, kn, K, q1⟩ => [(5, some (.int .i64 (leftK most (listsP b most) k)))]) (fun ⟨k, kn, K, q1⟩ => [q1, kn, K, blk b1 [vb, vg] 96, blk b2 [.int .i64 most] 3]) (fun ⟨k, kn, K, q1⟩ => k < (listsP b most).length ∧ OArr v10 encI 1 3 kn ((listsP b most).getD k default) ∧ Qc k K q1) (fun ⟨k, kn, K, q1⟩ => (listsP b most).length - k) (0, h10, emp, q) [q, h10, emp, blk b1 [vb, vg] 96, blk b2 [.int .i64 most] 3] rfl ⟨hne, by rw [hfirst]; exact O10, hQ⟩ (.c rfl (.base 0 rfl rfl)) ?_
 rintro ⟨k, kn, K, q1⟩ ⟨hk, ON, hq⟩ ih0
 dsimp only [lcA, lnA] at ih0 ⊢
 have fk := (lists_in ok hm0 hk).1
 have fs := (lists_in ok hm0 hk).2
 have fl := fk.n
 rw [leftK_eq ok hm0]
 refine XK.block (XK.seq (XK.seq (XK.region rfl (XO.q (Q.move rfl) (XO.q (Q.move rfl) ?_)))))
 refine XO.call Tryz.call59 rfl rfl rfl (cloneI v10 kn ((listsP b most).getD k default) (by omega)) fun v14 s14 R14 => ?_
 obtain ⟨k14, rfl, O14⟩ := R14
 dsimp only [lcA, lnA]
 refine XO.cat K k14 fun leK le14 => ?_
 have A14 : Arr v14 encI 1 (cat K k14) ((listsP b most).getD k default) := Arr.le_heap (OArr.arr (s := O14)) le14
 clear O14
 refine XO.vcall rfl rfl (round k hk (cat K k14) _ q1 ⟨v14, rfl, A14⟩ (mono k K (cat K k14) q1 leK hq)) fun v15 s15 R15 => ?_
 obtain ⟨bb, q2, rfl, rfl, hT, hF⟩ := R15
 dsimp only [lcA, lnA]
 refine XO.q (Q.not rfl) ?_
 refine XO.done ?_
 refine XK.if rfl (fun c0 => ?_) (fun c0 => ?_)
 ·skip
  refine XK.rt [q2, cat K k14] Tryz.func184 Tryz.results184 (.n) ?_
  exact ⟨q2, cat K k14, rfl, .inr (hF (by cases bb <;> simp_all))⟩
 ·skip
  refine XK.skip (XK.seq (XK.seq (XK.region rfl (XO.q (Q.move rfl) ?_))))
  refine XO.len rfl fun l18 => ?_
  refine XO.q (Q.sub rfl rfl ⟨by omega, by omega⟩) ?_
  refine XO.q (Q.assign rfl) (XO.done (XK.block ?_))
  refine XK.while (X := Nat × PHeap) [5, 6, 20, 21, 22, 23, 24, 25, 26, 27, 28, 29, 30, 31, 32, 33, 34, 35, 36, 37, 38, 39, 40, 41, 42, 43, 44, 45, 46, 47, 48, 49, 50, 51, 52, 53, 54, 55] (fun ⟨j, km⟩ => [(5, some (.int .i64 (most - sumL (((listsP b most).getD k default).take j)))), (6, some (.int .i64 ((j : Int) - 1)))]) (fun ⟨j, km⟩ => [km]) (fun ⟨j, km⟩ => j ≤ ((listsP b most).getD k default).length ∧ stepL ((triesP b).drop j) (most - sumL (((listsP b most).getD k default).take j)) (((listsP b most).getD k default).drop j) = none ∧ OArr v10 encI 1 3 km (((listsP b most).getD k default).take (j) ++ List.replicate (((listsP b most).getD k default).length - (j)) 0)) (fun ⟨j, km⟩ => j) (((listsP b most).getD k default).length, kn) [kn] rfl ⟨Nat.le_refl _, step_start (by omega) _, by rw [List.take_length, Nat.sub_self, List.replicate_zero, List.append_nil]; exact ON⟩ (.c rfl (.c rfl (.base 0 rfl rfl))) ?_
  rintro ⟨j, km⟩ ⟨hj, hn, OM⟩ ih1
  dsimp only [lcA, lnA] at ih1 ⊢
  refine XK.seq (XK.seq (XK.region rfl (XO.q (Q.move rfl) ?_)))
  refine XO.q (Q.geq rfl rfl) ?_
  refine XO.done ?_
  refine XK.if rfl (fun c1 => ?_) (fun c1 => ?_)
  ·skip
   obtain ⟨i, rfl⟩ : ∃ i, j = i + 1 := ⟨j - 1, by omega⟩
   rw [show ((i + 1 : Nat) : Int) - 1 = (i : Int) by omega]
   have na := now_at (x := ((listsP b most).getD k default)) (i := i) (by omega)
   have nl := now_len (x := ((listsP b most).getD k default)) (i := i + 1) (by omega)
   have xi := fk.f i (by omega)
   have sp := sumL_nonneg (fun i hi => (fk.f i (by omega)).1) (i + 1) hj
   have sq := sumL_nonneg (fun i hi => (fk.f i (by omega)).1) i (by omega)
   have ss := sumL_take_succ (x := ((listsP b most).getD k default)) (i := i) (by omega)
   have tg := (ok.gen _ (getD_memB (show i < b.gens.length by omega))).t1
   refine XK.skip (XK.seq (XK.block (XK.seq (XK.seq ?_))))
   refine XK.drawn [0, 1, 2, 3, 4, 5, 6, 7, 8, 9, 10, 11, 12, 13, 14] [b1] [km] (.q 0 (.q 1 (.q 2 (.q 3 (.q 4 (.q 5 (.q 6 (.q 7 (.q 8 (.q 9 (.q 10 (.q 11 (.q 12 (.q 13 (.q 14 .done))))))))))))))) Tryz.mixed rfl (by kernel_rfl) ?_
   refine XT.q rfl rfl (Q.move rfl) ?_
   refine XT.q rfl rfl (Q.move rfl) ?_
   refine XT.ix rfl rfl rfl rfl (by omega) (by omega) fun i26 => ?_
   refine XT.q rfl rfl (Q.ldE rfl (by first | assumption | omega) rfl) ?_
   refine XT.q rfl rfl (Q.fieldAddr rfl) ?_
   refine XT.q rfl rfl (Q.ld rfl rfl) ?_
   refine XT.q rfl rfl (Q.move rfl) ?_
   refine XT.ix rfl rfl rfl rfl (by omega) (by omega) fun i31 => ?_
   refine XT.q rfl rfl (Q.fieldQ rfl (by first | assumption | omega)) ?_
   refine XT.q rfl rfl (Q.ldE rfl (by first | assumption | omega) rfl) ?_
   refine XT.q rfl rfl (Q.lss rfl rfl) ?_
   refine XT.q rfl rfl (Q.move rfl) ?_
   refine XT.q rfl rfl (Quiet.guardT rfl rfl fun g36 p36 => Q.move rfl) ?_
   refine XT.q rfl rfl (Quiet.guardT rfl rfl fun g37 p37 => Q.gtr (lzv g37 rfl) rfl) ?_
   refine XT.q rfl rfl (Q.and rfl (fun hp => lzv hp rfl)) ?_
   refine XT.done ?_
   refine XK.if rfl (fun c2 => ?_) (fun c2 => ?_)
   ·skip
    obtain ⟨nk, ne, nf⟩ := next_found ok hm0 hk (by omega) hn (by rw [← na]; exact c2.1) (by have := c2.2; omega)
    refine XK.seq (XK.region rfl (XO.q (Q.move rfl) (XO.q (Q.move rfl) ?_)))
    refine XO.ix rfl rfl (by omega) (by omega) fun i41 => ?_
    refine XO.q (Q.ldE rfl (by first | assumption | omega) rfl) ?_
    refine XO.q (Q.add rfl rfl ⟨by omega, by omega⟩) ?_
    refine XO.ix rfl rfl (by omega) (by omega) fun i44 => ?_
    refine XO.stE _ rfl rfl rfl (by assumption) rfl rfl fun h7_6 O7_6 => ?_
    rw [na, now_set (by omega), ← ne] at O7_6
    refine XO.done (XK.seq (XK.region rfl (XO.q (Q.move rfl) ?_)))
    refine XO.q (Q.sub rfl rfl ⟨by omega, by omega⟩) ?_
    rw [nf]
    refine XO.q (Q.assign rfl) (XO.done ?_)
    refine XK.exit rfl ?_
    exact ih0 (k + 1, h7_6, cat K k14, q2) _ _ ⟨nk, O7_6, hT (by cases bb <;> simp_all)⟩ (by first | omega | (dsimp only; omega)) (.c rfl (.base 122 rfl rfl)) inferInstance
   ·skip
    obtain ⟨nn, nf⟩ := next_not ok hm0 hk (by omega) hn (fun hh => c2 ⟨by rw [na]; exact hh.1, by have := hh.2; omega⟩)
    refine XK.skip (XK.seq (XK.region rfl (XO.q (Q.move rfl) (XO.q (Q.move rfl) (XO.q (Q.move rfl) ?_)))))
    refine XO.ix rfl rfl (by omega) (by omega) fun i50 => ?_
    refine XO.q (Q.ldE rfl (by first | assumption | omega) rfl) ?_
    refine XO.q (Q.add rfl rfl ⟨by omega, by omega⟩) ?_
    rw [na, nf]
    refine XO.q (Q.assign rfl) (XO.done (XK.region rfl (XO.q (Q.move rfl) (XO.q (Q.move rfl) ?_))))
    refine XO.ix rfl rfl (by omega) (by omega) fun i55 => ?_
    refine XO.stE _ rfl rfl rfl (by assumption) rfl rfl fun h10_3 O10_3 => ?_
    rw [now_zero (by omega)] at O10_3
    refine XO.done ?_
    refine XK.inBlock ?_
    refine XK.region rfl (XO.q (Q.move rfl) ?_)
    refine XO.q (Q.sub rfl rfl ⟨by omega, by omega⟩) ?_
    refine XO.q (Q.assign rfl) (XO.done ?_)
    exact ih1 (i, h10_3) _ _ ⟨by dsimp only; omega, nn, O10_3⟩ (by first | omega | (dsimp only; omega)) (.c rfl (.c rfl (.base 70 rfl rfl))) inferInstance
  ·skip
   have hj0 : j = 0 := by omega
   subst hj0
   have hend := next_end ok hm0 hk hn
   refine XK.exit rfl ?_
   refine XK.rt [q2, cat K k14] Tryz.func184 Tryz.results184 (.n) ?_
   exact ⟨q2, cat K k14, rfl, .inl (by rw [← hend]; exact hT (by cases bb <;> simp_all))⟩
theorem lists_spec (b : BBank) (vb vg : Value) (hb hg : PHeap) [ib : Arr vb encBat 4 hb b.bats] [ig : Arr vg encGen 5 hg b.gens] (ok : BOk b) (most : Int) (hm0 : 0 ≤ most) (hm1 : most ≤ 9223372036854775807) : Spec Tryz.prog 142 #[.agg #[vb, vg], .int .i64 most] [] [] (fun v hs => ∃ k1 k2, hs = [k1, k2] ∧ ItK Tryz.prog v (listsP b most).length (ListY (listsP b most)) [k1, k2] [hg]) := by
 refine Spec.intro (fn := Tryz.f142) (N := 6) Tryz.func142 rfl Tryz.ntmps142 rfl fun B => ?_
 refine XK.seq (XK.region rfl ?_)
 refine XO.box rfl fun b2 => ?_
 refine XO.box rfl fun b3 => ?_
 refine XO.q (Q.assign rfl) (XO.done (XK.seq (XK.region rfl ?_)))
 refine XO.q (Q.func (fun _ he => rfl) (fun _ he => evs_rel he rfl)) ?_
 refine XO.q (Q.assign rfl) (XO.done ?_)
 refine XK.rt [blk b2 [vb, vg] 96, blk b3 [.int .i64 most] 3] Tryz.func142 Tryz.results142 (.t rfl .n) ?_
 exact ⟨_, _, rfl, fun f Hr Qc Xc mono round q hQ => VSpec.fn (fst := []) (cap := [ptr b2 0, ptr b3 0]) Tryz.call184 rfl (lists1 b vb vg hb hg ok most hm0 hm1 b2 b3 f Hr Qc Xc mono round q hQ)⟩
set_option maxHeartbeats 1000000 in
theorem worst_spec (b : BBank) (vb vg : Value) (hb hg : PHeap) [ib : Arr vb encBat 4 hb b.bats] [ig : Arr vg encGen 5 hg b.gens] (l : List BSpan) (vl : Value) (hl : PHeap) [il : Arr vl encSpan 2 hl l] (ok : BOk b) (lk : LOk l) (most : Int) (hm0 : 0 ≤ most) (hm1 : most ≤ 9223372036854775807) : Spec Tryz.prog 80 #[.agg #[vb, vg], vl, .int .i64 most] [] [hb, hg, hl]
  (fun v hs => ∃ vw ve vn K ke kn, v = .tuple #[vw, resV (worstP b (powers l) most).2 ve vn] ∧ hs = [K, ke, kn] ∧ One vw ∧ Arr vw encI 1 K (worstP b (powers l) most).1 ∧ OArr ve encI 1 3 ke (worstP b (powers l) most).2.energy ∧ OArr vn encI 1 3 kn (worstP b (powers l) most).2.burnt) := by
 have hfk := fun k hk => (lists_in ok hm0 (k := k) hk).1
 have hnil : OArr (.slice none 0 0) encI 1 3 emp ([] : List Int) := OArr.nil (fun _ => rfl)
 refine Spec.intro (fn := Tryz.f80) (N := 43) Tryz.func80 rfl Tryz.ntmps80 rfl fun B => ?_
 refine XK.seq (XK.region rfl ?_)
 refine XO.box rfl fun b3 => ?_
 refine XO.box rfl fun b4 => ?_
 refine XO.q (Q.assign rfl) ?_
 refine XO.alloc fun b7 => ?_
 refine XO.done (XK.seq (XK.region rfl ?_))
 refine XO.alloc fun b8 => ?_
 refine XO.done (XK.seq (XK.region rfl ?_))
 refine XO.alloc fun b9 => ?_
 refine XO.done (XK.seq (XK.region rfl ?_))
 refine XO.alloc fun b10 => ?_
 refine XO.st rfl rfl rfl ?_
 refine XO.done (XK.seq (XK.seq (XK.region rfl ?_)))
 refine XO.q (Q.ldA [_, _] rfl rfl rfl) ?_
 refine XO.q (Q.move rfl) ?_
 refine XO.call Tryz.call142 rfl rfl rfl (lists_spec b vb vg hb hg ok most hm0 hm1) fun v15 s15 R15 => ?_
 obtain ⟨k1, k2, rfl, hit⟩ := R15
 dsimp only [lcA, lnA]
 refine XO.done (XK.block ?_)
 refine XK.rangeK (X := Nat × Value × Value × Value × PHeap × PHeap × (List Int × BRes)) (ps := [16]) (fun ⟨k, vw, ve, vn, ke, kn, w⟩ => [blk b8 [vw] 29, blk b9 [.int .i64 w.2.dark, ve, vn, .int .i64 w.2.served] 100, blk b10 [.bool (flagP k)] 4, ke, kn]) (fun i ⟨k, vw, ve, vn, ke, kn, w⟩ K0 => k = i ∧ w = (worstTo b (powers l) (listsP b most) (k)) ∧ One vw ∧ Arr vw encI 1 K0 w.1 ∧ OArr ve encI 1 3 ke w.2.energy ∧ OArr vn encI 1 3 kn w.2.burnt) (fun j0 ⟨k, vw, ve, vn, ke, kn, w⟩ K0 => False) (0, .slice none 0 0, .slice none 0 0, .slice none 0 0, emp, emp, ([], ⟨0, [], [], 0⟩)) [blk b8 [.slice none 0 0] 29, blk b9 [.int .i64 0, .slice none 0 0, .slice none 0 0, .int .i64 0] 100, blk b10 [.bool true] 4, emp, emp] rfl (hit) rfl (fun i x K K' hle hI => ⟨hI.1, hI.2.1, hI.2.2.1, Arr.le_heap hI.2.2.2.1 hle, hI.2.2.2.2⟩) (⟨rfl, rfl, inferInstance, OArr.arr (s := hnil), hnil, hnil⟩) rfl (fun i K vs hY => by obtain ⟨sl, rfl, _⟩ := hY; rfl) ?_ ?_ (fun _ _ _ hJ => hJ.elim)
 ·rintro lq rec B' i ⟨k, vw, ve, vn, ke, kn, w⟩ K0 vs hi ⟨vx, rfl, ax⟩ ⟨hki, hw, ow, AW, OE, OB⟩
  dsimp only [lcA, lnA]
  subst hki
  have e1 := worstTo_succ b (powers l) (listsP b most) k
  rw [← hw] at e1
  refine XK.region rfl (XO.q (Q.assign rfl) (XO.done ?_))
  refine XK.beginRound ?_
  refine XK.block (XK.seq (XK.region rfl ?_))
  refine XO.q (Q.ldA [_, _] rfl rfl rfl) ?_
  refine XO.q (Q.ld rfl rfl) ?_
  refine XO.q (Q.move rfl) ?_
  refine XO.call Tryz.call76 rfl rfl rfl (run_nil b vb vg hb hg l vl hl ((listsP b most).getD k default) vx K0 ok lk (hfk k (by omega))) fun v20 s20 R20 => ?_
  obtain ⟨ve2, vn2, ke2, kn2, rfl, rfl, E2, N2⟩ := R20
  dsimp only [lcA, lnA]
  refine XO.alloc fun b12 => ?_
  refine XO.st rfl rfl rfl ?_
  refine XO.done (XK.seq (XK.region rfl ?_))
  refine XO.q (Q.ld rfl rfl) ?_
  refine XO.q (Q.move rfl) ?_
  refine XO.q (Quiet.guardF rfl rfl fun g23 p23 => Q.fieldAddr rfl) ?_
  refine XO.q (Quiet.guardF rfl rfl fun g24 p24 => Q.ld (lzv g24 rfl) rfl) ?_
  refine XO.q (Quiet.guardF rfl rfl fun g25 p25 => Q.geq (lzv g25 rfl) rfl) ?_
  refine XO.q (Quiet.guardF rfl rfl fun g26 p26 => Q.move (lzv g26 rfl)) ?_
  refine XO.q (Quiet.guard2 rfl rfl fun g27a g27b => have p27a := bpF g27a; have p27b := bpT g27b; Q.fieldAddr rfl) ?_
  refine XO.q (Quiet.guard2 rfl rfl fun g28a g28b => have p28a := bpF g28a; have p28b := bpT g28b; Q.ld (lzv g28b (lzv g28a rfl)) rfl) ?_
  refine XO.q (Quiet.guard2 rfl rfl fun g29a g29b => have p29a := bpF g29a; have p29b := bpT g29b; Q.lss (lzv g29b (lzv g29a rfl)) rfl) ?_
  refine XO.q (Quiet.guard2 rfl rfl fun g30a g30b => have p30a := bpF g30a; have p30b := bpT g30b; Q.move (lzv g30b (lzv g30a rfl))) ?_
  refine XO.q (Quiet.guard3 rfl rfl fun g31a g31b g31c => have p31a := bpF g31a; have p31b := bpT g31b; have p31c := bpF g31c; Q.fieldAddr rfl) ?_
  refine XO.q (Quiet.guard3 rfl rfl fun g32a g32b g32c => have p32a := bpF g32a; have p32b := bpT g32b; have p32c := bpF g32c; Q.ld (lzv g32c (lzv g32b (lzv g32a rfl))) rfl) ?_
  refine XO.q (Quiet.guard3 rfl rfl fun g33a g33b g33c => have p33a := bpF g33a; have p33b := bpT g33b; have p33c := bpF g33c; Q.fieldAddr rfl) ?_
  refine XO.q (Quiet.guard3 rfl rfl fun g34a g34b g34c => have p34a := bpF g34a; have p34b := bpT g34b; have p34c := bpF g34c; Q.ld (lzv g34c (lzv g34b (lzv g34a rfl))) rfl) ?_
  refine XO.q (Quiet.guard3 rfl rfl fun g35a g35b g35c => have p35a := bpF g35a; have p35b := bpT g35b; have p35c := bpF g35c; Q.lss (lzv g35c (lzv g35b (lzv g35a rfl))) (lzv g35c (lzv g35b (lzv g35a rfl)))) ?_
  refine XO.q (Quiet.guard2 rfl rfl fun g36a g36b => have p36a := bpF g36a; have p36b := bpT g36b; Q.or (lzv g36b (lzv g36a rfl)) (fun hp => (lzv hp (lzv g36b (lzv g36a rfl))))) ?_
  refine XO.q (Quiet.guardF rfl rfl fun g37 p37 => Q.and (lzv g37 rfl) (fun hp => (lzv hp (lzv g37 rfl)))) ?_
  refine XO.q (Q.or rfl (fun hp => lzv hp rfl)) ?_
  refine XO.done ?_
  refine XK.if rfl (fun c0 => ?_) (fun c0 => ?_)
  ·skip
   refine XK.drawn [0, 1] [b12] [] (.q 0 (.q 1 (.br 2 true (.br 3 false (.br 4 false .done .stop) .stop) .stop))) Tryz.mixed rfl (by kernel_rfl) ?_
   refine XT.q rfl rfl (Q.move rfl) ?_
   refine XT.q rfl rfl (Q.ldA [_, _, _, _] rfl rfl rfl) ?_
   refine XT.st rfl rfl rfl rfl rfl ⟨inferInstance, ?_⟩ XT.stop
   refine XT.st rfl rfl rfl rfl rfl ⟨inferInstance, ?_⟩ XT.stop
   refine XT.st rfl rfl rfl rfl rfl ⟨inferInstance, ?_⟩ XT.stop
   refine XT.done ?_
   refine XK.inBlock ?_
   have e2 : (worstTo b (powers l) (listsP b most) (k + 1)) = (((listsP b most).getD k default), (runP b (powers l) ((listsP b most).getD k default))) := by rw [e1, if_pos (better_iff.2 c0)]
   exact XK.leave (j := none) [blk b8 [vx] 29, blk b9 [.int .i64 (runP b (powers l) ((listsP b most).getD k default)).dark, ve2, vn2, .int .i64 (runP b (powers l) ((listsP b most).getD k default)).served] 100, blk b10 [.bool false] 4, ke2, kn2] trivial ⟨(k + 1, vx, ve2, vn2, ke2, kn2, (((listsP b most).getD k default), (runP b (powers l) ((listsP b most).getD k default)))), ⟨rfl, e2.symm, inferInstance, ax, E2, N2⟩, rfl⟩
  ·skip
   refine XK.skip ?_
   refine XK.inBlock ?_
   have e2 : (worstTo b (powers l) (listsP b most) (k + 1)) = w := by rw [e1, if_neg (fun h => c0 (better_iff.1 h))]
   rw [show flagP k = false from Bool.eq_false_iff.2 (fun h => c0 (.inl h))]
   exact XK.leave (j := none) [blk b8 [vw] 29, blk b9 [.int .i64 w.2.dark, ve, vn, .int .i64 w.2.served] 100, blk b10 [.bool false] 4, ke, kn] trivial ⟨(k + 1, vw, ve, vn, ke, kn, w), ⟨rfl, e2.symm, ow, AW, OE, OB⟩, rfl⟩
 ·rintro ⟨k, vw, ve, vn, ke, kn, w⟩ K0 ⟨hki, hw, ow, AW, OE, OB⟩
  dsimp only [lcA, lnA]
  subst hki
  refine XK.inBlock ?_
  refine XK.seq ?_
  refine XK.drawn [0, 1, 2] [b8, b9] [] (.q 0 (.q 1 (.q 2 (.br 3 false .done .stop)))) Tryz.mixed rfl (by kernel_rfl) ?_
  refine XT.q rfl rfl (Q.ld rfl rfl) ?_
  refine XT.q rfl rfl (Q.ldA [_, _, _, _] rfl rfl rfl) ?_
  refine XT.q rfl rfl (Q.assign rfl) ?_
  refine XT.st rfl rfl rfl rfl rfl ⟨inferInstance, ?_⟩ XT.stop
  refine XT.done ?_
  refine XK.rt [K0, ke, kn] Tryz.func80 Tryz.results80 (.t rfl (.cell [_, _, _, _] rfl rfl rfl (.n))) ?_
  subst hw
  exact ⟨vw, ve, vn, K0, ke, kn, rfl, rfl, ow, AW, OE, OB⟩
end Go.X.Bk

set_option linter.unusedSimpArgs false
set_option linter.unusedVariables false
set_option maxRecDepth 20000
namespace Go.X.Bk
open Go.Proofs
theorem Hold_spec (b : BBank) (vb vg : Value) (hb hg : PHeap) [ib : Arr vb encBat 4 hb b.bats] [ig : Arr vg encGen 5 hg b.gens] (power most : Int) (hm1 : most ≤ 9223372036854775807) : Spec Tryz.prog 30 #[.agg #[vb, vg], .int .i64 power, .int .i64 most] [] [hb, hg] (fun v hs => v = .tuple #[.int .i64 (holdP b power most).1, .int .i64 (holdP b power most).2] ∧ hs = []) := by
 refine Spec.intro (fn := Tryz.f30) (N := 46) Tryz.func30 rfl Tryz.ntmps30 rfl fun B => ?_
 refine XK.seq (XK.region rfl ?_)
 refine XO.box rfl fun b3 => ?_
 refine XO.q (Q.assign rfl) (XO.q (Q.assign rfl) (XO.done (XK.seq (XK.seq (XK.region rfl ?_)))))
 refine XO.q (Q.ldA [_, _] rfl rfl rfl) ?_
 refine XO.call Tryz.call77 rfl rfl rfl (Check_spec b vb vg hb hg) fun v14 s14 R14 => ?_
 obtain ⟨rfl, rfl⟩ := R14
 dsimp only [lcA, lnA]
 refine XO.q (Q.assign rfl) (XO.done (XK.seq (XK.region rfl (XO.q (Q.move rfl) ?_))))
 refine XO.q (Q.neq rfl rfl) ?_
 refine XO.done ?_
 refine XK.if rfl (fun c0 => ?_) (fun c0 => ?_)
 ·skip
  refine XK.seq (XK.region rfl (XO.q (Q.move rfl) (XO.q (Q.assign rfl) (XO.q (Q.assign rfl) (XO.done ?_)))))
  refine XK.rt [] Tryz.func30 Tryz.results30 (.t rfl (.t rfl .n)) ?_
  exact ⟨by rw [holdP, if_pos c0], rfl⟩
 ·skip
  refine XK.skip (XK.seq (XK.seq (XK.region rfl (XO.q (Q.move rfl) ?_))))
  refine XO.lit [_] [_] [power] encI (by rfl) (by rfl) rfl (by rfl) (by exact .c 0 1 rfl rfl rfl (.n _)) (fun _ => rfl) (by rfl) rfl (by infer_instance) rfl fun v19 h19 O19 => ?_
  refine XO.call Tryz.call78 rfl rfl rfl (within_spec 1000000 v19 h19 [power]) fun v20 s20 R20 => ?_
  obtain ⟨rfl, rfl⟩ := R20
  dsimp only [lcA, lnA]
  refine XO.q (Q.not rfl) ?_
  refine XO.done ?_
  refine XK.if rfl (fun c1 => ?_) (fun c1 => ?_)
  ·skip
   refine XK.seq (XK.region rfl (XO.q (Q.assign rfl) (XO.q (Q.assign rfl) (XO.done ?_))))
   refine XK.rt [] Tryz.func30 Tryz.results30 (.t rfl (.t rfl .n)) ?_
   exact ⟨by rw [holdP, if_neg c0, if_pos (by simpa using c1)], rfl⟩
  ·skip
   refine XK.skip (XK.seq (XK.region rfl (XO.q (Q.move rfl) ?_)))
   refine XO.q (Q.build [_, _] (.c 0 1 rfl rfl rfl (.c 1 1 rfl rfl rfl (.n _)))) ?_
   refine XO.q (Q.move rfl) ?_
   refine XO.q (Q.build [_, _] (.c 0 1 rfl rfl rfl (.c 1 1 rfl rfl rfl (.n _)))) ?_
   refine XO.lit [_, _, _, _] [_, _, _, _] (holdLoad power) encSpan (by rfl) (by rfl) rfl (by rfl) (by exact .c 0 2 rfl rfl rfl (.c 2 2 rfl rfl rfl (.n _))) (fun _ => rfl) (by rfl) rfl (by infer_instance) rfl fun v26 h26 O26 => ?_
   refine XO.q (Q.assign rfl) (XO.done (XK.seq (XK.seq (XK.region rfl ?_))))
   refine XO.q (Q.ldA [_, _] rfl rfl rfl) ?_
   refine XO.q (Q.move rfl) (XO.q (Q.move rfl) ?_)
   refine XO.call Tryz.call79 rfl rfl rfl (search_spec b vb vg hb hg (holdLoad power) v26 h26 most) fun v30 s30 R30 => ?_
   obtain ⟨rfl, rfl⟩ := R30
   dsimp only [lcA, lnA]
   refine XO.q (Q.assign rfl) (XO.done (XK.seq (XK.region rfl (XO.q (Q.move rfl) ?_))))
   refine XO.q (Q.neq rfl rfl) ?_
   refine XO.done ?_
   refine XK.if rfl (fun c2 => ?_) (fun c2 => ?_)
   ·skip
    refine XK.seq (XK.region rfl (XO.q (Q.move rfl) (XO.q (Q.assign rfl) (XO.q (Q.assign rfl) (XO.done ?_)))))
    refine XK.rt [] Tryz.func30 Tryz.results30 (.t rfl (.t rfl .n)) ?_
    exact ⟨by rw [holdP, if_neg c0, if_neg (by simpa using c1), if_pos c2], rfl⟩
   ·skip
    refine XK.skip (XK.seq (XK.region rfl ?_))
    refine XO.q (Q.ldA [_, _] rfl rfl rfl) ?_
    refine XO.q (Q.move rfl) (XO.q (Q.move rfl) ?_)
    have sk := searchP_iff.1 (Decidable.of_not_not c2)
    refine XO.call Tryz.call80 rfl rfl rfl (worst_spec b vb vg hb hg (holdLoad power) v26 h26 sk.ob sk.ol most sk.m0 hm1) fun v38 s38 R38 => ?_
    obtain ⟨vw, ve, vn, K, ke, kn, rfl, rfl, ow, AW, OE, OB⟩ := R38
    dsimp only [lcA, lnA]
    refine XO.q (Q.move rfl) ?_
    refine XO.q (Q.extract rfl rfl) ?_
    refine XO.q (Q.extract rfl rfl) ?_
    refine XO.alloc fun b12 => ?_
    refine XO.q (Q.assign rfl) ?_
    refine XO.st rfl rfl rfl ?_
    refine XO.done (XK.seq (XK.seq (XK.region rfl ?_)))
    refine XO.q (Q.fieldAddr rfl) ?_
    refine XO.q (Q.ld rfl rfl) ?_
    refine XO.q (Q.lss rfl rfl) ?_
    refine XO.done ?_
    refine XK.if rfl (fun c3 => ?_) (fun c3 => ?_)
    ·skip
     refine XK.seq (XK.region rfl (XO.q (Q.assign rfl) (XO.q (Q.assign rfl) (XO.done ?_))))
     refine XK.rt [] Tryz.func30 Tryz.results30 (.t rfl (.t rfl .n)) ?_
     exact ⟨by rw [holdP, if_neg c0, if_neg (by simpa using c1), if_neg c2, if_pos c3], rfl⟩
    ·skip
     refine XK.skip (XK.seq (XK.region rfl ?_))
     refine XO.q (Q.fieldAddr rfl) ?_
     refine XO.q (Q.ld rfl rfl) ?_
     refine XO.q (Q.assign rfl) (XO.q (Q.assign rfl) (XO.done ?_))
     refine XK.rt [] Tryz.func30 Tryz.results30 (.t rfl (.t rfl .n)) ?_
     exact ⟨by rw [holdP, if_neg c0, if_neg (by simpa using c1), if_neg c2, if_neg c3], rfl⟩
end Go.X.Bk

set_option linter.unusedSimpArgs false
set_option linter.unusedVariables false
set_option maxRecDepth 20000
namespace Go.X.Bk
open Go.Proofs
theorem made06 (vx : Value) (hx : PHeap) (x : List UInt8) [jx : Arr vx encU8 1 hx x] : Spec Tryz.prog 27 #[vx] [] [hx] (fun v hs => ∃ vb vg kb kg, v = .agg #[vb, vg] ∧ hs = [kb, kg] ∧ OArr vb encBat 4 174 kb (madeP x).bats ∧ OArr vg encGen 5 215 kg (madeP x).gens) := by
 have hb := fun i => byt_ok x i
 unfold byt at hb
 have nB : OArr (.slice none 0 0) encBat 4 174 emp ([] : List BBat) := OArr.nil (fun _ => rfl)
 have nG : OArr (.slice none 0 0) encGen 5 215 emp ([] : List BGen) := OArr.nil (fun _ => rfl)
 refine Spec.intro (fn := Tryz.f27) (N := 97) Tryz.func27 rfl Tryz.ntmps27 rfl fun B => ?_
 refine XK.seq (XK.region rfl ?_)
 refine XO.alloc fun b2 => ?_
 refine XO.done (XK.seq (XK.region rfl ?_))
 refine XO.alloc fun b3 => ?_
 refine XO.done (XK.seq (XK.seq (XK.region rfl (XO.q (Q.assign rfl) (XO.done ?_)))))
 refine XK.block ?_
 refine XK.while (X := Nat × Value × Value × PHeap × PHeap) [4, 5, 6, 7, 8, 9, 10, 11, 12, 13, 14, 15, 16, 17, 18, 19, 20, 21, 22, 23, 24, 25, 26, 27, 28, 29, 30, 31, 32, 33, 34, 35, 36, 37, 38, 39, 40, 41, 42, 43, 44, 45, 46, 47, 48, 49, 50, 51, 52, 53, 54, 55, 56, 57, 58, 59, 60, 61, 62, 63, 64, 65, 66, 67, 68, 69, 70, 71, 72, 73, 74, 75, 76, 77, 78, 79, 80, 81, 82, 83, 84, 85, 86, 87, 88, 89, 90, 91, 92, 93, 94, 95] (fun ⟨k, vb, vg, kb, kg⟩ => [(4, some (.int .i64 ((5 * k : Nat) : Int)))]) (fun ⟨k, vb, vg, kb, kg⟩ => [blk b3 [vb, vg] 96, kb, kg]) (fun ⟨k, vb, vg, kb, kg⟩ => 5 * k ≤ x.length ∧ k ≤ 7 ∧ OArr vb encBat 4 174 kb (madeTo x k).bats ∧ OArr vg encGen 5 215 kg (madeTo x k).gens) (fun ⟨k, vb, vg, kb, kg⟩ => 7 - k) (0, .slice none 0 0, .slice none 0 0, emp, emp) [blk b3 [.slice none 0 0, .slice none 0 0] 96, emp, emp] rfl ⟨by omega, by omega, nB, nG⟩ (.c rfl (.base 0 rfl rfl)) ?_
 rintro ⟨k, vb, vg, kb, kg⟩ ⟨hk, hk7, OB, OG⟩ ih0
 dsimp only [lcA, lnA] at ih0 ⊢
 refine XK.seq (XK.seq (XK.region rfl (XO.q (Q.move rfl) ?_)))
 refine XO.q (Q.add rfl rfl ⟨by omega, by omega⟩) ?_
 refine XO.q (Q.move rfl) ?_
 refine XO.len rfl fun l9 => ?_
 refine XO.q (Q.lss rfl rfl) ?_
 refine XO.q (Q.move rfl) ?_
 refine XO.q (Quiet.guardT rfl rfl fun g12 p12 => Q.move rfl) ?_
 refine XO.q (Quiet.guardT rfl rfl fun g13 p13 => Q.lss (lzv g13 rfl) rfl) ?_
 refine XO.q (Q.and rfl (fun hp => lzv hp rfl)) ?_
 refine XO.done ?_
 refine XK.if rfl (fun c0 => ?_) (fun c0 => ?_)
 ·skip
  have hb0 := hb (5 * k)
  have hb1 := hb (5 * k + 1)
  have hb2 := hb (5 * k + 2)
  have hb3 := hb (5 * k + 3)
  have hb4 := hb (5 * k + 4)
  obtain ⟨_, _, lb, lg⟩ := madeTo_ok x k
  refine XK.skip (XK.seq (XK.block (XK.seq (XK.region rfl (XO.q (Q.move rfl) ?_)))))
  refine XO.q (Q.rem rfl rfl (by omega) (by omega)) ?_
  refine XO.q (Q.eql rfl rfl) ?_
  refine XO.done ?_
  refine XK.if rfl (fun c1 => ?_) (fun c1 => ?_)
  ·skip
   have e5 : madeTo x (k + 1) = ⟨(madeTo x k).bats ++ [batAt x (5 * k)], (madeTo x k).gens⟩ := by rw [madeTo, if_pos (by omega)]
   refine XK.seq (XK.region rfl (XO.q (Q.move rfl) (XO.q (Q.move rfl) ?_)))
   refine XO.ix rfl rfl (by omega) (by omega) fun i22 => ?_
   refine XO.q (Q.ldE rfl (by first | assumption | omega) rfl) ?_
   refine XO.q (Q.conv rfl) ?_
   rw [wrap64_of ⟨by omega, by omega⟩]
   refine XO.q (Q.mul rfl rfl ⟨by omega, by omega⟩) ?_
   refine XO.q (Q.assign rfl) (XO.done ?_)
   refine XK.drawn [0, 2, 3, 4, 5, 6, 7, 8, 9, 10, 11, 12, 13, 14, 15, 16, 17, 18, 19, 20, 21, 22, 23, 24, 25, 28] [] [] (.q 0 (.q 2 (.q 3 (.q 4 (.q 5 (.q 6 (.q 7 (.q 8 (.q 9 (.q 10 (.q 11 (.q 12 (.q 13 (.q 14 (.q 15 (.q 16 (.q 17 (.q 18 (.q 19 (.q 20 (.q 21 (.q 22 (.q 23 (.q 24 (.q 25 (.br 1 true (.br 26 true (.br 27 true (.q 28 (.br 29 false .done .stop)) .stop) .stop) (.br 26 true (.br 1 true (.br 27 true (.q 28 (.br 29 false .done .stop)) .stop) .stop) .stop))))))))))))))))))))))))))) Tryz.mixed rfl (by kernel_rfl) ?_
   refine XT.q rfl rfl (Q.fieldAddr rfl) ?_
   refine XT.q rfl rfl (Q.move rfl) ?_
   refine XT.q rfl rfl (Q.move rfl) ?_
   refine XT.q rfl rfl (Q.move rfl) ?_
   refine XT.q rfl rfl (Q.add rfl rfl ⟨by omega, by omega⟩) ?_
   rw [show (((5 * k : Nat) : Int) + 1) = ((5 * k + 1 : Nat) : Int) from rfl]
   refine XT.ix rfl rfl rfl rfl (by omega) (by omega) fun i32 => ?_
   refine XT.q rfl rfl (Q.ldE rfl (by first | assumption | omega) rfl) ?_
   refine XT.q rfl rfl (Q.conv rfl) ?_
   rw [wrap64_of ⟨by omega, by omega⟩]
   have mq := mulLe (a := 40 * (((x.getD (5 * k) default).toNat : Nat) : Int)) (b := (((x.getD (5 * k + 1) default).toNat : Nat) : Int)) (m := 10200) (n := 255) (by omega) (by omega) (by omega) (by omega)
   refine XT.q rfl rfl (Q.mul rfl rfl ⟨by omega, by omega⟩) ?_
   refine XT.q rfl rfl (Q.quo rfl rfl (by omega) (by omega) (by omega)) ?_
   refine XT.q rfl rfl (Q.move rfl) ?_
   refine XT.q rfl rfl (Q.move rfl) ?_
   refine XT.q rfl rfl (Q.move rfl) ?_
   refine XT.q rfl rfl (Q.add rfl rfl ⟨by omega, by omega⟩) ?_
   rw [show (((5 * k : Nat) : Int) + 2) = ((5 * k + 2 : Nat) : Int) from rfl]
   refine XT.ix rfl rfl rfl rfl (by omega) (by omega) fun i41 => ?_
   refine XT.q rfl rfl (Q.ldE rfl (by first | assumption | omega) rfl) ?_
   refine XT.q rfl rfl (Q.conv rfl) ?_
   rw [wrap64_of ⟨by omega, by omega⟩]
   refine XT.q rfl rfl (Q.move rfl) ?_
   refine XT.q rfl rfl (Q.move rfl) ?_
   refine XT.q rfl rfl (Q.add rfl rfl ⟨by omega, by omega⟩) ?_
   rw [show (((5 * k : Nat) : Int) + 3) = ((5 * k + 3 : Nat) : Int) from rfl]
   refine XT.ix rfl rfl rfl rfl (by omega) (by omega) fun i47 => ?_
   refine XT.q rfl rfl (Q.ldE rfl (by first | assumption | omega) rfl) ?_
   refine XT.q rfl rfl (Q.rem rfl rfl (by omega) (by omega)) ?_
   refine XT.q rfl rfl (Q.conv rfl) ?_
   rw [wrap64_of ⟨by omega, by omega⟩]
   refine XT.q rfl rfl (Q.build [_, _, _, _] (.c 0 1 rfl rfl rfl (.c 1 1 rfl rfl rfl (.c 2 1 rfl rfl rfl (.c 3 1 rfl rfl rfl (.n _)))))) ?_
   refine XT.qs rfl rfl (Q.ld rfl rfl) ⟨inferInstance, ?_⟩ ?_
   ·skip
    refine XT.lit [_, _, _, _] [_, _, _, _] [batAt x (5 * k)] encBat rfl rfl (by rfl) (by rfl) rfl (by rfl) (by exact .c 0 4 rfl rfl rfl (.n _)) (fun _ => rfl) (by rfl) rfl (by infer_instance) rfl (fun v52 h52 O52 => ⟨inferInstance, ?_⟩) XT.stop
    refine XT.append rfl rfl rfl rfl rfl rfl (by first | omega | (simp; omega)) (fun v53 h53 O53 => ⟨inferInstance, ?_⟩) XT.stop
    refine XT.q rfl rfl (Q.fieldAddr rfl) ?_
    refine XT.st rfl rfl rfl rfl rfl ⟨inferInstance, ?_⟩ XT.stop
    refine XT.done ?_
    refine XK.inBlock ?_
    refine XK.region rfl (XO.q (Q.move rfl) ?_)
    refine XO.q (Q.add rfl rfl ⟨by omega, by omega⟩) ?_
    refine XO.q (Q.assign rfl) (XO.done ?_)
    rw [show ((5 * k : Nat) : Int) + 5 = ((5 * (k + 1) : Nat) : Int) by omega]
    exact ih0 (k + 1, v53, vg, h53, kg) _ _ ⟨by dsimp only; omega, by dsimp only; omega, by dsimp only; rw [e5]; exact O53, by dsimp only; rw [e5]; exact OG⟩ (by first | omega | (dsimp only; omega)) (.c rfl (.base 144 rfl rfl)) inferInstance
   ·skip
    refine XT.lit [_, _, _, _] [_, _, _, _] [batAt x (5 * k)] encBat rfl rfl (by rfl) (by rfl) rfl (by rfl) (by exact .c 0 4 rfl rfl rfl (.n _)) (fun _ => rfl) (by rfl) rfl (by infer_instance) rfl (fun v52 h52 O52 => ⟨inferInstance, ?_⟩) XT.stop
    refine XT.qs rfl rfl (Q.ld rfl rfl) ⟨inferInstance, ?_⟩ XT.stop
    refine XT.append rfl rfl rfl rfl rfl rfl (by first | omega | (simp; omega)) (fun v53 h53 O53 => ⟨inferInstance, ?_⟩) XT.stop
    refine XT.q rfl rfl (Q.fieldAddr rfl) ?_
    refine XT.st rfl rfl rfl rfl rfl ⟨inferInstance, ?_⟩ XT.stop
    refine XT.done ?_
    refine XK.inBlock ?_
    refine XK.region rfl (XO.q (Q.move rfl) ?_)
    refine XO.q (Q.add rfl rfl ⟨by omega, by omega⟩) ?_
    refine XO.q (Q.assign rfl) (XO.done ?_)
    rw [show ((5 * k : Nat) : Int) + 5 = ((5 * (k + 1) : Nat) : Int) by omega]
    exact ih0 (k + 1, v53, vg, h53, kg) _ _ ⟨by dsimp only; omega, by dsimp only; omega, by dsimp only; rw [e5]; exact O53, by dsimp only; rw [e5]; exact OG⟩ (by first | omega | (dsimp only; omega)) (.c rfl (.base 144 rfl rfl)) inferInstance
  ·skip
   have e5 : madeTo x (k + 1) = ⟨(madeTo x k).bats, (madeTo x k).gens ++ [genAt x (5 * k)]⟩ := by rw [madeTo, if_neg (by omega)]
   refine XK.drawn [0, 2, 3, 4, 5, 6, 7, 8, 9, 10, 11, 12, 13, 14, 15, 16, 17, 18, 19, 20, 21, 22, 23, 24, 25, 26, 27, 28, 29, 30, 31, 32, 33, 34, 35, 36, 37, 40] [] [] (.q 0 (.q 2 (.q 3 (.q 4 (.q 5 (.q 6 (.q 7 (.q 8 (.q 9 (.q 10 (.q 11 (.q 12 (.q 13 (.q 14 (.q 15 (.q 16 (.q 17 (.q 18 (.q 19 (.q 20 (.q 21 (.q 22 (.q 23 (.q 24 (.q 25 (.q 26 (.q 27 (.q 28 (.q 29 (.q 30 (.q 31 (.q 32 (.q 33 (.q 34 (.q 35 (.q 36 (.q 37 (.br 1 true (.br 38 true (.br 39 true (.q 40 (.br 41 false .done .stop)) .stop) .stop) (.br 38 true (.br 1 true (.br 39 true (.q 40 (.br 41 false .done .stop)) .stop) .stop) .stop))))))))))))))))))))))))))))))))))))))) Tryz.mixed rfl (by kernel_rfl) ?_
   refine XT.q rfl rfl (Q.fieldAddr rfl) ?_
   refine XT.q rfl rfl (Q.move rfl) ?_
   refine XT.q rfl rfl (Q.move rfl) ?_
   refine XT.ix rfl rfl rfl rfl (by omega) (by omega) fun i59 => ?_
   refine XT.q rfl rfl (Q.ldE rfl (by first | assumption | omega) rfl) ?_
   refine XT.q rfl rfl (Q.conv rfl) ?_
   rw [wrap64_of ⟨by omega, by omega⟩]
   refine XT.q rfl rfl (Q.move rfl) ?_
   refine XT.q rfl rfl (Q.move rfl) ?_
   refine XT.q rfl rfl (Q.add rfl rfl ⟨by omega, by omega⟩) ?_
   rw [show (((5 * k : Nat) : Int) + 1) = ((5 * k + 1 : Nat) : Int) from rfl]
   refine XT.ix rfl rfl rfl rfl (by omega) (by omega) fun i65 => ?_
   refine XT.q rfl rfl (Q.ldE rfl (by first | assumption | omega) rfl) ?_
   refine XT.q rfl rfl (Q.rem rfl rfl (by omega) (by omega)) ?_
   refine XT.q rfl rfl (Q.conv rfl) ?_
   rw [wrap64_of ⟨by omega, by omega⟩]
   refine XT.q rfl rfl (Q.add rfl rfl ⟨by omega, by omega⟩) ?_
   refine XT.q rfl rfl (Q.move rfl) ?_
   refine XT.q rfl rfl (Q.move rfl) ?_
   refine XT.q rfl rfl (Q.add rfl rfl ⟨by omega, by omega⟩) ?_
   rw [show (((5 * k : Nat) : Int) + 2) = ((5 * k + 2 : Nat) : Int) from rfl]
   refine XT.ix rfl rfl rfl rfl (by omega) (by omega) fun i73 => ?_
   refine XT.q rfl rfl (Q.ldE rfl (by first | assumption | omega) rfl) ?_
   refine XT.q rfl rfl (Q.rem rfl rfl (by omega) (by omega)) ?_
   refine XT.q rfl rfl (Q.conv rfl) ?_
   rw [wrap64_of ⟨by omega, by omega⟩]
   refine XT.q rfl rfl (Q.move rfl) ?_
   refine XT.q rfl rfl (Q.move rfl) ?_
   refine XT.q rfl rfl (Q.add rfl rfl ⟨by omega, by omega⟩) ?_
   rw [show (((5 * k : Nat) : Int) + 3) = ((5 * k + 3 : Nat) : Int) from rfl]
   refine XT.ix rfl rfl rfl rfl (by omega) (by omega) fun i80 => ?_
   refine XT.q rfl rfl (Q.ldE rfl (by first | assumption | omega) rfl) ?_
   refine XT.q rfl rfl (Q.rem rfl rfl (by omega) (by omega)) ?_
   refine XT.q rfl rfl (Q.conv rfl) ?_
   rw [wrap64_of ⟨by omega, by omega⟩]
   refine XT.q rfl rfl (Q.move rfl) ?_
   refine XT.q rfl rfl (Q.move rfl) ?_
   refine XT.q rfl rfl (Q.add rfl rfl ⟨by omega, by omega⟩) ?_
   rw [show (((5 * k : Nat) : Int) + 4) = ((5 * k + 4 : Nat) : Int) from rfl]
   refine XT.ix rfl rfl rfl rfl (by omega) (by omega) fun i87 => ?_
   refine XT.q rfl rfl (Q.ldE rfl (by first | assumption | omega) rfl) ?_
   refine XT.q rfl rfl (Q.rem rfl rfl (by omega) (by omega)) ?_
   refine XT.q rfl rfl (Q.conv rfl) ?_
   rw [wrap64_of ⟨by omega, by omega⟩]
   refine XT.q rfl rfl (Q.add rfl rfl ⟨by omega, by omega⟩) ?_
   refine XT.q rfl rfl (Q.build [_, _, _, _, _] (.c 0 1 rfl rfl rfl (.c 1 1 rfl rfl rfl (.c 2 1 rfl rfl rfl (.c 3 1 rfl rfl rfl (.c 4 1 rfl rfl rfl (.n _))))))) ?_
   refine XT.qs rfl rfl (Q.ld rfl rfl) ⟨inferInstance, ?_⟩ ?_
   ·skip
    refine XT.lit [_, _, _, _, _] [_, _, _, _, _] [genAt x (5 * k)] encGen rfl rfl (by rfl) (by rfl) rfl (by rfl) (by exact .c 0 5 rfl rfl rfl (.n _)) (fun _ => rfl) (by rfl) rfl (by infer_instance) rfl (fun v93 h93 O93 => ⟨inferInstance, ?_⟩) XT.stop
    refine XT.append rfl rfl rfl rfl rfl rfl (by first | omega | (simp; omega)) (fun v94 h94 O94 => ⟨inferInstance, ?_⟩) XT.stop
    refine XT.q rfl rfl (Q.fieldAddr rfl) ?_
    refine XT.st rfl rfl rfl rfl rfl ⟨inferInstance, ?_⟩ XT.stop
    refine XT.done ?_
    refine XK.inBlock ?_
    refine XK.region rfl (XO.q (Q.move rfl) ?_)
    refine XO.q (Q.add rfl rfl ⟨by omega, by omega⟩) ?_
    refine XO.q (Q.assign rfl) (XO.done ?_)
    rw [show ((5 * k : Nat) : Int) + 5 = ((5 * (k + 1) : Nat) : Int) by omega]
    exact ih0 (k + 1, vb, v94, kb, h94) _ _ ⟨by dsimp only; omega, by dsimp only; omega, by dsimp only; rw [e5]; exact OB, by dsimp only; rw [e5]; exact O94⟩ (by first | omega | (dsimp only; omega)) (.c rfl (.base 149 rfl rfl)) inferInstance
   ·skip
    refine XT.lit [_, _, _, _, _] [_, _, _, _, _] [genAt x (5 * k)] encGen rfl rfl (by rfl) (by rfl) rfl (by rfl) (by exact .c 0 5 rfl rfl rfl (.n _)) (fun _ => rfl) (by rfl) rfl (by infer_instance) rfl (fun v93 h93 O93 => ⟨inferInstance, ?_⟩) XT.stop
    refine XT.qs rfl rfl (Q.ld rfl rfl) ⟨inferInstance, ?_⟩ XT.stop
    refine XT.append rfl rfl rfl rfl rfl rfl (by first | omega | (simp; omega)) (fun v94 h94 O94 => ⟨inferInstance, ?_⟩) XT.stop
    refine XT.q rfl rfl (Q.fieldAddr rfl) ?_
    refine XT.st rfl rfl rfl rfl rfl ⟨inferInstance, ?_⟩ XT.stop
    refine XT.done ?_
    refine XK.inBlock ?_
    refine XK.region rfl (XO.q (Q.move rfl) ?_)
    refine XO.q (Q.add rfl rfl ⟨by omega, by omega⟩) ?_
    refine XO.q (Q.assign rfl) (XO.done ?_)
    rw [show ((5 * k : Nat) : Int) + 5 = ((5 * (k + 1) : Nat) : Int) by omega]
    exact ih0 (k + 1, vb, v94, kb, h94) _ _ ⟨by dsimp only; omega, by dsimp only; omega, by dsimp only; rw [e5]; exact OB, by dsimp only; rw [e5]; exact O94⟩ (by first | omega | (dsimp only; omega)) (.c rfl (.base 149 rfl rfl)) inferInstance
 ·skip
  have hkn : k = min 7 (x.length / 5) := by omega
  refine XK.exit rfl ?_
  refine XK.seq (XK.region rfl ?_)
  refine XO.q (Q.ldA [_, _] rfl rfl rfl) ?_
  refine XO.st rfl rfl rfl ?_
  refine XO.done ?_
  refine XK.rt [kb, kg] Tryz.func27 Tryz.results27 (.cell [_, _] rfl rfl rfl (.n)) ?_
  subst hkn
  exact ⟨vb, vg, kb, kg, rfl, rfl, OB, OG⟩
theorem failed06 (b : BBank) (vb vg : Value) (hb hg : PHeap) [ib : Arr vb encBat 4 hb b.bats] [ig : Arr vg encGen 5 hg b.gens] (ok : BOk b) (vx : Value) (hx : PHeap) (x : List UInt8) [jx : Arr vx encU8 1 hx x] : Spec Tryz.prog 28 #[.agg #[vb, vg], vx] [] [hb, hg, hx] (fun v hs => ∃ kf, hs = [kf] ∧ OArr v encI 1 3 kf (failP b x)) := by
 have hby := fun i => byt_ok x i
 unfold byt at hby
 have n6 := ok.ng
 have lx := jx.le
 have nF : OArr (.slice none 0 0) encI 1 3 emp ([] : List Int) := OArr.nil (fun _ => rfl)
 refine Spec.intro (fn := Tryz.f28) (N := 36) Tryz.func28 rfl Tryz.ntmps28 rfl fun B => ?_
 refine XK.seq (XK.region rfl ?_)
 refine XO.box rfl fun b2 => ?_
 refine XO.q (Q.assign rfl) (XO.done (XK.seq (XK.region rfl (XO.q (Q.assign rfl) (XO.done ?_)))))
 refine XK.seq (XK.seq (XK.region rfl ?_))
 refine XO.q (Q.fieldAddr rfl) ?_
 refine XO.q (Q.ld rfl rfl) ?_
 refine XO.len rfl fun l11 => ?_
 refine XO.q (Q.move rfl) (XO.done (XK.block ?_))
 refine XK.while (X := Nat × Value × PHeap) [5, 6, 7, 8, 12, 13, 14, 15, 16, 17, 18, 19, 20, 21, 22, 23, 24, 25, 26, 27, 28, 29, 30, 31, 32, 33, 34] (fun ⟨i, vf, kf⟩ => [(12, some (.int .i64 (i : Nat))), (5, some (vf))]) (fun ⟨i, vf, kf⟩ => [kf]) (fun ⟨i, vf, kf⟩ => i ≤ b.gens.length ∧ OArr vf encI 1 3 kf (failTo b x i)) (fun ⟨i, vf, kf⟩ => b.gens.length - i) (0, .slice none 0 0, emp) [emp] rfl ⟨by omega, nF⟩ (.c rfl (.c rfl (.base 0 rfl rfl))) ?_
 rintro ⟨i, vf, kf⟩ ⟨hi, OF⟩ ih0
 dsimp only [lcA, lnA] at ih0 ⊢
 refine XK.seq (XK.region rfl ?_)
 refine XO.q (Q.lss rfl rfl) ?_
 refine XO.done (XK.seq ?_)
 refine XK.if rfl (fun c0 => ?_) (fun c0 => ?_)
 ·skip
  have hb0 := hby i
  have fl := failTo_len b x i
  have gk := ok.gen _ (getD_memB (show i < b.gens.length by omega))
  have g0 := gk.t0
  have g1 := gk.t1
  refine XK.skip (XK.seq (XK.block (XK.seq (XK.region rfl (XO.q (Q.move rfl) ?_)))))
  refine XO.ix rfl rfl (by omega) (by omega) fun i15 => ?_
  refine XO.q (Q.ldEA [_, _, _, _, _] rfl (by first | assumption | omega) rfl rfl) ?_
  refine XO.alloc fun b7 => ?_
  refine XO.q (Q.assign rfl) ?_
  refine XO.st rfl rfl rfl ?_
  refine XO.done (XK.seq (XK.region rfl (XO.q (Q.assign rfl) (XO.done (XK.seq ?_)))))
  refine XK.seq (XK.region rfl (XO.q (Q.move rfl) (XO.q (Q.move rfl) ?_)))
  refine XO.len rfl fun l19 => ?_
  refine XO.q (Q.lss rfl rfl) ?_
  refine XO.done ?_
  refine XK.meet (X := Unit) [8, 21, 22, 23, 24, 25, 26, 27, 28, 29] (fun _u => [(8, some (.int .i64 (failAt b x i)))]) (fun _u => []) (fun _u => True) [] ?_ ?_
  ·rintro _u _
   dsimp only [lcA, lnA]
   refine XK.region rfl (XO.q (Q.move rfl) (XO.q (Q.move rfl) ?_))
   refine XO.lit [_] [_] [failAt b x i] encI (by rfl) (by rfl) rfl (by rfl) (by exact .c 0 1 rfl rfl rfl (.n _)) (fun _ => rfl) (by rfl) rfl (by infer_instance) rfl fun v32 h32 O32 => ?_
   refine XO.append rfl rfl rfl rfl (by first | omega | (simp; omega)) fun v33 h33 O33 => ?_
   refine XO.q (Q.assign rfl) (XO.done ?_)
   refine XK.inBlock ?_
   refine XK.region rfl ?_
   refine XO.q (Q.add rfl rfl ⟨by omega, by omega⟩) ?_
   refine XO.q (Q.move rfl) (XO.done ?_)
   exact ih0 (i + 1, v33, h33) _ _ ⟨by dsimp only; omega, O33⟩ (by first | omega | (dsimp only; omega)) (.c rfl (.c rfl (.base 58 rfl rfl))) inferInstance
  ·intro mt1
   dsimp only [lcA, lnA] at mt1
   refine XK.if rfl (fun c1 => ?_) (fun c1 => ?_)
   ·skip
    refine XK.drawn [0, 1, 2, 3, 4, 5, 6, 7, 8, 9] [b7] [] (.q 0 (.q 1 (.q 2 (.q 3 (.q 4 (.q 5 (.q 6 (.q 7 (.q 8 (.q 9 .done)))))))))) Tryz.mixed rfl (by kernel_rfl) ?_
    refine XT.q rfl rfl (Q.move rfl) ?_
    refine XT.q rfl rfl (Q.move rfl) ?_
    refine XT.ix rfl rfl rfl rfl (by omega) (by omega) fun i23 => ?_
    refine XT.q rfl rfl (Q.ldE rfl (by first | assumption | omega) rfl) ?_
    refine XT.q rfl rfl (Q.conv rfl) ?_
    rw [wrap64_of ⟨by omega, by omega⟩]
    refine XT.q rfl rfl (Q.fieldAddr rfl) ?_
    refine XT.q rfl rfl (Q.ld rfl rfl) ?_
    refine XT.q rfl rfl (Q.add rfl rfl ⟨by omega, by omega⟩) ?_
    refine XT.q rfl rfl (Q.rem rfl rfl (by omega) (by omega)) ?_
    rw [show (((x.getD i default).toNat : Nat) : Int) % ((b.gens.getD i default).tries + 1) = failAt b x i by rw [failAt, if_pos (by omega)]; rfl]
    refine XT.q rfl rfl (Q.assign rfl) ?_
    refine XT.done ?_
    exact mt1 (()) _ _ trivial (.c rfl (.base 10 rfl rfl)) inferInstance
   ·skip
    refine XK.skip ?_
    rw [show failAt b x i = 0 by rw [failAt, if_neg (by omega)]] at mt1
    exact mt1 (()) _ _ trivial (.c rfl (.base 0 rfl rfl)) inferInstance
 ·skip
  have hin : i = b.gens.length := by omega
  refine XK.exit rfl ?_
  refine XK.seq (XK.region rfl (XO.q (Q.move rfl) (XO.q (Q.assign rfl) (XO.done ?_))))
  refine XK.rt [kf] Tryz.func28 Tryz.results28 (.t rfl .n) ?_
  subst hin
  exact ⟨kf, rfl, OF⟩
end Go.X.Bk

set_option linter.unusedSimpArgs false
set_option linter.unusedVariables false
set_option maxRecDepth 20000
namespace Go.X
open Go.Proofs
theorem nextT (b : Nat) (vx : Value) (hx : PHeap) (x : List UInt8) [jx : Arr vx encU8 1 hx x] (i n : Nat) (hi : i ≤ 1000000000) (hn : 0 < n) (hn2 : n ≤ 1000000) : Spec Tryz.prog 10 #[ptr b 0, .int .i64 (n : Nat)] [blk b [vx, .int .i64 ((i : Nat) : Int)] 38] [hx]
  (fun v hs => hs = [blk b [vx, .int .i64 ((i + 1 : Nat) : Int)] 38] ∧ ∃ r : Nat, v = .int .i64 (r : Nat) ∧ r < n) := by
 refine Spec.intro (fn := Tryz.f10) (N := 36) Tryz.func10 rfl Tryz.ntmps10 rfl fun B => ?_
 refine XK.seq (XK.region rfl (XO.q (Q.assign rfl) (XO.done (XK.seq (XK.region rfl ?_)))))
 refine XO.q (Q.move rfl) ?_
 refine XO.q (Q.nilCheck rfl) ?_
 refine XO.q (Q.fieldAddr rfl) ?_
 refine XO.q (Q.ld rfl rfl) ?_
 refine XO.q (Q.add rfl rfl ⟨by omega, by omega⟩) ?_
 rw [show ((i : Int) + 1) = ((i + 1 : Nat) : Int) from rfl]
 refine XO.q (Q.nilCheck rfl) ?_
 refine XO.q (Q.fieldAddr rfl) ?_
 refine XO.st rfl rfl rfl ?_
 refine XO.done (XK.seq (XK.seq ?_))
 refine XK.drawn [0, 1, 2, 3, 4, 5, 6, 7, 8, 9] [b] [] (.q 0 (.q 1 (.q 2 (.q 3 (.q 4 (.q 5 (.q 6 (.q 7 (.q 8 (.q 9 .done)))))))))) Tryz.mixed rfl (by kernel_rfl) ?_
 refine XT.q rfl rfl (Q.move rfl) ?_
 refine XT.q rfl rfl (Q.nilCheck rfl) ?_
 refine XT.q rfl rfl (Q.fieldAddr rfl) ?_
 refine XT.q rfl rfl (Q.ld rfl rfl) ?_
 refine XT.q rfl rfl (Q.move rfl) ?_
 refine XT.q rfl rfl (Q.nilCheck rfl) ?_
 refine XT.q rfl rfl (Q.fieldAddr rfl) ?_
 refine XT.q rfl rfl (Q.ld rfl rfl) ?_
 refine XT.q rfl rfl (Q.len rfl) ?_
 refine XT.q rfl rfl (Q.gtr rfl rfl) ?_
 refine XT.done ?_
 refine XK.if rfl (fun c0 => ?_) (fun c0 => ?_)
 ·skip
  refine XK.seq (XK.region rfl (XO.q (Q.assign rfl) (XO.done ?_)))
  refine XK.rt [blk b [vx, .int .i64 ((i + 1 : Nat) : Int)] 38] Tryz.func10 Tryz.results10 (.t rfl .n) ?_
  exact ⟨rfl, 0, rfl, hn⟩
 ·skip
  refine XK.skip (XK.seq ?_)
  refine XK.drawn [0, 1, 2, 3, 4, 5, 6, 7, 8, 9, 10, 11, 12, 13, 14] [b] [] (.q 0 (.q 1 (.q 2 (.q 3 (.q 4 (.q 5 (.q 6 (.q 7 (.q 8 (.q 9 (.q 10 (.q 11 (.q 12 (.q 13 (.q 14 .done))))))))))))))) Tryz.mixed rfl (by kernel_rfl) ?_
  refine XT.q rfl rfl (Q.move rfl) ?_
  refine XT.q rfl rfl (Q.nilCheck rfl) ?_
  refine XT.q rfl rfl (Q.fieldAddr rfl) ?_
  refine XT.q rfl rfl (Q.ld rfl rfl) ?_
  refine XT.q rfl rfl (Q.move rfl) ?_
  refine XT.q rfl rfl (Q.nilCheck rfl) ?_
  refine XT.q rfl rfl (Q.fieldAddr rfl) ?_
  refine XT.q rfl rfl (Q.ld rfl rfl) ?_
  refine XT.q rfl rfl (Q.sub rfl rfl ⟨by omega, by omega⟩) ?_
  rw [show (((i + 1 : Nat) : Int) - 1) = (i : Int) by omega]
  refine XT.ix rfl rfl rfl rfl (by omega) (by omega) fun i31 => ?_
  refine XT.q rfl rfl (Q.ldE rfl (by first | assumption | omega) rfl) ?_
  refine XT.q rfl rfl (Q.conv rfl) ?_
  have hu := (x.getD i default).toNat_lt
  rw [wrap64_of ⟨by omega, by omega⟩]
  refine XT.q rfl rfl (Q.move rfl) ?_
  refine XT.q rfl rfl (Q.rem rfl rfl (by omega) (by omega)) ?_
  rw [show ((((x.getD i default).toNat : Nat) : Int) % (n : Int)) = (((x.getD i default).toNat % n : Nat) : Int) from rfl]
  refine XT.q rfl rfl (Q.assign rfl) ?_
  refine XT.done ?_
  refine XK.rt [blk b [vx, .int .i64 ((i + 1 : Nat) : Int)] 38] Tryz.func10 Tryz.results10 (.t rfl .n) ?_
  exact ⟨rfl, (x.getD i default).toNat % n, rfl, Nat.mod_lt _ hn⟩
theorem midT (b bd j : Nat) (hj : j ≤ 1000000) (vp : Value) (hp : PHeap) (p : List UInt8) [sp : Arr vp encU8 1 hp p] (x y : Int) (hxy : x ≤ y) (hx : -1000000 ≤ x) (hy : y ≤ 1000000) :
  Spec Tryz.prog 54 #[.int .i64 x, .int .i64 y, ptr bd 0] [blk b [vp, .int .i64 ((j : Nat) : Int)] 38] [hp, blk bd [ptr b 0] 36] (fun v hs => ∃ m : Int, v = .int .i64 m ∧ hs = [blk b [vp, .int .i64 ((j + 1 : Nat) : Int)] 38] ∧ x ≤ m ∧ m ≤ y) := by
 refine Spec.intro (fn := Tryz.f54) (N := 15) Tryz.func54 rfl Tryz.ntmps54 rfl fun B => ?_
 refine XK.seq (XK.region rfl (XO.q (Q.assign rfl) (XO.done (XK.seq (XK.region rfl ?_)))))
 refine XO.q (Q.move rfl) (XO.q (Q.move rfl) (XO.q (Q.move rfl) ?_))
 refine XO.q (Q.sub rfl rfl ⟨by omega, by omega⟩) ?_
 refine XO.q (Q.ld rfl rfl) ?_
 refine XO.callB b Tryz.call10 rfl rfl rfl (nextT b vp hp p (j) (256) (by omega) (by omega) (by omega)) fun v11 s11 R11 => ?_
 obtain ⟨rfl, n11, rfl, h11⟩ := R11
 dsimp only [lcA, lnA]
 obtain ⟨m1, m2, m3, m4⟩ := Ht.mid_rng hxy h11
 refine XO.q (Q.mul rfl rfl ⟨by omega, by omega⟩) ?_
 refine XO.q (Q.quo rfl rfl (by omega) (by omega) (by omega)) ?_
 refine XO.q (Q.add rfl rfl ⟨by omega, by omega⟩) ?_
 refine XO.q (Q.assign rfl) (XO.done ?_)
 refine XK.rt [blk b [vp, .int .i64 ((j + 1 : Nat) : Int)] 38] Tryz.func54 Tryz.results54 (.t rfl .n) ?_
 exact ⟨_, rfl, rfl, m3, m4⟩
theorem betweenT (m : Nat) (hm : m ≤ 8) (a d : HCase) (va vd : Value) (ha hd : PHeap) [ia : Arr va encI 1 ha a.load] [id : Arr vd encI 1 hd d.load] (qa : Ht.CasedOk m a) (qd : Ht.CasedOk m d) (ad : Ht.LeC a d) (b q : Nat) (hq : q ≤ 100000) (vp : Value) (hp : PHeap) (p : List UInt8) [sp : Arr vp encU8 1 hp p] : Spec Tryz.prog 17 #[.agg #[va, .int .i64 a.out, .int .i64 a.pump, vd, .int .i64 d.out, .int .i64 d.pump], ptr b 0] [blk b [vp, .int .i64 ((q : Nat) : Int)] 38] [ha, hd, hp]
  (fun v hs => ∃ (c : HCase) (v1 : Value) (k : PHeap), v = .agg #[v1, .int .i64 c.out, .int .i64 c.pump] ∧ hs = [k, blk b [vp, .int .i64 ((q + 2 + m : Nat) : Int)] 38] ∧ OArr v1 encI 1 3 k c.load ∧ c.load.length = a.load.length ∧ Ht.LeC a c ∧ Ht.LeC c d) := by
 have hnil : OArr (.slice none 0 0) encI 1 3 emp ([] : List Int) := OArr.nil (fun _ => rfl)
 have q1 := qa.2.1
 have q2 := qd.2.1
 have q3 := qa.2.2
 have q4 := qd.2.2
 have q5 := ad.out
 have q6 := ad.pump
 have q7 := qa.1.1
 have q8 := qd.1.1
 refine Spec.intro (fn := Tryz.f17) (N := 54) Tryz.func17 rfl Tryz.ntmps17 rfl fun B => ?_
 refine XK.seq (XK.region rfl ?_)
 refine XO.box rfl fun b2 => ?_
 refine XO.box rfl fun b3 => ?_
 refine XO.alloc fun b4 => ?_
 refine XO.done (XK.seq (XK.region rfl ?_))
 refine XO.q (Q.func (fun _ he => rfl) (fun _ he => evs_rel he rfl)) ?_
 refine XO.q (Q.assign rfl) (XO.done (XK.seq ?_))
 refine XK.meet (X := Nat × Int × Int) [6, 9, 10, 11, 12, 13, 14, 15, 16, 17, 18, 19, 20, 21, 22, 23, 24, 25] (fun ⟨b6, m16, m24⟩ => [(6, some (ptr b6 0))]) (fun ⟨b6, m16, m24⟩ => [blk b6 [.slice none 0 0, .int .i64 m16, .int .i64 m24] 31, blk b [vp, .int .i64 ((q + 2 : Nat) : Int)] 38]) (fun ⟨b6, m16, m24⟩ => (a.out ≤ m16 ∧ m16 ≤ d.out) ∧ d.pump ≤ m24 ∧ m24 ≤ a.pump) [blk b [vp, .int .i64 ((q : Nat) : Int)] 38] ?_ ?_
 ·rintro ⟨b6, m16, m24⟩ ⟨⟨l16, u16⟩, l24, u24⟩
  dsimp only [lcA, lnA]
  refine XK.seq (XK.seq (XK.region rfl ?_))
  refine XO.q (Q.fieldAddr rfl) ?_
  refine XO.q (Q.fieldAddr rfl) ?_
  refine XO.q (Q.ld rfl rfl) ?_
  refine XO.len rfl fun l29 => ?_
  refine XO.q (Q.move rfl) (XO.done (XK.block ?_))
  refine XK.while (X := Nat × Value × PHeap × List Int) [7, 30, 31, 32, 33, 34, 35, 36, 37, 38, 39, 40, 41, 42, 43, 44, 45, 46, 47, 48, 49, 50, 51, 52] (fun ⟨i, v, k, t⟩ => [(30, some (.int .i64 (i : Nat)))]) (fun ⟨i, v, k, t⟩ => [blk b6 [v, .int .i64 m16, .int .i64 m24] 31, blk b [vp, .int .i64 ((q + 2 + i : Nat) : Int)] 38, k]) (fun ⟨i, v, k, t⟩ => i ≤ a.load.length ∧ t.length = i ∧ OArr v encI 1 3 k t ∧ ∀ j, j < i → a.load.getD j 0 ≤ t.getD j 0 ∧ t.getD j 0 ≤ d.load.getD j 0) (fun ⟨i, v, k, t⟩ => a.load.length - i) (0, .slice none 0 0, emp, []) [blk b6 [.slice none 0 0, .int .i64 m16, .int .i64 m24] 31, blk b [vp, .int .i64 ((q + 2 : Nat) : Int)] 38, emp] rfl ⟨by omega, rfl, hnil, fun j hj => by omega⟩ (.c rfl (.base 0 rfl rfl)) ?_
  rintro ⟨i, v, k, t⟩ ⟨hi, htl, OT, hT⟩ ih0
  dsimp only [lcA, lnA] at ih0 ⊢
  refine XK.seq (XK.region rfl ?_)
  refine XO.q (Q.lss rfl rfl) ?_
  refine XO.done (XK.seq ?_)
  refine XK.if rfl (fun c0 => ?_) (fun c0 => ?_)
  ·skip
   have r1 := qa.1.2 i (by omega)
   have r2 := qd.1.2 i (by omega)
   have r3 := ad.load i (by omega)
   change 0 ≤ a.load.getD i default ∧ a.load.getD i default ≤ _ at r1
   change 0 ≤ d.load.getD i default ∧ d.load.getD i default ≤ _ at r2
   change a.load.getD i default ≤ d.load.getD i default at r3
   refine XK.skip (XK.seq (XK.block (XK.seq (XK.region rfl (XO.q (Q.move rfl) ?_)))))
   refine XO.q (Q.assign rfl) (XO.done ?_)
   refine XK.drawn [0, 1, 2, 3, 4, 5, 6, 7, 8, 9, 10, 11, 12, 13, 14, 18] [b6, b2] [] (.q 0 (.q 1 (.q 2 (.q 3 (.q 4 (.q 5 (.q 6 (.q 7 (.q 8 (.q 9 (.q 10 (.q 11 (.q 12 (.q 13 (.q 14 (.br 15 true (.br 16 true (.br 17 true (.q 18 (.br 19 false .done .stop)) .stop) .stop) .stop)))))))))))))))) Tryz.mixed rfl (by kernel_rfl) ?_
   refine XT.q rfl rfl (Q.fieldAddr rfl) ?_
   refine XT.q rfl rfl (Q.ld rfl rfl) ?_
   refine XT.q rfl rfl (Q.move rfl) ?_
   refine XT.q rfl rfl (Q.fieldAddr rfl) ?_
   refine XT.q rfl rfl (Q.fieldAddr rfl) ?_
   refine XT.q rfl rfl (Q.ld rfl rfl) ?_
   refine XT.q rfl rfl (Q.move rfl) ?_
   refine XT.ix rfl rfl rfl rfl (by omega) (by omega) fun i40 => ?_
   refine XT.q rfl rfl (Q.ldE rfl (by first | assumption | omega) rfl) ?_
   refine XT.q rfl rfl (Q.fieldAddr rfl) ?_
   refine XT.q rfl rfl (Q.fieldAddr rfl) ?_
   refine XT.q rfl rfl (Q.ld rfl rfl) ?_
   refine XT.q rfl rfl (Q.move rfl) ?_
   refine XT.ix rfl rfl rfl rfl (by omega) (by omega) fun i46 => ?_
   refine XT.q rfl rfl (Q.ldE rfl (by first | assumption | omega) rfl) ?_
   refine XT.vcall rfl rfl rfl rfl (VSpec.fn (fst := []) (cap := [ptr b3 0]) Tryz.call54 rfl (midT b b3 (q + 2 + i) (by omega) vp hp p (a.load.getD i default) (d.load.getD i default) (by omega) (by omega) (by omega))) (fun v48 s48 R48 => ?_) XT.stop
   obtain ⟨m48, rfl, rfl, l48, u48⟩ := R48
   dsimp only [lcA, lnA]
   refine ⟨inferInstance, ?_⟩
   refine XT.lit [_] [_] [_] encI rfl rfl (by rfl) (by rfl) rfl (by rfl) (by exact .c 0 1 rfl rfl rfl (.n _)) (fun _ => rfl) (by rfl) rfl (by infer_instance) rfl (fun v49 h49 O49 => ⟨inferInstance, ?_⟩) XT.stop
   refine XT.append rfl rfl rfl rfl rfl rfl (by simp only [List.length_cons, List.length_nil]; omega) (fun v50 h50 O50 => ⟨inferInstance, ?_⟩) XT.stop
   refine XT.q rfl rfl (Q.fieldAddr rfl) ?_
   refine XT.st rfl rfl rfl rfl rfl ⟨inferInstance, ?_⟩ XT.stop
   refine XT.done ?_
   refine XK.inBlock ?_
   refine XK.region rfl ?_
   refine XO.q (Q.add rfl rfl ⟨by omega, by omega⟩) ?_
   refine XO.q (Q.move rfl) (XO.done ?_)
   exact ih0 (i + 1, v50, h50, _) _ _ ⟨by dsimp only; omega, by dsimp only; rw [List.length_append, htl]; rfl, O50, fun j hj => by
     dsimp only
     rw [Ht.snoc_getD, htl]
     by_cases hji : j < i
     ·rw [if_pos hji]; exact hT j hji
     ·rw [if_neg hji, if_pos (by omega), show j = i by omega]; exact ⟨l48, u48⟩⟩ (by first | omega | (dsimp only; omega)) (.c rfl (.base 49 rfl rfl)) inferInstance
  ·skip
   refine XK.exit rfl ?_
   refine XK.seq (XK.region rfl ?_)
   refine XO.q (Q.ldA [_, _, _] rfl rfl rfl) ?_
   refine XO.st rfl rfl rfl ?_
   refine XO.done ?_
   obtain rfl : m = i := by omega
   refine XK.rt [k, blk b [vp, .int .i64 ((q + 2 + m : Nat) : Int)] 38] Tryz.func17 Tryz.results17 (.cell [_, _, _] rfl rfl rfl (.n)) ?_
   exact ⟨⟨t, m16, m24⟩, v, k, rfl, rfl, OT, by dsimp only; omega, ⟨fun j hj => (hT j (by omega)).1, l16, u24⟩, ⟨fun j hj => (hT j (by dsimp only at hj; omega)).2, u16, l24⟩⟩
 ·intro mtr2
  dsimp only [lcA, lnA] at mtr2
  refine XK.drawn [0, 1, 2, 3, 4, 5, 6, 8, 9, 10, 11, 12, 13, 14, 16] [b2] [] (.q 0 (.q 1 (.q 2 (.q 3 (.q 4 (.q 5 (.q 6 (.q 8 (.q 9 (.q 10 (.q 11 (.q 12 (.q 13 (.q 14 (.br 7 true (.br 15 true (.q 16 (.br 17 true (.br 18 false .done .stop) .stop)) (.br 17 true (.br 15 true (.q 16 (.br 18 false .done .stop)) .stop) .stop)) (.br 17 true (.br 7 true (.br 15 true (.q 16 (.br 18 false .done .stop)) .stop) .stop) .stop)))))))))))))))) Tryz.mixed rfl (by kernel_rfl) ?_
  refine XT.q rfl rfl (Q.move rfl) ?_
  refine XT.q rfl rfl (Q.fieldAddr rfl) ?_
  refine XT.q rfl rfl (Q.fieldAddr rfl) ?_
  refine XT.q rfl rfl (Q.ld rfl rfl) ?_
  refine XT.q rfl rfl (Q.fieldAddr rfl) ?_
  refine XT.q rfl rfl (Q.fieldAddr rfl) ?_
  refine XT.q rfl rfl (Q.ld rfl rfl) ?_
  refine XT.q rfl rfl (Q.move rfl) ?_
  refine XT.q rfl rfl (Q.fieldAddr rfl) ?_
  refine XT.q rfl rfl (Q.fieldAddr rfl) ?_
  refine XT.q rfl rfl (Q.ld rfl rfl) ?_
  refine XT.q rfl rfl (Q.fieldAddr rfl) ?_
  refine XT.q rfl rfl (Q.fieldAddr rfl) ?_
  refine XT.q rfl rfl (Q.ld rfl rfl) ?_
  refine XT.vcall rfl rfl rfl rfl (VSpec.fn (fst := []) (cap := [ptr b3 0]) Tryz.call54 rfl (midT b b3 (q) (by omega) vp hp p (a.out) (d.out) (by omega) (by omega) (by omega))) (fun v16 s16 R16 => ?_) ?_
  ·skip
   obtain ⟨m16, rfl, rfl, l16, u16⟩ := R16
   dsimp only [lcA, lnA]
   refine ⟨inferInstance, ?_⟩
   refine XT.vcall rfl rfl rfl rfl (VSpec.fn (fst := []) (cap := [ptr b3 0]) Tryz.call54 rfl (midT b b3 (q + 1) (by omega) vp hp p (d.pump) (a.pump) (by omega) (by omega) (by omega))) (fun v24 s24 R24 => ?_) ?_
   ·skip
    obtain ⟨m24, rfl, rfl, l24, u24⟩ := R24
    dsimp only [lcA, lnA]
    refine ⟨inferInstance, ?_⟩
    refine XT.q rfl rfl (Q.build [_, _, _] (.c 1 1 rfl rfl rfl (.c 2 1 rfl rfl rfl (.n _)))) ?_
    refine XT.alloc rfl rfl (fun b6 => ⟨inferInstance, ?_⟩) XT.stop
    refine XT.st rfl rfl rfl rfl rfl ⟨inferInstance, ?_⟩ XT.stop
    refine XT.done ?_
    exact mtr2 ((b6, m16, m24)) _ _ ⟨⟨l16, u16⟩, l24, u24⟩ (.c rfl (.base 18 rfl rfl)) inferInstance
   ·skip
    refine XT.alloc rfl rfl (fun b6 => ⟨inferInstance, ?_⟩) XT.stop
    refine XT.vcall rfl rfl rfl rfl (VSpec.fn (fst := []) (cap := [ptr b3 0]) Tryz.call54 rfl (midT b b3 (q + 1) (by omega) vp hp p (d.pump) (a.pump) (by omega) (by omega) (by omega))) (fun v24 s24 R24 => ?_) XT.stop
    obtain ⟨m24, rfl, rfl, l24, u24⟩ := R24
    dsimp only [lcA, lnA]
    refine ⟨inferInstance, ?_⟩
    refine XT.q rfl rfl (Q.build [_, _, _] (.c 1 1 rfl rfl rfl (.c 2 1 rfl rfl rfl (.n _)))) ?_
    refine XT.st rfl rfl rfl rfl rfl ⟨inferInstance, ?_⟩ XT.stop
    refine XT.done ?_
    exact mtr2 ((b6, m16, m24)) _ _ ⟨⟨l16, u16⟩, l24, u24⟩ (.c rfl (.base 18 rfl rfl)) inferInstance
  ·skip
   refine XT.alloc rfl rfl (fun b6 => ⟨inferInstance, ?_⟩) XT.stop
   refine XT.vcall rfl rfl rfl rfl (VSpec.fn (fst := []) (cap := [ptr b3 0]) Tryz.call54 rfl (midT b b3 (q) (by omega) vp hp p (a.out) (d.out) (by omega) (by omega) (by omega))) (fun v16 s16 R16 => ?_) XT.stop
   obtain ⟨m16, rfl, rfl, l16, u16⟩ := R16
   dsimp only [lcA, lnA]
   refine ⟨inferInstance, ?_⟩
   refine XT.vcall rfl rfl rfl rfl (VSpec.fn (fst := []) (cap := [ptr b3 0]) Tryz.call54 rfl (midT b b3 (q + 1) (by omega) vp hp p (d.pump) (a.pump) (by omega) (by omega) (by omega))) (fun v24 s24 R24 => ?_) XT.stop
   obtain ⟨m24, rfl, rfl, l24, u24⟩ := R24
   dsimp only [lcA, lnA]
   refine ⟨inferInstance, ?_⟩
   refine XT.q rfl rfl (Q.build [_, _, _] (.c 1 1 rfl rfl rfl (.c 2 1 rfl rfl rfl (.n _)))) ?_
   refine XT.st rfl rfl rfl rfl rfl ⟨inferInstance, ?_⟩ XT.stop
   refine XT.done ?_
   exact mtr2 ((b6, m16, m24)) _ _ ⟨⟨l16, u16⟩, l24, u24⟩ (.c rfl (.base 18 rfl rfl)) inferInstance
theorem getD_setI {xs : List Int} {i j : Nat} {m : Int} (hi : i < xs.length) : (xs.set i m).getD j 0 = if j = i then m else xs.getD j 0 := by
 rw [List.getD_eq_getElem?_getD, List.getElem?_set]
 by_cases h : i = j
 ·subst h; rw [if_pos rfl, if_pos rfl, if_pos hi]; rfl
 ·rw [if_neg h, if_neg (fun e => h e.symm), ← List.getD_eq_getElem?_getD]
structure PairOk (n i : Nat) (xs ys : List Int) : Prop where
 a : Ht.LoadOk n xs
 b : Ht.LoadOk n ys
 le : ∀ j, j < i → xs.getD j 0 ≤ ys.getD j 0
theorem PairOk.step {n i : Nat} {xs ys : List Int} (p : PairOk n i xs ys) (hi : i < n) : PairOk n (i + 1) (xs.set i (min (xs.getD i default) (ys.getD i default))) (ys.set i (max (xs.getD i default) (ys.getD i default))) := by
 have e1 := p.a.1
 have e2 := p.b.1
 have r1 := p.a.2 i (by omega)
 have r2 := p.b.2 i (by omega)
 change 0 ≤ xs.getD i default ∧ xs.getD i default ≤ _ at r1
 change 0 ≤ ys.getD i default ∧ ys.getD i default ≤ _ at r2
 refine ⟨⟨by rw [List.length_set]; exact e1, fun j hj => ?_⟩, ⟨by rw [List.length_set]; exact e2, fun j hj => ?_⟩, fun j hj => ?_⟩
 ·rw [List.length_set] at hj
  rw [getD_setI (by omega)]
  split
  ·omega
  ·exact p.a.2 j hj
 ·rw [List.length_set] at hj
  rw [getD_setI (by omega)]
  split
  ·omega
  ·exact p.b.2 j hj
 ·rw [getD_setI (by omega), getD_setI (by omega)]
  by_cases h : j = i
  ·rw [if_pos h, if_pos h]; omega
  ·rw [if_neg h, if_neg h]; exact p.le j (by omega)
set_option maxHeartbeats 2000000 in
set_option synthInstance.maxSize 1000 in
theorem hallT (v1 : Value) (h1 : PHeap) (x1 : List UInt8) [i1 : Arr v1 encU8 1 h1 x1] (v2 : Value) (h2 : PHeap) (x2 : List UInt8) [i2 : Arr v2 encU8 1 h2 x2] (v3 : Value) (h3 : PHeap) (x3 : List UInt8) [i3 : Arr v3 encU8 1 h3 x3] (v4 : Value) (h4 : PHeap) (x4 : List UInt8) [i4 : Arr v4 encU8 1 h4 x4] : Spec Tryz.prog 19 #[v1, v2, v3, v4] [] [h1, h2, h3, h4] (fun v hs => ∃ (h : Hall) (vr vw vb vc vt wlo whi : Value) (kr kw kb kc kt jlo jhi : PHeap) (t : List Int) (ca cb : HCase),
  v = .tuple #[.agg #[vr, vw, vb, vc], vt, .agg #[wlo, .int .i64 ca.out, .int .i64 ca.pump, whi, .int .i64 cb.out, .int .i64 cb.pump]] ∧ hs = [kr, kw, kb, kc, kt, jlo, jhi] ∧ (OArr vr Ht.encRoom 2 55 kr h.rooms ∧ OArr vw Ht.encWall 3 164 kw h.walls ∧ OArr vb Ht.encBranch 3 166 kb h.branches ∧ OArr vc Ht.encCooler 5 168 kc h.coolers) ∧ Ht.MOk h ∧
  OArr vt encI 1 3 kt t ∧ Ht.WarmOk h.rooms.length t ∧ OArr wlo encI 1 3 jlo ca.load ∧ OArr whi encI 1 3 jhi cb.load ∧ Ht.CasedOk h.rooms.length ca ∧ Ht.CasedOk h.rooms.length cb ∧ Ht.LeC ca cb) := by
 refine Spec.intro (fn := Tryz.f19) (N := 91) Tryz.func19 rfl Tryz.ntmps19 rfl fun B => ?_
 refine XK.seq (XK.region rfl ?_)
 refine XO.alloc fun b8 => ?_
 refine XO.q (Q.assign rfl) ?_
 refine XO.alloc fun b10 => ?_
 refine XO.done (XK.seq (XK.region rfl (XO.q (Q.move rfl) ?_)))
 refine XO.call Tryz.call55 rfl rfl rfl (Ht.made7 v1 h1 x1) fun v16 s16 R16 => ?_
 obtain ⟨h, vr, vw, vb, vc, kr, kw, kb, kc, rfl, rfl, Or, Ow, Ob, Oc, mk⟩ := R16
 dsimp only [lcA, lnA]
 have ok := hcheck_ok mk.ok
 have r1 := ok.r1
 have r2 := ok.r2
 refine XO.alloc fun b11 => ?_
 refine XO.st rfl rfl rfl ?_
 refine XO.done (XK.seq ?_)
 refine XK.meet (X := HCase × Value × PHeap × HCase × Value × PHeap × Nat × Nat) [12, 13, 17, 18, 19, 20, 21, 22] (fun ⟨c1, u1, k1, c2, u2, k2, b12, b13⟩ => [(12, some (ptr b12 0)), (13, some (ptr b13 0))]) (fun ⟨c1, u1, k1, c2, u2, k2, b12, b13⟩ => [blk b12 [u1, .int .i64 c1.out, .int .i64 c1.pump] 31, k1, blk b13 [u2, .int .i64 c2.out, .int .i64 c2.pump] 31, k2]) (fun ⟨c1, u1, k1, c2, u2, k2, b12, b13⟩ => OArr u1 encI 1 3 k1 c1.load ∧ OArr u2 encI 1 3 k2 c2.load ∧ Ht.CasedOk h.rooms.length c1 ∧ Ht.CasedOk h.rooms.length c2) [] ?_ ?_
 ·rintro ⟨c1, u1, k1, c2, u2, k2, b12, b13⟩ ⟨OU1, OU2, q1, q2⟩
  dsimp only [lcA, lnA]
  have e1 := q1.1.1
  have e2 := q2.1.1
  refine XK.seq (XK.seq (XK.region rfl ?_))
  refine XO.q (Q.fieldAddr rfl) ?_
  refine XO.q (Q.ld rfl rfl) ?_
  refine XO.len rfl fun l25 => ?_
  refine XO.q (Q.move rfl) (XO.done (XK.block ?_))
  refine XK.while (X := Nat × PHeap × PHeap × List Int × List Int) [14, 26, 27, 28, 29, 30, 31, 32, 33, 34, 35, 36, 37, 38, 39, 40, 41, 42, 43, 44, 45, 46, 47, 48, 49, 50, 51, 52, 53, 54, 55, 56, 57, 58, 59] (fun ⟨i, kx, ky, xs, ys⟩ => [(26, some (.int .i64 (i : Nat)))]) (fun ⟨i, kx, ky, xs, ys⟩ => [kx, ky]) (fun ⟨i, kx, ky, xs, ys⟩ => i ≤ h.rooms.length ∧ PairOk h.rooms.length i xs ys ∧ OArr u1 encI 1 3 kx xs ∧ OArr u2 encI 1 3 ky ys) (fun ⟨i, kx, ky, xs, ys⟩ => h.rooms.length - i) (0, k1, k2, c1.load, c2.load) [k1, k2] rfl ⟨by omega, ⟨q1.1, q2.1, fun j hj => absurd hj (Nat.not_lt_zero j)⟩, OU1, OU2⟩ (.c rfl (.base 0 rfl rfl)) ?_
  rintro ⟨i, kx, ky, xs, ys⟩ ⟨hi, pk, OX, OY⟩ ih0
  dsimp only [lcA, lnA] at ih0 ⊢
  have e3 := pk.a.1
  have e4 := pk.b.1
  refine XK.seq (XK.region rfl ?_)
  refine XO.q (Q.lss rfl rfl) ?_
  refine XO.done (XK.seq ?_)
  refine XK.if rfl (fun c0 => ?_) (fun c0 => ?_)
  ·skip
   refine XK.skip (XK.seq (XK.block (XK.seq (XK.region rfl (XO.q (Q.move rfl) ?_)))))
   refine XO.q (Q.assign rfl) (XO.done ?_)
   refine XK.draw2 [(0, []), (1, [2]), (2, []), (3, []), (4, [3]), (5, []), (6, []), (7, [2]), (8, []), (9, []), (10, [0]), (11, []), (12, [3]), (13, []), (14, []), (15, [1]), (16, []), (17, []), (18, [2]), (19, []), (20, []), (21, [0]), (22, []), (23, [3]), (24, []), (25, []), (26, [1]), (27, []), (28, []), (30, [])] [kx, ky, blk b12 [u1, .int .i64 c1.out, .int .i64 c1.pump] 31, blk b13 [u2, .int .i64 c2.out, .int .i64 c2.pump] 31] (.q 0 (.q 1 (.q 2 (.q 3 (.q 4 (.q 5 (.q 6 (.q 7 (.q 8 (.q 9 (.q 10 (.q 11 (.q 12 (.q 13 (.q 14 (.q 15 (.q 16 (.q 17 (.q 18 (.q 19 (.q 20 (.q 21 (.q 22 (.q 23 (.q 24 (.q 25 (.q 26 (.q 27 (.q 28 (.br 29 true (.q 30 (.br 31 true .done .stop)) .stop)))))))))))))))))))))))))))))) Tryz.mixed rfl (by kernel_rfl) (by rfl) ?_
   refine XT2.q (ks := []) rfl rfl rfl (Q.fieldAddr rfl) ?_
   refine XT2.q (ks := [blk b12 [u1, .int .i64 c1.out, .int .i64 c1.pump] 31]) rfl rfl rfl (Q.ld rfl rfl) ?_
   refine XT2.q (ks := []) rfl rfl rfl (Q.move rfl) ?_
   refine XT2.q (ks := []) rfl rfl rfl (Q.fieldAddr rfl) ?_
   refine XT2.q (ks := [blk b13 [u2, .int .i64 c2.out, .int .i64 c2.pump] 31]) rfl rfl rfl (Q.ld rfl rfl) ?_
   refine XT2.q (ks := []) rfl rfl rfl (Q.move rfl) ?_
   refine XT2.q (ks := []) rfl rfl rfl (Q.fieldAddr rfl) ?_
   refine XT2.q (ks := [blk b12 [u1, .int .i64 c1.out, .int .i64 c1.pump] 31]) rfl rfl rfl (Q.ld rfl rfl) ?_
   refine XT2.q (ks := []) rfl rfl rfl (Q.move rfl) ?_
   refine XT2.ix rfl rfl rfl rfl (by omega) (by omega) fun i38 => ?_
   refine XT2.q (ks := [kx]) rfl rfl rfl (Q.ldE rfl (by first | assumption | omega) rfl) ?_
   refine XT2.q (ks := []) rfl rfl rfl (Q.fieldAddr rfl) ?_
   refine XT2.q (ks := [blk b13 [u2, .int .i64 c2.out, .int .i64 c2.pump] 31]) rfl rfl rfl (Q.ld rfl rfl) ?_
   refine XT2.q (ks := []) rfl rfl rfl (Q.move rfl) ?_
   refine XT2.ix rfl rfl rfl rfl (by omega) (by omega) fun i43 => ?_
   refine XT2.q (ks := [ky]) rfl rfl rfl (Q.ldE rfl (by first | assumption | omega) rfl) ?_
   refine XT2.q (ks := []) rfl rfl rfl (Q.min rfl rfl) ?_
   refine XT2.q (ks := []) rfl rfl rfl (Q.fieldAddr rfl) ?_
   refine XT2.q (ks := [blk b12 [u1, .int .i64 c1.out, .int .i64 c1.pump] 31]) rfl rfl rfl (Q.ld rfl rfl) ?_
   refine XT2.q (ks := []) rfl rfl rfl (Q.move rfl) ?_
   refine XT2.ix rfl rfl rfl rfl (by omega) (by omega) fun i49 => ?_
   refine XT2.q (ks := [kx]) rfl rfl rfl (Q.ldE rfl (by first | assumption | omega) rfl) ?_
   refine XT2.q (ks := []) rfl rfl rfl (Q.fieldAddr rfl) ?_
   refine XT2.q (ks := [blk b13 [u2, .int .i64 c2.out, .int .i64 c2.pump] 31]) rfl rfl rfl (Q.ld rfl rfl) ?_
   refine XT2.q (ks := []) rfl rfl rfl (Q.move rfl) ?_
   refine XT2.ix rfl rfl rfl rfl (by omega) (by omega) fun i54 => ?_
   refine XT2.q (ks := [ky]) rfl rfl rfl (Q.ldE rfl (by first | assumption | omega) rfl) ?_
   refine XT2.q (ks := []) rfl rfl rfl (Q.max rfl rfl) ?_
   refine XT2.ix rfl rfl rfl rfl (by omega) (by omega) fun i57 => ?_
   refine XT2.stE (ns := [3, 2, 3]) (ks := [blk b13 [u2, .int .i64 c2.out, .int .i64 c2.pump] 31, blk b12 [u1, .int .i64 c1.out, .int .i64 c1.pump] 31, blk b13 [u2, .int .i64 c2.out, .int .i64 c2.pump] 31]) _ rfl rfl (by kernel_rfl) rfl rfl rfl rfl (by assumption) rfl rfl fun h6_29 O6_29 => ?_
   refine XT2.ix rfl rfl rfl rfl (by omega) (by omega) fun i58 => ?_
   refine XT2.stE (ns := []) (ks := []) _ rfl rfl (by kernel_rfl) rfl rfl rfl rfl (by assumption) rfl rfl fun h6_31 O6_31 => ?_
   refine XT2.done ?_
   refine XK.inBlock ?_
   refine XK.region rfl ?_
   refine XO.q (Q.add rfl rfl ⟨by omega, by omega⟩) ?_
   refine XO.q (Q.move rfl) (XO.done ?_)
   exact ih0 (i + 1, h6_29, h6_31, _, _) _ _ ⟨by dsimp only; omega, pk.step (by omega), O6_29, O6_31⟩ (by first | omega | (dsimp only; omega)) (.c rfl (.base 71 rfl rfl)) inferInstance
  ·skip
   have hin : i = h.rooms.length := by omega
   refine XK.exit rfl ?_
   refine XK.seq ?_
   refine XK.draw2 [(0, []), (1, [0]), (2, []), (3, [1]), (4, []), (5, []), (6, [0]), (7, []), (8, [1]), (9, []), (10, []), (11, [0]), (12, []), (13, [1]), (14, []), (15, []), (16, [0]), (17, []), (18, [1]), (19, []), (20, []), (22, []), (24, []), (26, [])] [blk b12 [u1, .int .i64 c1.out, .int .i64 c1.pump] 31, blk b13 [u2, .int .i64 c2.out, .int .i64 c2.pump] 31] (.q 0 (.q 1 (.q 2 (.q 3 (.q 4 (.q 5 (.q 6 (.q 7 (.q 8 (.q 9 (.q 10 (.q 11 (.q 12 (.q 13 (.q 14 (.q 15 (.q 16 (.q 17 (.q 18 (.q 19 (.q 20 (.br 21 true (.q 22 (.br 23 true (.q 24 (.br 25 true (.q 26 (.br 27 true .done .stop)) .stop)) .stop)) .stop)))))))))))))))))))))) Tryz.mixed rfl (by kernel_rfl) (by rfl) ?_
   refine XT2.q (ks := []) rfl rfl rfl (Q.fieldAddr rfl) ?_
   refine XT2.q (ks := [blk b12 [u1, .int .i64 c1.out, .int .i64 c1.pump] 31]) rfl rfl rfl (Q.ld rfl rfl) ?_
   refine XT2.q (ks := []) rfl rfl rfl (Q.fieldAddr rfl) ?_
   refine XT2.q (ks := [blk b13 [u2, .int .i64 c2.out, .int .i64 c2.pump] 31]) rfl rfl rfl (Q.ld rfl rfl) ?_
   refine XT2.q (ks := []) rfl rfl rfl (Q.min rfl rfl) ?_
   refine XT2.q (ks := []) rfl rfl rfl (Q.fieldAddr rfl) ?_
   refine XT2.q (ks := [blk b12 [u1, .int .i64 c1.out, .int .i64 c1.pump] 31]) rfl rfl rfl (Q.ld rfl rfl) ?_
   refine XT2.q (ks := []) rfl rfl rfl (Q.fieldAddr rfl) ?_
   refine XT2.q (ks := [blk b13 [u2, .int .i64 c2.out, .int .i64 c2.pump] 31]) rfl rfl rfl (Q.ld rfl rfl) ?_
   refine XT2.q (ks := []) rfl rfl rfl (Q.max rfl rfl) ?_
   refine XT2.q (ks := []) rfl rfl rfl (Q.fieldAddr rfl) ?_
   refine XT2.q (ks := [blk b12 [u1, .int .i64 c1.out, .int .i64 c1.pump] 31]) rfl rfl rfl (Q.ld rfl rfl) ?_
   refine XT2.q (ks := []) rfl rfl rfl (Q.fieldAddr rfl) ?_
   refine XT2.q (ks := [blk b13 [u2, .int .i64 c2.out, .int .i64 c2.pump] 31]) rfl rfl rfl (Q.ld rfl rfl) ?_
   refine XT2.q (ks := []) rfl rfl rfl (Q.max rfl rfl) ?_
   refine XT2.q (ks := []) rfl rfl rfl (Q.fieldAddr rfl) ?_
   refine XT2.q (ks := [blk b12 [u1, .int .i64 c1.out, .int .i64 c1.pump] 31]) rfl rfl rfl (Q.ld rfl rfl) ?_
   refine XT2.q (ks := []) rfl rfl rfl (Q.fieldAddr rfl) ?_
   refine XT2.q (ks := [blk b13 [u2, .int .i64 c2.out, .int .i64 c2.pump] 31]) rfl rfl rfl (Q.ld rfl rfl) ?_
   refine XT2.q (ks := []) rfl rfl rfl (Q.min rfl rfl) ?_
   refine XT2.q (ks := []) rfl rfl rfl (Q.fieldAddr rfl) ?_
   refine XT2.st (ns := [1]) (ks := [blk b13 [u2, .int .i64 c2.out, .int .i64 c2.pump] 31]) rfl rfl (by kernel_rfl) rfl rfl rfl rfl ?_
   refine XT2.q (ks := []) rfl rfl rfl (Q.fieldAddr rfl) ?_
   refine XT2.st (ns := []) (ks := []) rfl rfl (by kernel_rfl) rfl rfl rfl rfl ?_
   refine XT2.q (ks := []) rfl rfl rfl (Q.fieldAddr rfl) ?_
   refine XT2.st (ns := []) (ks := []) rfl rfl (by kernel_rfl) rfl rfl rfl rfl ?_
   refine XT2.q (ks := []) rfl rfl rfl (Q.fieldAddr rfl) ?_
   refine XT2.st (ns := []) (ks := []) rfl rfl (by kernel_rfl) rfl rfl rfl rfl ?_
   refine XT2.done ?_
   refine XK.seq ?_
   refine XK.drawn [0, 1, 2, 4, 5, 6, 8] [b11, b12, b13] [] (.q 0 (.q 1 (.q 2 (.q 4 (.q 5 (.q 6 (.br 3 true (.br 7 true (.q 8 (.br 9 false .done .stop)) .stop) .stop))))))) Tryz.mixed rfl (by kernel_rfl) ?_
   refine XT.q rfl rfl (Q.ldA [_, _, _, _] rfl rfl rfl) ?_
   refine XT.q rfl rfl (Q.ldA [_, _, _, _] rfl rfl rfl) ?_
   refine XT.q rfl rfl (Q.move rfl) ?_
   refine XT.q rfl rfl (Q.ldA [_, _, _] rfl rfl rfl) ?_
   refine XT.q rfl rfl (Q.ldA [_, _, _] rfl rfl rfl) ?_
   refine XT.q rfl rfl (Q.build [_, _, _, _, _, _] (.c 0 3 rfl rfl rfl (.c 3 3 rfl rfl rfl (.n _)))) ?_
   refine XT.call rfl rfl Tryz.call20 rfl rfl rfl (Ht.warm_made vr vw vb vc kr h.rooms r2 v2 h2 x2) (fun v87 s87 R87 => ?_) XT.stop
   obtain ⟨t, kt, rfl, OT, wt⟩ := R87
   dsimp only [lcA, lnA]
   refine ⟨inferInstance, ?_⟩
   refine XT.st rfl rfl rfl rfl rfl ⟨inferInstance, ?_⟩ XT.stop
   refine XT.q rfl rfl (Q.assign rfl) ?_
   refine XT.st rfl rfl rfl rfl rfl ⟨inferInstance, ?_⟩ XT.stop
   refine XT.done ?_
   refine XK.rt [kr, kw, kb, kc, kt, kx, ky] Tryz.func19 Tryz.results19 (.cell [_, _, _, _] rfl rfl rfl (.t rfl (.cell [_, _, _, _, _, _] rfl rfl rfl (.n)))) ?_
   refine ⟨h, vr, vw, vb, vc, v87, u1, u2, kr, kw, kb, kc, kt, kx, ky, t, ⟨xs, min c1.out c2.out, max c1.pump c2.pump⟩, ⟨ys, max c1.out c2.out, min c1.pump c2.pump⟩, rfl, rfl, ⟨Or, Ow, Ob, Oc⟩, mk, OT, wt, OX, OY, ⟨pk.a, by have := q1.2.1; have := q2.2.1; dsimp only; omega, by have := q1.2.2; have := q2.2.2; dsimp only; omega⟩, ⟨pk.b, by have := q1.2.1; have := q2.2.1; dsimp only; omega, by have := q1.2.2; have := q2.2.2; dsimp only; omega⟩, ⟨fun j hj => pk.le j (by dsimp only at hj; omega), by dsimp only; omega, by dsimp only; omega⟩⟩
 ·intro mtr2
  dsimp only [lcA, lnA] at mtr2
  refine XK.drawn [0, 1, 3, 4] [b11] [] (.q 0 (.q 1 (.q 3 (.q 4 (.br 2 true (.br 5 true (.br 6 true (.br 7 true (.br 8 true (.br 9 false .done .stop) .stop) .stop) (.br 7 true (.br 6 true (.br 8 true (.br 9 false .done .stop) .stop) .stop) .stop)) (.br 6 true (.br 5 true (.br 7 true (.br 8 true (.br 9 false .done .stop) .stop) .stop) (.br 7 true (.br 5 true (.br 8 true (.br 9 false .done .stop) .stop) .stop) .stop)) (.br 7 true (.br 5 true (.br 6 true (.br 8 true (.br 9 false .done .stop) .stop) .stop) (.br 6 true (.br 5 true (.br 8 true (.br 9 false .done .stop) .stop) .stop) .stop)) .stop))) (.br 6 true (.br 2 true (.br 5 true (.br 7 true (.br 8 true (.br 9 false .done .stop) .stop) .stop) (.br 7 true (.br 5 true (.br 8 true (.br 9 false .done .stop) .stop) .stop) .stop)) (.br 7 true (.br 2 true (.br 5 true (.br 8 true (.br 9 false .done .stop) .stop) .stop) .stop) .stop)) (.br 7 true (.br 2 true (.br 5 true (.br 6 true (.br 8 true (.br 9 false .done .stop) .stop) .stop) (.br 6 true (.br 5 true (.br 8 true (.br 9 false .done .stop) .stop) .stop) .stop)) (.br 6 true (.br 2 true (.br 5 true (.br 8 true (.br 9 false .done .stop) .stop) .stop) .stop) .stop)) .stop))))))) Tryz.mixed rfl (by kernel_rfl) ?_
  refine XT.q rfl rfl (Q.ldA [_, _, _, _] rfl rfl rfl) ?_
  refine XT.q rfl rfl (Q.move rfl) ?_
  refine XT.q rfl rfl (Q.ldA [_, _, _, _] rfl rfl rfl) ?_
  refine XT.q rfl rfl (Q.move rfl) ?_
  refine XT.call rfl rfl Tryz.call56 rfl rfl rfl (Ht.cased_made vr vw vb vc kr h.rooms r2 v3 h3 x3) (fun v19 s19 R19 => ?_) ?_
  ·skip
   obtain ⟨c19, u19, k19, rfl, rfl, O19, q19⟩ := R19
   dsimp only [lcA, lnA]
   refine ⟨inferInstance, ?_⟩
   refine XT.call rfl rfl Tryz.call56 rfl rfl rfl (Ht.cased_made vr vw vb vc kr h.rooms r2 v4 h4 x4) (fun v22 s22 R22 => ?_) ?_
   ·skip
    obtain ⟨c22, u22, k22, rfl, rfl, O22, q22⟩ := R22
    dsimp only [lcA, lnA]
    refine ⟨inferInstance, ?_⟩
    refine XT.alloc rfl rfl (fun b12 => ⟨inferInstance, ?_⟩) ?_
    ·skip
     refine XT.alloc rfl rfl (fun b13 => ⟨inferInstance, ?_⟩) XT.stop
     refine XT.st rfl rfl rfl rfl rfl ⟨inferInstance, ?_⟩ XT.stop
     refine XT.st rfl rfl rfl rfl rfl ⟨inferInstance, ?_⟩ XT.stop
     refine XT.done ?_
     exact mtr2 ((c19, u19, k19, c22, u22, k22, b12, b13)) _ _ ⟨O19, O22, q19, q22⟩ (.c rfl (.c rfl (.base 8 rfl rfl))) inferInstance
    ·skip
     refine XT.alloc rfl rfl (fun b13 => ⟨inferInstance, ?_⟩) XT.stop
     refine XT.alloc rfl rfl (fun b12 => ⟨inferInstance, ?_⟩) XT.stop
     refine XT.st rfl rfl rfl rfl rfl ⟨inferInstance, ?_⟩ XT.stop
     refine XT.st rfl rfl rfl rfl rfl ⟨inferInstance, ?_⟩ XT.stop
     refine XT.done ?_
     exact mtr2 ((c19, u19, k19, c22, u22, k22, b12, b13)) _ _ ⟨O19, O22, q19, q22⟩ (.c rfl (.c rfl (.base 8 rfl rfl))) inferInstance
   ·skip
    refine XT.alloc rfl rfl (fun b12 => ⟨inferInstance, ?_⟩) ?_
    ·skip
     refine XT.call rfl rfl Tryz.call56 rfl rfl rfl (Ht.cased_made vr vw vb vc kr h.rooms r2 v4 h4 x4) (fun v22 s22 R22 => ?_) ?_
     ·skip
      obtain ⟨c22, u22, k22, rfl, rfl, O22, q22⟩ := R22
      dsimp only [lcA, lnA]
      refine ⟨inferInstance, ?_⟩
      refine XT.alloc rfl rfl (fun b13 => ⟨inferInstance, ?_⟩) XT.stop
      refine XT.st rfl rfl rfl rfl rfl ⟨inferInstance, ?_⟩ XT.stop
      refine XT.st rfl rfl rfl rfl rfl ⟨inferInstance, ?_⟩ XT.stop
      refine XT.done ?_
      exact mtr2 ((c19, u19, k19, c22, u22, k22, b12, b13)) _ _ ⟨O19, O22, q19, q22⟩ (.c rfl (.c rfl (.base 8 rfl rfl))) inferInstance
     ·skip
      refine XT.alloc rfl rfl (fun b13 => ⟨inferInstance, ?_⟩) XT.stop
      refine XT.call rfl rfl Tryz.call56 rfl rfl rfl (Ht.cased_made vr vw vb vc kr h.rooms r2 v4 h4 x4) (fun v22 s22 R22 => ?_) XT.stop
      obtain ⟨c22, u22, k22, rfl, rfl, O22, q22⟩ := R22
      dsimp only [lcA, lnA]
      refine ⟨inferInstance, ?_⟩
      refine XT.st rfl rfl rfl rfl rfl ⟨inferInstance, ?_⟩ XT.stop
      refine XT.st rfl rfl rfl rfl rfl ⟨inferInstance, ?_⟩ XT.stop
      refine XT.done ?_
      exact mtr2 ((c19, u19, k19, c22, u22, k22, b12, b13)) _ _ ⟨O19, O22, q19, q22⟩ (.c rfl (.c rfl (.base 8 rfl rfl))) inferInstance
    ·skip
     refine XT.alloc rfl rfl (fun b13 => ⟨inferInstance, ?_⟩) XT.stop
     refine XT.call rfl rfl Tryz.call56 rfl rfl rfl (Ht.cased_made vr vw vb vc kr h.rooms r2 v4 h4 x4) (fun v22 s22 R22 => ?_) ?_
     ·skip
      obtain ⟨c22, u22, k22, rfl, rfl, O22, q22⟩ := R22
      dsimp only [lcA, lnA]
      refine ⟨inferInstance, ?_⟩
      refine XT.alloc rfl rfl (fun b12 => ⟨inferInstance, ?_⟩) XT.stop
      refine XT.st rfl rfl rfl rfl rfl ⟨inferInstance, ?_⟩ XT.stop
      refine XT.st rfl rfl rfl rfl rfl ⟨inferInstance, ?_⟩ XT.stop
      refine XT.done ?_
      exact mtr2 ((c19, u19, k19, c22, u22, k22, b12, b13)) _ _ ⟨O19, O22, q19, q22⟩ (.c rfl (.c rfl (.base 8 rfl rfl))) inferInstance
     ·skip
      refine XT.alloc rfl rfl (fun b12 => ⟨inferInstance, ?_⟩) XT.stop
      refine XT.call rfl rfl Tryz.call56 rfl rfl rfl (Ht.cased_made vr vw vb vc kr h.rooms r2 v4 h4 x4) (fun v22 s22 R22 => ?_) XT.stop
      obtain ⟨c22, u22, k22, rfl, rfl, O22, q22⟩ := R22
      dsimp only [lcA, lnA]
      refine ⟨inferInstance, ?_⟩
      refine XT.st rfl rfl rfl rfl rfl ⟨inferInstance, ?_⟩ XT.stop
      refine XT.st rfl rfl rfl rfl rfl ⟨inferInstance, ?_⟩ XT.stop
      refine XT.done ?_
      exact mtr2 ((c19, u19, k19, c22, u22, k22, b12, b13)) _ _ ⟨O19, O22, q19, q22⟩ (.c rfl (.c rfl (.base 8 rfl rfl))) inferInstance
  ·skip
   refine XT.alloc rfl rfl (fun b12 => ⟨inferInstance, ?_⟩) ?_
   ·skip
    refine XT.call rfl rfl Tryz.call56 rfl rfl rfl (Ht.cased_made vr vw vb vc kr h.rooms r2 v3 h3 x3) (fun v19 s19 R19 => ?_) ?_
    ·skip
     obtain ⟨c19, u19, k19, rfl, rfl, O19, q19⟩ := R19
     dsimp only [lcA, lnA]
     refine ⟨inferInstance, ?_⟩
     refine XT.call rfl rfl Tryz.call56 rfl rfl rfl (Ht.cased_made vr vw vb vc kr h.rooms r2 v4 h4 x4) (fun v22 s22 R22 => ?_) ?_
     ·skip
      obtain ⟨c22, u22, k22, rfl, rfl, O22, q22⟩ := R22
      dsimp only [lcA, lnA]
      refine ⟨inferInstance, ?_⟩
      refine XT.alloc rfl rfl (fun b13 => ⟨inferInstance, ?_⟩) XT.stop
      refine XT.st rfl rfl rfl rfl rfl ⟨inferInstance, ?_⟩ XT.stop
      refine XT.st rfl rfl rfl rfl rfl ⟨inferInstance, ?_⟩ XT.stop
      refine XT.done ?_
      exact mtr2 ((c19, u19, k19, c22, u22, k22, b12, b13)) _ _ ⟨O19, O22, q19, q22⟩ (.c rfl (.c rfl (.base 8 rfl rfl))) inferInstance
     ·skip
      refine XT.alloc rfl rfl (fun b13 => ⟨inferInstance, ?_⟩) XT.stop
      refine XT.call rfl rfl Tryz.call56 rfl rfl rfl (Ht.cased_made vr vw vb vc kr h.rooms r2 v4 h4 x4) (fun v22 s22 R22 => ?_) XT.stop
      obtain ⟨c22, u22, k22, rfl, rfl, O22, q22⟩ := R22
      dsimp only [lcA, lnA]
      refine ⟨inferInstance, ?_⟩
      refine XT.st rfl rfl rfl rfl rfl ⟨inferInstance, ?_⟩ XT.stop
      refine XT.st rfl rfl rfl rfl rfl ⟨inferInstance, ?_⟩ XT.stop
      refine XT.done ?_
      exact mtr2 ((c19, u19, k19, c22, u22, k22, b12, b13)) _ _ ⟨O19, O22, q19, q22⟩ (.c rfl (.c rfl (.base 8 rfl rfl))) inferInstance
    ·skip
     refine XT.alloc rfl rfl (fun b13 => ⟨inferInstance, ?_⟩) XT.stop
     refine XT.call rfl rfl Tryz.call56 rfl rfl rfl (Ht.cased_made vr vw vb vc kr h.rooms r2 v3 h3 x3) (fun v19 s19 R19 => ?_) XT.stop
     obtain ⟨c19, u19, k19, rfl, rfl, O19, q19⟩ := R19
     dsimp only [lcA, lnA]
     refine ⟨inferInstance, ?_⟩
     refine XT.call rfl rfl Tryz.call56 rfl rfl rfl (Ht.cased_made vr vw vb vc kr h.rooms r2 v4 h4 x4) (fun v22 s22 R22 => ?_) XT.stop
     obtain ⟨c22, u22, k22, rfl, rfl, O22, q22⟩ := R22
     dsimp only [lcA, lnA]
     refine ⟨inferInstance, ?_⟩
     refine XT.st rfl rfl rfl rfl rfl ⟨inferInstance, ?_⟩ XT.stop
     refine XT.st rfl rfl rfl rfl rfl ⟨inferInstance, ?_⟩ XT.stop
     refine XT.done ?_
     exact mtr2 ((c19, u19, k19, c22, u22, k22, b12, b13)) _ _ ⟨O19, O22, q19, q22⟩ (.c rfl (.c rfl (.base 8 rfl rfl))) inferInstance
   ·skip
    refine XT.alloc rfl rfl (fun b13 => ⟨inferInstance, ?_⟩) XT.stop
    refine XT.call rfl rfl Tryz.call56 rfl rfl rfl (Ht.cased_made vr vw vb vc kr h.rooms r2 v3 h3 x3) (fun v19 s19 R19 => ?_) ?_
    ·skip
     obtain ⟨c19, u19, k19, rfl, rfl, O19, q19⟩ := R19
     dsimp only [lcA, lnA]
     refine ⟨inferInstance, ?_⟩
     refine XT.call rfl rfl Tryz.call56 rfl rfl rfl (Ht.cased_made vr vw vb vc kr h.rooms r2 v4 h4 x4) (fun v22 s22 R22 => ?_) ?_
     ·skip
      obtain ⟨c22, u22, k22, rfl, rfl, O22, q22⟩ := R22
      dsimp only [lcA, lnA]
      refine ⟨inferInstance, ?_⟩
      refine XT.alloc rfl rfl (fun b12 => ⟨inferInstance, ?_⟩) XT.stop
      refine XT.st rfl rfl rfl rfl rfl ⟨inferInstance, ?_⟩ XT.stop
      refine XT.st rfl rfl rfl rfl rfl ⟨inferInstance, ?_⟩ XT.stop
      refine XT.done ?_
      exact mtr2 ((c19, u19, k19, c22, u22, k22, b12, b13)) _ _ ⟨O19, O22, q19, q22⟩ (.c rfl (.c rfl (.base 8 rfl rfl))) inferInstance
     ·skip
      refine XT.alloc rfl rfl (fun b12 => ⟨inferInstance, ?_⟩) XT.stop
      refine XT.call rfl rfl Tryz.call56 rfl rfl rfl (Ht.cased_made vr vw vb vc kr h.rooms r2 v4 h4 x4) (fun v22 s22 R22 => ?_) XT.stop
      obtain ⟨c22, u22, k22, rfl, rfl, O22, q22⟩ := R22
      dsimp only [lcA, lnA]
      refine ⟨inferInstance, ?_⟩
      refine XT.st rfl rfl rfl rfl rfl ⟨inferInstance, ?_⟩ XT.stop
      refine XT.st rfl rfl rfl rfl rfl ⟨inferInstance, ?_⟩ XT.stop
      refine XT.done ?_
      exact mtr2 ((c19, u19, k19, c22, u22, k22, b12, b13)) _ _ ⟨O19, O22, q19, q22⟩ (.c rfl (.c rfl (.base 8 rfl rfl))) inferInstance
    ·skip
     refine XT.alloc rfl rfl (fun b12 => ⟨inferInstance, ?_⟩) XT.stop
     refine XT.call rfl rfl Tryz.call56 rfl rfl rfl (Ht.cased_made vr vw vb vc kr h.rooms r2 v3 h3 x3) (fun v19 s19 R19 => ?_) XT.stop
     obtain ⟨c19, u19, k19, rfl, rfl, O19, q19⟩ := R19
     dsimp only [lcA, lnA]
     refine ⟨inferInstance, ?_⟩
     refine XT.call rfl rfl Tryz.call56 rfl rfl rfl (Ht.cased_made vr vw vb vc kr h.rooms r2 v4 h4 x4) (fun v22 s22 R22 => ?_) XT.stop
     obtain ⟨c22, u22, k22, rfl, rfl, O22, q22⟩ := R22
     dsimp only [lcA, lnA]
     refine ⟨inferInstance, ?_⟩
     refine XT.st rfl rfl rfl rfl rfl ⟨inferInstance, ?_⟩ XT.stop
     refine XT.st rfl rfl rfl rfl rfl ⟨inferInstance, ?_⟩ XT.stop
     refine XT.done ?_
     exact mtr2 ((c19, u19, k19, c22, u22, k22, b12, b13)) _ _ ⟨O19, O22, q19, q22⟩ (.c rfl (.c rfl (.base 8 rfl rfl))) inferInstance
end Go.X

set_option linter.unusedSimpArgs false
set_option linter.unusedVariables false
set_option maxRecDepth 20000
namespace Go.X
open Go.Proofs
theorem row_at {us : List Value} {K : PHeap} {h : Hall} {c : Nat → HCase} {t : List Int} {n i : Nat} (r : Ht.Rows us K (Ht.rowsL h c t n)) (hi : i < n) : Arr (us.getD i default) encI 1 K (Ht.iterT h c t (i + 1)) := by
 have := r.2 i (by rw [r.1, Ht.rows_len]; exact hi)
 rwa [Ht.rows_at hi] at this
theorem lok_90 {p : Int} (h0 : 0 ≤ p) (h1 : p ≤ 1000000) : Bk.LOk [⟨90, p⟩] := by
 refine ⟨by show 1 ≤ 64; decide, fun x hx => ?_, ?_⟩
 ·rw [List.mem_singleton] at hx; subst hx; dsimp only; omega
 ·simp [Bk.secs]
set_option maxHeartbeats 8000000 in
set_option synthInstance.maxSize 1000 in
set_option synthInstance.maxHeartbeats 400000 in
theorem TopRides_spec (v0 : Value) (h0 : PHeap) (x0 : List UInt8) [i0 : Arr v0 encU8 1 h0 x0] (v1 : Value) (h1 : PHeap) (x1 : List UInt8) [i1 : Arr v1 encU8 1 h1 x1] (v2 : Value) (h2 : PHeap) (x2 : List UInt8) [i2 : Arr v2 encU8 1 h2 x2] (v3 : Value) (h3 : PHeap) (x3 : List UInt8) [i3 : Arr v3 encU8 1 h3 x3] (v4 : Value) (h4 : PHeap) (x4 : List UInt8) [i4 : Arr v4 encU8 1 h4 x4] (v5 : Value) (h5 : PHeap) (x5 : List UInt8) [i5 : Arr v5 encU8 1 h5 x5] (v6 : Value) (h6 : PHeap) (x6 : List UInt8) [i6 : Arr v6 encU8 1 h6 x6] (n7 : Nat) (hn7 : n7 < 256) (n8 : Nat) (hn8 : n8 < 256) : Spec Tryz.prog 6 #[v0, v1, v2, v3, v4, v5, v6, .int .u8 (n7 : Nat), .int .u8 (n8 : Nat)] [] [h0, h1, h2, h3, h4, h5, h6] (fun v hs => v = .bool true ∧ hs = []) := by
 refine Spec.intro (fn := Tryz.f6) (N := 254) Tryz.func6 rfl Tryz.ntmps6 rfl fun B => ?_
 refine XK.seq (XK.region rfl (XO.q (Q.assign rfl) (XO.done (XK.seq (XK.region rfl ?_)))))
 refine XO.q (Q.move rfl) ?_
 refine XO.call Tryz.call27 rfl rfl rfl (Bk.made06 v0 h0 x0) fun v50 s50 R50 => ?_
 obtain ⟨vb0, vg0, kb0, kg0, rfl, rfl, OB, OG⟩ := R50
 dsimp only [lcA, lnA]
 obtain ⟨b, eb⟩ : ∃ b, b = Bk.madeP x0 := ⟨_, rfl⟩
 obtain ⟨ok0, nb4, ng3⟩ := Bk.made_ok x0
 rw [← eb] at OB OG ok0 nb4 ng3
 clear eb
 refine XO.alloc fun b19 => ?_
 refine XO.st rfl rfl rfl ?_
 refine XO.done (XK.seq (XK.region rfl ?_))
 refine XO.q (Q.fieldAddr rfl) ?_
 refine XO.q (Q.ld rfl rfl) ?_
 refine XO.q (Q.fieldAddr rfl) ?_
 refine XO.q (Q.ld rfl rfl) ?_
 refine XO.len rfl fun l55 => ?_
 refine XO.q (Q.min rfl rfl) ?_
 refine XO.cut (i := 0) (j := min b.gens.length 2) rfl .n (.s rfl (by omega)) (by omega) (by omega) fun v57 A57 => ?_
 obtain ⟨ok1, g2⟩ := Bk.few_gens ok0 (min b.gens.length 2) (by omega)
 obtain ⟨cg, ecg⟩ : ∃ cg, cg = (b.gens.drop 0).take (min b.gens.length 2 - 0) := ⟨_, rfl⟩
 obtain ⟨cb0, ecb⟩ : ∃ cb0, cb0 = b.bats := ⟨_, rfl⟩
 rw [← ecg, ← ecb] at ok1
 rw [← ecg] at A57 g2
 rw [← ecb] at OB
 refine XO.q (Q.fieldAddr rfl) ?_
 refine XO.st rfl rfl rfl ?_
 refine XO.done (XK.seq (XK.region rfl (XO.q (Q.move rfl) (XO.q (Q.move rfl) (XO.q (Q.move rfl) ?_)))))
 refine XO.q (Q.move rfl) ?_
 refine XO.call Tryz.call19 rfl rfl rfl (hallT v1 h1 x1 v2 h2 x2 v3 h3 x3 v4 h4 x4) fun v64 s64 R64 => ?_
 obtain ⟨h, vr, vw, vb, vc, vt, wlo, whi, kr, kw, kb, kc, kt, jlo, jhi, t, ca, cb, rfl, rfl, ⟨Or, Ow, Ob, Oc⟩, mk, OT, wt, Plo, Phi, qa, qb, lab⟩ := R64
 dsimp only [lcA, lnA]
 have ok := hcheck_ok mk.ok
 have r1 := ok.r1
 have r2 := ok.r2
 have tk := wt.tok
 have tl := wt.1
 refine XO.q (Q.move rfl) ?_
 refine XO.q (Q.extract rfl rfl) ?_
 refine XO.q (Q.extract rfl rfl) ?_
 refine XO.q (Q.extract rfl rfl) ?_
 refine XO.alloc fun b20 => ?_
 refine XO.alloc fun b22 => ?_
 refine XO.st rfl rfl rfl ?_
 refine XO.q (Q.assign rfl) ?_
 refine XO.st rfl rfl rfl ?_
 refine XO.done (XK.seq (XK.region rfl ?_))
 refine XO.q (Q.fieldAddr rfl) ?_
 refine XO.q (Q.fieldAddr rfl) ?_
 refine XO.q (Q.ld rfl rfl) ?_
 refine XO.q (Q.fieldAddr rfl) ?_
 refine XO.q (Q.fieldAddr rfl) ?_
 refine XO.q (Q.ld rfl rfl) ?_
 refine XO.q (Q.fieldAddr rfl) ?_
 refine XO.q (Q.fieldAddr rfl) ?_
 refine XO.q (Q.ld rfl rfl) ?_
 refine XO.q (Q.build [_, _, _] (.c 0 1 rfl rfl rfl (.c 1 1 rfl rfl rfl (.c 2 1 rfl rfl rfl (.n _))))) ?_
 refine XO.q (Q.fieldAddr rfl) ?_
 refine XO.q (Q.fieldAddr rfl) ?_
 refine XO.q (Q.ld rfl rfl) ?_
 refine XO.q (Q.fieldAddr rfl) ?_
 refine XO.q (Q.fieldAddr rfl) ?_
 refine XO.q (Q.ld rfl rfl) ?_
 refine XO.q (Q.build [_, _, _] (.c 0 1 rfl rfl rfl (.c 1 1 rfl rfl rfl (.n _)))) ?_
 refine XO.q (Q.build [_, _, _, _, _, _] (.c 0 3 rfl rfl rfl (.c 3 3 rfl rfl rfl (.n _)))) ?_
 refine XO.alloc fun b23 => ?_
 refine XO.st rfl rfl rfl ?_
 refine XO.done (XK.seq (XK.region rfl ?_))
 refine XO.q (Q.ldA [_, _] rfl rfl rfl) ?_
 refine XO.q (Q.move rfl) ?_
 refine XO.q (Q.conv rfl) ?_
 rw [wrap64_of ⟨by omega, by omega⟩]
 refine XO.q (Q.move rfl) ?_
 refine XO.q (Q.rem rfl rfl (by omega) (by omega)) ?_
 refine XO.q (Q.conv rfl) ?_
 rw [wrap64_of ⟨by omega, by omega⟩]
 rw [show ((n8 : Int) % 5) = ((n8 % 5 : Nat) : Int) from rfl]
 refine XO.call Tryz.call30 rfl rfl rfl (Bk.Hold_spec (⟨cb0, cg⟩ : Bk.BBank) vb0 v57 kb0 kg0 ((n7 : Nat) : Int) ((n8 % 5 : Nat) : Int) (by omega)) fun v93 s93 R93 => ?_
 obtain ⟨rfl, rfl⟩ := R93
 dsimp only [lcA, lnA]
 obtain ⟨hz, hz0, hrun⟩ := hold_run ok1 g2 (p := ((n7 : Nat) : Int)) (m := ((n8 % 5 : Nat) : Int)) (by omega) (by omega) (by omega)
 rw [hz]
 obtain ⟨hd, ehd⟩ : ∃ x, x = (Bk.holdP (⟨cb0, cg⟩ : Bk.BBank) ((n7 : Nat) : Int) ((n8 % 5 : Nat) : Int)).1 := ⟨_, rfl⟩
 rw [← ehd] at hz0 hrun ⊢
 clear hz ehd
 refine XO.q (Q.move rfl) ?_
 refine XO.q (Q.extract rfl rfl) ?_
 refine XO.q (Q.extract rfl rfl) ?_
 refine XO.q (Q.assign rfl) (XO.q (Q.assign rfl) (XO.done (XK.seq (XK.seq (XK.region rfl ?_)))))
 refine XO.q (Q.move rfl) ?_
 refine XO.q (Q.neq rfl rfl) ?_
 refine XO.done ?_
 refine XK.if rfl (fun c0 => ?_) (fun c0 => ?_)
 ·skip
  simp at c0
 ·skip
  refine XK.skip (XK.seq (XK.region rfl (XO.q (Q.move rfl) ?_)))
  refine XO.q (Q.min rfl rfl) ?_
  obtain ⟨H, eH, hH⟩ : ∃ H : Nat, min hd 90 = (H : Int) ∧ H ≤ 90 := ⟨(min hd 90).toNat, by omega, by omega⟩
  rw [eH]
  refine XO.q (Q.assign rfl) (XO.done (XK.seq (XK.region rfl ?_)))
  refine XO.q (Q.ldA [_, _, _, _] rfl rfl rfl) ?_
  refine XO.q (Q.move rfl) (XO.q (Q.move rfl) ?_)
  refine XO.q (Q.ldA [_, _, _, _, _, _] rfl rfl rfl) ?_
  refine XO.q (Q.move rfl) ?_
  refine XO.call Tryz.call22 rfl rfl rfl (Ht.Bounds_spec h vr vw vb vc kr kw kb kc ca cb wlo whi jlo jhi t t vt vt kt kt (H : Nat)) fun v106 s106 R106 => ?_
  obtain ⟨xL, xH, yL, yH, KLo, KHi, usL, usH, rfl, rfl, OL, OH, RL, RH⟩ := R106
  dsimp only [lcA, lnA]
  rw [Ht.bounds_fine mk.ok qa.cok qb.cok lab tk tk (fun i _ => Int.le_refl _) (by omega)] at RL RH ⊢
  dsimp only at RL RH ⊢
  refine XO.q (Q.move rfl) ?_
  refine XO.q (Q.extract rfl rfl) ?_
  refine XO.q (Q.extract rfl rfl) ?_
  refine XO.q (Q.extract rfl rfl) ?_
  refine XO.q (Q.assign rfl) (XO.q (Q.assign rfl) (XO.q (Q.assign rfl) (XO.done (XK.seq (XK.region rfl ?_)))))
  refine XO.q (Q.ldA [_, _, _, _] rfl rfl rfl) ?_
  refine XO.q (Q.move rfl) ?_
  refine XO.q (Q.ldA [_, _, _, _, _, _] rfl rfl rfl) ?_
  refine XO.q (Q.move rfl) ?_
  refine XO.call Tryz.call23 rfl rfl rfl (Ht.Ride_spec h vr vw vb vc kr kw kb kc t vt kt ca cb wlo whi jlo jhi (H : Nat)) fun v115 s115 R115 => ?_
  obtain ⟨rfl, rfl⟩ := R115
  dsimp only [lcA, lnA]
  have hrd115 : Ht.rideG h t ca cb (H : Nat) = ((Ht.rideL h cb H 0 t).1, (Ht.rideL h cb H 0 t).2, 0) := Ht.ride_fine (n := H) mk.ok qa.cok qb.cok lab tk (by omega)
  rw [hrd115]
  dsimp only
  obtain ⟨k1, ek1⟩ : ∃ x, x = (Ht.rideL h cb H 0 t).1 := ⟨_, rfl⟩
  have rk1 := ride_pos (h := h) (d := cb) (t := t) (m := H)
  rw [← ek1] at rk1 ⊢
  clear hrd115
  refine XO.q (Q.move rfl) ?_
  refine XO.q (Q.extract rfl rfl) ?_
  refine XO.q (Q.extract rfl rfl) ?_
  refine XO.q (Q.extract rfl rfl) ?_
  refine XO.q (Q.assign rfl) (XO.q (Q.assign rfl) (XO.q (Q.assign rfl) (XO.done (XK.seq (XK.seq ?_)))))
  refine XK.region rfl (XO.q (Q.move rfl) ?_)
  refine XO.q (Q.neq rfl rfl) ?_
  first | rw [decide_eq_false (show ¬ (0 : Int) ≠ (0 : Int) from fun h => h rfl)] | skip
  refine XO.q (Q.move rfl) ?_
  refine XO.q (Quiet.guardF rfl rfl fun g122 p122 => Q.move rfl) ?_
  refine XO.q (Quiet.guardF rfl rfl fun g123 p123 => Q.neq (lzv rfl rfl) rfl) ?_
  first | rw [decide_eq_false (show ¬ (0 : Int) ≠ (0 : Int) from fun h => h rfl)] | skip
  refine XO.q (Q.or rfl (fun hp => lzv hp rfl)) ?_
  refine XO.done ?_
  refine XK.if rfl (fun c1 => ?_) (fun c1 => ?_)
  ·skip
   simp at c1
  ·skip
   refine XK.skip (XK.seq (XK.region rfl (XO.q (Q.move rfl) (XO.q (Q.assign rfl) (XO.done ?_)))))
   refine XK.seq (XK.seq (XK.region rfl (XO.q (Q.move rfl) (XO.q (Q.move rfl) ?_))))
   refine XO.q (Q.gtr rfl rfl) ?_
   refine XO.done ?_
   refine XK.meet (X := Int) [18, 31, 32, 33, 34, 35, 129, 130, 131, 132, 133, 134, 135, 136, 137, 138, 139, 140, 141, 142, 143, 144, 145, 146, 147, 148, 149] (fun sf => [(31, some (.int .i64 sf))]) (fun sf => []) (fun sf => SafeTo h cb t H sf) [] ?_ ?_
   ·rintro sf hsafe
    dsimp only [lcA, lnA]
    refine XK.seq (XK.region rfl ?_)
    refine XO.q (Q.ldA [_, _] rfl rfl rfl) ?_
    refine XO.q (Q.move rfl) ?_
    refine XO.call Tryz.call28 rfl rfl rfl (Bk.failed06 (⟨cb0, cg⟩ : Bk.BBank) vb0 v57 kb0 kg0 ok1 v5 h5 x5) fun v152 s152 R152 => ?_
    obtain ⟨kf, rfl, OF⟩ := R152
    dsimp only [lcA, lnA]
    obtain ⟨f, ef⟩ : ∃ f, f = Bk.failP (⟨cb0, cg⟩ : Bk.BBank) x5 := ⟨_, rfl⟩
    have fk := Bk.fail_ok ok1 x5
    rw [← ef] at OF fk
    clear ef
    have fr := fk.rng ok1
    refine XO.q (Q.assign rfl) (XO.done (XK.seq (XK.region rfl (XO.q (Q.assign rfl) (XO.done ?_)))))
    refine XK.seq (XK.seq (XK.region rfl (XO.q (Q.move rfl) ?_)))
    refine XO.len rfl fun l154 => ?_
    refine XO.q (Q.move rfl) (XO.done (XK.block ?_))
    refine XK.while (X := Nat) [37, 39, 155, 156, 157, 158, 159, 160, 161, 162] (fun i => [(155, some (.int .i64 (i : Nat))), (37, some (.int .i64 (Bk.accI 0 (fun j => f.getD j default) (i))))]) (fun i => []) (fun i => i ≤ f.length) (fun i => f.length - i) (0) [] rfl (by omega) (.c rfl (.c rfl (.base 0 rfl rfl))) ?_
    rintro i hi ih0
    dsimp only [lcA, lnA] at ih0 ⊢
    refine XK.seq (XK.region rfl ?_)
    refine XO.q (Q.lss rfl rfl) ?_
    refine XO.done (XK.seq ?_)
    refine XK.if rfl (fun c3 => ?_) (fun c3 => ?_)
    ·skip
     have ac := Bk.accI_rng (s := 0) (f := fun j => f.getD j default) (B := 5) (by decide) i (fun j hj => by have q := fr.2 j (by omega); (try dsimp only); omega)
     have aq := fr.2 i (by omega)
     have a6 := fr.1
     refine XK.skip (XK.seq (XK.block (XK.seq (XK.region rfl ?_))))
     refine XO.ix rfl rfl (by omega) (by omega) fun i157 => ?_
     refine XO.q (Q.ldE rfl (by first | assumption | omega) rfl) ?_
     refine XO.q (Q.assign rfl) (XO.done (XK.region rfl (XO.q (Q.move rfl) (XO.q (Q.move rfl) ?_))))
     refine XO.q (Q.add rfl rfl ⟨by omega, by omega⟩) ?_
     refine XO.q (Q.assign rfl) (XO.done ?_)
     refine XK.inBlock ?_
     refine XK.region rfl ?_
     refine XO.q (Q.add rfl rfl ⟨by omega, by omega⟩) ?_
     refine XO.q (Q.move rfl) (XO.done ?_)
     exact ih0 (i + 1) _ _ (by omega) (by first | omega | (dsimp only; omega)) (.c rfl (.c rfl (.base 22 rfl rfl))) inferInstance
    ·skip
     have hil : i = f.length := by omega
     subst hil
     have es : (Bk.accI 0 (fun j => f.getD j default) (f.length)) = Bk.sumL f := by rw [Bk.accI_eq, Bk.sumL_sumI, Int.zero_add]
     rw [es]
     refine XK.exit rfl ?_
     refine XK.seq (XK.seq (XK.region rfl (XO.q (Q.move rfl) (XO.q (Q.move rfl) ?_))))
     refine XO.q (Q.rem rfl rfl (by omega) (by omega)) ?_
     refine XO.q (Q.conv rfl) ?_
     rw [wrap64_of ⟨by omega, by omega⟩]
     rw [show ((n8 : Int) % 5) = ((n8 % 5 : Nat) : Int) from rfl]
     refine XO.q (Q.gtr rfl rfl) ?_
     refine XO.done ?_
     refine XK.if rfl (fun c4 => ?_) (fun c4 => ?_)
     ·skip
      refine XK.seq (XK.region rfl ?_)
      refine XO.call Tryz.call14 rfl rfl rfl (there_spec) fun v168 s168 R168 => ?_
      obtain ⟨rfl, rfl⟩ := R168
      dsimp only [lcA, lnA]
      refine XO.q (Q.assign rfl) (XO.done ?_)
      refine XK.rt [] Tryz.func6 Tryz.results6 (.t rfl .n) ?_
      exact ⟨by simp, rfl⟩
     ·skip
      have sm : Bk.sumL f ≤ ((n8 % 5 : Nat) : Int) := by omega
      refine XK.skip (XK.seq (XK.region rfl ?_))
      refine XO.q (Q.ldA [_, _] rfl rfl rfl) ?_
      refine XO.q (Q.move rfl) ?_
      refine XO.q (Q.conv rfl) ?_
      rw [wrap64_of ⟨by omega, by omega⟩]
      refine XO.q (Q.build [_, _] (.c 0 1 rfl rfl rfl (.c 1 1 rfl rfl rfl (.n _)))) ?_
      refine XO.lit [_, _] [_, _] [⟨90, ((n7 : Nat) : Int)⟩] Bk.encSpan (by rfl) (by rfl) rfl (by rfl) (by exact .c 0 2 rfl rfl rfl (.n _)) (fun _ => rfl) (by rfl) rfl (by infer_instance) rfl fun v174 h174 O174 => ?_
      refine XO.q (Q.move rfl) ?_
      have lk : Bk.LOk [⟨90, ((n7 : Nat) : Int)⟩] := lok_90 (by omega) (by omega)
      have rd : Bk.readyP (⟨cb0, cg⟩ : Bk.BBank) [⟨90, ((n7 : Nat) : Int)⟩] f = 0 := Bk.readyP_iff.2 ⟨ok1, lk, fk⟩
      refine XO.call Tryz.call29 rfl rfl rfl (Bk.Run_spec (⟨cb0, cg⟩ : Bk.BBank) vb0 v57 kb0 kg0 [⟨90, ((n7 : Nat) : Int)⟩] v174 h174 f v152 kf) fun v176 s176 R176 => ?_
      obtain ⟨ve, vn, ke, kn9, rfl, rfl, OE, ON⟩ := R176
      dsimp only [lcA, lnA]
      rw [if_pos rd] at OE ON
      rw [rd, if_pos rfl]
      have hr9 := hrun f fk sm
      obtain ⟨r, er⟩ : ∃ r, r = Bk.runP (⟨cb0, cg⟩ : Bk.BBank) (Bk.powers [⟨90, ((n7 : Nat) : Int)⟩]) f := ⟨_, rfl⟩
      rw [← er] at OE ON hr9 ⊢
      refine XO.q (Q.move rfl) ?_
      refine XO.q (Q.extract rfl rfl) ?_
      refine XO.q (Q.extract rfl rfl) ?_
      refine XO.alloc fun b40 => ?_
      refine XO.st rfl rfl rfl ?_
      refine XO.q (Q.assign rfl) (XO.done (XK.seq (XK.seq (XK.region rfl (XO.q (Q.move rfl) ?_)))))
      refine XO.q (Q.neq rfl rfl) ?_
      first | rw [decide_eq_false (show ¬ (0 : Int) ≠ (0 : Int) from fun h => h rfl)] | skip
      refine XO.q (Q.move rfl) ?_
      refine XO.q (Quiet.guardF rfl rfl fun g182 p182 => Q.fieldAddr rfl) ?_
      refine XO.q (Quiet.guardF rfl rfl fun g183 p183 => Q.ld (lzv rfl rfl) rfl) ?_
      refine XO.q (Quiet.guardF rfl rfl fun g184 p184 => Q.geq (lzv rfl rfl) rfl) ?_
      refine XO.q (Quiet.guardF rfl rfl fun g185 p185 => Q.move (lzv rfl rfl)) ?_
      refine XO.q (Quiet.guard2 rfl rfl fun g186a g186b => have p186a := bpF g186a; have p186b := bpT g186b; Q.fieldAddr rfl) ?_
      refine XO.q (Quiet.guard2 rfl rfl fun g187a g187b => have p187a := bpF g187a; have p187b := bpT g187b; Q.ld (lzv g187b (lzv rfl rfl)) rfl) ?_
      refine XO.q (Quiet.guard2 rfl rfl fun g188a g188b => have p188a := bpF g188a; have p188b := bpT g188b; Q.move rfl) ?_
      refine XO.q (Quiet.guard2 rfl rfl fun g189a g189b => have p189a := bpF g189a; have p189b := bpT g189b; Q.lss (lzv g189b (lzv rfl rfl)) (lzv g189b (lzv rfl rfl))) ?_
      refine XO.q (Quiet.guardF rfl rfl fun g190 p190 => Q.and (lzv rfl rfl) (fun hp => (lzv hp (lzv rfl rfl)))) ?_
      rw [show (decide (0 ≤ r.dark) && decide (r.dark < (H : Int))) = false by rw [Bool.and_eq_false_iff, decide_eq_false_iff_not, decide_eq_false_iff_not]; omega]
      refine XO.q (Q.or rfl (fun hp => lzv hp rfl)) ?_
      refine XO.done ?_
      refine XK.if rfl (fun c5 => ?_) (fun c5 => ?_)
      ·skip
       simp at c5
      ·skip
       refine XK.skip (XK.seq (XK.region rfl (XO.q (Q.move rfl) ?_)))
       refine XO.q (Q.build [_, _] (.c 0 1 rfl rfl rfl (.n _))) ?_
       refine XO.box rfl fun b194 => ?_
       refine XO.q (Q.assign rfl) (XO.done (XK.seq (XK.region rfl (XO.q (Q.move rfl) (XO.q (Q.assign rfl) ?_)))))
       refine XO.done (XK.seq (XK.seq (XK.region rfl (XO.q (Q.move rfl) (XO.done ?_)))))
       refine XK.block ?_
       refine XK.while (X := Nat × Value × PHeap × List Int × Nat) [18, 42, 43, 44, 45, 46, 47, 48, 196, 197, 198, 199, 200, 201, 202, 203, 204, 205, 206, 207, 208, 209, 210, 211, 212, 213, 214, 215, 216, 217, 218, 219, 220, 221, 222, 223, 224, 225, 226, 227, 228, 229, 230, 231, 232, 233, 234, 235, 236, 237, 238, 239, 240, 241, 242, 243, 244, 245, 246, 247, 248, 249, 250, 251, 252] (fun ⟨s, vn, kn, now, q⟩ => [(196, some (.int .i64 (s : Nat))), (42, some (vn))]) (fun ⟨s, vn, kn, now, q⟩ => [blk b194 [v6, .int .i64 ((q : Nat) : Int)] 38, kn]) (fun ⟨s, vn, kn, now, q⟩ => s ≤ 90 ∧ q ≤ s * 20 ∧ OArr vn encI 1 3 kn now ∧ TOk h now ∧ Ht.LeL now (Ht.iterT h (upD cb H) t s)) (fun ⟨s, vn, kn, now, q⟩ => 90 - s) (0, vt, kt, t, 0) [blk b194 [v6, .int .i64 ((0 : Nat) : Int)] 38, kt] rfl ⟨by omega, by omega, OT, tk, fun i _ => Int.le_refl _⟩ (.c rfl (.c rfl (.base 0 rfl rfl))) ?_
       rintro ⟨s, vn, kn, now, q⟩ ⟨hs, hq, ON2, nk, hle⟩ ih1
       dsimp only [lcA, lnA] at ih1 ⊢
       refine XK.seq (XK.region rfl ?_)
       refine XO.q (Q.lss rfl rfl) ?_
       refine XO.done (XK.seq ?_)
       refine XK.if rfl (fun c6 => ?_) (fun c6 => ?_)
       ·skip
        refine XK.skip (XK.seq (XK.block (XK.seq (XK.region rfl (XO.q (Q.move rfl) ?_)))))
        refine XO.q (Q.assign rfl) (XO.done (XK.seq (XK.region rfl ?_)))
        refine XO.q (Q.ldA [_, _, _, _, _, _] rfl rfl rfl) ?_
        refine XO.alloc fun b44 => ?_
        refine XO.st rfl rfl rfl ?_
        refine XO.done (XK.seq (XK.seq (XK.region rfl ?_)))
        refine XO.q (Q.fieldAddr rfl) ?_
        refine XO.q (Q.ld rfl rfl) ?_
        refine XO.q (Q.geq rfl rfl) ?_
        refine XO.q (Q.move rfl) ?_
        refine XO.q (Quiet.guardT rfl rfl fun g204 p204 => Q.move rfl) ?_
        refine XO.q (Quiet.guardT rfl rfl fun g205 p205 => Q.fieldAddr rfl) ?_
        refine XO.q (Quiet.guardT rfl rfl fun g206 p206 => Q.ld (lzv g206 rfl) rfl) ?_
        refine XO.q (Quiet.guardT rfl rfl fun g207 p207 => Q.geq (lzv g207 rfl) (lzv g207 rfl)) ?_
        refine XO.q (Q.and rfl (fun hp => lzv hp rfl)) ?_
        refine XO.done ?_
        refine XK.meet (X := Int) [209] (fun pp => []) (fun pp => [blk b44 [wlo, .int .i64 ca.out, .int .i64 ca.pump, whi, .int .i64 cb.out, .int .i64 pp] 33]) (fun pp => pp = cb.pump ∨ (pp = 0 ∧ H ≤ s)) [blk b44 [wlo, .int .i64 ca.out, .int .i64 ca.pump, whi, .int .i64 cb.out, .int .i64 cb.pump] 33] ?_ ?_
        ·rintro pp hpp
         dsimp only [lcA, lnA]
         have hp2 : 0 ≤ pp ∧ pp ≤ 2550 := by have := qb.2.2; omega
         have qpp : Ht.CasedOk h.rooms.length (⟨cb.load, cb.out, pp⟩ : HCase) := ⟨qb.1, qb.2.1, hp2⟩
         have labp : Ht.LeC ca (⟨cb.load, cb.out, pp⟩ : HCase) := ⟨lab.load, lab.out, by have := lab.pump; have := qa.2.2; dsimp only; omega⟩
         refine XK.seq ?_
         refine XK.drawn [0, 1, 2, 3, 6, 7, 8, 9, 10] [b20, b44] [] (.q 0 (.q 1 (.q 2 (.q 3 (.br 4 true (.br 5 true (.q 6 (.q 7 (.q 8 (.q 9 (.q 10 .done))))) .stop) .stop))))) Tryz.mixed rfl (by kernel_rfl) ?_
         refine XT.q rfl rfl (Q.ldA [_, _, _, _] rfl rfl rfl) ?_
         refine XT.q rfl rfl (Q.move rfl) ?_
         refine XT.q rfl rfl (Q.ldA [_, _, _, _, _, _] rfl rfl rfl) ?_
         refine XT.q rfl rfl (Q.move rfl) ?_
         refine XT.call rfl rfl Tryz.call17 rfl rfl rfl (betweenT h.rooms.length r2 ca (⟨cb.load, cb.out, pp⟩ : HCase) wlo whi jlo jhi qa qpp labp b194 q (by omega) v6 h6 x6) (fun v215 s215 R215 => ?_) XT.stop
         obtain ⟨cc, vcc, kcc, rfl, rfl, Occ, lcc, acc, ccb⟩ := R215
         dsimp only [lcA, lnA]
         refine ⟨inferInstance, ?_⟩
         have qcc := qa.mid qpp lcc acc ccb
         have ckk := qcc.cok
         refine XT.call rfl rfl Tryz.call16 rfl rfl rfl (Ht.Next_spec h vr vw vb vc kr kw kb kc now vn kn cc vcc kcc) (fun v216 s216 R216 => ?_) XT.stop
         obtain ⟨xn, yn, rfl, rfl, XN⟩ := R216
         dsimp only [lcA, lnA]
         refine ⟨inferInstance, ?_⟩
         have hN : nextG h now cc = (nextL h now cc, 0) := Ht.next_fine mk.ok nk ckk
         rw [hN] at XN ⊢
         dsimp only at XN ⊢
         have lN := Ht.nextL_len h now cc
         have us := up_step ok tk qb.cok ckk nk hle ccb hpp
         refine XT.q rfl rfl (Q.move rfl) ?_
         refine XT.q rfl rfl (Q.extract rfl rfl) ?_
         refine XT.q rfl rfl (Q.extract rfl rfl) ?_
         refine XT.q rfl rfl (Q.assign rfl) ?_
         refine XT.q rfl rfl (Q.assign rfl) ?_
         refine XT.done ?_
         refine XK.seq (XK.seq (XK.region rfl (XO.q (Q.move rfl) ?_)))
         refine XO.q (Q.neq rfl rfl) ?_
         first | rw [decide_eq_false (show ¬ (0 : Int) ≠ (0 : Int) from fun h => h rfl)] | skip
         refine XO.q (Q.move rfl) ?_
         refine XO.q (Quiet.guardF rfl rfl fun g222 p222 => Q.move rfl) ?_
         refine XO.q (Quiet.guardF rfl rfl fun g223 p223 => Q.len (lzv rfl rfl)) ?_
         refine XO.q (Quiet.guardF rfl rfl fun g224 p224 => Q.fieldAddr rfl) ?_
         refine XO.q (Quiet.guardF rfl rfl fun g225 p225 => Q.ld (lzv rfl rfl) rfl) ?_
         refine XO.q (Quiet.guardF rfl rfl fun g226 p226 => Q.len (lzv rfl rfl)) ?_
         refine XO.q (Quiet.guardF rfl rfl fun g227 p227 => Q.neq (lzv rfl rfl) (lzv rfl rfl)) ?_
         rw [lN]
         first | rw [decide_eq_false (show ¬ ((h.rooms.length : Nat) : Int) ≠ ((h.rooms.length : Nat) : Int) from fun h => h rfl)] | skip
         refine XO.q (Q.or rfl (fun hp => lzv hp rfl)) ?_
         refine XO.done ?_
         refine XK.if rfl (fun c8 => ?_) (fun c8 => ?_)
         ·skip
          simp at c8
         ·skip
          refine XK.skip (XK.seq (XK.region rfl (XO.q (Q.move rfl) (XO.q (Q.assign rfl) (XO.done ?_)))))
          refine XK.seq (XK.region rfl ?_)
          refine XO.q (Q.fieldAddr rfl) ?_
          refine XO.q (Q.ld rfl rfl) ?_
          refine XO.len rfl fun l232 => ?_
          refine XO.q (Q.move rfl) (XO.done (XK.block ?_))
          refine XK.while (X := Nat) [18, 47, 48, 233, 234, 235, 236, 237, 238, 239, 240, 241, 242, 243, 244, 245, 246, 247, 248, 249, 250, 251] (fun j => [(233, some (.int .i64 (j : Nat)))]) (fun j => []) (fun j => j ≤ h.rooms.length) (fun j => h.rooms.length - j) (0) [] rfl (by omega) (.c rfl (.base 0 rfl rfl)) ?_
          rintro j hj ih2
          dsimp only [lcA, lnA] at ih2 ⊢
          refine XK.seq (XK.region rfl ?_)
          refine XO.q (Q.lss rfl rfl) ?_
          refine XO.done (XK.seq ?_)
          refine XK.if rfl (fun c9 => ?_) (fun c9 => ?_)
          ·skip
           refine XK.skip (XK.seq (XK.block (XK.seq (XK.region rfl (XO.q (Q.move rfl) ?_)))))
           refine XO.ix rfl rfl (by omega) (by omega) fun i236 => ?_
           refine XO.q (Q.ldEA [_, _] rfl (by first | assumption | omega) rfl rfl) ?_
           refine XO.alloc fun b48 => ?_
           refine XO.q (Q.assign rfl) ?_
           refine XO.st rfl rfl rfl ?_
           refine XO.done (XK.seq ?_)
           refine XK.drawn [0, 1, 2, 3, 4, 5, 6, 7, 8, 9, 10, 11, 12] [b48] [yn] (.q 0 (.q 1 (.q 2 (.q 3 (.q 4 (.q 5 (.q 6 (.q 7 (.q 8 (.q 9 (.q 10 (.q 11 (.q 12 .done))))))))))))) Tryz.mixed rfl (by kernel_rfl) ?_
           refine XT.q rfl rfl (Q.move rfl) ?_
           refine XT.q rfl rfl (Q.add rfl rfl ⟨by omega, by omega⟩) ?_
           refine XT.q rfl rfl (Q.move rfl) ?_
           refine XT.q rfl rfl (Q.lss rfl rfl) ?_
           refine XT.q rfl rfl (Q.move rfl) ?_
           refine XT.q rfl rfl (Quiet.guardT rfl rfl fun g243 p243 => Q.move rfl) ?_
           refine XT.q rfl rfl (Quiet.guardT rfl rfl fun g244 p244 => Q.move rfl) ?_
           refine XT.q rfl rfl (Quiet.guardT rfl rfl fun g245 p245 => Q.ix (lzv g245 rfl) (lzv g245 rfl) (by omega) (by omega)) ?_
           refine XT.q rfl rfl (Quiet.guardT rfl rfl fun g246 p246 => Q.ldE (lzv g246 rfl) (by first | assumption | omega) rfl) ?_
           refine XT.q rfl rfl (Quiet.guardT rfl rfl fun g247 p247 => Q.fieldAddr rfl) ?_
           refine XT.q rfl rfl (Quiet.guardT rfl rfl fun g248 p248 => Q.ld (lzv g248 rfl) rfl) ?_
           refine XT.q rfl rfl (Quiet.guardT rfl rfl fun g249 p249 => Q.gtr (lzv g249 rfl) (lzv g249 rfl)) ?_
           refine XT.q rfl rfl (Q.and rfl (fun hp => lzv hp rfl)) ?_
           refine XT.done ?_
           refine XK.if rfl (fun c10 => ?_) (fun c10 => ?_)
           ·skip
            have z1 := hsafe (s + 1) (by have := c10.1; omega) j (by omega)
            have z2 := us.2 j (by omega)
            have z3 : (h.rooms.getD j default).limit < (nextL h now cc).getD j 0 := c10.2
            omega
           ·skip
            refine XK.skip ?_
            refine XK.inBlock ?_
            refine XK.region rfl ?_
            refine XO.q (Q.add rfl rfl ⟨by omega, by omega⟩) ?_
            refine XO.q (Q.move rfl) (XO.done ?_)
            exact ih2 (j + 1) _ _ (by omega) (by first | omega | (dsimp only; omega)) (.c rfl (.base 44 rfl rfl)) inferInstance
          ·skip
           refine XK.exit rfl ?_
           refine XK.inBlock ?_
           refine XK.region rfl ?_
           refine XO.q (Q.add rfl rfl ⟨by omega, by omega⟩) ?_
           refine XO.q (Q.move rfl) (XO.done ?_)
           exact ih1 (s + 1, xn, yn, nextL h now cc, q + 2 + h.rooms.length) _ _ ⟨by dsimp only; omega, by dsimp only; omega, XN, us.1, us.2⟩ (by first | omega | (dsimp only; omega)) (.c rfl (.c rfl (.base 135 rfl rfl))) inferInstance
        ·intro mt7
         dsimp only [lcA, lnA] at mt7
         refine XK.if rfl (fun c7 => ?_) (fun c7 => ?_)
         ·skip
          have h9 := hr9 c7.1
          refine XK.region rfl ?_
          refine XO.q (Q.ldA [_, _, _, _, _, _] rfl rfl rfl) ?_
          refine XO.st rfl rfl rfl ?_
          refine XO.done ?_
          exact mt7 (0) _ _ (.inr ⟨rfl, by have := c7.2; omega⟩) (.base 1 rfl rfl) inferInstance
         ·skip
          refine XK.skip ?_
          exact mt7 (cb.pump) _ _ (.inl rfl) (.base 0 rfl rfl) inferInstance
       ·skip
        refine XK.exit rfl ?_
        refine XK.seq (XK.region rfl ?_)
        refine XO.call Tryz.call14 rfl rfl rfl (there_spec) fun v253 s253 R253 => ?_
        obtain ⟨rfl, rfl⟩ := R253
        dsimp only [lcA, lnA]
        refine XO.q (Q.assign rfl) (XO.done ?_)
        refine XK.rt [] Tryz.func6 Tryz.results6 (.t rfl .n) ?_
        exact ⟨by simp, rfl⟩
   ·intro mt2
    dsimp only [lcA, lnA] at mt2
    refine XK.if rfl (fun c2 => ?_) (fun c2 => ?_)
    ·skip
     refine XK.seq (XK.region rfl (XO.q (Q.move rfl) (XO.q (Q.assign rfl) (XO.done (XK.seq ?_)))))
     refine XK.seq (XK.region rfl (XO.q (Q.move rfl) ?_))
     refine XO.q (Q.gtr rfl rfl) ?_
     refine XO.done ?_
     refine XK.if rfl (fun c11 => ?_) (fun c11 => ?_)
     ·skip
      refine XK.region rfl (XO.q (Q.move rfl) (XO.q (Q.move rfl) ?_))
      refine XO.q (Q.sub rfl rfl ⟨by omega, by omega⟩) ?_
      refine XO.ix rfl rfl (by omega) (by have := RH.1.trans (Ht.rows_len ..); omega) fun i135 => ?_
      refine XO.q (Q.ldE rfl (by first | assumption | omega) rfl) ?_
      have lH : usH.length = H := RH.1.trans (Ht.rows_len ..)
      rw [show ((H : Int) - 1).toNat = H - 1 by omega]
      have aF := row_at RH (i := H - 1) (by omega)
      rw [show H - 1 + 1 = H by omega] at aF
      obtain ⟨vf, evf⟩ : ∃ w, w = usH.getD (H - 1) default := ⟨_, rfl⟩
      rw [← evf] at aF ⊢
      refine XO.q (Q.assign rfl) (XO.done (XK.seq (XK.region rfl ?_)))
      refine XO.q (Q.ldA [_, _, _, _] rfl rfl rfl) ?_
      refine XO.q (Q.move rfl) ?_
      refine XO.q (Q.ldA [_, _, _, _, _, _] rfl rfl rfl) ?_
      have q0 : COk h (⟨cb.load, cb.out, 0⟩ : HCase) := ⟨qb.cok.len, qb.cok.rng, qb.cok.out, by show 0 ≤ (0 : Int) ∧ (0 : Int) ≤ 100000; omega⟩
      have lab0 : Ht.LeC ca (⟨cb.load, cb.out, 0⟩ : HCase) := ⟨lab.load, lab.out, qa.2.2.1⟩
      have tkf : TOk h (Ht.iterT h (fun _ => cb) t H) := Ht.iter_ok ok tk (fun _ => qb.cok) H
      refine XO.call Tryz.call23 rfl rfl rfl (Ht.Ride_spec h vr vw vb vc kr kw kb kc (Ht.iterT h (fun _ => cb) t H) _ _ (it := aF) ca (⟨cb.load, cb.out, 0⟩ : HCase) wlo whi jlo jhi 90) fun v141 s141 R141 => ?_
      obtain ⟨rfl, rfl⟩ := R141
      dsimp only [lcA, lnA]
      have hrd2 : Ht.rideG h (Ht.iterT h (fun _ => cb) t H) ca (⟨cb.load, cb.out, 0⟩ : HCase) 90 = ((Ht.rideL h (⟨cb.load, cb.out, 0⟩ : HCase) 90 0 (Ht.iterT h (fun _ => cb) t H)).1, (Ht.rideL h (⟨cb.load, cb.out, 0⟩ : HCase) 90 0 (Ht.iterT h (fun _ => cb) t H)).2, 0) := Ht.ride_fine (n := 90) mk.ok qa.cok q0 lab0 tkf (by omega)
      rw [hrd2]
      dsimp only
      obtain ⟨k2, ek2⟩ : ∃ x, x = (Ht.rideL h (⟨cb.load, cb.out, 0⟩ : HCase) 90 0 (Ht.iterT h (fun _ => cb) t H)).1 := ⟨_, rfl⟩
      have rk2 := ride_pos (h := h) (d := (⟨cb.load, cb.out, 0⟩ : HCase)) (t := (Ht.iterT h (fun _ => cb) t H)) (m := 90)
      rw [← ek2] at rk2 ⊢
      clear hrd2
      refine XO.q (Q.move rfl) ?_
      refine XO.q (Q.extract rfl rfl) ?_
      refine XO.q (Q.extract rfl rfl) ?_
      refine XO.q (Q.extract rfl rfl) ?_
      refine XO.q (Q.assign rfl) (XO.q (Q.assign rfl) (XO.q (Q.assign rfl) (XO.done (XK.seq (XK.seq ?_)))))
      refine XK.region rfl (XO.q (Q.move rfl) ?_)
      refine XO.q (Q.neq rfl rfl) ?_
      refine XO.done ?_
      refine XK.if rfl (fun c12 => ?_) (fun c12 => ?_)
      ·skip
       simp at c12
      ·skip
       refine XK.skip (XK.region rfl (XO.q (Q.move rfl) (XO.q (Q.move rfl) ?_)))
       refine XO.q (Q.add rfl rfl ⟨by omega, by omega⟩) ?_
       refine XO.q (Q.assign rfl) (XO.done ?_)
       exact mt2 ((H : Int) + k2) _ _ (safe_then ek1.symm c2 ek2.symm) (.c rfl (.base 27 rfl rfl)) inferInstance
     ·skip
      have aF : Arr vt encI 1 kt (Ht.iterT h (fun _ => cb) t H) := by rw [show H = 0 by omega]; exact OArr.arr (s := OT)
      refine XK.skip (XK.seq (XK.region rfl ?_))
      refine XO.q (Q.ldA [_, _, _, _] rfl rfl rfl) ?_
      refine XO.q (Q.move rfl) ?_
      refine XO.q (Q.ldA [_, _, _, _, _, _] rfl rfl rfl) ?_
      have q0 : COk h (⟨cb.load, cb.out, 0⟩ : HCase) := ⟨qb.cok.len, qb.cok.rng, qb.cok.out, by show 0 ≤ (0 : Int) ∧ (0 : Int) ≤ 100000; omega⟩
      have lab0 : Ht.LeC ca (⟨cb.load, cb.out, 0⟩ : HCase) := ⟨lab.load, lab.out, qa.2.2.1⟩
      have tkf : TOk h (Ht.iterT h (fun _ => cb) t H) := Ht.iter_ok ok tk (fun _ => qb.cok) H
      refine XO.call Tryz.call23 rfl rfl rfl (Ht.Ride_spec h vr vw vb vc kr kw kb kc (Ht.iterT h (fun _ => cb) t H) _ _ (it := aF) ca (⟨cb.load, cb.out, 0⟩ : HCase) wlo whi jlo jhi 90) fun v141 s141 R141 => ?_
      obtain ⟨rfl, rfl⟩ := R141
      dsimp only [lcA, lnA]
      have hrd2 : Ht.rideG h (Ht.iterT h (fun _ => cb) t H) ca (⟨cb.load, cb.out, 0⟩ : HCase) 90 = ((Ht.rideL h (⟨cb.load, cb.out, 0⟩ : HCase) 90 0 (Ht.iterT h (fun _ => cb) t H)).1, (Ht.rideL h (⟨cb.load, cb.out, 0⟩ : HCase) 90 0 (Ht.iterT h (fun _ => cb) t H)).2, 0) := Ht.ride_fine (n := 90) mk.ok qa.cok q0 lab0 tkf (by omega)
      rw [hrd2]
      dsimp only
      obtain ⟨k2, ek2⟩ : ∃ x, x = (Ht.rideL h (⟨cb.load, cb.out, 0⟩ : HCase) 90 0 (Ht.iterT h (fun _ => cb) t H)).1 := ⟨_, rfl⟩
      have rk2 := ride_pos (h := h) (d := (⟨cb.load, cb.out, 0⟩ : HCase)) (t := (Ht.iterT h (fun _ => cb) t H)) (m := 90)
      rw [← ek2] at rk2 ⊢
      clear hrd2
      refine XO.q (Q.move rfl) ?_
      refine XO.q (Q.extract rfl rfl) ?_
      refine XO.q (Q.extract rfl rfl) ?_
      refine XO.q (Q.extract rfl rfl) ?_
      refine XO.q (Q.assign rfl) (XO.q (Q.assign rfl) (XO.q (Q.assign rfl) (XO.done (XK.seq (XK.seq ?_)))))
      refine XK.region rfl (XO.q (Q.move rfl) ?_)
      refine XO.q (Q.neq rfl rfl) ?_
      refine XO.done ?_
      refine XK.if rfl (fun c13 => ?_) (fun c13 => ?_)
      ·skip
       simp at c13
      ·skip
       refine XK.skip (XK.region rfl (XO.q (Q.move rfl) (XO.q (Q.move rfl) ?_)))
       refine XO.q (Q.add rfl rfl ⟨by omega, by omega⟩) ?_
       refine XO.q (Q.assign rfl) (XO.done ?_)
       exact mt2 ((H : Int) + k2) _ _ (safe_then ek1.symm c2 ek2.symm) (.c rfl (.base 21 rfl rfl)) inferInstance
    ·skip
     refine XK.skip ?_
     exact mt2 (k1) _ _ (safe_first ek1.symm c2) (.c rfl (.base 0 rfl rfl)) inferInstance
end Go.X
