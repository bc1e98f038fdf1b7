/- A part of the proof: a small program logic, plain laws and contracts of functions, each proved by a walk through its operations. No condition but those that stand in each theorem. -/
import Derived.Test.YtkoojoljdpbnoaaGreatA7
set_option linter.unusedSimpArgs false
set_option linter.unusedVariables false
set_option maxRecDepth 20000
namespace Go.X
open Go.Proofs
theorem pair_ne (x y : Int × Int) : (!decide ((x.1, x.2) = (y.1, y.2))) = decide (¬ x = y) := by
 cases x; cases y
 simp
theorem equalP (v1 v2 : Value) (h1 h2 : PHeap) (xs ys : List (Int × Int)) [s1 : Arr v1 encP 2 h1 xs] [s2 : Arr v2 encP 2 h2 ys] :
  Spec Tryz.prog 43 #[v1, v2] [] [h1, h2] (fun v hs => v = .bool (decide (xs = ys)) ∧ hs = []) := by
 refine Spec.intro (fn := Tryz.f43) (N := 26) Tryz.func43 rfl Tryz.ntmps43 rfl fun B => ?_
 refine XK.seq (XK.region rfl (XO.q (Q.assign rfl) (XO.done (XK.seq (XK.seq ?_)))))
 refine XK.region rfl (XO.q (Q.move rfl) ?_)
 refine XO.len rfl fun l7 => ?_
 refine XO.q (Q.move rfl) ?_
 refine XO.len rfl fun l9 => ?_
 refine XO.q (Q.neq rfl rfl) ?_
 refine XO.done ?_
 refine XK.if rfl (fun c0 => ?_) (fun c0 => ?_)
 ·skip
  refine XK.seq (XK.region rfl (XO.q (Q.assign rfl) (XO.done ?_)))
  refine XK.rt [] Tryz.func43 Tryz.results43 (.t rfl .n) ?_
  exact ⟨by rw [decide_eq_false (fun h => c0 (by rw [h]))], rfl⟩
 ·skip
  refine XK.skip (XK.seq (XK.seq (XK.region rfl (XO.q (Q.move rfl) ?_))))
  refine XO.len rfl fun l12 => ?_
  refine XO.q (Q.move rfl) (XO.done (XK.block ?_))
  refine XK.while (X := Nat) [4, 5, 13, 14, 15, 16, 17, 18, 19, 20, 21, 22, 23, 24, 25] (fun i => [(13, some (.int .i64 (i : Nat)))]) (fun i => []) (fun i => i ≤ xs.length ∧ xs.take i = ys.take i) (fun i => xs.length - i) (0) [] rfl ⟨by omega, rfl⟩ (.c rfl (.base 0 rfl rfl)) ?_
  rintro i ⟨hi, ht⟩ ih0
  dsimp only [lcA, lnA] at ih0 ⊢
  refine XK.seq (XK.region rfl ?_)
  refine XO.q (Q.lss rfl rfl) ?_
  refine XO.done (XK.seq ?_)
  refine XK.if rfl (fun c1 => ?_) (fun c1 => ?_)
  ·skip
   refine XK.skip (XK.seq (XK.block (XK.seq (XK.region rfl (XO.q (Q.move rfl) ?_)))))
   refine XO.q (Q.assign rfl) (XO.done (XK.seq ?_))
   refine XK.drawn [0, 1, 2, 3, 4, 5, 6, 7, 8] [] [] (.q 0 (.q 1 (.q 2 (.q 3 (.q 4 (.q 5 (.q 6 (.q 7 (.q 8 .done))))))))) Tryz.mixed rfl (by kernel_rfl) ?_
   refine XT.q rfl rfl (Q.move rfl) ?_
   refine XT.q rfl rfl (Q.move rfl) ?_
   refine XT.ix rfl rfl rfl rfl (by omega) (by omega) fun i18 => ?_
   refine XT.q rfl rfl (Q.ldEA [_, _] rfl (by first | assumption | omega) rfl rfl) ?_
   refine XT.q rfl rfl (Q.move rfl) ?_
   refine XT.q rfl rfl (Q.move rfl) ?_
   refine XT.ix rfl rfl rfl rfl (by omega) (by omega) fun i22 => ?_
   refine XT.q rfl rfl (Q.ldEA [_, _] rfl (by first | assumption | omega) rfl rfl) ?_
   refine XT.q rfl rfl (Q.neqP rfl rfl inferInstance inferInstance inferInstance inferInstance (by kernel_rfl)) ?_
   rw [pair_ne]
   refine XT.done ?_
   refine XK.if rfl (fun c2 => ?_) (fun c2 => ?_)
   ·skip
    refine XK.seq (XK.region rfl (XO.q (Q.assign rfl) (XO.done ?_)))
    refine XK.rt [] Tryz.func43 Tryz.results43 (.t rfl .n) ?_
    exact ⟨by rw [decide_eq_false (fun h => c2 (by rw [h]))], rfl⟩
   ·skip
    refine XK.skip ?_
    refine XK.inBlock ?_
    refine XK.region rfl ?_
    refine XO.q (Q.add rfl rfl ⟨by omega, by omega⟩) ?_
    refine XO.q (Q.move rfl) (XO.done ?_)
    exact ih0 (i + 1) _ _ ⟨by omega, take_step ht (by omega) (by omega) (Decidable.of_not_not c2)⟩ (by first | omega | (dsimp only; omega)) (.c rfl (.base 30 rfl rfl)) inferInstance
  ·skip
   refine XK.exit rfl ?_
   refine XK.seq (XK.region rfl (XO.q (Q.assign rfl) (XO.done ?_)))
   refine XK.rt [] Tryz.func43 Tryz.results43 (.t rfl .n) ?_
   exact ⟨by rw [decide_eq_true (take_all ht c1 (by omega))], rfl⟩
set_option maxHeartbeats 4000000 in
theorem TopBilled_spec (v0 : Value) (h0 : PHeap) (x0 : List UInt8) [i0 : Arr v0 encU8 1 h0 x0] (key : Int) : Spec Tryz.prog 8 #[v0, .int .u64 key] [] [h0] (fun v hs => v = .bool true ∧ hs = []) := by
 have nU : OArr (.slice none 0 0) encI 1 3 emp ([] : List Int) := OArr.nil (fun _ => rfl)
 have nR : OArr (.slice none 0 0) Me.encRd 3 148 emp ([] : List Me.MRd) := OArr.nil (fun _ => rfl)
 have nT : ∀ h, Arr (.slice none 0 0) Me.encTier 2 h ([] : List Me.MTier) := fun h => Arr.nil (fun _ => rfl)
 refine Spec.intro (fn := Tryz.f8) (N := 195) Tryz.func8 rfl Tryz.ntmps8 rfl fun B => ?_
 refine XK.seq (XK.region rfl (XO.q (Q.assign rfl) (XO.done (XK.seq (XK.region rfl ?_)))))
 refine XO.q (Q.move rfl) ?_
 refine XO.call Tryz.call31 rfl rfl rfl (planned_spec v0 h0 x0) fun v27 s27 R27 => ?_
 obtain ⟨vh, vj, vs, vc, kh, kj, K, kc, rfl, rfl, OH, OJ, ov, AS, OC⟩ := R27
 dsimp only [lcA, lnA]
 refine XO.q (Q.move rfl) ?_
 refine XO.q (Q.extract rfl rfl) ?_
 refine XO.q (Q.extract rfl rfl) ?_
 refine XO.q (Q.extract rfl rfl) ?_
 refine XO.alloc fun b5 => ?_
 refine XO.alloc fun b6 => ?_
 refine XO.st rfl rfl rfl ?_
 refine XO.st rfl rfl rfl ?_
 refine XO.q (Q.assign rfl) (XO.done (XK.seq (XK.seq (XK.region rfl (XO.q (Q.move rfl) ?_)))))
 refine XO.q (Q.not rfl) ?_
 refine XO.done ?_
 refine XK.if rfl (fun c0 => ?_) (fun c0 => ?_)
 ·skip
  refine XK.seq (XK.region rfl ?_)
  refine XO.call Tryz.call14 rfl rfl rfl (there_spec) fun v33 s33 R33 => ?_
  obtain ⟨rfl, rfl⟩ := R33
  dsimp only [lcA, lnA]
  refine XO.q (Q.assign rfl) (XO.done ?_)
  refine XK.rt [] Tryz.func8 Tryz.results8 (.t rfl .n) ?_
  exact ⟨rfl, rfl⟩
 ·skip
  have b0 : (Ma.bestG (Ma.madeD x0)).2 = 0 := by simpa using c0
  have ok : Ma.DayOk (Ma.madeD x0) := Ma.made_ok x0
  obtain ⟨d, ed⟩ : ∃ d, d = (Ma.madeD x0) := ⟨_, rfl⟩
  rw [← ed] at OH OJ AS OC b0 ok
  rw [← ed]
  obtain ⟨p, ep⟩ : ∃ p, p = (Ma.bestG d).1 := ⟨_, rfl⟩
  rw [← ep] at AS OC
  rw [← ep]
  obtain ⟨s, ch, c⟩ := p
  obtain ⟨hf, hc⟩ := best_cost ok b0 ep.symm
  have bd := billed ok hf hc
  dsimp only at AS OC ⊢
  clear ep ed
  refine XK.skip (XK.seq (XK.region rfl ?_))
  refine XO.q (Q.ldA [_, _, _, _, _, _, _, _] rfl rfl rfl) ?_
  refine XO.q (Q.ldA [_, _, _] rfl rfl rfl) ?_
  refine XO.call Tryz.call32 rfl rfl rfl (Ma.Ledger_spec d vh vj kh kj ⟨s, ch, c⟩ vs vc K kc) fun v37 s37 R37 => ?_
  obtain ⟨vo, ho, rfl, rfl, OO⟩ := R37
  dsimp only [lcA, lnA]
  rw [Ma.led_yes hf] at OO
  rw [Ma.led_yes hf]
  dsimp only at OO ⊢
  obtain ⟨f, ef⟩ : ∃ f, f = Ma.rowA d s ch := ⟨_, rfl⟩
  rw [← ef] at OO bd
  rw [← ef]
  clear ef
  obtain ⟨pk, ep⟩ : ∃ pk, pk = Ma.peakTo (Ma.needsL d s) ch := ⟨_, rfl⟩
  rw [← ep] at bd
  clear ep hf hc
  have n1 := bd.n1
  have n24 := bd.n24
  have lo : ((List.range d.hours.length).map f).length = d.hours.length := by rw [List.length_map, List.length_range]
  refine XO.q (Q.move rfl) ?_
  refine XO.q (Q.extract rfl rfl) ?_
  refine XO.q (Q.extract rfl rfl) ?_
  refine XO.q (Q.extract rfl rfl) ?_
  refine XO.alloc fun b9 => ?_
  refine XO.q (Q.assign rfl) ?_
  refine XO.st rfl rfl rfl ?_
  refine XO.q (Q.assign rfl) (XO.done (XK.seq (XK.seq (XK.region rfl (XO.q (Q.move rfl) ?_)))))
  refine XO.q (Q.neq rfl rfl) ?_
  refine XO.q (Q.move rfl) ?_
  refine XO.q (Quiet.guardF rfl rfl fun g44 p44 => Q.move rfl) ?_
  refine XO.q (Quiet.guardF rfl rfl fun g45 p45 => Q.len (lzv rfl rfl)) ?_
  refine XO.q (Quiet.guardF rfl rfl fun g46 p46 => Q.fieldAddr rfl) ?_
  refine XO.q (Quiet.guardF rfl rfl fun g47 p47 => Q.ld (lzv rfl rfl) rfl) ?_
  refine XO.q (Quiet.guardF rfl rfl fun g48 p48 => Q.len (lzv rfl rfl)) ?_
  refine XO.q (Quiet.guardF rfl rfl fun g49 p49 => Q.neq (lzv rfl rfl) (lzv rfl rfl)) ?_
  refine XO.q (Q.or rfl (fun hp => lzv hp rfl)) ?_
  refine XO.done ?_
  refine XK.if rfl (fun c1 => ?_) (fun c1 => ?_)
  ·skip
   simp [lo] at c1
  ·skip
   refine XK.skip (XK.seq (XK.region rfl ?_))
   refine XO.make encI (0) rfl rfl rfl (by omega) (by omega) (fun _ => rfl) rfl rfl rfl (by dsimp only [encI]; infer_instance) fun v51 h51 O51 => ?_
   refine XO.q (Q.build [_, _, _, _] (.c 0 1 rfl rfl rfl (.c 3 1 rfl rfl rfl (.n _)))) ?_
   refine XO.alloc fun b11 => ?_
   refine XO.st rfl rfl rfl ?_
   refine XO.done (XK.seq (XK.region rfl ?_))
   refine XO.alloc fun b12 => ?_
   refine XO.done (XK.seq (XK.region rfl (XO.q (Q.assign rfl) (XO.done (XK.seq ?_)))))
   refine XK.region rfl (XO.q (Q.assign rfl) (XO.q (Q.assign rfl) (XO.done (XK.seq (XK.seq ?_)))))
   refine XK.region rfl (XO.q (Q.move rfl) ?_)
   refine XO.len rfl fun l54 => ?_
   rw [lo]
   refine XO.q (Q.move rfl) (XO.done (XK.block ?_))
   refine XK.while (X := Nat × Int × PHeap × Value × PHeap × Value × PHeap) [13, 14, 15, 16, 17, 55, 56, 57, 58, 59, 60, 61, 62, 63, 64, 65, 66, 67, 68, 69, 70, 71, 72, 73, 74, 75, 76, 77, 78, 79, 80, 81, 82, 83, 84, 85, 86, 87, 88, 89, 90, 91, 92, 93, 94, 95, 96, 97, 98, 99, 100, 101, 102, 103, 104, 105, 106, 107] (fun ⟨i, q, hp, vu, hu, vr, hr⟩ => [(55, some (.int .i64 (i : Nat))), (13, some (vr)), (14, some (.int .i64 (soldTo d f i))), (15, some (.int .i64 q))]) (fun ⟨i, q, hp, vu, hu, vr, hr⟩ => [hp, blk b12 [vu, .int .i64 0] 143, hu, hr]) (fun ⟨i, q, hp, vu, hu, vr, hr⟩ => i ≤ d.hours.length ∧ OArr v51 encI 1 3 hp (priceTo d i) ∧ OArr vu encI 1 3 hu (boughtTo f i) ∧ OArr vr Me.encRd 3 148 hr (readsTo f i) ∧ q = pk i) (fun ⟨i, q, hp, vu, hu, vr, hr⟩ => d.hours.length - i) (0, 0, h51, .slice none 0 0, emp, .slice none 0 0, emp) [h51, blk b12 [.slice none 0 0, .int .i64 0] 143, emp, emp] rfl ⟨by omega, O51, nU, nR, bd.pk0.symm⟩ (.c rfl (.c rfl (.c rfl (.c rfl (.base 0 rfl rfl))))) ?_
   rintro ⟨i, q, hp, vu, hu, vr, hr⟩ ⟨hi, OP, OU, OR, rfl⟩ ih0
   dsimp only [lcA, lnA] at ih0 ⊢
   refine XK.seq (XK.region rfl ?_)
   refine XO.q (Q.lss rfl rfl) ?_
   refine XO.done (XK.seq ?_)
   refine XK.if rfl (fun c2 => ?_) (fun c2 => ?_)
   ·skip
    have hi24 : i < d.hours.length := by omega
    have br := bd.row i hi24
    have sr := sold_rng bd i (by omega)
    have so := sold_one bd hi24
    have pl := price_len d i
    have bl := bought_len f i
    have rl := reads_len f i
    have fi : ((List.range d.hours.length).map f).getD i default = f i := by rw [List.getD_eq_getElem?_getD, List.getElem?_map, List.getElem?_range hi24]; rfl
    refine XK.skip (XK.seq (XK.block (XK.seq (XK.region rfl (XO.q (Q.move rfl) ?_)))))
    refine XO.ix rfl rfl (by omega) (by omega) fun i58 => ?_
    refine XO.q (Q.ldEA [_, _, _, _, _, _, _] rfl (by first | assumption | omega) rfl rfl) ?_
    rw [fi]
    refine XO.alloc fun b17 => ?_
    refine XO.q (Q.assign rfl) ?_
    refine XO.st rfl rfl rfl ?_
    refine XO.done (XK.seq ?_)
    refine XK.drawn [0, 1, 2, 3, 4, 5, 6, 7, 8, 9] [b11, b5] [kh] (.q 0 (.q 1 (.q 2 (.q 3 (.q 4 (.q 5 (.q 6 (.q 7 (.q 8 (.q 9 (.br 10 false .done .stop))))))))))) Tryz.mixed rfl (by kernel_rfl) ?_
    refine XT.q rfl rfl (Q.fieldAddr rfl) ?_
    refine XT.q rfl rfl (Q.ld rfl rfl) ?_
    refine XT.q rfl rfl (Q.move rfl) ?_
    refine XT.q rfl rfl (Q.fieldAddr rfl) ?_
    refine XT.q rfl rfl (Q.ld rfl rfl) ?_
    refine XT.q rfl rfl (Q.move rfl) ?_
    refine XT.ix rfl rfl rfl rfl (by omega) (by omega) fun i66 => ?_
    refine XT.q rfl rfl (Q.fieldQ rfl (by first | assumption | omega)) ?_
    refine XT.q rfl rfl (Q.ldE rfl (by first | assumption | omega) rfl) ?_
    refine XT.ix rfl rfl rfl rfl (by omega) (by omega) fun i69 => ?_
    refine XT.stE _ rfl rfl rfl rfl rfl (by assumption) rfl rfl (fun h14_10 O14_10 => ⟨inferInstance, ?_⟩) XT.stop
    rw [price_step d (by omega)] at O14_10
    refine XT.done ?_
    refine XK.seq (XK.region rfl ?_)
    refine XO.q (Q.fieldAddr rfl) ?_
    refine XO.q (Q.ld rfl rfl) ?_
    refine XO.q (Q.fieldAddr rfl) ?_
    refine XO.q (Q.ld rfl rfl) ?_
    refine XO.lit [_] [_] [(f i).bought] encI (by rfl) (by rfl) rfl (by rfl) (by exact .c 0 1 rfl rfl rfl (.n _)) (fun _ => rfl) (by rfl) rfl (by infer_instance) rfl fun v74 h74 O74 => ?_
    refine XO.append rfl rfl rfl rfl (by simp only [List.length_cons, List.length_nil]; omega) fun v75 h75 O75 => ?_
    refine XO.q (Q.fieldAddr rfl) ?_
    refine XO.st rfl rfl rfl ?_
    refine XO.done (XK.seq (XK.region rfl (XO.q (Q.move rfl) (XO.q (Q.move rfl) ?_))))
    refine XO.q (Q.fieldAddr rfl) ?_
    refine XO.q (Q.ld rfl rfl) ?_
    refine XO.q (Q.build [_, _, _] (.c 0 1 rfl rfl rfl (.c 1 1 rfl rfl rfl (.c 2 1 rfl rfl rfl (.n _))))) ?_
    refine XO.q (Q.move rfl) ?_
    refine XO.q (Q.fieldAddr rfl) ?_
    refine XO.q (Q.ld rfl rfl) ?_
    refine XO.q (Q.build [_, _, _] (.c 0 1 rfl rfl rfl (.c 1 1 rfl rfl rfl (.c 2 1 rfl rfl rfl (.n _))))) ?_
    refine XO.q (Q.move rfl) ?_
    refine XO.q (Q.fieldAddr rfl) ?_
    refine XO.q (Q.ld rfl rfl) ?_
    refine XO.q (Q.build [_, _, _] (.c 0 1 rfl rfl rfl (.c 1 1 rfl rfl rfl (.c 2 1 rfl rfl rfl (.n _))))) ?_
    refine XO.lit [_, _, _, _, _, _, _, _, _] [_, _, _, _, _, _, _, _, _] [⟨1, ((i : Nat) : Int), (f i).bought⟩, ⟨2, ((i : Nat) : Int), (f i).sold⟩, ⟨3, ((i : Nat) : Int), (f i).used⟩] Me.encRd (by rfl) (by rfl) rfl (by rfl) (by exact .c 0 3 rfl rfl rfl (.c 3 3 rfl rfl rfl (.c 6 3 rfl rfl rfl (.n _)))) (fun _ => rfl) (by rfl) rfl (by infer_instance) rfl fun v90 h90 O90 => ?_
    refine XO.append rfl rfl rfl rfl (by simp only [List.length_cons, List.length_nil]; omega) fun v91 h91 O91 => ?_
    refine XO.q (Q.assign rfl) (XO.done (XK.seq ?_))
    refine XK.drawn [0, 1, 2, 3, 4, 5, 6, 7, 8, 9, 10, 11] [b17, b5] [kh] (.q 0 (.q 1 (.q 2 (.q 3 (.q 4 (.q 5 (.q 6 (.q 7 (.q 8 (.q 9 (.q 10 (.q 11 .done)))))))))))) Tryz.mixed rfl (by kernel_rfl) ?_
    refine XT.q rfl rfl (Q.move rfl) ?_
    refine XT.q rfl rfl (Q.fieldAddr rfl) ?_
    refine XT.q rfl rfl (Q.ld rfl rfl) ?_
    refine XT.q rfl rfl (Q.fieldAddr rfl) ?_
    refine XT.q rfl rfl (Q.ld rfl rfl) ?_
    refine XT.q rfl rfl (Q.move rfl) ?_
    refine XT.ix rfl rfl rfl rfl (by omega) (by omega) fun i98 => ?_
    refine XT.q rfl rfl (Q.fieldQ rfl (by first | assumption | omega)) ?_
    refine XT.q rfl rfl (Q.ldE rfl (by first | assumption | omega) rfl) ?_
    refine XT.q rfl rfl (Q.mul rfl rfl ⟨by omega, by omega⟩) ?_
    refine XT.q rfl rfl (Q.add rfl rfl ⟨by omega, by omega⟩) ?_
    rw [sold_next]
    refine XT.q rfl rfl (Q.assign rfl) ?_
    refine XT.done ?_
    refine XK.region rfl (XO.q (Q.move rfl) ?_)
    refine XO.q (Q.fieldAddr rfl) ?_
    refine XO.q (Q.ld rfl rfl) ?_
    refine XO.q (Q.max rfl rfl) ?_
    rw [bd.pks i hi24]
    refine XO.q (Q.assign rfl) (XO.done ?_)
    refine XK.inBlock ?_
    refine XK.region rfl ?_
    refine XO.q (Q.add rfl rfl ⟨by omega, by omega⟩) ?_
    refine XO.q (Q.move rfl) (XO.done ?_)
    exact ih0 (i + 1, pk (i + 1), h14_10, v75, h75, v91, h91) _ _ ⟨by omega, O14_10, by rw [bought_snoc]; exact O75, O91, rfl⟩ (by first | omega | (dsimp only; omega)) (.c rfl (.c rfl (.c rfl (.c rfl (.base 120 rfl rfl))))) inferInstance
   ·skip
    have hin : i = d.hours.length := by omega
    subst hin
    clear ih0
    have dr := due_rng bd
    have sr := sold_rng bd _ (Nat.le_refl _)
    have pr := bd.pkr _ (Nat.le_refl _)
    have pd := bd.pd
    have pp : 0 ≤ pk d.hours.length * d.peak ∧ pk d.hours.length * d.peak ≤ 40 * 1000 := ⟨Int.mul_nonneg pr.1 pd.1, Int.mul_le_mul pr.2 pd.2 pd.1 (by omega)⟩
    have bc := bd.cost
    refine XK.exit rfl ?_
    refine XK.seq (XK.region rfl ?_)
    refine XO.q (Q.fieldAddr rfl) ?_
    refine XO.st rfl rfl rfl ?_
    refine XO.done (XK.seq (XK.region rfl (XO.q (Q.move rfl) (XO.q (Q.move rfl) ?_))))
    refine XO.call Tryz.call39 rfl rfl rfl (Me.Sign_spec key (readsTo f d.hours.length) vr hr) fun v112 s112 R112 => ?_
    obtain ⟨w112, k112, rfl, rfl, O112⟩ := R112
    dsimp only [lcA, lnA]
    rw [Me.sign_fine (billed_reads bd) (by rw [reads_len]; omega)] at O112 ⊢
    dsimp only at O112 ⊢
    refine XO.q (Q.move rfl) ?_
    refine XO.q (Q.extract rfl rfl) ?_
    refine XO.q (Q.extract rfl rfl) ?_
    refine XO.q (Q.assign rfl) (XO.q (Q.assign rfl) (XO.done (XK.seq (XK.region rfl (XO.q (Q.move rfl) ?_)))))
    refine XO.q (Q.move rfl) ?_
    refine XO.call Tryz.call40 rfl rfl rfl (Me.Verify_spec key (Me.links key (readsTo f d.hours.length) (readsTo f d.hours.length).length) w112 k112) fun v118 s118 R118 => ?_
    obtain ⟨rfl, rfl⟩ := R118
    dsimp only [lcA, lnA]
    rw [Me.verify_own (billed_reads bd) (by rw [reads_len]; omega)]
    dsimp only
    refine XO.q (Q.move rfl) ?_
    refine XO.q (Q.extract rfl rfl) ?_
    refine XO.q (Q.extract rfl rfl) ?_
    refine XO.q (Q.assign rfl) (XO.q (Q.assign rfl) (XO.done (XK.seq (XK.region rfl (XO.q (Q.move rfl) ?_)))))
    refine XO.call Tryz.call41 rfl rfl rfl (Me.Table_spec (Me.links key (readsTo f d.hours.length) (readsTo f d.hours.length).length) w112 k112) fun v123 s123 R123 => ?_
    obtain ⟨w123, k123, rfl, rfl, O123⟩ := R123
    dsimp only [lcA, lnA]
    rw [billed_table bd] at O123 ⊢
    dsimp only at O123 ⊢
    refine XO.q (Q.move rfl) ?_
    refine XO.q (Q.extract rfl rfl) ?_
    refine XO.q (Q.extract rfl rfl) ?_
    refine XO.q (Q.assign rfl) (XO.q (Q.assign rfl) (XO.done (XK.seq (XK.region rfl ?_))))
    refine XO.q (Q.ldA [_, _, _, _] rfl rfl rfl) ?_
    refine XO.q (Q.ldA [_, _] rfl rfl rfl) ?_
    refine XO.call Tryz.call42 rfl rfl rfl (Me.Make_spec (jt := nT kh) ⟨priceTo d d.hours.length, 0, [], 100⟩ v51 (.slice none 0 0) hp kh ⟨boughtTo f d.hours.length, 50000⟩ vu hu) fun v129 s129 R129 => ?_
    obtain ⟨rfl, rfl⟩ := R129
    dsimp only [lcA, lnA]
    rw [billed_make bd]
    dsimp only
    refine XO.q (Q.move rfl) ?_
    refine XO.q (Q.extract rfl rfl) ?_
    refine XO.q (Q.extract rfl rfl) ?_
    refine XO.alloc fun b23 => ?_
    refine XO.st rfl rfl rfl ?_
    refine XO.q (Q.assign rfl) (XO.done (XK.seq (XK.region rfl (XO.q (Q.move rfl) ?_))))
    refine XO.q (Q.eql rfl rfl) ?_
    refine XO.q (Q.move rfl) ?_
    refine XO.q (Quiet.guardT rfl rfl fun g135 p135 => Q.move rfl) ?_
    refine XO.q (Quiet.guardT rfl rfl fun g136 p136 => Q.eql (lzv rfl rfl) rfl) ?_
    refine XO.q (Q.and rfl (fun hp => lzv hp rfl)) ?_
    refine XO.q (Q.move rfl) ?_
    refine XO.q (Quiet.guardT rfl rfl fun g139 p139 => Q.move rfl) ?_
    refine XO.q (Quiet.guardT rfl rfl fun g140 p140 => Q.eql (lzv rfl rfl) rfl) ?_
    refine XO.q (Q.and rfl (fun hp => lzv hp rfl)) ?_
    refine XO.q (Q.move rfl) ?_
    refine XO.q (Quiet.guardT rfl rfl fun g143 p143 => Q.move rfl) ?_
    refine XO.q (Quiet.guardT rfl rfl fun g144 p144 => Q.eql (lzv rfl rfl) rfl) ?_
    refine XO.q (Q.and rfl (fun hp => lzv hp rfl)) ?_
    refine XO.q (Q.move rfl) ?_
    refine XO.q (Quiet.guardT rfl rfl fun g147 p147 => Q.move rfl) ?_
    refine XO.q (Quiet.guardT rfl rfl fun g148 p148 => Q.move rfl) ?_
    refine XO.q (Quiet.guardT rfl rfl fun g149 p149 => Q.len (lzv rfl rfl)) ?_
    refine XO.q (Quiet.guardT rfl rfl fun g150 p150 => Q.eql (lzv rfl rfl) (lzv rfl rfl)) ?_
    rw [show decide (((((readsTo f d.hours.length).length : Nat) : Int)) = (((readsTo f d.hours.length).length : Nat) : Int)) = true from decide_eq_true rfl]
    refine XO.q (Q.and rfl (fun hp => lzv hp rfl)) ?_
    refine XO.q (Q.move rfl) ?_
    refine XO.q (Quiet.guardT rfl rfl fun g153 p153 => Q.move rfl) ?_
    refine XO.q (Quiet.guardT rfl rfl fun g154 p154 => Q.fieldAddr rfl) ?_
    refine XO.q (Quiet.guardT rfl rfl fun g155 p155 => Q.ld (lzv rfl rfl) rfl) ?_
    refine XO.q (Quiet.guardT rfl rfl fun g156 p156 => Q.build [_, _] (.c 0 1 rfl rfl rfl (.c 1 1 (lzv rfl rfl) rfl rfl (.n _)))) ?_
    refine XO.q (Quiet.guardT rfl rfl fun g157 p157 => Q.fieldAddr rfl) ?_
    refine XO.q (Quiet.guardT rfl rfl fun g158 p158 => Q.ld (lzv rfl rfl) rfl) ?_
    refine XO.q (Quiet.guardT rfl rfl fun g159 p159 => Q.build [_, _] (.c 0 1 rfl rfl rfl (.c 1 1 (lzv rfl rfl) rfl rfl (.n _)))) ?_
    refine XO.q (Quiet.guardT rfl rfl fun g160 p160 => Q.fieldAddr rfl) ?_
    refine XO.q (Quiet.guardT rfl rfl fun g161 p161 => Q.ld (lzv rfl rfl) rfl) ?_
    refine XO.q (Quiet.guardT rfl rfl fun g162 p162 => Q.build [_, _] (.c 0 1 rfl rfl rfl (.c 1 1 (lzv rfl rfl) rfl rfl (.n _)))) ?_
    refine XO.litG [_, _, _, _, _, _] [_, _, _, _, _, _] [(1, (Ma.sumRow f d.hours.length).bought), (2, (Ma.sumRow f d.hours.length).sold), (3, (Ma.sumRow f d.hours.length).used)] encP rfl rfl rfl (by rfl) (by rfl) rfl (by rfl) (by exact .c 0 2 (lzv rfl rfl) rfl rfl (.c 2 2 (lzv rfl rfl) rfl rfl (.c 4 2 (lzv rfl rfl) rfl rfl (.n _)))) (fun _ => rfl) (by rfl) rfl (by infer_instance) rfl fun v163 h163 O163 => ?_
    refine XO.callS rfl rfl rfl Tryz.call43 rfl (.c (lzv rfl rfl) (.c rfl .n)) rfl (equalP w123 v163 k123 h163 [(1, (Ma.sumRow f d.hours.length).bought), (2, (Ma.sumRow f d.hours.length).sold), (3, (Ma.sumRow f d.hours.length).used)] [(1, (Ma.sumRow f d.hours.length).bought), (2, (Ma.sumRow f d.hours.length).sold), (3, (Ma.sumRow f d.hours.length).used)]) fun v164 s164 R164 => ?_
    obtain ⟨rfl, rfl⟩ := R164
    dsimp only [lcA, lnA]
    rw [show decide (([(1, (Ma.sumRow f d.hours.length).bought), (2, (Ma.sumRow f d.hours.length).sold), (3, (Ma.sumRow f d.hours.length).used)] : List (Int × Int)) = [(1, (Ma.sumRow f d.hours.length).bought), (2, (Ma.sumRow f d.hours.length).sold), (3, (Ma.sumRow f d.hours.length).used)]) = true from decide_eq_true rfl]
    refine XO.q (Q.and rfl (fun _ => rfl)) ?_
    refine XO.q (Q.move rfl) ?_
    refine XO.q (Quiet.guardT rfl rfl fun g167 p167 => Q.fieldAddr rfl) ?_
    refine XO.q (Quiet.guardT rfl rfl fun g168 p168 => Q.ld (lzv rfl rfl) rfl) ?_
    refine XO.q (Quiet.guardT rfl rfl fun g169 p169 => Q.fieldAddr rfl) ?_
    refine XO.q (Quiet.guardT rfl rfl fun g170 p170 => Q.ld (lzv rfl rfl) rfl) ?_
    refine XO.q (Quiet.guardT rfl rfl fun g171 p171 => Q.eql (lzv rfl rfl) (lzv rfl rfl)) ?_
    rw [show decide ((Ma.sumRow f d.hours.length).bought = (Ma.sumRow f d.hours.length).bought) = true from decide_eq_true rfl]
    refine XO.q (Q.and rfl (fun hp => lzv hp rfl)) ?_
    refine XO.q (Q.move rfl) ?_
    refine XO.q (Quiet.guardT rfl rfl fun g174 p174 => Q.fieldAddr rfl) ?_
    refine XO.q (Quiet.guardT rfl rfl fun g175 p175 => Q.ld (lzv rfl rfl) rfl) ?_
    refine XO.q (Quiet.guardT rfl rfl fun g176 p176 => Q.eql (lzv rfl rfl) rfl) ?_
    refine XO.q (Q.and rfl (fun hp => lzv hp rfl)) ?_
    refine XO.q (Q.move rfl) ?_
    refine XO.q (Quiet.guardT rfl rfl fun g179 p179 => Q.fieldAddr rfl) ?_
    refine XO.q (Quiet.guardT rfl rfl fun g180 p180 => Q.ld (lzv rfl rfl) rfl) ?_
    refine XO.q (Quiet.guardT rfl rfl fun g181 p181 => Q.move rfl) ?_
    refine XO.q (Quiet.guardT rfl rfl fun g182 p182 => Q.sub (lzv rfl rfl) (lzv rfl rfl) ⟨by omega, by omega⟩) ?_
    refine XO.q (Quiet.guardT rfl rfl fun g183 p183 => Q.move rfl) ?_
    refine XO.q (Quiet.guardT rfl rfl fun g184 p184 => Q.fieldAddr rfl) ?_
    refine XO.q (Quiet.guardT rfl rfl fun g185 p185 => Q.ld (lzv rfl rfl) rfl) ?_
    refine XO.q (Quiet.guardT rfl rfl fun g186 p186 => Q.mul (lzv rfl rfl) (lzv rfl rfl) ⟨by omega, by omega⟩) ?_
    refine XO.q (Quiet.guardT rfl rfl fun g187 p187 => Q.add (lzv rfl rfl) (lzv rfl rfl) ⟨by omega, by omega⟩) ?_
    rw [show sumTo (fun i => (f i).bought * (d.hours.getD i default).buy) d.hours.length - soldTo d f d.hours.length + pk d.hours.length * d.peak = c from bc]
    refine XO.q (Quiet.guardT rfl rfl fun g188 p188 => Q.fieldAddr rfl) ?_
    refine XO.q (Quiet.guardT rfl rfl fun g189 p189 => Q.ld (lzv rfl rfl) rfl) ?_
    refine XO.q (Quiet.guardT rfl rfl fun g190 p190 => Q.eql (lzv rfl rfl) (lzv rfl rfl)) ?_
    rw [show decide (c = c) = true from decide_eq_true rfl]
    refine XO.q (Q.and rfl (fun hp => lzv hp rfl)) ?_
    refine XO.q (Q.move rfl) ?_
    refine XO.callS rfl rfl rfl Tryz.call14 rfl (.n) rfl (there_spec) fun v193 s193 R193 => ?_
    obtain ⟨rfl, rfl⟩ := R193
    dsimp only [lcA, lnA]
    refine XO.q (Q.and rfl (fun _ => rfl)) ?_
    refine XO.q (Q.assign rfl) (XO.done ?_)
    refine XK.rt [] Tryz.func8 Tryz.results8 (.t rfl .n) ?_
    exact ⟨rfl, rfl⟩
end Go.X
