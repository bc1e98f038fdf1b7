/- A part of the proof: a small program logic, plain laws and contracts of functions, each proved by a walk through its operations. No condition but those that stand in each theorem. -/
import Derived.Test.YtkoojoljdpbnoaaGreatA5
set_option linter.unusedSimpArgs false
set_option linter.unusedVariables false
set_option maxRecDepth 20000
namespace Go.X.Ma
open Go.Proofs
theorem indexRows (v : Value) (h : PHeap) (us : List Value) [s : Arr v encV 1 h us] (K : PHeap) (rows : List (List Int)) (rk : RowsK us K rows) (gid : FuncId) (cap : List Value) (Hr : List PHeap) (p : List Int → Bool)
  (hc : ∀ args w, (callFunc gid args).run Tryz.prog w = .ok (.enter gid args) w) (hS : ∀ i, i < us.length → Spec Tryz.prog gid (us.getD i default :: cap).toArray [] (K :: Hr) (fun v hs => v = .bool (p (rows.getD i default)) ∧ hs = [])) :
  Spec Tryz.prog 90 #[v, .func (.func gid) #[] cap.toArray] [] (h :: K :: Hr) (fun v hs => v = .int .i64 (findFirst p rows) ∧ hs = []) := by
 have rl := rk.1
 refine Spec.intro (fn := Tryz.f90) (N := 19) Tryz.func90 rfl Tryz.ntmps90 rfl fun B => ?_
 refine XK.seq (XK.region rfl (XO.q (Q.assign rfl) (XO.done (XK.seq (XK.seq ?_)))))
 refine XK.region rfl (XO.q (Q.move rfl) ?_)
 refine XO.len rfl fun l7 => ?_
 refine XO.q (Q.move rfl) (XO.done (XK.block ?_))
 refine XK.while (X := Nat) [4, 5, 8, 9, 10, 11, 12, 13, 14, 15, 16, 17, 18] (fun i => [(8, some (.int .i64 (i : Nat)))]) (fun i => []) (fun i => i ≤ us.length ∧ (rows.take i).any p = false) (fun i => us.length - i) (0) [] rfl ⟨by omega, rfl⟩ (.c rfl (.base 0 rfl rfl)) ?_
 rintro i ⟨hi, ht⟩ ih0
 dsimp only [lcA, lnA] at ih0 ⊢
 refine XK.seq (XK.region rfl ?_)
 refine XO.q (Q.lss rfl rfl) ?_
 refine XO.done (XK.seq ?_)
 refine XK.if rfl (fun c0 => ?_) (fun c0 => ?_)
 ·skip
  refine XK.skip (XK.seq (XK.block (XK.seq (XK.region rfl (XO.q (Q.move rfl) ?_)))))
  refine XO.q (Q.assign rfl) (XO.done (XK.seq (XK.region rfl (XO.q (Q.move rfl) (XO.q (Q.move rfl) ?_)))))
  refine XO.q (Q.move rfl) ?_
  refine XO.ix rfl rfl (by omega) (by omega) fun i14 => ?_
  refine XO.q (Q.ldE rfl (by first | assumption | omega) rfl) ?_
  refine XO.call hc rfl rfl rfl (hS i (by omega)) fun v16 s16 R16 => ?_
  obtain ⟨rfl, rfl⟩ := R16
  dsimp only [lcA, lnA]
  refine XO.done ?_
  refine XK.if rfl (fun c1 => ?_) (fun c1 => ?_)
  ·skip
   refine XK.seq (XK.region rfl (XO.q (Q.move rfl) (XO.q (Q.assign rfl) (XO.done ?_))))
   refine XK.rt [] Tryz.func90 Tryz.results90 (.t rfl .n) ?_
   exact ⟨by rw [findFirst_here ht (by omega) c1], rfl⟩
  ·skip
   refine XK.skip ?_
   refine XK.inBlock ?_
   refine XK.region rfl ?_
   refine XO.q (Q.add rfl rfl ⟨by omega, by omega⟩) ?_
   refine XO.q (Q.move rfl) (XO.done ?_)
   exact ih0 (i + 1) _ _ ⟨by omega, any_step ht (by omega) (Bool.eq_false_iff.2 c1)⟩ (by first | omega | (dsimp only; omega)) (.c rfl (.base 25 rfl rfl)) inferInstance
 ·skip
  refine XK.exit rfl ?_
  refine XK.seq (XK.region rfl (XO.q (Q.assign rfl) (XO.done ?_)))
  refine XK.rt [] Tryz.func90 Tryz.results90 (.t rfl .n) ?_
  exact ⟨by rw [findFirst_none ht (by omega)], rfl⟩
theorem containsRows (v : Value) (h : PHeap) (us : List Value) [s : Arr v encV 1 h us] (K : PHeap) (rows : List (List Int)) (rk : RowsK us K rows) (gid : FuncId) (cap : List Value) (Hr : List PHeap) (p : List Int → Bool)
  (hc : ∀ args w, (callFunc gid args).run Tryz.prog w = .ok (.enter gid args) w) (hS : ∀ i, i < us.length → Spec Tryz.prog gid (us.getD i default :: cap).toArray [] (K :: Hr) (fun v hs => v = .bool (p (rows.getD i default)) ∧ hs = [])) :
  Spec Tryz.prog 36 #[v, .func (.func gid) #[] cap.toArray] [] (h :: K :: Hr) (fun v hs => v = .bool (rows.any p) ∧ hs = []) := by
 refine Spec.intro (fn := Tryz.f36) (N := 9) Tryz.func36 rfl Tryz.ntmps36 rfl fun B => ?_
 refine XK.seq (XK.region rfl (XO.q (Q.assign rfl) (XO.done (XK.seq (XK.region rfl ?_)))))
 refine XO.q (Q.move rfl) (XO.q (Q.move rfl) ?_)
 refine XO.call Tryz.call90 rfl rfl rfl (indexRows v h us K rows rk gid cap Hr p hc hS) fun v7 s7 R7 => ?_
 obtain ⟨rfl, rfl⟩ := R7
 dsimp only [lcA, lnA]
 refine XO.q (Q.geq rfl rfl) ?_
 refine XO.q (Q.assign rfl) (XO.done ?_)
 refine XK.rt [] Tryz.func36 Tryz.results36 (.t rfl .n) ?_
 exact ⟨by rw [← findFirst_any], rfl⟩
theorem form1 (p : KPlan) (vs vc : Value) (hs_ hc : PHeap) [js : Arr vs encI 1 hs_ p.starts] [jc : Arr vc encI 1 hc p.charge] (b : Nat) (x : Value) (K : PHeap) (xs : List Int) [ix : Arr x encI 1 K xs] : Spec Tryz.prog 149 #[x, ptr b 0] [] [K, blk b [vs, vc, .int .i64 p.cost] 118, hs_] (fun v hs => v = .bool (decide (xs = p.starts)) ∧ hs = []) := by
 refine Spec.intro (fn := Tryz.f149) (N := 8) Tryz.func149 rfl Tryz.ntmps149 rfl fun B => ?_
 refine XK.seq (XK.region rfl (XO.q (Q.assign rfl) (XO.done (XK.seq (XK.region rfl ?_)))))
 refine XO.q (Q.move rfl) ?_
 refine XO.q (Q.fieldAddr rfl) ?_
 refine XO.q (Q.ld rfl rfl) ?_
 refine XO.call Tryz.call35 rfl rfl rfl (equalI x vs K hs_ xs p.starts) fun v7 s7 R7 => ?_
 obtain ⟨rfl, rfl⟩ := R7
 dsimp only [lcA, lnA]
 refine XO.q (Q.assign rfl) (XO.done ?_)
 refine XK.rt [] Tryz.func149 Tryz.results149 (.t rfl .n) ?_
 exact ⟨rfl, rfl⟩
theorem okAt_bad {d : KDay} {p : KPlan} {i : Nat} (h : (((p.charge.getD i default < -d.store.power ∨ d.store.power < p.charge.getD i default) ∨ ¬ kin d.store.full [energyTo d p.charge i + p.charge.getD i default] = true) ∨ d.most < (needsL d p.starts).getD i default + p.charge.getD i default)) : okAt d (needsL d p.starts) p.charge i = false := by
 unfold okAt
 simp only [Bool.and_eq_false_iff, Bool.not_eq_false', decide_eq_true_eq]
 rcases h with ((h | h) | h) | h
 ·exact .inl (.inl (.inl h))
 ·exact .inl (.inl (.inr h))
 ·exact .inl (.inr (Bool.eq_false_iff.2 h))
 ·exact .inr h
theorem okAt_good {d : KDay} {p : KPlan} {i : Nat} (h : ¬ (((p.charge.getD i default < -d.store.power ∨ d.store.power < p.charge.getD i default) ∨ ¬ kin d.store.full [energyTo d p.charge i + p.charge.getD i default] = true) ∨ d.most < (needsL d p.starts).getD i default + p.charge.getD i default)) : okAt d (needsL d p.starts) p.charge i = true := by
 unfold okAt
 simp only [not_or, Classical.not_not] at h
 simp only [Bool.and_eq_true, Bool.not_eq_true', decide_eq_false_iff_not]
 exact ⟨⟨⟨h.1.1.1, h.1.1.2⟩, h.1.2⟩, h.2⟩
set_option maxHeartbeats 1000000 in
theorem form_spec (d : KDay) (vh vj : Value) (hh hj : PHeap) [ih : Arr vh encHour 6 hh d.hours] [ij : Arr vj encJob 4 hj d.jobs] (p : KPlan) (vs vc : Value) (hs_ hc : PHeap) [js : Arr vs encI 1 hs_ p.starts] [jc : Arr vc encI 1 hc p.charge] : Spec Tryz.prog 83 #[.agg #[vh, .int .i64 d.store.energy, .int .i64 d.store.full, .int .i64 d.store.power, .int .i64 d.store.fin, vj, .int .i64 d.most, .int .i64 d.peak], .agg #[vs, vc, .int .i64 p.cost]] [] [hh, hj, hs_, hc] (fun v hs => ∃ v1 k1, v = .tuple #[v1, .int .i64 (formG d p).2] ∧ hs = [k1] ∧ OArr v1 encI 1 3 k1 (formG d p).1) := by
 have lh := ih.le
 have lc := jc.le
 have nI : OArr (.slice none 0 0) encI 1 3 emp ([] : List Int) := OArr.nil (fun _ => rfl)
 refine Spec.intro (fn := Tryz.f83) (N := 90) Tryz.func83 rfl Tryz.ntmps83 rfl fun B => ?_
 refine XK.seq (XK.region rfl ?_)
 refine XO.box rfl fun b2 => ?_
 refine XO.box rfl fun b3 => ?_
 refine XO.q (Q.assign rfl) (XO.q (Q.assign rfl) (XO.done (XK.seq (XK.seq (XK.region rfl ?_)))))
 refine XO.q (Q.ldA [_, _, _, _, _, _, _, _] rfl rfl rfl) ?_
 refine XO.call Tryz.call144 rfl rfl rfl (Check_spec d vh vj hh hj) fun v12 s12 R12 => ?_
 obtain ⟨rfl, rfl⟩ := R12
 dsimp only [lcA, lnA]
 refine XO.q (Q.assign rfl) (XO.done (XK.seq (XK.region rfl (XO.q (Q.move rfl) ?_))))
 refine XO.q (Q.neq rfl rfl) ?_
 refine XO.done ?_
 refine XK.if rfl (fun c0 => ?_) (fun c0 => ?_)
 ·skip
  refine XK.seq (XK.region rfl (XO.q (Q.move rfl) (XO.q (Q.assign rfl) (XO.q (Q.assign rfl) (XO.done ?_)))))
  refine XK.rt [emp] Tryz.func83 Tryz.results83 (.t rfl (.t rfl .n)) ?_
  have e : formG d p = ([], kcheck d) := by rw [formG, if_pos c0]
  rw [e]
  exact ⟨.slice none 0 0, emp, rfl, rfl, nI⟩
 ·skip
  have ok := kcheck_iff.1 (Decidable.of_not_not c0)
  have st := ok.store
  have s1 := st.f0
  have s2 := st.f1
  have s3 := st.p0
  have s4 := st.p1
  have s5 := st.e0
  have s6 := st.e1
  refine XK.skip (XK.seq (XK.seq (XK.region rfl ?_)))
  refine XO.q (Q.ldA [_, _, _, _, _, _, _, _] rfl rfl rfl) ?_
  refine XO.call Tryz.call145 rfl rfl rfl (starts_spec d vh vj hh hj ok) fun v17 s17 R17 => ?_
  obtain ⟨ho, us, K, rfl, OO, RO⟩ := R17
  dsimp only [lcA, lnA]
  refine XO.q (Q.func (fun _ he => rfl) (fun _ he => evs_rel he rfl)) ?_
  refine XO.call Tryz.call36 rfl rfl rfl (containsRows v17 ho us K (startsL d) RO 149 [ptr b3 0] [blk b3 [vs, vc, .int .i64 p.cost] 118, hs_] (fun l => decide (l = p.starts)) Tryz.call149 (fun i hi => by haveI := RO.2 i hi; exact form1 p vs vc hs_ hc b3 (us.getD i default) K ((startsL d).getD i default))) fun v19 s19 R19 => ?_
  obtain ⟨rfl, rfl⟩ := R19
  dsimp only [lcA, lnA]
  refine XO.q (Q.not rfl) ?_
  refine XO.q (Q.move rfl) ?_
  refine XO.q (Quiet.guardF rfl rfl fun g22 p22 => Q.fieldAddr rfl) ?_
  refine XO.q (Quiet.guardF rfl rfl fun g23 p23 => Q.ld (lzv g23 rfl) rfl) ?_
  refine XO.q (Quiet.guardF rfl rfl fun g24 p24 => Q.len (lzv g24 rfl)) ?_
  refine XO.q (Quiet.guardF rfl rfl fun g25 p25 => Q.fieldAddr rfl) ?_
  refine XO.q (Quiet.guardF rfl rfl fun g26 p26 => Q.ld (lzv g26 rfl) rfl) ?_
  refine XO.q (Quiet.guardF rfl rfl fun g27 p27 => Q.len (lzv g27 rfl)) ?_
  refine XO.q (Quiet.guardF rfl rfl fun g28 p28 => Q.neq (lzv g28 rfl) (lzv g28 rfl)) ?_
  refine XO.q (Q.or rfl (fun hp => lzv hp rfl)) ?_
  refine XO.done ?_
  refine XK.if rfl (fun c1 => ?_) (fun c1 => ?_)
  ·skip
   refine XK.seq (XK.region rfl (XO.q (Q.assign rfl) (XO.q (Q.assign rfl) (XO.done ?_))))
   refine XK.rt [emp] Tryz.func83 Tryz.results83 (.t rfl (.t rfl .n)) ?_
   have e : formG d p = ([], 1) := by rw [formG, if_neg c0, if_pos c1]
   rw [e]
   exact ⟨.slice none 0 0, emp, rfl, rfl, nI⟩
  ·skip
   have c1a : (startsL d).any (fun l => decide (l = p.starts)) = true := Decidable.of_not_not fun h => c1 (.inl h)
   have so := starts_any c1a
   have cl : p.charge.length = d.hours.length := by have := fun h => c1 (.inr h); omega
   refine XK.skip (XK.seq (XK.region rfl ?_))
   refine XO.q (Q.ldA [_, _, _, _, _, _, _, _] rfl rfl rfl) ?_
   refine XO.q (Q.fieldAddr rfl) ?_
   refine XO.q (Q.ld rfl rfl) ?_
   refine XO.call Tryz.call150 rfl rfl rfl (needs_spec d vh vj hh hj p.starts vs hs_ ok so) fun v33 s33 R33 => ?_
   obtain ⟨kb, rfl, OB⟩ := R33
   dsimp only [lcA, lnA]
   refine XO.q (Q.assign rfl) (XO.done (XK.seq (XK.region rfl ?_)))
   refine XO.q (Q.fieldAddr rfl) ?_
   refine XO.q (Q.fieldAddr rfl) ?_
   refine XO.q (Q.ld rfl rfl) ?_
   refine XO.q (Q.assign rfl) (XO.done (XK.seq (XK.seq (XK.region rfl ?_))))
   refine XO.q (Q.fieldAddr rfl) ?_
   refine XO.q (Q.ld rfl rfl) ?_
   refine XO.len rfl fun l39 => ?_
   refine XO.q (Q.move rfl) (XO.done (XK.block ?_))
   refine XK.while (X := Nat) [4, 5, 8, 9, 10, 40, 41, 42, 43, 44, 45, 46, 47, 48, 49, 50, 51, 52, 53, 54, 55, 56, 57, 58, 59, 60, 61, 62, 63, 64, 65, 66, 67, 68, 69, 70, 71, 72, 73, 74, 75, 76, 77, 78, 79, 80, 81, 82, 83] (fun i => [(8, some (.int .i64 (energyTo d p.charge i))), (40, some (.int .i64 (i : Nat)))]) (fun i => []) (fun i => i ≤ p.charge.length ∧ allTo (okAt d (needsL d p.starts) p.charge) i = true ∧ 0 ≤ energyTo d p.charge i ∧ energyTo d p.charge i ≤ d.store.full) (fun i => p.charge.length - i) (0) [] rfl ⟨by omega, rfl, s5, s6⟩ (.c rfl (.c rfl (.base 0 rfl rfl))) ?_
   rintro i ⟨hi, ha, e0, e1⟩ ih0
   dsimp only [lcA, lnA] at ih0 ⊢
   refine XK.seq (XK.region rfl ?_)
   refine XO.q (Q.lss rfl rfl) ?_
   refine XO.done (XK.seq ?_)
   refine XK.if rfl (fun c2 => ?_) (fun c2 => ?_)
   ·skip
    have nr := needs_rng ok p.starts (show i < d.hours.length by omega)
    have nl := needsL_len d p.starts
    refine XK.skip (XK.seq (XK.block (XK.seq (XK.region rfl (XO.q (Q.move rfl) ?_)))))
    refine XO.ix rfl rfl (by omega) (by omega) fun i43 => ?_
    refine XO.q (Q.ldE rfl (by first | assumption | omega) rfl) ?_
    refine XO.q (Q.assign rfl) (XO.q (Q.assign rfl) (XO.done (XK.seq (XK.seq ?_))))
    refine XK.drawn [0, 1, 2, 3, 4, 5, 6, 7, 8, 9, 10, 11, 12, 13, 14, 15, 16, 17, 18, 19, 22, 23, 24, 25, 26, 27, 28, 29, 30, 31, 32, 33, 34] [b2] [kb] (.q 0 (.q 1 (.q 2 (.q 3 (.q 4 (.q 5 (.q 6 (.q 7 (.q 8 (.q 9 (.q 10 (.q 11 (.q 12 (.q 13 (.q 14 (.q 15 (.q 16 (.q 17 (.q 18 (.q 19 (.br 20 true (.br 21 true (.q 22 (.q 23 (.q 24 (.q 25 (.q 26 (.q 27 (.q 28 (.q 29 (.q 30 (.q 31 (.q 32 (.q 33 (.q 34 .done))))))))))))) .stop) .stop))))))))))))))))))))) Tryz.mixed rfl (by kernel_rfl) ?_
    refine XT.q rfl rfl (Q.move rfl) ?_
    refine XT.q rfl rfl (Q.fieldAddr rfl) ?_
    refine XT.q rfl rfl (Q.fieldAddr rfl) ?_
    refine XT.q rfl rfl (Q.ld rfl rfl) ?_
    refine XT.q rfl rfl (Q.neg rfl ⟨by omega, by omega⟩) ?_
    rw [show (0 : Int) - d.store.power = -d.store.power by omega]
    refine XT.q rfl rfl (Q.lss rfl rfl) ?_
    refine XT.q rfl rfl (Q.move rfl) ?_
    refine XT.q rfl rfl (Quiet.guardF rfl rfl fun g52 p52 => Q.move rfl) ?_
    refine XT.q rfl rfl (Quiet.guardF rfl rfl fun g53 p53 => Q.fieldAddr rfl) ?_
    refine XT.q rfl rfl (Quiet.guardF rfl rfl fun g54 p54 => Q.fieldAddr (lzv g54 rfl)) ?_
    refine XT.q rfl rfl (Quiet.guardF rfl rfl fun g55 p55 => Q.ld (lzv g55 rfl) rfl) ?_
    refine XT.q rfl rfl (Quiet.guardF rfl rfl fun g56 p56 => Q.gtr (lzv g56 rfl) (lzv g56 rfl)) ?_
    refine XT.q rfl rfl (Q.or rfl (fun hp => lzv hp rfl)) ?_
    refine XT.q rfl rfl (Q.move rfl) ?_
    refine XT.q rfl rfl (Quiet.guardF rfl rfl fun g59 p59 => Q.fieldAddr rfl) ?_
    refine XT.q rfl rfl (Quiet.guardF rfl rfl fun g60 p60 => Q.fieldAddr (lzv g60 rfl)) ?_
    refine XT.q rfl rfl (Quiet.guardF rfl rfl fun g61 p61 => Q.ld (lzv g61 rfl) rfl) ?_
    refine XT.q rfl rfl (Quiet.guardF rfl rfl fun g62 p62 => Q.move rfl) ?_
    refine XT.q rfl rfl (Quiet.guardF rfl rfl fun g63 p63 => Q.move rfl) ?_
    refine XT.q rfl rfl (Quiet.guardF rfl rfl fun g64 p64 => Q.add (lzv g64 rfl) (lzv g64 rfl) (by have q := p64; exact ⟨by omega, by omega⟩)) ?_
    refine XT.lit1 [_] [_] [energyTo d p.charge i + (p.charge.getD i default)] encI rfl rfl rfl rfl (by rfl) (by rfl) rfl (by rfl) (fun g65 => by exact .c 0 1 (lzv g65 rfl) rfl rfl (.n _)) (fun _ => rfl) (by rfl) rfl (fun _ => by infer_instance) rfl (fun v65 h65 O65 => ⟨inferInstance, ?_⟩) XT.stop
    refine XT.gcallF rfl rfl rfl rfl Tryz.call151 rfl (fun g66 => .c (lzv g66 rfl) (.c (lzv g66 rfl) .n)) rfl (fun g66 p66 => by haveI := O65 g66; exact kin_spec d.store.full v65 h65 [energyTo d p.charge i + (p.charge.getD i default)]) ⟨inferInstance, ?_⟩ XT.stop
    refine XT.q rfl rfl (Quiet.guardF rfl rfl fun g67 p67 => Q.not (lzv g67 rfl)) ?_
    refine XT.q rfl rfl (Q.or rfl (fun hp => lzv hp rfl)) ?_
    refine XT.q rfl rfl (Q.move rfl) ?_
    refine XT.q rfl rfl (Quiet.guardF rfl rfl fun g70 p70 => Q.move rfl) ?_
    refine XT.q rfl rfl (Quiet.guardF rfl rfl fun g71 p71 => Q.move rfl) ?_
    refine XT.q rfl rfl (Quiet.guardF rfl rfl fun g72 p72 => Q.ix (lzv g72 rfl) (lzv g72 rfl) (by omega) (by omega)) ?_
    refine XT.q rfl rfl (Quiet.guardF rfl rfl fun g73 p73 => Q.ldE (lzv g73 rfl) (by first | assumption | omega) rfl) ?_
    refine XT.q rfl rfl (Quiet.guardF rfl rfl fun g74 p74 => Q.move rfl) ?_
    refine XT.q rfl rfl (Quiet.guardF rfl rfl fun g75 p75 => Q.add (lzv g75 rfl) (lzv g75 rfl) (by have q := p75; exact ⟨by omega, by omega⟩)) ?_
    refine XT.q rfl rfl (Quiet.guardF rfl rfl fun g76 p76 => Q.fieldAddr rfl) ?_
    refine XT.q rfl rfl (Quiet.guardF rfl rfl fun g77 p77 => Q.ld (lzv g77 rfl) rfl) ?_
    refine XT.q rfl rfl (Quiet.guardF rfl rfl fun g78 p78 => Q.gtr (lzv g78 rfl) (lzv g78 rfl)) ?_
    refine XT.q rfl rfl (Q.or rfl (fun hp => lzv hp rfl)) ?_
    refine XT.done ?_
    refine XK.if rfl (fun c3 => ?_) (fun c3 => ?_)
    ·skip
     refine XK.seq (XK.region rfl (XO.q (Q.assign rfl) (XO.q (Q.assign rfl) (XO.done ?_))))
     refine XK.rt [emp] Tryz.func83 Tryz.results83 (.t rfl (.t rfl .n)) ?_
     have e : formG d p = ([], 120) := by rw [formG, if_neg c0, if_neg c1, if_pos (by rw [allTo_false (s := i) (by omega) (okAt_bad c3)]; decide)]
     rw [e]
     exact ⟨.slice none 0 0, emp, rfl, rfl, nI⟩
    ·skip
     have good := okAt_good c3
     have c3b := c3
     simp only [not_or, Classical.not_not] at c3b
     have k1 := kin_one.1 c3b.1.2
     refine XK.skip (XK.region rfl (XO.q (Q.move rfl) (XO.q (Q.move rfl) ?_)))
     refine XO.q (Q.add rfl rfl ⟨by omega, by omega⟩) ?_
     refine XO.q (Q.assign rfl) (XO.done ?_)
     refine XK.inBlock ?_
     refine XK.region rfl ?_
     refine XO.q (Q.add rfl rfl ⟨by omega, by omega⟩) ?_
     refine XO.q (Q.move rfl) (XO.done ?_)
     exact ih0 (i + 1) _ _ ⟨by omega, by rw [allTo_succ, ha, good]; rfl, by rw [energyTo]; omega, by rw [energyTo]; omega⟩ (by first | omega | (dsimp only; omega)) (.c rfl (.c rfl (.base 98 rfl rfl))) inferInstance
   ·skip
    have hin : i = p.charge.length := by omega
    subst hin
    refine XK.exit rfl ?_
    refine XK.seq (XK.seq (XK.region rfl (XO.q (Q.move rfl) ?_)))
    refine XO.q (Q.fieldAddr rfl) ?_
    refine XO.q (Q.fieldAddr rfl) ?_
    refine XO.q (Q.ld rfl rfl) ?_
    refine XO.q (Q.lss rfl rfl) ?_
    refine XO.done ?_
    refine XK.if rfl (fun c4 => ?_) (fun c4 => ?_)
    ·skip
     refine XK.seq (XK.region rfl (XO.q (Q.assign rfl) (XO.q (Q.assign rfl) (XO.done ?_))))
     refine XK.rt [emp] Tryz.func83 Tryz.results83 (.t rfl (.t rfl .n)) ?_
     have e : formG d p = ([], 120) := by rw [formG, if_neg c0, if_neg c1, if_neg (fun h => h ha), if_pos c4]
     rw [e]
     exact ⟨.slice none 0 0, emp, rfl, rfl, nI⟩
    ·skip
     refine XK.skip (XK.seq (XK.region rfl (XO.q (Q.move rfl) (XO.q (Q.assign rfl) (XO.q (Q.assign rfl) ?_)))))
     refine XO.done ?_
     refine XK.rt [kb] Tryz.func83 Tryz.results83 (.t rfl (.t rfl .n)) ?_
     have e : formG d p = (needsL d p.starts, 0) := by rw [formG, if_neg c0, if_neg c1, if_neg (fun h => h ha), if_neg c4]
     rw [e]
     exact ⟨v33, kb, rfl, rfl, OB⟩
theorem cost_rng {d : KDay} {base ch : List Int} (hok : ∀ i, i < d.hours.length → HourOk (d.hours.getD i default)) (hl : ch.length ≤ d.hours.length) (hr : ∀ i, i < ch.length → -1000 ≤ base.getD i default + ch.getD i default ∧ base.getD i default + ch.getD i default ≤ 1000) : ∀ i, i ≤ ch.length → (-(1000000 * (i : Int)) ≤ costTo d base ch i ∧ costTo d base ch i ≤ 1000000 * i) ∧ 0 ≤ peakTo base ch i ∧ peakTo base ch i ≤ 1000
 | 0, _ => by simp [costTo, peakTo]
 | i + 1, hi => by
  have h := cost_rng hok hl hr i (by omega)
  have r := hr i (by omega)
  have p := price_rng (hok i (by omega)) r.1 r.2
  rw [costTo, peakTo]
  omega
theorem cost_spec (d : KDay) (vh vj : Value) (hh hj : PHeap) [ih : Arr vh encHour 6 hh d.hours] [ij : Arr vj encJob 4 hj d.jobs] (base : List Int) (vb : Value) (hb : PHeap) [jb : Arr vb encI 1 hb base] (ch : List Int) (vc : Value) (hc : PHeap) [jc : Arr vc encI 1 hc ch] (ok : DayOk d) (hl : ch.length = d.hours.length) (hbl : base.length = d.hours.length) (hr : ∀ i, i < ch.length → (-1000 ≤ base.getD i default ∧ base.getD i default ≤ 1000) ∧ (-1000 ≤ ch.getD i default ∧ ch.getD i default ≤ 1000) ∧ -1000 ≤ base.getD i default + ch.getD i default ∧ base.getD i default + ch.getD i default ≤ 1000) :
  Spec Tryz.prog 105 #[.agg #[vh, .int .i64 d.store.energy, .int .i64 d.store.full, .int .i64 d.store.power, .int .i64 d.store.fin, vj, .int .i64 d.most, .int .i64 d.peak], vb, vc] [] [hh, hj, hb, hc] (fun v hs => v = .int .i64 (costL d base ch) ∧ hs = []) := by
 have lh := ih.le
 have h24 := ok.h2
 have cr := cost_rng ok.hour (by omega) (fun i hi => (hr i hi).2.2)
 have pk0 := ok.p0
 have pk1 := ok.p1
 refine Spec.intro (fn := Tryz.f105) (N := 47) Tryz.func105 rfl Tryz.ntmps105 rfl fun B => ?_
 refine XK.seq (XK.region rfl ?_)
 refine XO.box rfl fun b3 => ?_
 refine XO.q (Q.assign rfl) (XO.done (XK.seq (XK.region rfl (XO.q (Q.assign rfl) (XO.q (Q.assign rfl) ?_)))))
 refine XO.done (XK.seq (XK.seq (XK.region rfl (XO.q (Q.move rfl) ?_))))
 refine XO.len rfl fun l12 => ?_
 refine XO.q (Q.move rfl) (XO.done (XK.block ?_))
 refine XK.while (X := Nat) [7, 8, 9, 10, 13, 14, 15, 16, 17, 18, 19, 20, 21, 22, 23, 24, 25, 26, 27, 28, 29, 30, 31, 32, 33, 34, 35, 36, 37, 38, 39, 40] (fun i => [(7, some (.int .i64 (costTo d base ch i))), (8, some (.int .i64 (peakTo base ch i))), (13, some (.int .i64 (i : Nat)))]) (fun i => []) (fun i => i ≤ ch.length) (fun i => ch.length - i) (0) [] rfl (by omega) (.c rfl (.c rfl (.c rfl (.base 0 rfl rfl)))) ?_
 rintro i hi ih0
 dsimp only [lcA, lnA] at ih0 ⊢
 refine XK.seq (XK.region rfl ?_)
 refine XO.q (Q.lss rfl rfl) ?_
 refine XO.done (XK.seq ?_)
 refine XK.if rfl (fun c0 => ?_) (fun c0 => ?_)
 ·skip
  have ri := hr i (by omega)
  have ci := cr i (by omega)
  have pi := price_rng (ok.hour i (by omega)) ri.2.2.1 ri.2.2.2
  refine XK.skip (XK.seq (XK.block (XK.seq (XK.region rfl (XO.q (Q.move rfl) ?_)))))
  refine XO.ix rfl rfl (by omega) (by omega) fun i16 => ?_
  refine XO.q (Q.ldE rfl (by first | assumption | omega) rfl) ?_
  refine XO.q (Q.assign rfl) (XO.q (Q.assign rfl) (XO.done (XK.seq ?_)))
  refine XK.drawn [0, 1, 2, 3, 4, 5, 6, 7, 8, 9, 10, 11, 13, 14] [b3] [] (.q 0 (.q 1 (.q 2 (.q 3 (.q 4 (.q 5 (.q 6 (.q 7 (.q 8 (.q 9 (.q 10 (.q 11 (.br 12 true (.q 13 (.q 14 .done)) .stop))))))))))))) Tryz.mixed rfl (by kernel_rfl) ?_
  refine XT.q rfl rfl (Q.move rfl) ?_
  refine XT.q rfl rfl (Q.fieldAddr rfl) ?_
  refine XT.q rfl rfl (Q.ld rfl rfl) ?_
  refine XT.q rfl rfl (Q.move rfl) ?_
  refine XT.ix rfl rfl rfl rfl (by omega) (by omega) fun i22 => ?_
  refine XT.q rfl rfl (Q.ldEA [_, _, _, _, _, _] rfl (by first | assumption | omega) rfl rfl) ?_
  refine XT.q rfl rfl (Q.move rfl) ?_
  refine XT.q rfl rfl (Q.move rfl) ?_
  refine XT.ix rfl rfl rfl rfl (by omega) (by omega) fun i26 => ?_
  refine XT.q rfl rfl (Q.ldE rfl (by first | assumption | omega) rfl) ?_
  refine XT.q rfl rfl (Q.move rfl) ?_
  refine XT.q rfl rfl (Q.add rfl rfl ⟨by omega, by omega⟩) ?_
  refine XT.call rfl rfl Tryz.call162 rfl rfl rfl (price_spec (d.hours.getD i default) (ok.hour i (by omega)) (base.getD i default + ch.getD i default) (by omega) (by omega)) (fun v30 s30 R30 => ?_) XT.stop
  obtain ⟨rfl, rfl⟩ := R30
  dsimp only [lcA, lnA]
  refine ⟨inferInstance, ?_⟩
  refine XT.q rfl rfl (Q.add rfl rfl ⟨by omega, by omega⟩) ?_
  refine XT.q rfl rfl (Q.assign rfl) ?_
  refine XT.done ?_
  refine XK.region rfl (XO.q (Q.move rfl) (XO.q (Q.move rfl) (XO.q (Q.move rfl) ?_)))
  refine XO.ix rfl rfl (by omega) (by omega) fun i35 => ?_
  refine XO.q (Q.ldE rfl (by first | assumption | omega) rfl) ?_
  refine XO.q (Q.move rfl) ?_
  refine XO.q (Q.add rfl rfl ⟨by omega, by omega⟩) ?_
  refine XO.q (Q.max rfl rfl) ?_
  refine XO.q (Q.assign rfl) (XO.done ?_)
  refine XK.inBlock ?_
  refine XK.region rfl ?_
  refine XO.q (Q.add rfl rfl ⟨by omega, by omega⟩) ?_
  refine XO.q (Q.move rfl) (XO.done ?_)
  exact ih0 (i + 1) _ _ (by omega) (by first | omega | (dsimp only; omega)) (.c rfl (.c rfl (.c rfl (.base 67 rfl rfl)))) inferInstance
 ·skip
  have hin : i = ch.length := by omega
  subst hin
  have ci := cr ch.length (Nat.le_refl _)
  have pm := price_mul (a := d.peak) (b := peakTo base ch ch.length) pk0 pk1 ci.2.1 ci.2.2
  refine XK.exit rfl ?_
  refine XK.seq (XK.region rfl (XO.q (Q.move rfl) ?_))
  refine XO.q (Q.fieldAddr rfl) ?_
  refine XO.q (Q.ld rfl rfl) ?_
  refine XO.q (Q.move rfl) ?_
  refine XO.q (Q.mul rfl rfl ⟨by omega, by omega⟩) ?_
  refine XO.q (Q.add rfl rfl ⟨by omega, by omega⟩) ?_
  refine XO.q (Q.assign rfl) (XO.done ?_)
  refine XK.rt [] Tryz.func105 Tryz.results105 (.t rfl .n) ?_
  exact ⟨rfl, rfl⟩
theorem form_fine {d : KDay} {p : KPlan} (h : (formG d p).2 = 0) : DayOk d ∧ SOk d p.starts ∧ (startsL d).any (fun l => decide (l = p.starts)) = true ∧ p.charge.length = d.hours.length ∧ allTo (okAt d (needsL d p.starts) p.charge) p.charge.length = true ∧ d.store.fin ≤ energyTo d p.charge p.charge.length ∧ (formG d p).1 = needsL d p.starts := by
 unfold formG at h ⊢
 split at h
 ·rename_i h0; exact absurd h h0
 ·rename_i h0
  rw [if_neg h0]
  split at h
  ·cases h
  ·rename_i h1
   rw [if_neg h1]
   split at h
   ·cases h
   ·rename_i h2
    rw [if_neg h2]
    split at h
    ·cases h
    ·rename_i h3
     rw [if_neg h3]
     have c1a : (startsL d).any (fun l => decide (l = p.starts)) = true := Decidable.of_not_not fun h => h1 (.inl h)
     exact ⟨kcheck_iff.1 (Decidable.of_not_not h0), starts_any c1a, c1a, (by have := fun h => h1 (.inr h); omega), Decidable.of_not_not h2, by omega, rfl⟩
theorem okAt_iff {d : KDay} {base ch : List Int} {i : Nat} : okAt d base ch i = true ↔ (-d.store.power ≤ ch.getD i default ∧ ch.getD i default ≤ d.store.power) ∧ (0 ≤ energyTo d ch i + ch.getD i default ∧ energyTo d ch i + ch.getD i default ≤ d.store.full) ∧ base.getD i default + ch.getD i default ≤ d.most := by
 unfold okAt
 simp only [Bool.and_eq_true, Bool.not_eq_true', decide_eq_false_iff_not]
 rw [kin_one]
 omega
theorem form_rng {d : KDay} {p : KPlan} (h : (formG d p).2 = 0) : ∀ i, i < p.charge.length → ((formG d p).1.length = d.hours.length) ∧ (-1000 ≤ (formG d p).1.getD i default ∧ (formG d p).1.getD i default ≤ 1000) ∧ (-1000 ≤ p.charge.getD i default ∧ p.charge.getD i default ≤ 1000) ∧ -1000 ≤ (formG d p).1.getD i default + p.charge.getD i default ∧ (formG d p).1.getD i default + p.charge.getD i default ≤ 1000 := fun i hi => by
 obtain ⟨ok, so, _, hl, ha, _, e⟩ := form_fine h
 have nr := needs_rng ok p.starts (show i < d.hours.length by omega)
 have oi := okAt_iff.1 (allTo_at ha hi)
 have s3 := ok.store.p0; have s4 := ok.store.p1
 rw [e]
 exact ⟨needsL_len d _, by omega, by omega, by omega, by omega⟩
theorem Cost_spec (d : KDay) (vh vj : Value) (hh hj : PHeap) [ih : Arr vh encHour 6 hh d.hours] [ij : Arr vj encJob 4 hj d.jobs] (p : KPlan) (vs vc : Value) (hs_ hc : PHeap) [js : Arr vs encI 1 hs_ p.starts] [jc : Arr vc encI 1 hc p.charge] : Spec Tryz.prog 48 #[.agg #[vh, .int .i64 d.store.energy, .int .i64 d.store.full, .int .i64 d.store.power, .int .i64 d.store.fin, vj, .int .i64 d.most, .int .i64 d.peak], .agg #[vs, vc, .int .i64 p.cost]] [] [hh, hj, hs_, hc] (fun v hs => v = .tuple #[.int .i64 (costG d p).1, .int .i64 (costG d p).2] ∧ hs = []) := by
 refine Spec.intro (fn := Tryz.f48) (N := 22) Tryz.func48 rfl Tryz.ntmps48 rfl fun B => ?_
 refine XK.seq (XK.region rfl ?_)
 refine XO.box rfl fun b2 => ?_
 refine XO.box rfl fun b3 => ?_
 refine XO.q (Q.assign rfl) (XO.q (Q.assign rfl) (XO.done (XK.seq (XK.region rfl ?_))))
 refine XO.q (Q.ldA [_, _, _, _, _, _, _, _] rfl rfl rfl) ?_
 refine XO.q (Q.ldA [_, _, _] rfl rfl rfl) ?_
 refine XO.call Tryz.call83 rfl rfl rfl (form_spec d vh vj hh hj p vs vc hs_ hc) fun v11 s11 R11 => ?_
 obtain ⟨v1, k1, rfl, rfl, O1⟩ := R11
 dsimp only [lcA, lnA]
 refine XO.q (Q.move rfl) ?_
 refine XO.q (Q.extract rfl rfl) ?_
 refine XO.q (Q.extract rfl rfl) ?_
 refine XO.q (Q.assign rfl) (XO.q (Q.assign rfl) (XO.done (XK.seq (XK.seq (XK.region rfl ?_)))))
 refine XO.q (Q.move rfl) ?_
 refine XO.q (Q.neq rfl rfl) ?_
 refine XO.done ?_
 refine XK.if rfl (fun c0 => ?_) (fun c0 => ?_)
 ·skip
  refine XK.seq (XK.region rfl (XO.q (Q.move rfl) (XO.q (Q.assign rfl) (XO.q (Q.assign rfl) (XO.done ?_)))))
  refine XK.rt [] Tryz.func48 Tryz.results48 (.t rfl (.t rfl .n)) ?_
  exact ⟨by rw [costG, if_pos c0], rfl⟩
 ·skip
  have e0 := Decidable.of_not_not c0
  have ff := form_fine e0
  refine XK.skip (XK.seq (XK.region rfl ?_))
  refine XO.q (Q.ldA [_, _, _, _, _, _, _, _] rfl rfl rfl) ?_
  refine XO.q (Q.move rfl) ?_
  refine XO.q (Q.fieldAddr rfl) ?_
  refine XO.q (Q.ld rfl rfl) ?_
  refine XO.call Tryz.call105 rfl rfl rfl (cost_spec d vh vj hh hj (formG d p).1 v1 k1 p.charge vc hc ff.1 ff.2.2.2.1 (by rw [ff.2.2.2.2.2.2]; exact needsL_len d _) (fun i hi => (form_rng e0 i hi).2)) fun v21 s21 R21 => ?_
  obtain ⟨rfl, rfl⟩ := R21
  dsimp only [lcA, lnA]
  refine XO.q (Q.assign rfl) (XO.q (Q.assign rfl) (XO.done ?_))
  refine XK.rt [] Tryz.func48 Tryz.results48 (.t rfl (.t rfl .n)) ?_
  exact ⟨by rw [costG, if_neg c0], rfl⟩
end Go.X.Ma

set_option linter.unusedSimpArgs false
set_option linter.unusedVariables false
set_option maxRecDepth 20000
namespace Go.X.Me
open Go.Proofs
def encNode (x : MNode) : List Value := [.int .i64 x.up, .int .i64 x.low, .int .i64 x.high]
theorem cloneI (v : Value) (h : PHeap) (xs : List Int) [s : Arr v encI 1 h xs] (hl : xs.length ≤ 68719476736) :
  Spec Tryz.prog 59 #[v] [] [h] (fun v' hs => ∃ h', hs = [h'] ∧ OArr v' encI 1 3 h' xs) := by apply Go.X.Bk.cloneI <;> assumption
theorem equalI (v1 v2 : Value) (h1 h2 : PHeap) (xs ys : List Int) [s1 : Arr v1 encI 1 h1 xs] [s2 : Arr v2 encI 1 h2 ys] :
  Spec Tryz.prog 35 #[v1, v2] [] [h1, h2] (fun v hs => v = .bool (decide (xs = ys)) ∧ hs = []) := by apply Go.X.Bk.equalI <;> assumption
theorem indexFuncI (v : Value) (h : PHeap) (xs : List Int) [s : Arr v encI 1 h xs] (gid : FuncId) (cap : List Value) (Hr : List PHeap) (p : Int → Bool)
  (hc : ∀ args w, (callFunc gid args).run Tryz.prog w = .ok (.enter gid args) w) (hS : ∀ x ∈ xs, Spec Tryz.prog gid (.int .i64 x :: cap).toArray [] Hr (fun v hs => v = .bool (p x) ∧ hs = [])) :
  Spec Tryz.prog 159 #[v, .func (.func gid) #[] cap.toArray] [] (h :: Hr) (fun v hs => v = .int .i64 (findFirst p xs) ∧ hs = []) := by apply Go.X.Bk.indexFuncI <;> assumption
theorem containsFuncI (v : Value) (h : PHeap) (xs : List Int) [s : Arr v encI 1 h xs] (gid : FuncId) (cap : List Value) (Hr : List PHeap) (p : Int → Bool)
  (hc : ∀ args w, (callFunc gid args).run Tryz.prog w = .ok (.enter gid args) w) (hS : ∀ x ∈ xs, Spec Tryz.prog gid (.int .i64 x :: cap).toArray [] Hr (fun v hs => v = .bool (p x) ∧ hs = [])) :
  Spec Tryz.prog 97 #[v, .func (.func gid) #[] cap.toArray] [] (h :: Hr) (fun v hs => v = .bool (xs.any p) ∧ hs = []) := by apply Go.X.Bk.containsFuncI <;> assumption
theorem in1 (b : Nat) (m x : Int) : Spec Tryz.prog 158 #[.int .i64 x, ptr b 0] [] [blk b [.int .i64 m] 3] (fun v hs => v = .bool (outP m x) ∧ hs = []) := by
 refine Spec.intro (fn := Tryz.f158) (N := 11) Tryz.func158 rfl Tryz.ntmps158 rfl fun B => ?_
 refine XK.seq (XK.region rfl (XO.q (Q.assign rfl) (XO.done (XK.seq (XK.region rfl ?_)))))
 refine XO.q (Q.move rfl) ?_
 refine XO.q (Q.lss rfl rfl) ?_
 refine XO.q (Q.move rfl) ?_
 refine XO.q (Quiet.guardF rfl rfl fun g7 p7 => Q.move rfl) ?_
 refine XO.q (Quiet.guardF rfl rfl fun g8 p8 => Q.ld rfl rfl) ?_
 refine XO.q (Quiet.guardF rfl rfl fun g9 p9 => Q.gtr (lzv g9 rfl) (lzv g9 rfl)) ?_
 refine XO.q (Q.or rfl (fun hp => lzv hp rfl)) ?_
 refine XO.q (Q.assign rfl) (XO.done ?_)
 refine XK.rt [] Tryz.func158 Tryz.results158 (.t rfl .n) ?_
 exact ⟨rfl, rfl⟩
theorem in_spec11 (m : Int) (v : Value) (h : PHeap) (xs : List Int) [s : Arr v encI 1 h xs] : Spec Tryz.prog 95 #[.int .i64 m, v] [] [h] (fun v hs => v = .bool (inA m xs) ∧ hs = []) := by
 refine Spec.intro (fn := Tryz.f95) (N := 9) Tryz.func95 rfl Tryz.ntmps95 rfl fun B => ?_
 refine XK.seq (XK.region rfl ?_)
 refine XO.box rfl fun b2 => ?_
 refine XO.q (Q.assign rfl) (XO.done (XK.seq (XK.region rfl (XO.q (Q.move rfl) ?_))))
 refine XO.q (Q.func (fun _ he => rfl) (fun _ he => evs_rel he rfl)) ?_
 refine XO.call Tryz.call97 rfl rfl rfl (containsFuncI v h xs 158 [ptr b2 0] [blk b2 [.int .i64 m] 3] (outP m) Tryz.call158 (fun x hx => in1 b2 m x)) fun v7 s7 R7 => ?_
 obtain ⟨rfl, rfl⟩ := R7
 dsimp only [lcA, lnA]
 refine XO.q (Q.not rfl) ?_
 refine XO.q (Q.assign rfl) (XO.done ?_)
 refine XK.rt [] Tryz.func95 Tryz.results95 (.t rfl .n) ?_
 exact ⟨rfl, rfl⟩
theorem Check_spec11 (c : MCase) (vn vv : Value) (hn hv : PHeap) [jn : Arr vn encNode 3 hn c.nodes] [jv : Arr vv encI 1 hv c.vals] : Spec Tryz.prog 86 #[.agg #[vn, vv]] [] [hn, hv] (fun v hs => v = .int .i64 (mcheck c) ∧ hs = []) := by
 have ln := jn.le
 have lv := jv.le
 refine Spec.intro (fn := Tryz.f86) (N := 72) Tryz.func86 rfl Tryz.ntmps86 rfl fun B => ?_
 refine XK.seq (XK.region rfl ?_)
 refine XO.box rfl fun b1 => ?_
 refine XO.q (Q.assign rfl) (XO.done (XK.seq (XK.seq (XK.region rfl ?_))))
 refine XO.q (Q.fieldAddr rfl) ?_
 refine XO.q (Q.ld rfl rfl) ?_
 refine XO.len rfl fun l7 => ?_
 refine XO.q (Q.lss rfl rfl) ?_
 refine XO.q (Q.move rfl) ?_
 refine XO.q (Quiet.guardF rfl rfl fun g10 p10 => Q.fieldAddr rfl) ?_
 refine XO.q (Quiet.guardF rfl rfl fun g11 p11 => Q.ld (lzv g11 rfl) rfl) ?_
 refine XO.q (Quiet.guardF rfl rfl fun g12 p12 => Q.len (lzv g12 rfl)) ?_
 refine XO.q (Quiet.guardF rfl rfl fun g13 p13 => Q.gtr (lzv g13 rfl) rfl) ?_
 refine XO.q (Q.or rfl (fun hp => lzv hp rfl)) ?_
 refine XO.done ?_
 refine XK.if rfl (fun c0 => ?_) (fun c0 => ?_)
 ·skip
  refine XK.seq (XK.region rfl (XO.q (Q.assign rfl) (XO.done ?_)))
  refine XK.rt [] Tryz.func86 Tryz.results86 (.t rfl .n) ?_
  exact ⟨by rw [mcheck, if_pos c0], rfl⟩
 ·skip
  refine XK.skip (XK.seq (XK.seq (XK.region rfl ?_)))
  refine XO.q (Q.fieldAddr rfl) ?_
  refine XO.q (Q.ld rfl rfl) ?_
  refine XO.len rfl fun l17 => ?_
  refine XO.q (Q.fieldAddr rfl) ?_
  refine XO.q (Q.ld rfl rfl) ?_
  refine XO.len rfl fun l20 => ?_
  refine XO.q (Q.neq rfl rfl) ?_
  refine XO.done ?_
  refine XK.if rfl (fun c1 => ?_) (fun c1 => ?_)
  ·skip
   refine XK.seq (XK.region rfl (XO.q (Q.assign rfl) (XO.done ?_)))
   refine XK.rt [] Tryz.func86 Tryz.results86 (.t rfl .n) ?_
   exact ⟨by rw [mcheck, if_neg c0, if_pos c1], rfl⟩
  ·skip
   refine XK.skip (XK.seq (XK.seq (XK.region rfl ?_)))
   refine XO.q (Q.fieldAddr rfl) ?_
   refine XO.q (Q.ld rfl rfl) ?_
   refine XO.len rfl fun l24 => ?_
   refine XO.q (Q.move rfl) (XO.done (XK.block ?_))
   refine XK.while (X := Nat) [2, 3, 4, 25, 26, 27, 28, 29, 30, 31, 32, 33, 34, 35, 36, 37, 38, 39, 40, 41, 42, 43, 44, 45, 46, 47, 48, 49, 50, 51, 52, 53, 54, 55, 56, 57, 58, 59, 60, 61, 62, 63, 64, 65, 66, 67, 68, 69, 70, 71] (fun i => [(25, some (.int .i64 (i : Nat)))]) (fun i => []) (fun i => i ≤ c.nodes.length ∧ nodesOk c i = true) (fun i => c.nodes.length - i) (0) [] rfl ⟨by omega, rfl⟩ (.c rfl (.base 0 rfl rfl)) ?_
   rintro i ⟨hi, hall⟩ ih0
   dsimp only [lcA, lnA] at ih0 ⊢
   refine XK.seq (XK.region rfl ?_)
   refine XO.q (Q.lss rfl rfl) ?_
   refine XO.done (XK.seq ?_)
   refine XK.if rfl (fun c2 => ?_) (fun c2 => ?_)
   ·skip
    refine XK.skip (XK.seq (XK.block (XK.seq (XK.region rfl (XO.q (Q.move rfl) ?_)))))
    refine XO.ix rfl rfl (by omega) (by omega) fun i28 => ?_
    refine XO.q (Q.ldEA [_, _, _] rfl (by first | assumption | omega) rfl rfl) ?_
    refine XO.alloc fun b4 => ?_
    refine XO.q (Q.assign rfl) ?_
    refine XO.st rfl rfl rfl ?_
    refine XO.done (XK.seq ?_)
    refine XK.drawn [0, 1, 2, 3, 4, 5, 6, 9, 10, 11, 12, 13, 14, 17, 18, 19, 20, 21, 22, 23, 24, 25, 26, 27, 28, 29, 30, 31, 32, 33, 34, 35, 38, 39, 40] [b4, b1] [] (.q 0 (.q 1 (.q 2 (.q 3 (.q 4 (.q 5 (.q 6 (.br 7 true (.br 8 true (.q 9 (.q 10 (.q 11 (.q 12 (.q 13 (.q 14 (.br 15 true (.br 16 true (.q 17 (.q 18 (.q 19 (.q 20 (.q 21 (.q 22 (.q 23 (.q 24 (.q 25 (.q 26 (.q 27 (.q 28 (.q 29 (.q 30 (.q 31 (.q 32 (.q 33 (.q 34 (.q 35 (.br 36 true (.br 37 true (.q 38 (.q 39 (.q 40 .done))) .stop) .stop)))))))))))))))))))) .stop) .stop))))))) .stop) .stop)))))))) Tryz.mixed rfl (by kernel_rfl) ?_
    refine XT.q rfl rfl (Q.fieldAddr rfl) ?_
    refine XT.q rfl rfl (Q.ld rfl rfl) ?_
    refine XT.q rfl rfl (Q.fieldAddr rfl) ?_
    refine XT.q rfl rfl (Q.ld rfl rfl) ?_
    refine XT.q rfl rfl (Q.move rfl) ?_
    refine XT.ix rfl rfl rfl rfl (by omega) (by omega) fun i35 => ?_
    refine XT.q rfl rfl (Q.ldE rfl (by first | assumption | omega) rfl) ?_
    refine XT.lit [_, _] [_, _] [(c.nodes.getD i default).high, c.vals.getD i default] encI rfl rfl (by rfl) (by rfl) rfl (by rfl) (by exact .c 0 1 rfl rfl rfl (.c 1 1 rfl rfl rfl (.n _))) (fun _ => rfl) (by rfl) rfl (by infer_instance) rfl (fun v37 h37 O37 => ⟨inferInstance, ?_⟩) XT.stop
    refine XT.call rfl rfl Tryz.call95 rfl rfl rfl (in_spec11 1000000000 v37 h37 [(c.nodes.getD i default).high, c.vals.getD i default]) (fun v38 s38 R38 => ?_) XT.stop
    obtain ⟨rfl, rfl⟩ := R38
    dsimp only [lcA, lnA]
    refine ⟨inferInstance, ?_⟩
    refine XT.q rfl rfl (Q.not rfl) ?_
    refine XT.q rfl rfl (Q.move rfl) ?_
    refine XT.q rfl rfl (Quiet.guardF rfl rfl fun g41 p41 => Q.fieldAddr rfl) ?_
    refine XT.q rfl rfl (Quiet.guardF rfl rfl fun g42 p42 => Q.ld (lzv g42 rfl) rfl) ?_
    refine XT.q rfl rfl (Quiet.guardF rfl rfl fun g43 p43 => Q.fieldAddr rfl) ?_
    refine XT.q rfl rfl (Quiet.guardF rfl rfl fun g44 p44 => Q.ld (lzv g44 rfl) rfl) ?_
    refine XT.lit1 [_] [_] [(c.nodes.getD i default).low] encI rfl rfl rfl rfl (by rfl) (by rfl) rfl (by rfl) (fun g45 => by exact .c 0 1 (lzv g45 rfl) rfl rfl (.n _)) (fun _ => rfl) (by rfl) rfl (fun _ => by infer_instance) rfl (fun v45 h45 O45 => ⟨inferInstance, ?_⟩) XT.stop
    refine XT.gcallF rfl rfl rfl rfl Tryz.call95 rfl (fun g46 => .c (lzv g46 rfl) (.c (lzv g46 rfl) .n)) rfl (fun g46 p46 => by haveI := O45 g46; exact in_spec11 (c.nodes.getD i default).high v45 h45 [(c.nodes.getD i default).low]) ⟨inferInstance, ?_⟩ XT.stop
    refine XT.q rfl rfl (Quiet.guardF rfl rfl fun g47 p47 => Q.not (lzv g47 rfl)) ?_
    refine XT.q rfl rfl (Q.or rfl (fun hp => lzv hp rfl)) ?_
    refine XT.q rfl rfl (Q.move rfl) ?_
    refine XT.q rfl rfl (Quiet.guardF rfl rfl fun g50 p50 => Q.move rfl) ?_
    refine XT.q rfl rfl (Quiet.guardF rfl rfl fun g51 p51 => Q.eql (lzv g51 rfl) rfl) ?_
    refine XT.q rfl rfl (Quiet.guardF rfl rfl fun g52 p52 => Q.move (lzv g52 rfl)) ?_
    refine XT.q rfl rfl (Quiet.guard2 rfl rfl fun g53a g53b => have p53a := bpF g53a; have p53b := bpT g53b; Q.fieldAddr rfl) ?_
    refine XT.q rfl rfl (Quiet.guard2 rfl rfl fun g54a g54b => have p54a := bpF g54a; have p54b := bpT g54b; Q.ld (lzv g54b (lzv g54a rfl)) rfl) ?_
    refine XT.q rfl rfl (Quiet.guard2 rfl rfl fun g55a g55b => have p55a := bpF g55a; have p55b := bpT g55b; Q.neq (lzv g55b (lzv g55a rfl)) rfl) ?_
    refine XT.q rfl rfl (Quiet.guardF rfl rfl fun g56 p56 => Q.and (lzv g56 rfl) (fun hp => (lzv hp (lzv g56 rfl)))) ?_
    refine XT.q rfl rfl (Q.or rfl (fun hp => lzv hp rfl)) ?_
    refine XT.q rfl rfl (Q.move rfl) ?_
    refine XT.q rfl rfl (Quiet.guardF rfl rfl fun g59 p59 => Q.move rfl) ?_
    refine XT.q rfl rfl (Quiet.guardF rfl rfl fun g60 p60 => Q.gtr (lzv g60 rfl) rfl) ?_
    refine XT.q rfl rfl (Quiet.guardF rfl rfl fun g61 p61 => Q.move (lzv g61 rfl)) ?_
    refine XT.q rfl rfl (Quiet.guard2 rfl rfl fun g62a g62b => have p62a := bpF g62a; have p62b := bpT g62b; Q.move rfl) ?_
    refine XT.q rfl rfl (Quiet.guard2 rfl rfl fun g63a g63b => have p63a := bpF g63a; have p63b := bpT g63b; Q.sub (lzv g63b (lzv g63a rfl)) rfl ⟨by omega, by omega⟩) ?_
    refine XT.q rfl rfl (Quiet.guard2 rfl rfl fun g64a g64b => have p64a := bpF g64a; have p64b := bpT g64b; Q.fieldAddr rfl) ?_
    refine XT.q rfl rfl (Quiet.guard2 rfl rfl fun g65a g65b => have p65a := bpF g65a; have p65b := bpT g65b; Q.ld (lzv g65b (lzv g65a rfl)) rfl) ?_
    refine XT.lit2 [_] [_] [(c.nodes.getD i default).up] encI rfl rfl rfl rfl (by rfl) (by rfl) rfl (by rfl) (fun g66a g66b => by exact .c 0 1 (lzv g66b (lzv g66a rfl)) rfl rfl (.n _)) (fun _ => rfl) (by rfl) rfl (fun _ _ => by infer_instance) rfl (fun v66 h66 O66 => ⟨inferInstance, ?_⟩) XT.stop
    refine XT.vg2 rfl rfl rfl rfl (fun g67a g67b => rfl) (fun g67a g67b => .c (lzv g67b (lzv g67a rfl)) (.c (lzv g67b (lzv g67a rfl)) .n)) (fun g67a g67b => have p67a := bpF g67a; have p67b := bpT g67b; VSpec.fn (P := Tryz.prog) Tryz.call95 rfl (by haveI := O66 g67a g67b; exact in_spec11 ((i : Int) - 1) v66 h66 [(c.nodes.getD i default).up])) ⟨inferInstance, ?_⟩ XT.stop
    refine XT.q rfl rfl (Quiet.guard2 rfl rfl fun g68a g68b => have p68a := bpF g68a; have p68b := bpT g68b; Q.not (lzv g68b (lzv g68a rfl))) ?_
    refine XT.q rfl rfl (Quiet.guardF rfl rfl fun g69 p69 => Q.and (lzv g69 rfl) (fun hp => (lzv hp (lzv g69 rfl)))) ?_
    refine XT.q rfl rfl (Q.or rfl (fun hp => lzv hp rfl)) ?_
    refine XT.done ?_
    refine XK.if rfl (fun c3 => ?_) (fun c3 => ?_)
    ·skip
     refine XK.seq (XK.region rfl (XO.q (Q.assign rfl) (XO.done ?_)))
     refine XK.rt [] Tryz.func86 Tryz.results86 (.t rfl .n) ?_
     exact ⟨by rw [mcheck, if_neg c0, if_neg c1, if_neg (by rw [nodesOk, allTo_false (s := i) (by omega) (by rw [Bool.not_eq_false', decide_eq_true_eq]; exact c3)]; decide)], rfl⟩
    ·skip
     refine XK.skip ?_
     refine XK.inBlock ?_
     refine XK.region rfl ?_
     refine XO.q (Q.add rfl rfl ⟨by omega, by omega⟩) ?_
     refine XO.q (Q.move rfl) (XO.done ?_)
     exact ih0 (i + 1) _ _ ⟨by omega, by rw [nodesOk, allTo_succ]; rw [nodesOk] at hall; rw [hall, Bool.true_and, Bool.not_eq_true', decide_eq_false_iff_not]; exact c3⟩ (by first | omega | (dsimp only; omega)) (.c rfl (.base 100 rfl rfl)) inferInstance
   ·skip
    refine XK.exit rfl ?_
    refine XK.seq (XK.region rfl (XO.q (Q.assign rfl) (XO.done ?_)))
    refine XK.rt [] Tryz.func86 Tryz.results86 (.t rfl .n) ?_
    have hin : i = c.nodes.length := by omega
    rw [hin] at hall
    exact ⟨by rw [mcheck, if_neg c0, if_neg c1, if_pos hall], rfl⟩
end Go.X.Me

set_option linter.unusedSimpArgs false
set_option linter.unusedVariables false
set_option maxRecDepth 20000
namespace Go.X.Me
open Go.Proofs
theorem sons_spec (c : MCase) (vn vv : Value) (hn : PHeap) [jn : Arr vn encNode 3 hn c.nodes] [ov : One vv] (hl : c.nodes.length ≤ 14) (i : Int) : Spec Tryz.prog 87 #[.agg #[vn, vv], .int .i64 i] [] [hn] (fun v hs => ∃ k, hs = [k] ∧ OArr v encI 1 3 k (ints (sonsTo c i c.nodes.length))) := by
 have hnil : OArr (.slice none 0 0) encI 1 3 emp ([] : List Int) := OArr.nil (fun _ => rfl)
 refine Spec.intro (fn := Tryz.f87) (N := 26) Tryz.func87 rfl Tryz.ntmps87 rfl fun B => ?_
 refine XK.seq (XK.region rfl ?_)
 refine XO.box rfl fun b2 => ?_
 refine XO.q (Q.assign rfl) (XO.done (XK.seq (XK.region rfl (XO.q (Q.assign rfl) (XO.done ?_)))))
 refine XK.seq (XK.seq (XK.region rfl ?_))
 refine XO.q (Q.fieldAddr rfl) ?_
 refine XO.q (Q.ld rfl rfl) ?_
 refine XO.len rfl fun l10 => ?_
 refine XO.q (Q.move rfl) (XO.done (XK.block ?_))
 refine XK.while (X := Nat × Value × PHeap) [5, 6, 7, 11, 12, 13, 14, 15, 16, 17, 18, 19, 20, 21, 22, 23, 24] (fun ⟨j, v5, k5⟩ => [(11, some (.int .i64 (j : Nat))), (5, some (v5))]) (fun ⟨j, v5, k5⟩ => [k5]) (fun ⟨j, v5, k5⟩ => j ≤ c.nodes.length ∧ OArr v5 encI 1 3 k5 (ints (sonsTo c i j))) (fun ⟨j, v5, k5⟩ => c.nodes.length - j) (0, .slice none 0 0, emp) [emp] rfl ⟨by omega, hnil⟩ (.c rfl (.c rfl (.base 0 rfl rfl))) ?_
 rintro ⟨j, v5, k5⟩ ⟨hj, O5⟩ ih0
 dsimp only [lcA, lnA] at ih0 ⊢
 refine XK.seq (XK.region rfl ?_)
 refine XO.q (Q.lss rfl rfl) ?_
 refine XO.done (XK.seq ?_)
 refine XK.if rfl (fun c0 => ?_) (fun c0 => ?_)
 ·skip
  have hsl := sonsTo_len (c := c) (i := i) (n := j)
  refine XK.skip (XK.seq (XK.block (XK.seq (XK.region rfl (XO.q (Q.move rfl) ?_)))))
  refine XO.ix rfl rfl (by omega) (by omega) fun i14 => ?_
  refine XO.q (Q.ldEA [_, _, _] rfl (by first | assumption | omega) rfl rfl) ?_
  refine XO.alloc fun b7 => ?_
  refine XO.q (Q.assign rfl) ?_
  refine XO.st rfl rfl rfl ?_
  refine XO.done (XK.seq (XK.region rfl ?_))
  refine XO.q (Q.fieldAddr rfl) ?_
  refine XO.q (Q.ld rfl rfl) ?_
  refine XO.q (Q.move rfl) ?_
  refine XO.q (Q.eql rfl rfl) ?_
  refine XO.done ?_
  refine XK.if rfl (fun c1 => ?_) (fun c1 => ?_)
  ·skip
   refine XK.region rfl (XO.q (Q.move rfl) (XO.q (Q.move rfl) ?_))
   refine XO.lit [_] [_] [((j : Nat) : Int)] encI (by rfl) (by rfl) rfl (by rfl) (by exact .c 0 1 rfl rfl rfl (.n _)) (fun _ => rfl) (by rfl) rfl (by infer_instance) rfl fun v22 h22 O22 => ?_
   refine XO.append rfl rfl rfl rfl (by simp only [ints_len, List.length_cons, List.length_nil]; omega) fun v23 h23 O23 => ?_
   refine XO.q (Q.assign rfl) (XO.done ?_)
   refine XK.inBlock ?_
   refine XK.region rfl ?_
   refine XO.q (Q.add rfl rfl ⟨by omega, by omega⟩) ?_
   refine XO.q (Q.move rfl) (XO.done ?_)
   exact ih0 (j + 1, v23, h23) _ _ ⟨by dsimp only; omega, by dsimp only; rw [sonsTo, if_pos c1, ints_snoc]; exact O23⟩ (by first | omega | (dsimp only; omega)) (.c rfl (.c rfl (.base 36 rfl rfl))) inferInstance
  ·skip
   refine XK.skip ?_
   refine XK.inBlock ?_
   refine XK.region rfl ?_
   refine XO.q (Q.add rfl rfl ⟨by omega, by omega⟩) ?_
   refine XO.q (Q.move rfl) (XO.done ?_)
   exact ih0 (j + 1, v5, k5) _ _ ⟨by dsimp only; omega, by dsimp only; rw [sonsTo, if_neg c1]; exact O5⟩ (by first | omega | (dsimp only; omega)) (.c rfl (.c rfl (.base 31 rfl rfl))) inferInstance
 ·skip
  refine XK.exit rfl ?_
  refine XK.seq (XK.region rfl (XO.q (Q.move rfl) (XO.q (Q.assign rfl) (XO.done ?_))))
  refine XK.rt [k5] Tryz.func87 Tryz.results87 (.t rfl .n) ?_
  have hin : j = c.nodes.length := by omega
  rw [hin] at O5
  exact ⟨k5, rfl, O5⟩
end Go.X.Me

set_option linter.unusedSimpArgs false
set_option linter.unusedVariables false
set_option maxRecDepth 20000
namespace Go.X.Me
open Go.Proofs
end Go.X.Me

set_option linter.unusedSimpArgs false
set_option linter.unusedVariables false
set_option maxRecDepth 20000
namespace Go.X.Me
open Go.Proofs
end Go.X.Me

set_option linter.unusedSimpArgs false
set_option linter.unusedVariables false
set_option maxRecDepth 20000
namespace Go.X.Me
open Go.Proofs
end Go.X.Me

set_option linter.unusedSimpArgs false
set_option linter.unusedVariables false
set_option maxRecDepth 20000
namespace Go.X.Me
open Go.Proofs
instance : Inhabited (Value × MUse) := ⟨(.slice none 0 0, default)⟩
end Go.X.Me

set_option linter.unusedSimpArgs false
set_option linter.unusedVariables false
set_option maxRecDepth 20000
namespace Go.X.Me
open Go.Proofs
theorem mul64_one (n : Nat) (h : n ≤ 4294967295) : Spec Tryz.prog 199 #[.int .u64 1, .int .u64 (n : Nat)] [] [] (fun v hs => v = .tuple #[.int .u64 0, .int .u64 (n : Nat)] ∧ hs = []) := by apply Go.X.Ke.mul64_one <;> assumption
theorem mul_one' (n : Nat) (h : n ≤ 4294967295) : Spec Tryz.prog 160 #[.int .u64 1, .int .u64 (n : Nat)] [] [] (fun v hs => v = .tuple #[.int .u64 0, .int .u64 (n : Nat)] ∧ hs = []) := by apply Go.X.Ke.mul_one' <;> assumption
theorem repeatI (v : Value) (h : PHeap) (x : Int) [s : Arr v encI 1 h [x]] (n : Nat) (hn : n ≤ 4294967295) : Spec Tryz.prog 100 #[v, .int .i64 (n : Nat)] [] [h] (fun v' hs => ∃ h', hs = [h'] ∧ OArr v' encI 1 3 h' (List.replicate n x)) := by apply Go.X.Ke.repeatI <;> assumption
end Go.X.Me

set_option linter.unusedSimpArgs false
set_option linter.unusedVariables false
set_option maxRecDepth 20000
namespace Go.X.Me
open Go.Proofs
end Go.X.Me

set_option linter.unusedSimpArgs false
set_option linter.unusedVariables false
set_option maxRecDepth 20000
namespace Go.X.Me
open Go.Proofs
theorem lost_rng {c : MCase} (ok : MOk c) {i : Nat} (hi : i < c.nodes.length) {n : Nat} (hn : n ≤ (sonsN c i).length) : -14000000000 ≤ lostAt c i n ∧ lostAt c i n ≤ 1000000000 := by
 have hs : ∀ q, q < n → 0 ≤ c.vals.getD ((sonsN c i).getD q 0) 0 ∧ c.vals.getD ((sonsN c i).getD q 0) 0 ≤ 1000000000 := fun q hq => by
  obtain ⟨a, _, _⟩ := ok.son (getD_mem0 (l := sonsN c i) (j := q) (by omega))
  exact (ok.node _ a).2.1
 have h1 : 0 ≤ sumV c c.vals i n := sum_nonneg fun q hq => (hs q hq).1
 have h2 : sumV c c.vals i n ≤ n * 1000000000 := sum_le fun q hq => (hs q hq).2
 have h3 := (ok.node i hi).2.1
 have h4 : (sonsN c i).length ≤ c.nodes.length := sonsTo_len
 have h5 := ok.n2
 unfold lostAt; omega
theorem Broken_spec (c : MCase) (vn vv : Value) (hn hv : PHeap) [jn : Arr vn encNode 3 hn c.nodes] [jv : Arr vv encI 1 hv c.vals] : Spec Tryz.prog 33 #[.agg #[vn, vv]] [] [hn, hv] (fun v hs => ∃ v1 k1, v = .tuple #[v1, .int .i64 (brokenG c).2] ∧ hs = [k1] ∧ OArr v1 encI 1 3 k1 (brokenG c).1) := by
 have nI : OArr (.slice none 0 0) encI 1 3 emp ([] : List Int) := OArr.nil (fun _ => rfl)
 refine Spec.intro (fn := Tryz.f33) (N := 68) Tryz.func33 rfl Tryz.ntmps33 rfl fun B => ?_
 refine XK.seq (XK.region rfl ?_)
 refine XO.box rfl fun b1 => ?_
 refine XO.q (Q.assign rfl) (XO.q (Q.assign rfl) (XO.done (XK.seq (XK.seq (XK.region rfl ?_)))))
 refine XO.q (Q.ldA [_, _] rfl rfl rfl) ?_
 refine XO.call Tryz.call86 rfl rfl rfl (Check_spec11 c vn vv hn hv) fun v13 s13 R13 => ?_
 obtain ⟨rfl, rfl⟩ := R13
 dsimp only [lcA, lnA]
 refine XO.q (Q.assign rfl) (XO.done (XK.seq (XK.region rfl (XO.q (Q.move rfl) ?_))))
 refine XO.q (Q.neq rfl rfl) ?_
 refine XO.done ?_
 refine XK.if rfl (fun c0 => ?_) (fun c0 => ?_)
 ·skip
  refine XK.seq (XK.region rfl (XO.q (Q.move rfl) (XO.q (Q.assign rfl) (XO.q (Q.assign rfl) (XO.done ?_)))))
  refine XK.rt [emp] Tryz.func33 Tryz.results33 (.t rfl (.t rfl .n)) ?_
  have hw0 : brokenG c = ([], mcheck c) := by rw [brokenG, if_pos c0]
  rw [hw0]
  exact ⟨.slice none 0 0, emp, rfl, rfl, OArr.nil (fun _ => rfl)⟩
 ·skip
  have ok := mcheck_ok (Decidable.of_not_not c0)
  have vl := ok.vl
  refine XK.skip (XK.seq (XK.region rfl (XO.q (Q.assign rfl) (XO.done (XK.seq ?_)))))
  refine XK.seq (XK.region rfl ?_)
  refine XO.q (Q.fieldAddr rfl) ?_
  refine XO.q (Q.ld rfl rfl) ?_
  refine XO.len rfl fun l19 => ?_
  refine XO.q (Q.move rfl) (XO.done (XK.block ?_))
  refine XK.while (X := Nat × Value × PHeap) [5, 6, 7, 8, 9, 11, 20, 21, 22, 23, 24, 25, 26, 27, 28, 29, 30, 31, 32, 33, 34, 35, 36, 37, 38, 39, 40, 41, 42, 43, 44, 45, 46, 47, 48, 49, 50, 51, 52, 53, 54, 55, 56, 57, 58, 59, 60, 61, 62, 63, 64, 65, 66] (fun ⟨i, vo, ko⟩ => [(20, some (.int .i64 (i : Nat))), (5, some (vo))]) (fun ⟨i, vo, ko⟩ => [ko]) (fun ⟨i, vo, ko⟩ => i ≤ c.nodes.length ∧ OArr vo encI 1 3 ko (ints (brokenTo c i))) (fun ⟨i, vo, ko⟩ => c.nodes.length - i) (0, .slice none 0 0, emp) [emp] rfl ⟨by omega, nI⟩ (.c rfl (.c rfl (.base 0 rfl rfl))) ?_
  rintro ⟨i, vo, ko⟩ ⟨hi, OO⟩ ih0
  dsimp only [lcA, lnA] at ih0 ⊢
  refine XK.seq (XK.region rfl ?_)
  refine XO.q (Q.lss rfl rfl) ?_
  refine XO.done (XK.seq ?_)
  refine XK.if rfl (fun c1 => ?_) (fun c1 => ?_)
  ·skip
   have il := ints_len (l := (sonsN c i))
   have nd := (ok.node i (by omega)).2.1
   have bl := brokenTo_len c i
   have n2 := ok.n2
   refine XK.skip (XK.seq (XK.block (XK.seq (XK.region rfl (XO.q (Q.move rfl) ?_)))))
   refine XO.ix rfl rfl (by omega) (by omega) fun i23 => ?_
   refine XO.q (Q.ldEA [_, _, _] rfl (by first | assumption | omega) rfl rfl) ?_
   refine XO.alloc fun b7 => ?_
   refine XO.q (Q.assign rfl) ?_
   refine XO.st rfl rfl rfl ?_
   refine XO.done (XK.seq (XK.region rfl ?_))
   refine XO.q (Q.ldA [_, _] rfl rfl rfl) ?_
   refine XO.q (Q.move rfl) ?_
   refine XO.call Tryz.call87 rfl rfl rfl (sons_spec c vn vv hn ok.n2 (i : Nat)) fun v27 s27 R27 => ?_
   obtain ⟨k27, rfl, O27⟩ := R27
   dsimp only [lcA, lnA]
   change OArr v27 encI 1 3 k27 (ints (sonsN c i)) at O27
   refine XO.q (Q.assign rfl) (XO.done (XK.seq (XK.region rfl ?_)))
   refine XO.q (Q.fieldAddr rfl) ?_
   refine XO.q (Q.ld rfl rfl) ?_
   refine XO.q (Q.move rfl) ?_
   refine XO.ix rfl rfl (by omega) (by omega) fun i31 => ?_
   refine XO.q (Q.ldE rfl (by first | assumption | omega) rfl) ?_
   rw [show c.vals.getD i default = lostAt c i 0 by rw [lostAt, sumV, sumTo, Int.sub_zero]; rfl]
   refine XO.q (Q.assign rfl) (XO.done (XK.seq (XK.seq (XK.region rfl (XO.q (Q.move rfl) ?_)))))
   refine XO.len rfl fun l34 => ?_
   rw [il]
   refine XO.q (Q.move rfl) (XO.done (XK.block ?_))
   refine XK.while (X := Nat) [9, 11, 35, 36, 37, 38, 39, 40, 41, 42, 43, 44, 45, 46] (fun j => [(35, some (.int .i64 (j : Nat))), (9, some (.int .i64 (lostAt c i j)))]) (fun j => []) (fun j => j ≤ (sonsN c i).length) (fun j => (sonsN c i).length - j) (0) [] rfl (by omega) (.c rfl (.c rfl (.base 0 rfl rfl))) ?_
   rintro j hj ih1
   dsimp only [lcA, lnA] at ih1 ⊢
   refine XK.seq (XK.region rfl ?_)
   refine XO.q (Q.lss rfl rfl) ?_
   refine XO.done (XK.seq ?_)
   refine XK.if rfl (fun c2 => ?_) (fun c2 => ?_)
   ·skip
    have lr := lost_rng ok (i := i) (by omega) (n := j) (by omega)
    have lr2 := lost_rng ok (i := i) (by omega) (n := j + 1) (by omega)
    have lr3 : -14000000000 ≤ c.vals.getD i 0 := by omega
    refine XK.skip (XK.seq (XK.block (XK.seq (XK.region rfl ?_))))
    refine XO.ix rfl rfl (by omega) (by omega) fun i37 => ?_
    refine XO.q (Q.ldE rfl (by first | assumption | omega) rfl) ?_
    rw [ints_at (by omega)]
    obtain ⟨k, ek⟩ : ∃ k, k = (sonsN c i).getD j 0 := ⟨_, rfl⟩
    rw [← ek]
    obtain ⟨k1, k2, k3⟩ := ok.son (i := i) (k := k) (by rw [ek]; exact getD_mem0 (by omega))
    have vk : 0 ≤ c.vals.getD k default ∧ c.vals.getD k default ≤ 1000000000 := (ok.node k k1).2.1
    refine XO.q (Q.assign rfl) (XO.done (XK.region rfl (XO.q (Q.move rfl) ?_)))
    refine XO.q (Q.fieldAddr rfl) ?_
    refine XO.q (Q.ld rfl rfl) ?_
    refine XO.q (Q.move rfl) ?_
    refine XO.ix rfl rfl (by omega) (by omega) fun i43 => ?_
    refine XO.q (Q.ldE rfl (by first | assumption | omega) rfl) ?_
    refine XO.q (Q.sub rfl rfl ⟨by omega, by omega⟩) ?_
    rw [show (lostAt c i j) - c.vals.getD k default = (lostAt c i (j + 1)) by rw [lostAt, lostAt, sumV, sumV, sumTo, ← ek, ← Int.sub_sub]; rfl]
    refine XO.q (Q.assign rfl) (XO.done ?_)
    refine XK.inBlock ?_
    refine XK.region rfl ?_
    refine XO.q (Q.add rfl rfl ⟨by omega, by omega⟩) ?_
    refine XO.q (Q.move rfl) (XO.done ?_)
    exact ih1 (j + 1) _ _ (by omega) (by first | omega | (dsimp only; omega)) (.c rfl (.c rfl (.base 30 rfl rfl))) inferInstance
   ·skip
    have hjn : j = (sonsN c i).length := by omega
    subst hjn
    refine XK.exit rfl ?_
    refine XK.seq (XK.region rfl (XO.q (Q.move rfl) ?_))
    refine XO.len rfl fun l48 => ?_
    rw [il]
    refine XO.q (Q.gtr rfl rfl) ?_
    refine XO.q (Q.move rfl) ?_
    refine XO.q (Quiet.guardT rfl rfl fun g51 p51 => Q.move rfl) ?_
    refine XO.q (Quiet.guardT rfl rfl fun g52 p52 => Q.fieldAddr rfl) ?_
    refine XO.q (Quiet.guardT rfl rfl fun g53 p53 => Q.ld (lzv g53 rfl) rfl) ?_
    refine XO.q (Quiet.guardT rfl rfl fun g54 p54 => Q.lss (lzv g54 rfl) (lzv g54 rfl)) ?_
    refine XO.q (Quiet.guardT rfl rfl fun g55 p55 => Q.move (lzv g55 rfl)) ?_
    refine XO.q (Quiet.guard2 rfl rfl fun g56a g56b => have p56a := bpT g56a; have p56b := bpF g56b; Q.move rfl) ?_
    refine XO.q (Quiet.guard2 rfl rfl fun g57a g57b => have p57a := bpT g57a; have p57b := bpF g57b; Q.fieldAddr rfl) ?_
    refine XO.q (Quiet.guard2 rfl rfl fun g58a g58b => have p58a := bpT g58a; have p58b := bpF g58b; Q.ld (lzv g58b (lzv g58a rfl)) rfl) ?_
    refine XO.q (Quiet.guard2 rfl rfl fun g59a g59b => have p59a := bpT g59a; have p59b := bpF g59b; Q.gtr (lzv g59b (lzv g59a rfl)) (lzv g59b (lzv g59a rfl))) ?_
    refine XO.q (Quiet.guardT rfl rfl fun g60 p60 => Q.or (lzv g60 rfl) (fun hp => (lzv hp (lzv g60 rfl)))) ?_
    refine XO.q (Q.and rfl (fun hp => lzv hp rfl)) ?_
    refine XO.done ?_
    refine XK.if rfl (fun c3 => ?_) (fun c3 => ?_)
    ·skip
     refine XK.region rfl (XO.q (Q.move rfl) (XO.q (Q.move rfl) ?_))
     refine XO.lit [_] [_] [((i : Nat) : Int)] encI (by rfl) (by rfl) rfl (by rfl) (by exact .c 0 1 rfl rfl rfl (.n _)) (fun _ => rfl) (by rfl) rfl (by infer_instance) rfl fun v64 h64 O64 => ?_
     refine XO.append rfl rfl rfl rfl (by simp only [ints_len, List.length_cons, List.length_nil]; omega) fun v65 h65 O65 => ?_
     refine XO.q (Q.assign rfl) (XO.done ?_)
     refine XK.inBlock ?_
     refine XK.region rfl ?_
     refine XO.q (Q.add rfl rfl ⟨by omega, by omega⟩) ?_
     refine XO.q (Q.move rfl) (XO.done ?_)
     exact ih0 (i + 1, v65, h65) _ _ ⟨by dsimp only; omega, by dsimp only; rw [brokenTo, if_pos (show isBroken c i from c3), ints_snoc]; exact O65⟩ (by first | omega | (dsimp only; omega)) (.c rfl (.c rfl (.base 113 rfl rfl))) inferInstance
    ·skip
     refine XK.skip ?_
     refine XK.inBlock ?_
     refine XK.region rfl ?_
     refine XO.q (Q.add rfl rfl ⟨by omega, by omega⟩) ?_
     refine XO.q (Q.move rfl) (XO.done ?_)
     exact ih0 (i + 1, vo, ko) _ _ ⟨by dsimp only; omega, by dsimp only; rw [brokenTo, if_neg (show ¬ isBroken c i from c3)]; exact OO⟩ (by first | omega | (dsimp only; omega)) (.c rfl (.c rfl (.base 108 rfl rfl))) inferInstance
  ·skip
   refine XK.exit rfl ?_
   refine XK.seq (XK.region rfl (XO.q (Q.move rfl) (XO.q (Q.assign rfl) (XO.q (Q.assign rfl) (XO.done ?_)))))
   refine XK.rt [ko] Tryz.func33 Tryz.results33 (.t rfl (.t rfl .n)) ?_
   have hin : i = c.nodes.length := by omega
   subst hin
   have hw0 : brokenG c = (ints (brokenTo c c.nodes.length), 0) := by rw [brokenG, if_neg c0]
   rw [hw0]
   exact ⟨vo, ko, rfl, rfl, OO⟩
end Go.X.Me

set_option linter.unusedSimpArgs false
set_option linter.unusedVariables false
set_option maxRecDepth 20000
namespace Go.X
open Go.Proofs
theorem there_spec : Spec Tryz.prog 14 #[] [] [] (fun v hs => v = .bool true ∧ hs = []) := by
 have nG : ∀ h, Arr (.slice none 0 0) Bk.encGen 5 h ([] : List Bk.BGen) := fun h => Arr.nil (fun _ => rfl)
 have nI : ∀ h, Arr (.slice none 0 0) encI 1 h ([] : List Int) := fun h => Arr.nil (fun _ => rfl)
 have nW : ∀ h, Arr (.slice none 0 0) Ht.encWall 3 h ([] : List HWall) := fun h => Arr.nil (fun _ => rfl)
 have nB : ∀ h, Arr (.slice none 0 0) Ht.encBranch 3 h ([] : List HBranch) := fun h => Arr.nil (fun _ => rfl)
 have nC : ∀ h, Arr (.slice none 0 0) Ht.encCooler 5 h ([] : List HCooler) := fun h => Arr.nil (fun _ => rfl)
 have nJ : ∀ h, Arr (.slice none 0 0) Ma.encJob 4 h ([] : List Ma.KJob) := fun h => Arr.nil (fun _ => rfl)
 refine Spec.intro (fn := Tryz.f14) (N := 118) Tryz.func14 rfl Tryz.ntmps14 rfl fun B => ?_
 refine XK.seq (XK.region rfl (XO.q (Q.assign rfl) (XO.done (XK.seq (XK.region rfl ?_)))))
 refine XO.q (Q.build [_, _, _, _] (.c 0 1 rfl rfl rfl (.c 1 1 rfl rfl rfl (.c 2 1 rfl rfl rfl (.n _))))) ?_
 refine XO.lit [_, _, _, _] [_, _, _, _] [⟨30, 30, 10, 0⟩] Bk.encBat (by rfl) (by rfl) rfl (by rfl) (by exact .c 0 4 rfl rfl rfl (.n _)) (fun _ => rfl) (by rfl) rfl (by infer_instance) rfl fun v15 h15 O15 => ?_
 refine XO.q (Q.build [_, _] (.c 0 1 rfl rfl rfl (.n _))) ?_
 refine XO.q (Q.build [_, _] (.c 0 1 rfl rfl rfl (.c 1 1 rfl rfl rfl (.n _)))) ?_
 refine XO.lit [_, _] [_, _] [⟨5, 10⟩] Bk.encSpan (by rfl) (by rfl) rfl (by rfl) (by exact .c 0 2 rfl rfl rfl (.n _)) (fun _ => rfl) (by rfl) rfl (by infer_instance) rfl fun v18 h18 O18 => ?_
 refine XO.call Tryz.call29 rfl rfl rfl (Bk.Run_spec thB v15 (.slice none 0 0) h15 h15 (ib := O15.arr) (ig := nG _) thL v18 h18 (il := O18.arr) [] (.slice none 0 0) h15 (jf := nI _)) fun v19 s19 R19 => ?_
 obtain ⟨ve, vn, ke, kn, rfl, rfl, OE, OB⟩ := R19
 dsimp only [lcA, lnA]
 rw [if_pos th_ready] at OE OB
 rw [th_ready, if_pos rfl]
 dsimp only [Bk.resV]
 rw [th_dark]
 refine XO.q (Q.move rfl) ?_
 refine XO.q (Q.extract rfl rfl) ?_
 refine XO.q (Q.extract rfl rfl) ?_
 refine XO.alloc fun b1 => ?_
 refine XO.st rfl rfl rfl ?_
 refine XO.q (Q.assign rfl) (XO.done (XK.seq (XK.region rfl ?_)))
 refine XO.q (Q.build [_, _] (.c 0 1 rfl rfl rfl (.c 1 1 rfl rfl rfl (.n _)))) ?_
 refine XO.lit [_, _] [_, _] [⟨2, 9⟩] Ht.encRoom (by rfl) (by rfl) rfl (by rfl) (by exact .c 0 2 rfl rfl rfl (.n _)) (fun _ => rfl) (by rfl) rfl (by infer_instance) rfl fun v24 h24 O24 => ?_
 refine XO.q (Q.build [_, _, _, _] (.c 0 1 rfl rfl rfl (.n _))) ?_
 refine XO.lit [_] [_] [5] encI (by rfl) (by rfl) rfl (by rfl) (by exact .c 0 1 rfl rfl rfl (.n _)) (fun _ => rfl) (by rfl) rfl (by infer_instance) rfl fun v26 h26 O26 => ?_
 refine XO.lit [_] [_] [4] encI (by rfl) (by rfl) rfl (by rfl) (by exact .c 0 1 rfl rfl rfl (.n _)) (fun _ => rfl) (by rfl) rfl (by infer_instance) rfl fun v27 h27 O27 => ?_
 refine XO.q (Q.build [_, _, _] (.c 0 1 rfl rfl rfl (.n _))) ?_
 refine XO.call Tryz.call16 rfl rfl rfl (Ht.Next_spec thH v24 (.slice none 0 0) (.slice none 0 0) (.slice none 0 0) h24 h24 h24 h24 (ir := O24.arr) (iw := nW _) (ib := nB _) (ic := nC _) [5] v26 h26 ⟨[4], 0, 0⟩ v27 h27) fun v29 s29 R29 => ?_
 obtain ⟨w29, k29, rfl, rfl, O29⟩ := R29
 dsimp only [lcA, lnA]
 rw [th_next1] at O29
 rw [th_next2]
 refine XO.q (Q.move rfl) ?_
 refine XO.q (Q.extract rfl rfl) ?_
 refine XO.q (Q.extract rfl rfl) ?_
 refine XO.q (Q.assign rfl) (XO.q (Q.assign rfl) (XO.done (XK.seq (XK.region rfl ?_))))
 refine XO.lit [_] [_] [0] encI (by rfl) (by rfl) rfl (by rfl) (by exact .c 0 1 rfl rfl rfl (.n _)) (fun _ => rfl) (by rfl) rfl (by infer_instance) rfl fun v33 h33 O33 => ?_
 refine XO.lit [_] [_] [true] encB (by rfl) (by rfl) rfl (by rfl) (by exact .c 0 1 rfl rfl rfl (.n _)) (fun _ => rfl) (by rfl) rfl (by infer_instance) rfl fun v34 h34 O34 => ?_
 refine XO.q (Q.build [_, _, _, _, _] (.c 0 1 rfl rfl rfl (.c 1 1 rfl rfl rfl (.c 2 1 rfl rfl rfl (.c 3 1 rfl rfl rfl (.c 4 1 rfl rfl rfl (.n _))))))) ?_
 refine XO.call Tryz.call12 rfl rfl rfl (Ke.Solve_spec thG v33 v34 h33 h34 (sn := O33.arr) (sg := O34.arr)) fun v36 s36 R36 => ?_
 obtain ⟨p1, p2, p3, q1, q2, q3, rfl, rfl, OP1, OP2, OP3⟩ := R36
 dsimp only [lcA, lnA]
 rw [th_solve] at OP1
 have hl1 : (0 : Int).toNat < ([true] : List Bool).length := by decide
 rw [th_game]
 refine XO.q (Q.move rfl) ?_
 refine XO.q (Q.extract rfl rfl) ?_
 refine XO.q (Q.extract rfl rfl) ?_
 refine XO.alloc fun b5 => ?_
 refine XO.st rfl rfl rfl ?_
 refine XO.q (Q.assign rfl) (XO.done (XK.seq (XK.region rfl ?_)))
 refine XO.q (Q.build [_, _] (.c 0 1 rfl rfl rfl (.c 1 1 rfl rfl rfl (.n _)))) ?_
 refine XO.q (Q.build [_, _] (.c 0 1 rfl rfl rfl (.c 1 1 rfl rfl rfl (.n _)))) ?_
 refine XO.lit [_, _, _, _] [_, _, _, _] [⟨1, 1⟩, ⟨3, 3⟩] Pl.encDraw (by rfl) (by rfl) rfl (by rfl) (by exact .c 0 2 rfl rfl rfl (.c 2 2 rfl rfl rfl (.n _))) (fun _ => rfl) (by rfl) rfl (by infer_instance) rfl fun v42 h42 O42 => ?_
 refine XO.q (Q.build [_, _, _, _, _, _] (.c 3 1 rfl rfl rfl (.n _))) ?_
 refine XO.lit [_, _, _, _, _, _] [_, _, _, _, _, _] [(v42, ⟨0, 0, 0, [⟨1, 1⟩, ⟨3, 3⟩], 0, 0⟩)] Pl.encPJ (by rfl) (by rfl) rfl (by rfl) (by exact .c 0 6 rfl rfl rfl (.n _)) (fun _ => rfl) (by rfl) rfl (by infer_instance) rfl fun v44 h44 O44 => ?_
 refine XO.call Tryz.call26 rfl rfl rfl (Pl.Chance_spec [(v42, ⟨0, 0, 0, [⟨1, 1⟩, ⟨3, 3⟩], 0, 0⟩)] v44 h44 h42 (fun i hi => by have e : i = 0 := (by simp at hi; omega); subst e; exact O42.arr) 2) fun v45 s45 R45 => ?_
 obtain ⟨rfl, rfl⟩ := R45
 dsimp only [lcA, lnA]
 rw [show Pl.chanceG (List.map Prod.snd [(v42, (⟨0, 0, 0, [⟨1, 1⟩, ⟨3, 3⟩], 0, 0⟩ : Pl.PJob))]) 2 = (⟨3, 4⟩, 0) from th_chance]
 refine XO.q (Q.move rfl) ?_
 refine XO.q (Q.extract rfl rfl) ?_
 refine XO.q (Q.extract rfl rfl) ?_
 refine XO.alloc fun b7 => ?_
 refine XO.st rfl rfl rfl ?_
 refine XO.q (Q.assign rfl) (XO.done (XK.seq (XK.region rfl ?_)))
 refine XO.q (Q.build [_, _, _, _, _, _] (.c 0 1 rfl rfl rfl (.c 3 1 rfl rfl rfl (.n _)))) ?_
 refine XO.lit [_, _, _, _, _, _] [_, _, _, _, _, _] [⟨7, 0, 0, 3, 0, 0⟩] Ma.encHour (by rfl) (by rfl) rfl (by rfl) (by exact .c 0 6 rfl rfl rfl (.n _)) (fun _ => rfl) (by rfl) rfl (by infer_instance) rfl fun v50 h50 O50 => ?_
 refine XO.q (Q.build [_, _, _, _, _, _, _, _] (.c 0 1 rfl rfl rfl (.c 6 1 rfl rfl rfl (.n _)))) ?_
 refine XO.lit [_] [_] [0] encI (by rfl) (by rfl) rfl (by rfl) (by exact .c 0 1 rfl rfl rfl (.n _)) (fun _ => rfl) (by rfl) rfl (by infer_instance) rfl fun v52 h52 O52 => ?_
 refine XO.q (Q.build [_, _, _] (.c 1 1 rfl rfl rfl (.n _))) ?_
 refine XO.call Tryz.call48 rfl rfl rfl (Ma.Cost_spec thD v50 (.slice none 0 0) h50 h50 (ih := O50.arr) (ij := nJ _) ⟨[], [0], 0⟩ (.slice none 0 0) v52 h50 h52 (js := nI _) (jc := O52.arr)) fun v54 s54 R54 => ?_
 obtain ⟨rfl, rfl⟩ := R54
 dsimp only [lcA, lnA]
 rw [th_cost]
 refine XO.q (Q.move rfl) ?_
 refine XO.q (Q.extract rfl rfl) ?_
 refine XO.q (Q.extract rfl rfl) ?_
 refine XO.q (Q.assign rfl) (XO.q (Q.assign rfl) (XO.done (XK.seq (XK.region rfl ?_))))
 refine XO.q (Q.build [_, _, _] (.c 0 1 rfl rfl rfl (.n _))) ?_
 refine XO.q (Q.build [_, _, _] (.n _)) ?_
 refine XO.lit [_, _, _, _, _, _] [_, _, _, _, _, _] [⟨-1, 0, 0⟩, ⟨0, 0, 0⟩] Me.encNode (by rfl) (by rfl) rfl (by rfl) (by exact .c 0 3 rfl rfl rfl (.c 3 3 rfl rfl rfl (.n _))) (fun _ => rfl) (by rfl) rfl (by infer_instance) rfl fun v60 h60 O60 => ?_
 refine XO.lit [_, _] [_, _] [4, 5] encI (by rfl) (by rfl) rfl (by rfl) (by exact .c 0 1 rfl rfl rfl (.c 1 1 rfl rfl rfl (.n _))) (fun _ => rfl) (by rfl) rfl (by infer_instance) rfl fun v61 h61 O61 => ?_
 refine XO.q (Q.build [_, _] (.c 0 1 rfl rfl rfl (.c 1 1 rfl rfl rfl (.n _)))) ?_
 refine XO.call Tryz.call33 rfl rfl rfl (Me.Broken_spec thM v60 v61 h60 h61 (jn := O60.arr) (jv := O61.arr)) fun v63 s63 R63 => ?_
 obtain ⟨w63, k63, rfl, rfl, O63⟩ := R63
 dsimp only [lcA, lnA]
 rw [show (Me.brokenG thM).1 = [0] by rw [th_broken]] at O63
 rw [th_broken]
 refine XO.q (Q.move rfl) ?_
 refine XO.q (Q.extract rfl rfl) ?_
 refine XO.q (Q.extract rfl rfl) ?_
 refine XO.q (Q.assign rfl) (XO.q (Q.assign rfl) (XO.done (XK.seq (XK.region rfl (XO.q (Q.move rfl) ?_)))))
 refine XO.q (Q.eql rfl rfl) ?_
 refine XO.q (Q.move rfl) ?_
 refine XO.q (Quiet.guardT rfl rfl fun g69 p69 => Q.move rfl) ?_
 refine XO.q (Quiet.guardT rfl rfl fun g70 p70 => Q.eql (lzv rfl rfl) rfl) ?_
 refine XO.q (Q.and rfl (fun hp => lzv hp rfl)) ?_
 refine XO.q (Q.move rfl) ?_
 refine XO.q (Quiet.guardT rfl rfl fun g73 p73 => Q.move rfl) ?_
 refine XO.q (Quiet.guardT rfl rfl fun g74 p74 => Q.eql (lzv rfl rfl) rfl) ?_
 refine XO.q (Q.and rfl (fun hp => lzv hp rfl)) ?_
 refine XO.q (Q.move rfl) ?_
 refine XO.q (Quiet.guardT rfl rfl fun g77 p77 => Q.move rfl) ?_
 refine XO.q (Quiet.guardT rfl rfl fun g78 p78 => Q.eql (lzv rfl rfl) rfl) ?_
 refine XO.q (Q.and rfl (fun hp => lzv hp rfl)) ?_
 refine XO.q (Q.move rfl) ?_
 refine XO.q (Quiet.guardT rfl rfl fun g81 p81 => Q.move rfl) ?_
 refine XO.q (Quiet.guardT rfl rfl fun g82 p82 => Q.eql (lzv rfl rfl) rfl) ?_
 refine XO.q (Q.and rfl (fun hp => lzv hp rfl)) ?_
 refine XO.q (Q.move rfl) ?_
 refine XO.q (Quiet.guardT rfl rfl fun g85 p85 => Q.move rfl) ?_
 refine XO.q (Quiet.guardT rfl rfl fun g86 p86 => Q.eql (lzv rfl rfl) rfl) ?_
 refine XO.q (Q.and rfl (fun hp => lzv hp rfl)) ?_
 refine XO.q (Q.move rfl) ?_
 refine XO.q (Quiet.guardT rfl rfl fun g89 p89 => Q.fieldAddr rfl) ?_
 refine XO.q (Quiet.guardT rfl rfl fun g90 p90 => Q.ld (lzv rfl rfl) rfl) ?_
 refine XO.q (Quiet.guardT rfl rfl fun g91 p91 => Q.eql (lzv rfl rfl) rfl) ?_
 refine XO.q (Q.and rfl (fun hp => lzv hp rfl)) ?_
 refine XO.q (Q.move rfl) ?_
 refine XO.q (Quiet.guardT rfl rfl fun g94 p94 => Q.move rfl) ?_
 refine XO.litG [_] [_] [7] encI rfl rfl rfl (by rfl) (by rfl) rfl (by rfl) (by exact .c 0 1 rfl rfl rfl (.n _)) (fun _ => rfl) (by rfl) rfl (by infer_instance) rfl fun v95 h95 O95 => ?_
 refine XO.callS rfl rfl rfl Tryz.call35 rfl (.c (lzv rfl rfl) (.c rfl .n)) rfl (Bk.equalI w29 v95 k29 h95 [7] [7]) fun v96 s96 R96 => ?_
 obtain ⟨rfl, rfl⟩ := R96
 dsimp only [lcA, lnA]
 refine XO.q (Q.and rfl (fun _ => rfl)) ?_
 refine XO.q (Q.move rfl) ?_
 refine XO.q (Quiet.guardT rfl rfl fun g99 p99 => Q.fieldAddr rfl) ?_
 refine XO.q (Quiet.guardT rfl rfl fun g100 p100 => Q.ld (lzv rfl rfl) rfl) ?_
 refine XO.q (Quiet.guardT rfl rfl fun g101 p101 => Q.ix (lzv rfl rfl) rfl (by decide) (by decide)) ?_
 refine XO.q (Quiet.guardT rfl rfl fun g102 p102 => Q.ldE (lzv rfl rfl) (by first | assumption | omega) rfl) ?_
 refine XO.q (Q.and rfl (fun hp => lzv hp rfl)) ?_
 refine XO.q (Q.move rfl) ?_
 refine XO.q (Quiet.guardT rfl rfl fun g105 p105 => Q.ldA [_, _] rfl rfl rfl) ?_
 refine XO.q (Quiet.guardT rfl rfl fun g106 p106 => Q.build [_, _] (.c 0 1 rfl rfl rfl (.c 1 1 rfl rfl rfl (.n _)))) ?_
 refine XO.q (Quiet.guardT rfl rfl fun g107 p107 => Q.eqlS (us := [_, _]) (vs := [_, _]) rfl rfl inferInstance (by kernel_rfl) (by kernel_rfl) (.c rfl inferInstance inferInstance rfl rfl (.c rfl inferInstance inferInstance rfl rfl .n))) ?_
 refine XO.q (Q.and rfl (fun hp => lzv hp rfl)) ?_
 refine XO.q (Q.move rfl) ?_
 refine XO.q (Quiet.guardT rfl rfl fun g110 p110 => Q.move rfl) ?_
 refine XO.q (Quiet.guardT rfl rfl fun g111 p111 => Q.eql (lzv rfl rfl) rfl) ?_
 refine XO.q (Q.and rfl (fun hp => lzv hp rfl)) ?_
 refine XO.q (Q.move rfl) ?_
 refine XO.q (Quiet.guardT rfl rfl fun g114 p114 => Q.move rfl) ?_
 refine XO.litG [_] [_] [0] encI rfl rfl rfl (by rfl) (by rfl) rfl (by rfl) (by exact .c 0 1 rfl rfl rfl (.n _)) (fun _ => rfl) (by rfl) rfl (by infer_instance) rfl fun v115 h115 O115 => ?_
 refine XO.callS rfl rfl rfl Tryz.call35 rfl (.c (lzv rfl rfl) (.c rfl .n)) rfl (Bk.equalI w63 v115 k63 h115 [0] [0]) fun v116 s116 R116 => ?_
 obtain ⟨rfl, rfl⟩ := R116
 dsimp only [lcA, lnA]
 refine XO.q (Q.and rfl (fun _ => rfl)) ?_
 refine XO.q (Q.assign rfl) (XO.done ?_)
 refine XK.rt [] Tryz.func14 Tryz.results14 (.t rfl .n) ?_
 exact ⟨rfl, rfl⟩
end Go.X

set_option linter.unusedSimpArgs false
set_option linter.unusedVariables false
set_option maxRecDepth 20000
namespace Go.X.Ht
open Go.Proofs
end Go.X.Ht

set_option linter.unusedSimpArgs false
set_option linter.unusedVariables false
set_option maxRecDepth 20000
namespace Go.X.Ht
open Go.Proofs
end Go.X.Ht

set_option linter.unusedSimpArgs false
set_option linter.unusedVariables false
set_option maxRecDepth 20000
namespace Go.X.Ht
open Go.Proofs
end Go.X.Ht

set_option linter.unusedSimpArgs false
set_option linter.unusedVariables false
set_option maxRecDepth 20000
namespace Go.X.Ht
open Go.Proofs
instance : Inhabited (Value × HCase) := ⟨(.slice none 0 0, default)⟩
end Go.X.Ht

set_option linter.unusedSimpArgs false
set_option linter.unusedVariables false
set_option maxRecDepth 20000
namespace Go.X.Ht
open Go.Proofs
/-- The function that gives a second's case. -/
def OfC (y : Value) (n : Nat) (c : Nat → HCase) (vl : Nat → Value) (Ho : List PHeap) : Prop := ∀ i, i < n → VSpec Tryz.prog y [.int .i64 (i : Nat)] [] Ho (fun v hs => v = .agg #[vl i, .int .i64 (c i).out, .int .i64 (c i).pump] ∧ hs = [])
theorem OfC.two {y : Value} {n : Nat} {c : Nat → HCase} {vl : Nat → Value} {a : PHeap} (h : OfC y n c vl [a]) : OfC y n c vl [a, a] := fun i hi o r w hs hr => h i hi o r w hs (fun x hx => hr x (by rcases List.mem_cons.1 hx with rfl | hx; exact List.mem_cons_self; cases hx))
end Go.X.Ht

set_option linter.unusedSimpArgs false
set_option linter.unusedVariables false
set_option maxRecDepth 20000
namespace Go.X.Ht
open Go.Proofs
theorem iter_ok2 {h : Hall} (ok : HOk h) {c : Nat → HCase} {t : List Int} (tk : TOk h t) {n : Nat} (ck : ∀ i, i < n → COk h (c i)) : ∀ i, i ≤ n → TOk h (iterT h c t i)
 | 0, _ => tk
 | i + 1, hi => next_ok ok (iter_ok2 ok tk ck i (by omega)) (ck i (by omega))
/-- What seconds yields: the temperatures after each second. -/
def SecY (h : Hall) (c : Nat → HCase) (t : List Int) (i : Nat) (K : PHeap) (vs : List Value) : Prop := ∃ sl, vs = [.int .i64 ((i : Int) + 1), sl] ∧ Arr sl encI 1 K (iterT h c t (i + 1))
theorem seconds1 (h : Hall) (vr vw vb vc : Value) (hr hw hb hc : PHeap) [ir : Arr vr encRoom 2 hr h.rooms] [iw : Arr vw encWall 3 hw h.walls] [ib : Arr vb encBranch 3 hb h.branches] [ic : Arr vc encCooler 5 hc h.coolers] (ok : HOk h) (c : Nat → HCase) (n : Nat) (hn : n ≤ 20000) (t : List Int) (vt : Value) (ht : PHeap) [it : Arr vt encI 1 ht t] (tk : TOk h t) (ck : ∀ i, i < n → COk h (c i)) (vl : Nat → Value) (hL : PHeap) (aL : ∀ i, i < n → Arr (vl i) encI 1 hL (c i).load) (y : Value) [iy : One y] (hy hz : PHeap) (of : OfC y n c vl [hy, hz]) (bn bh bt bo : Nat) (f : Value) (Hr : List PHeap) (Qc : Nat → PHeap → PHeap → Prop) (Xc : PHeap → PHeap → Prop)
  (mono : ∀ i K K' q, leH K K' → Qc i K q → Qc i K' q)
  (round : ∀ i, i < n → ∀ K vs q, SecY h c t i K vs → Qc i K q → VSpec Tryz.prog f vs [q] (K :: Hr) (fun v hs => ∃ b q', v = .bool b ∧ hs = [q'] ∧ (b = true → Qc (i + 1) K q') ∧ (b = false → Xc K q')))
  (q : PHeap) (hQ : Qc 0 emp q) : Spec Tryz.prog 116 #[f, ptr bn 0, ptr bh 0, ptr bt 0, ptr bo 0] (q :: [blk bn [.int .i64 (n : Nat)] 3, blk bh [vr, vw, vb, vc] 28, blk bt [vt] 29, blk bo [y] 194]) ([hr, hw, hb, hc, ht, hy, hz, hL] ++ Hr) (fun _ hs => ∃ q' K, hs = [q', K] ∧ (Qc n K q' ∨ Xc K q')) := by
 refine Spec.intro (fn := Tryz.f116) (N := 24) Tryz.func116 rfl Tryz.ntmps116 rfl fun B => ?_
 dsimp only [lcA, lnA]
 refine XK.seq (XK.region rfl ?_)
 refine XO.q (Q.ld rfl rfl) ?_
 refine XO.q (Q.move rfl) (XO.done (XK.block ?_))
 refine XK.while (X := Nat × Value × PHeap × PHeap × PHeap) [6, 8, 9, 10, 11, 12, 13, 14, 15, 16, 17, 18, 19, 20, 21, 22, 23] (fun ⟨i, v, kt, K, q1⟩ => [(8, some (.int .i64 (i : Nat)))]) (fun ⟨i, v, kt, K, q1⟩ => [q1, blk bn [.int .i64 (n : Nat)] 3, blk bh [vr, vw, vb, vc] 28, blk bt [v] 29, blk bo [y] 194, K]) (fun ⟨i, v, kt, K, q1⟩ => i ≤ n ∧ Arr v encI 1 kt (iterT h c t i) ∧ Either kt ht K ∧ Qc i K q1) (fun ⟨i, v, kt, K, q1⟩ => n - i) (0, vt, ht, emp, q) [q, blk bn [.int .i64 (n : Nat)] 3, blk bh [vr, vw, vb, vc] 28, blk bt [vt] 29, blk bo [y] 194, emp] rfl ⟨by omega, it, ⟨.inl rfl⟩, hQ⟩ (.c rfl (.base 0 rfl rfl)) ?_
 rintro ⟨i, v, kt, K, q1⟩ ⟨hi, aT, eT, hq⟩ ih0
 dsimp only [lcA, lnA] at ih0 ⊢
 refine XK.seq (XK.region rfl ?_)
 refine XO.q (Q.lss rfl rfl) ?_
 refine XO.done (XK.seq ?_)
 refine XK.if rfl (fun c0 => ?_) (fun c0 => ?_)
 ·skip
  refine XK.skip (XK.seq (XK.block (XK.seq (XK.region rfl (XO.q (Q.move rfl) ?_)))))
  refine XO.q (Q.assign rfl) (XO.done (XK.seq ?_))
  refine XK.drawn [0, 1, 2, 3] [bh, bt, bo] [] (.q 0 (.q 1 (.q 2 (.q 3 (.br 4 true (.br 5 true (.br 6 false .done .stop) .stop) .stop))))) Tryz.mixed rfl (by kernel_rfl) ?_
  refine XT.q rfl rfl (Q.ldA [_, _, _, _] rfl rfl rfl) ?_
  refine XT.q rfl rfl (Q.ld rfl rfl) ?_
  refine XT.q rfl rfl (Q.ld rfl rfl) ?_
  refine XT.q rfl rfl (Q.move rfl) ?_
  haveI aLi := aL i (by omega)
  refine XT.vcall rfl rfl rfl rfl (of i (by omega)) (fun v15 s15 R15 => ?_) XT.stop
  obtain ⟨rfl, rfl⟩ := R15
  dsimp only [lcA, lnA]
  refine ⟨inferInstance, ?_⟩
  refine XT.call rfl rfl Tryz.call53 rfl rfl rfl (next_spec7 h vr vw vb vc hr hw hb hc ok (iterT h c t i) v kt (iter_ok2 ok tk ck i (by omega)) (c i) (ck i (by omega)) (vl i) hL) (fun v16 s16 R16 => ?_) XT.stop
  obtain ⟨k16, rfl, O16⟩ := R16
  dsimp only [lcA, lnA]
  refine ⟨inferInstance, ?_⟩
  refine XT.st rfl rfl rfl rfl rfl ⟨inferInstance, ?_⟩ XT.stop
  refine XT.done ?_
  refine XK.seq (XK.region rfl ?_)
  refine XO.cat K k16 fun leK le16 => ?_
  have A16 : Arr v16 encI 1 (cat K k16) (iterT h c t (i + 1)) := Arr.le_heap (OArr.arr (s := O16)) le16
  clear O16
  refine XO.q (Q.move rfl) (XO.q (Q.move rfl) ?_)
  refine XO.q (Q.add rfl rfl ⟨by omega, by omega⟩) ?_
  refine XO.q (Q.ld rfl rfl) ?_
  refine XO.vcall rfl rfl (round i (by omega) (cat K k16) _ q1 ⟨v16, rfl, A16⟩ (mono i K (cat K k16) q1 leK hq)) fun v21 s21 R21 => ?_
  obtain ⟨bb, q2, rfl, rfl, hT, hF⟩ := R21
  dsimp only [lcA, lnA]
  refine XO.q (Q.not rfl) ?_
  refine XO.done ?_
  refine XK.if rfl (fun c1 => ?_) (fun c1 => ?_)
  ·skip
   refine XK.rt [q2, cat K k16] Tryz.func116 Tryz.results116 (.n) ?_
   exact ⟨q2, cat K k16, rfl, .inr (hF (by simpa using c1))⟩
  ·skip
   refine XK.skip ?_
   refine XK.inBlock ?_
   refine XK.region rfl ?_
   refine XO.q (Q.add rfl rfl ⟨by omega, by omega⟩) ?_
   refine XO.q (Q.move rfl) (XO.done ?_)
   exact ih0 (i + 1, v16, cat K k16, cat K k16, q2) _ _ ⟨by dsimp only; omega, A16, ⟨.inr rfl⟩, hT (by simpa using c1)⟩ (by first | omega | (dsimp only; omega)) (.c rfl (.base 35 rfl rfl)) inferInstance
 ·skip
  refine XK.exit rfl ?_
  refine XK.fn [q1, K] Tryz.func116 Tryz.results116 (.n) ?_
  have hin : i = n := by omega
  subst hin
  exact ⟨q1, K, rfl, .inl hq⟩
theorem seconds_spec (h : Hall) (vr vw vb vc : Value) (hr hw hb hc : PHeap) [ir : Arr vr encRoom 2 hr h.rooms] [iw : Arr vw encWall 3 hw h.walls] [ib : Arr vb encBranch 3 hb h.branches] [ic : Arr vc encCooler 5 hc h.coolers] (ok : HOk h) (c : Nat → HCase) (n : Nat) (hn : n ≤ 20000) (t : List Int) (vt : Value) (ht : PHeap) [it : Arr vt encI 1 ht t] (tk : TOk h t) (ck : ∀ i, i < n → COk h (c i)) (vl : Nat → Value) (hL : PHeap) (aL : ∀ i, i < n → Arr (vl i) encI 1 hL (c i).load) (y : Value) [iy : One y] (hy hz : PHeap) (of : OfC y n c vl [hy, hz]) : Spec Tryz.prog 62 #[.agg #[vr, vw, vb, vc], vt, .int .i64 (n : Nat), y] [] [] (fun v hs => ∃ k1 k2 k3 k4, hs = [k1, k2, k3, k4] ∧ ItK Tryz.prog v n (SecY h c t) [k1, k2, k3, k4] [hr, hw, hb, hc, ht, hy, hz, hL]) := by
 refine Spec.intro (fn := Tryz.f62) (N := 10) Tryz.func62 rfl Tryz.ntmps62 rfl fun B => ?_
 refine XK.seq (XK.region rfl ?_)
 refine XO.box rfl fun b4 => ?_
 refine XO.box rfl fun b5 => ?_
 refine XO.box rfl fun b6 => ?_
 refine XO.box rfl fun b7 => ?_
 refine XO.q (Q.assign rfl) (XO.done (XK.seq (XK.region rfl ?_)))
 refine XO.q (Q.func (fun _ he => rfl) (fun _ he => evs_rel he rfl)) ?_
 refine XO.q (Q.assign rfl) (XO.done ?_)
 refine XK.rt [blk b6 [.int .i64 (n : Nat)] 3, blk b4 [vr, vw, vb, vc] 28, blk b5 [vt] 29, blk b7 [y] 194] Tryz.func62 Tryz.results62 (.t rfl .n) ?_
 exact ⟨_, _, _, _, rfl, fun f Hr Q X mono round q hQ => VSpec.fn (fst := []) (cap := [ptr b6 0, ptr b4 0, ptr b5 0, ptr b7 0]) Tryz.call116 rfl (seconds1 h vr vw vb vc hr hw hb hc ok c n hn t vt ht tk ck vl hL aL y hy hz of b6 b4 b5 b7 f Hr Q X mono round q hQ)⟩
end Go.X.Ht

set_option linter.unusedSimpArgs false
set_option linter.unusedVariables false
set_option maxRecDepth 20000
namespace Go.X.Ht
open Go.Proofs
/-- A slice that lies in one of two heaps. -/
def ArrE (v : Value) (xs : List Int) (a b : PHeap) : Prop := Arr v encI 1 a xs ∨ Arr v encI 1 b xs
theorem ArrE.open {v : Value} {xs : List Int} {a b : PHeap} (h : ArrE v xs a b) : ∃ k, Arr v encI 1 k xs ∧ Either k a b := h.elim (fun h => ⟨a, h, ⟨.inl rfl⟩⟩) (fun h => ⟨b, h, ⟨.inr rfl⟩⟩)
theorem ArrE.mono {v : Value} {xs : List Int} {a b b' : PHeap} (hl : leH b b') (h : ArrE v xs a b) : ArrE v xs a b' := orMap h id (fun h => Arr.le_heap h hl)
end Go.X.Ht

set_option linter.unusedSimpArgs false
set_option linter.unusedVariables false
set_option maxRecDepth 20000
namespace Go.X.Ht
open Go.Proofs
end Go.X.Ht

set_option linter.unusedSimpArgs false
set_option linter.unusedVariables false
set_option maxRecDepth 20000
namespace Go.X.Ht
open Go.Proofs
/-- Slices in one heap, a row each. -/
def Rows (us : List Value) (K : PHeap) (rows : List (List Int)) : Prop := us.length = rows.length ∧ ∀ i, i < us.length → Arr (us.getD i default) encI 1 K (rows.getD i default)
def RowsTo (us : List Value) (K : PHeap) (h : Hall) (c : Nat → HCase) (t : List Int) (n : Nat) : Prop := us.length = n ∧ ∀ i, i < n → Arr (us.getD i default) encI 1 K (iterT h c t (i + 1))
theorem RowsTo.rows {us : List Value} {K : PHeap} {h : Hall} {c : Nat → HCase} {t : List Int} {n : Nat} (r : RowsTo us K h c t n) : Rows us K (rowsL h c t n) := ⟨r.1.trans (rows_len ..).symm, fun i hi => by
 rw [rows_at (by have := r.1; omega)]
 exact r.2 i (by have := r.1; omega)⟩
theorem RowsTo.mono {us : List Value} {K K' : PHeap} {h : Hall} {c : Nat → HCase} {t : List Int} {n : Nat} (hl : leH K K') (r : RowsTo us K h c t n) : RowsTo us K' h c t n := ⟨r.1, fun i hi => Arr.le_heap (r.2 i hi) hl⟩
theorem getD_snoc {α : Type} [Inhabited α] (l : List α) (x : α) (i : Nat) : (l ++ [x]).getD i default = if i < l.length then l.getD i default else if i = l.length then x else default := by
 rw [List.getD_eq_getElem?_getD, List.getElem?_append]
 split
 ·rw [List.getD_eq_getElem?_getD]
 ·split
  ·rename_i h1 h2; subst h2; simp
  ·rename_i h1 h2
   rw [List.getElem?_eq_none (by simp; omega)]; rfl
theorem RowsTo.snoc {us : List Value} {K : PHeap} {h : Hall} {c : Nat → HCase} {t : List Int} {n : Nat} {u : Value} (r : RowsTo us K h c t n) (a : Arr u encI 1 K (iterT h c t (n + 1))) : RowsTo (us ++ [u]) K h c t (n + 1) := ⟨by rw [List.length_append, r.1]; rfl, fun i hi => by
 rw [getD_snoc]
 have := r.1
 by_cases hc : i < us.length
 ·rw [if_pos hc]; exact r.2 i (by omega)
 ·rw [if_neg hc, if_pos (by omega), show i = n by omega]; exact a⟩
theorem RowsTo.nil {K : PHeap} {h : Hall} {c : Nat → HCase} {t : List Int} : RowsTo [] K h c t 0 := ⟨rfl, fun i hi => by omega⟩
end Go.X.Ht

set_option linter.unusedSimpArgs false
set_option linter.unusedVariables false
set_option maxRecDepth 20000
namespace Go.X.Ht
open Go.Proofs
theorem mul64_one (n : Nat) (h : n ≤ 4294967295) : Spec Tryz.prog 199 #[.int .u64 1, .int .u64 (n : Nat)] [] [] (fun v hs => v = .tuple #[.int .u64 0, .int .u64 (n : Nat)] ∧ hs = []) := by apply Go.X.Ke.mul64_one <;> assumption
theorem mul_one' (n : Nat) (h : n ≤ 4294967295) : Spec Tryz.prog 160 #[.int .u64 1, .int .u64 (n : Nat)] [] [] (fun v hs => v = .tuple #[.int .u64 0, .int .u64 (n : Nat)] ∧ hs = []) := by apply Go.X.Ke.mul_one' <;> assumption
end Go.X.Ht

set_option linter.unusedSimpArgs false
set_option linter.unusedVariables false
set_option maxRecDepth 20000
namespace Go.X.Bk
open Go.Proofs
end Go.X.Bk

set_option linter.unusedSimpArgs false
set_option linter.unusedVariables false
set_option maxRecDepth 20000
namespace Go.X.Bk
open Go.Proofs
end Go.X.Bk

set_option linter.unusedSimpArgs false
set_option linter.unusedVariables false
set_option maxRecDepth 20000
namespace Go.X.Bk
open Go.Proofs
end Go.X.Bk

set_option linter.unusedSimpArgs false
set_option linter.unusedVariables false
set_option maxRecDepth 20000
namespace Go.X
open Go.Proofs
theorem nextT (b : Nat) (vx : Value) (hx : PHeap) (x : List UInt8) [jx : Arr vx encU8 1 hx x] (i n : Nat) (hi : i ≤ 1000000000) (hn : 0 < n) (hn2 : n ≤ 1000000) : Spec Tryz.prog 10 #[ptr b 0, .int .i64 (n : Nat)] [blk b [vx, .int .i64 ((i : Nat) : Int)] 38] [hx]
  (fun v hs => hs = [blk b [vx, .int .i64 ((i + 1 : Nat) : Int)] 38] ∧ ∃ r : Nat, v = .int .i64 (r : Nat) ∧ r < n) := by
 refine Spec.intro (fn := Tryz.f10) (N := 36) Tryz.func10 rfl Tryz.ntmps10 rfl fun B => ?_
 refine XK.seq (XK.region rfl (XO.q (Q.assign rfl) (XO.done (XK.seq (XK.region rfl ?_)))))
 refine XO.q (Q.move rfl) ?_
 refine XO.q (Q.nilCheck rfl) ?_
 refine XO.q (Q.fieldAddr rfl) ?_
 refine XO.q (Q.ld rfl rfl) ?_
 refine XO.q (Q.add rfl rfl ⟨by omega, by omega⟩) ?_
 rw [show ((i : Int) + 1) = ((i + 1 : Nat) : Int) from rfl]
 refine XO.q (Q.nilCheck rfl) ?_
 refine XO.q (Q.fieldAddr rfl) ?_
 refine XO.st rfl rfl rfl ?_
 refine XO.done (XK.seq (XK.seq ?_))
 refine XK.drawn [0, 1, 2, 3, 4, 5, 6, 7, 8, 9] [b] [] (.q 0 (.q 1 (.q 2 (.q 3 (.q 4 (.q 5 (.q 6 (.q 7 (.q 8 (.q 9 .done)))))))))) Tryz.mixed rfl (by kernel_rfl) ?_
 refine XT.q rfl rfl (Q.move rfl) ?_
 refine XT.q rfl rfl (Q.nilCheck rfl) ?_
 refine XT.q rfl rfl (Q.fieldAddr rfl) ?_
 refine XT.q rfl rfl (Q.ld rfl rfl) ?_
 refine XT.q rfl rfl (Q.move rfl) ?_
 refine XT.q rfl rfl (Q.nilCheck rfl) ?_
 refine XT.q rfl rfl (Q.fieldAddr rfl) ?_
 refine XT.q rfl rfl (Q.ld rfl rfl) ?_
 refine XT.q rfl rfl (Q.len rfl) ?_
 refine XT.q rfl rfl (Q.gtr rfl rfl) ?_
 refine XT.done ?_
 refine XK.if rfl (fun c0 => ?_) (fun c0 => ?_)
 ·skip
  refine XK.seq (XK.region rfl (XO.q (Q.assign rfl) (XO.done ?_)))
  refine XK.rt [blk b [vx, .int .i64 ((i + 1 : Nat) : Int)] 38] Tryz.func10 Tryz.results10 (.t rfl .n) ?_
  exact ⟨rfl, 0, rfl, hn⟩
 ·skip
  refine XK.skip (XK.seq ?_)
  refine XK.drawn [0, 1, 2, 3, 4, 5, 6, 7, 8, 9, 10, 11, 12, 13, 14] [b] [] (.q 0 (.q 1 (.q 2 (.q 3 (.q 4 (.q 5 (.q 6 (.q 7 (.q 8 (.q 9 (.q 10 (.q 11 (.q 12 (.q 13 (.q 14 .done))))))))))))))) Tryz.mixed rfl (by kernel_rfl) ?_
  refine XT.q rfl rfl (Q.move rfl) ?_
  refine XT.q rfl rfl (Q.nilCheck rfl) ?_
  refine XT.q rfl rfl (Q.fieldAddr rfl) ?_
  refine XT.q rfl rfl (Q.ld rfl rfl) ?_
  refine XT.q rfl rfl (Q.move rfl) ?_
  refine XT.q rfl rfl (Q.nilCheck rfl) ?_
  refine XT.q rfl rfl (Q.fieldAddr rfl) ?_
  refine XT.q rfl rfl (Q.ld rfl rfl) ?_
  refine XT.q rfl rfl (Q.sub rfl rfl ⟨by omega, by omega⟩) ?_
  rw [show (((i + 1 : Nat) : Int) - 1) = (i : Int) by omega]
  refine XT.ix rfl rfl rfl rfl (by omega) (by omega) fun i31 => ?_
  refine XT.q rfl rfl (Q.ldE rfl (by first | assumption | omega) rfl) ?_
  refine XT.q rfl rfl (Q.conv rfl) ?_
  have hu := (x.getD i default).toNat_lt
  rw [wrap64_of ⟨by omega, by omega⟩]
  refine XT.q rfl rfl (Q.move rfl) ?_
  refine XT.q rfl rfl (Q.rem rfl rfl (by omega) (by omega)) ?_
  rw [show ((((x.getD i default).toNat : Nat) : Int) % (n : Int)) = (((x.getD i default).toNat % n : Nat) : Int) from rfl]
  refine XT.q rfl rfl (Q.assign rfl) ?_
  refine XT.done ?_
  refine XK.rt [blk b [vx, .int .i64 ((i + 1 : Nat) : Int)] 38] Tryz.func10 Tryz.results10 (.t rfl .n) ?_
  exact ⟨rfl, (x.getD i default).toNat % n, rfl, Nat.mod_lt _ hn⟩
theorem midT (b bd j : Nat) (hj : j ≤ 1000000) (vp : Value) (hp : PHeap) (p : List UInt8) [sp : Arr vp encU8 1 hp p] (x y : Int) (hxy : x ≤ y) (hx : -1000000 ≤ x) (hy : y ≤ 1000000) :
  Spec Tryz.prog 54 #[.int .i64 x, .int .i64 y, ptr bd 0] [blk b [vp, .int .i64 ((j : Nat) : Int)] 38] [hp, blk bd [ptr b 0] 36] (fun v hs => ∃ m : Int, v = .int .i64 m ∧ hs = [blk b [vp, .int .i64 ((j + 1 : Nat) : Int)] 38] ∧ x ≤ m ∧ m ≤ y) := by
 refine Spec.intro (fn := Tryz.f54) (N := 15) Tryz.func54 rfl Tryz.ntmps54 rfl fun B => ?_
 refine XK.seq (XK.region rfl (XO.q (Q.assign rfl) (XO.done (XK.seq (XK.region rfl ?_)))))
 refine XO.q (Q.move rfl) (XO.q (Q.move rfl) (XO.q (Q.move rfl) ?_))
 refine XO.q (Q.sub rfl rfl ⟨by omega, by omega⟩) ?_
 refine XO.q (Q.ld rfl rfl) ?_
 refine XO.callB b Tryz.call10 rfl rfl rfl (nextT b vp hp p (j) (256) (by omega) (by omega) (by omega)) fun v11 s11 R11 => ?_
 obtain ⟨rfl, n11, rfl, h11⟩ := R11
 dsimp only [lcA, lnA]
 obtain ⟨m1, m2, m3, m4⟩ := Ht.mid_rng hxy h11
 refine XO.q (Q.mul rfl rfl ⟨by omega, by omega⟩) ?_
 refine XO.q (Q.quo rfl rfl (by omega) (by omega) (by omega)) ?_
 refine XO.q (Q.add rfl rfl ⟨by omega, by omega⟩) ?_
 refine XO.q (Q.assign rfl) (XO.done ?_)
 refine XK.rt [blk b [vp, .int .i64 ((j + 1 : Nat) : Int)] 38] Tryz.func54 Tryz.results54 (.t rfl .n) ?_
 exact ⟨_, rfl, rfl, m3, m4⟩
theorem getD_setI {xs : List Int} {i j : Nat} {m : Int} (hi : i < xs.length) : (xs.set i m).getD j 0 = if j = i then m else xs.getD j 0 := by
 rw [List.getD_eq_getElem?_getD, List.getElem?_set]
 by_cases h : i = j
 ·subst h; rw [if_pos rfl, if_pos rfl, if_pos hi]; rfl
 ·rw [if_neg h, if_neg (fun e => h e.symm), ← List.getD_eq_getElem?_getD]
structure PairOk (n i : Nat) (xs ys : List Int) : Prop where
 a : Ht.LoadOk n xs
 b : Ht.LoadOk n ys
 le : ∀ j, j < i → xs.getD j 0 ≤ ys.getD j 0
theorem PairOk.step {n i : Nat} {xs ys : List Int} (p : PairOk n i xs ys) (hi : i < n) : PairOk n (i + 1) (xs.set i (min (xs.getD i default) (ys.getD i default))) (ys.set i (max (xs.getD i default) (ys.getD i default))) := by
 have e1 := p.a.1
 have e2 := p.b.1
 have r1 := p.a.2 i (by omega)
 have r2 := p.b.2 i (by omega)
 change 0 ≤ xs.getD i default ∧ xs.getD i default ≤ _ at r1
 change 0 ≤ ys.getD i default ∧ ys.getD i default ≤ _ at r2
 refine ⟨⟨by rw [List.length_set]; exact e1, fun j hj => ?_⟩, ⟨by rw [List.length_set]; exact e2, fun j hj => ?_⟩, fun j hj => ?_⟩
 ·rw [List.length_set] at hj
  rw [getD_setI (by omega)]
  split
  ·omega
  ·exact p.a.2 j hj
 ·rw [List.length_set] at hj
  rw [getD_setI (by omega)]
  split
  ·omega
  ·exact p.b.2 j hj
 ·rw [getD_setI (by omega), getD_setI (by omega)]
  by_cases h : j = i
  ·rw [if_pos h, if_pos h]; omega
  ·rw [if_neg h, if_neg h]; exact p.le j (by omega)
end Go.X

set_option linter.unusedSimpArgs false
set_option maxRecDepth 20000
set_option linter.unusedVariables false
set_option maxRecDepth 20000
namespace Go.X.Ke
open Go.Proofs
theorem lost1 (b b2 : Nat) (vi vc vr : Value) (hi hr : PHeap) (ins : List Bool) [si : Arr vi encB 1 hi ins] (rnk : List Int) [sr : Arr vr encI 1 hr rnk] (hl : rnk.length = ins.length) (s : Nat) (hs : s < ins.length) (x : Int) (hx : x < ins.length) :
  Spec Tryz.prog 104 #[.int .i64 x, ptr b 0, ptr b2 0] [] [blk b [vi, vc, vr] 48, hi, hr, blk b2 [.int .i64 (s : Nat)] 3] (fun v hs => v = .bool (badL ins rnk s x) ∧ hs = []) := by
 refine Spec.intro (fn := Tryz.f104) (N := 28) Tryz.func104 rfl Tryz.ntmps104 rfl fun B => ?_
 refine XK.seq (XK.region rfl (XO.q (Q.assign rfl) (XO.done (XK.seq ?_))))
 refine XK.drawn [0, 1, 2, 3, 4, 5, 6, 7, 8, 9, 10, 11, 12, 13, 14, 15, 16, 17, 18, 19, 20, 21, 22, 23] [b, b2] [] (.q 0 (.q 1 (.q 2 (.q 3 (.q 4 (.q 5 (.q 6 (.q 7 (.q 8 (.q 9 (.q 10 (.q 11 (.q 12 (.q 13 (.q 14 (.q 15 (.q 16 (.q 17 (.q 18 (.q 19 (.q 20 (.q 21 (.q 22 (.q 23 .done)))))))))))))))))))))))) Tryz.mixed rfl (by kernel_rfl) ?_
 refine XT.q rfl rfl (Q.move rfl) ?_
 refine XT.q rfl rfl (Q.lss rfl rfl) ?_
 refine XT.q rfl rfl (Q.move rfl) ?_
 refine XT.q rfl rfl (Quiet.guardF rfl rfl fun g8 p8 => Q.fieldAddr rfl) ?_
 refine XT.q rfl rfl (Quiet.guardF rfl rfl fun g9 p9 => Q.ld (lzv g9 rfl) rfl) ?_
 refine XT.q rfl rfl (Quiet.guardF rfl rfl fun g10 p10 => Q.move rfl) ?_
 refine XT.q rfl rfl (Quiet.guardF rfl rfl fun g11 p11 => Q.ix (lzv g11 rfl) (lzv g11 rfl) (by omega) (by omega)) ?_
 refine XT.q rfl rfl (Quiet.guardF rfl rfl fun g12 p12 => Q.ldE (lzv g12 rfl) (by first | assumption | omega) rfl) ?_
 refine XT.q rfl rfl (Quiet.guardF rfl rfl fun g13 p13 => Q.not (lzv g13 rfl)) ?_
 refine XT.q rfl rfl (Quiet.guardF rfl rfl fun g14 p14 => Q.move (lzv g14 rfl)) ?_
 refine XT.q rfl rfl (Quiet.guard2 rfl rfl fun g15a g15b => have p15a := bpF g15a; have p15b := bpT g15b; Q.fieldAddr rfl) ?_
 refine XT.q rfl rfl (Quiet.guard2 rfl rfl fun g16a g16b => have p16a := bpF g16a; have p16b := bpT g16b; Q.ld (lzv g16b (lzv g16a rfl)) rfl) ?_
 refine XT.q rfl rfl (Quiet.guard2 rfl rfl fun g17a g17b => have p17a := bpF g17a; have p17b := bpT g17b; Q.move rfl) ?_
 refine XT.q rfl rfl (Quiet.guard2 rfl rfl fun g18a g18b => have p18a := bpF g18a; have p18b := bpT g18b; Q.ix (lzv g18b (lzv g18a rfl)) (lzv g18b (lzv g18a rfl)) (by omega) (by omega)) ?_
 refine XT.q rfl rfl (Quiet.guard2 rfl rfl fun g19a g19b => have p19a := bpF g19a; have p19b := bpT g19b; Q.ldE (lzv g19b (lzv g19a rfl)) (by first | assumption | omega) rfl) ?_
 refine XT.q rfl rfl (Quiet.guard2 rfl rfl fun g20a g20b => have p20a := bpF g20a; have p20b := bpT g20b; Q.fieldAddr rfl) ?_
 refine XT.q rfl rfl (Quiet.guard2 rfl rfl fun g21a g21b => have p21a := bpF g21a; have p21b := bpT g21b; Q.ld (lzv g21b (lzv g21a rfl)) rfl) ?_
 refine XT.q rfl rfl (Quiet.guard2 rfl rfl fun g22a g22b => have p22a := bpF g22a; have p22b := bpT g22b; Q.ld rfl rfl) ?_
 refine XT.q rfl rfl (Quiet.guard2 rfl rfl fun g23a g23b => have p23a := bpF g23a; have p23b := bpT g23b; Q.ix (lzv g23b (lzv g23a rfl)) (lzv g23b (lzv g23a rfl)) (by omega) (by omega)) ?_
 refine XT.q rfl rfl (Quiet.guard2 rfl rfl fun g24a g24b => have p24a := bpF g24a; have p24b := bpT g24b; Q.ldE (lzv g24b (lzv g24a rfl)) (by first | assumption | omega) rfl) ?_
 refine XT.q rfl rfl (Quiet.guard2 rfl rfl fun g25a g25b => have p25a := bpF g25a; have p25b := bpT g25b; Q.lss (lzv g25b (lzv g25a rfl)) (lzv g25b (lzv g25a rfl))) ?_
 refine XT.q rfl rfl (Quiet.guardF rfl rfl fun g26 p26 => Q.and (lzv g26 rfl) (fun hp => (lzv hp (lzv g26 rfl)))) ?_
 refine XT.q rfl rfl (Q.or rfl (fun hp => lzv hp rfl)) ?_
 refine XT.q rfl rfl (Q.assign rfl) ?_
 refine XT.done ?_
 refine XK.rt [] Tryz.func104 Tryz.results104 (.t rfl .n) ?_
 exact ⟨rfl, rfl⟩
theorem lost_spec (S C K : Nat) (next : List Int) (good : List Bool) (ok : Ok S C K next good) (vn vg : Value) (hn : PHeap) [sn : Arr vn encI 1 hn next] (vi vc vr : Value) (hi hr : PHeap) (ins : List Bool) [si : Arr vi encB 1 hi ins] (rnk : List Int) [sr : Arr vr encI 1 hr rnk] [oc : One vc] (hlen : ins.length = S) (hrl : rnk.length = S) (s : Nat) (hs : s < S) :
  Spec Tryz.prog 47 #[.agg #[vi, vc, vr], .agg #[.int .i64 (S : Nat), .int .i64 (C : Nat), .int .i64 (K : Nat), vn, vg], .int .i64 (s : Nat)] [] [hn, hi, hr] (fun v hs => v = .bool (lostP next C K ins rnk s) ∧ hs = []) := by
 have hc2 := ok.c2
 have hmem : ∀ u, ∀ x ∈ leads next C K s u, x < ins.length := fun u x hx => by
  have := ok.inr x (List.mem_of_mem_drop (List.mem_of_mem_take hx))
  omega
 refine Spec.intro (fn := Tryz.f47) (N := 21) Tryz.func47 rfl Tryz.ntmps47 rfl fun B => ?_
 refine XK.seq (XK.region rfl ?_)
 refine XO.box rfl fun b3 => ?_
 refine XO.box rfl fun b4 => ?_
 refine XO.box rfl fun b5 => ?_
 refine XO.q (Q.assign rfl) (XO.done (XK.seq (XK.seq (XK.region rfl ?_))))
 refine XO.q (Q.fieldAddr rfl) ?_
 refine XO.q (Q.ld rfl rfl) ?_
 refine XO.q (Q.move rfl) (XO.done (XK.block ?_))
 refine XK.while (X := Nat) [6, 7, 10, 11, 12, 13, 14, 15, 16, 17, 18, 19, 20] (fun u => [(10, some (.int .i64 (u : Nat)))]) (fun u => []) (fun u => u ≤ C ∧ (List.range u).all (fun u => (leads next C K s u).any (badL ins rnk s)) = true) (fun u => C - u) (0) [] rfl ⟨by omega, rfl⟩ (.c rfl (.base 0 rfl rfl)) ?_
 rintro u ⟨hu, hall⟩ ih0
 dsimp only [lcA, lnA] at ih0 ⊢
 refine XK.seq (XK.region rfl ?_)
 refine XO.q (Q.lss rfl rfl) ?_
 refine XO.done (XK.seq ?_)
 refine XK.if rfl (fun c0 => ?_) (fun c0 => ?_)
 ·skip
  refine XK.skip (XK.seq (XK.block (XK.seq (XK.region rfl (XO.q (Q.move rfl) ?_)))))
  refine XO.q (Q.assign rfl) (XO.done (XK.seq (XK.region rfl ?_)))
  refine XO.q (Q.ldA [_, _, _, _, _] rfl rfl rfl) ?_
  refine XO.q (Q.ld rfl rfl) ?_
  refine XO.q (Q.move rfl) ?_
  refine XO.call Tryz.call102 rfl rfl rfl (leads_spec S C K next good ok vn vg hn s u hs (by omega)) fun v16 s16 R16 => ?_
  obtain ⟨rfl, A16⟩ := R16
  dsimp only [lcA, lnA]
  refine XO.q (Q.func (fun _ he => rfl) (fun _ he => evs_rel he rfl)) ?_
  refine XO.call Tryz.call97 rfl rfl rfl (containsFuncI v16 hn (leads next C K s u) 104 [ptr b3 0, ptr b5 0] [blk b3 [vi, vc, vr] 48, hi, hr, blk b5 [.int .i64 (s : Nat)] 3] _ Tryz.call104 (fun x hx => lost1 b3 b5 vi vc vr hi hr ins rnk (by omega) s (by omega) x (hmem u x hx))) fun v18 s18 R18 => ?_
  obtain ⟨rfl, rfl⟩ := R18
  dsimp only [lcA, lnA]
  refine XO.q (Q.not rfl) ?_
  refine XO.done ?_
  refine XK.if rfl (fun c1 => ?_) (fun c1 => ?_)
  ·skip
   refine XK.seq (XK.region rfl (XO.q (Q.assign rfl) (XO.done ?_)))
   refine XK.rt [] Tryz.func47 Tryz.results47 (.t rfl .n) ?_
   exact ⟨by rw [lostP, all_false (s := u) (by omega) (by simpa using c1)], rfl⟩
  ·skip
   refine XK.skip ?_
   refine XK.inBlock ?_
   refine XK.region rfl ?_
   refine XO.q (Q.add rfl rfl ⟨by omega, by omega⟩) ?_
   refine XO.q (Q.move rfl) (XO.done ?_)
   exact ih0 (u + 1) _ _ ⟨by omega, by rw [all_succ, hall, Bool.true_and]; exact Classical.byContradiction fun h => c1 h⟩ (by first | omega | (dsimp only; omega)) (.c rfl (.base 26 rfl rfl)) inferInstance
 ·skip
  refine XK.exit rfl ?_
  refine XK.seq (XK.region rfl (XO.q (Q.assign rfl) (XO.done ?_)))
  refine XK.rt [] Tryz.func47 Tryz.results47 (.t rfl .n) ?_
  have hC : u = C := by omega
  subst hC
  exact ⟨by rw [lostP, hall], rfl⟩
theorem keeps_specI (S C K : Nat) (next : List Int) (good : List Bool) (ok : Ok S C K next good) (vn vg : Value) (hn : PHeap) [sn : Arr vn encI 1 hn next] (vi vc vr : Value) (hi : PHeap) (ins : List Bool) [si : Arr vi encB 1 hi ins] [oc : One vc] [orr : One vr] (hlen : ins.length = S) (s : Nat) (u : Int) (hs : s < S) (hu : 0 ≤ u) (hu' : u < C) :
  Spec Tryz.prog 46 #[.agg #[vi, vc, vr], .agg #[.int .i64 (S : Nat), .int .i64 (C : Nat), .int .i64 (K : Nat), vn, vg], .int .i64 (s : Nat), .int .i64 u] [] [hn, hi] (fun v hs => v = .bool (keepsP next C K ins s u.toNat) ∧ hs = []) := by
 obtain ⟨n, rfl⟩ := Int.eq_ofNat_of_zero_le hu
 exact keeps_spec S C K next good ok vn vg hn vi vc vr hi ins hlen s n hs (by omega)
theorem Verify_spec (g : G) (vn vg : Value) (hn hg : PHeap) [sn : Arr vn encI 1 hn g.next] [sg : Arr vg encB 1 hg g.good] (vi vc vr : Value) (hi hc hr : PHeap) (ins : List Bool) [si : Arr vi encB 1 hi ins] (ctl : List Int) [sc : Arr vc encI 1 hc ctl] (rnk : List Int) [sr : Arr vr encI 1 hr rnk] : Spec Tryz.prog 13 #[.agg #[.int .i64 g.S, .int .i64 g.C, .int .i64 g.K, vn, vg], .agg #[vi, vc, vr]] [] [hn, hg, hi, hc, hr] (fun v hs => v = .int .i64 (verifyG g ins ctl rnk) ∧ hs = []) := by
 refine Spec.intro (fn := Tryz.f13) (N := 112) Tryz.func13 rfl Tryz.ntmps13 rfl fun B => ?_
 refine XK.seq (XK.region rfl ?_)
 refine XO.box rfl fun b2 => ?_
 refine XO.box rfl fun b3 => ?_
 refine XO.q (Q.assign rfl) (XO.done (XK.seq (XK.seq (XK.region rfl ?_))))
 refine XO.q (Q.ldA [_, _, _, _, _] rfl rfl rfl) ?_
 refine XO.call Tryz.call44 rfl rfl rfl (check _ _ _ _ _) fun v12 s12 R12 => ?_
 obtain ⟨rfl, rfl⟩ := R12
 dsimp only [lcA, lnA]
 refine XO.q (Q.assign rfl) (XO.done (XK.seq (XK.region rfl (XO.q (Q.move rfl) ?_))))
 refine XO.q (Q.neq rfl rfl) ?_
 refine XO.done ?_
 refine XK.if rfl (fun c0 => ?_) (fun c0 => ?_)
 ·skip
  refine XK.seq (XK.region rfl (XO.q (Q.move rfl) (XO.q (Q.assign rfl) (XO.done ?_))))
  refine XK.rt [] Tryz.func13 Tryz.results13 (.t rfl .n) ?_
  exact ⟨by rw [verify_bad c0], rfl⟩
 ·skip
  obtain ⟨S, C, K, hS, hC, hK, ok⟩ := gcheck_ok (Decidable.of_not_not c0)
  obtain ⟨gS, gC, gK, next, good⟩ := g
  dsimp only at hS hC hK ok sn sg ⊢
  subst hS hC hK
  refine XK.skip (XK.seq (XK.seq (XK.region rfl ?_)))
  refine XO.q (Q.fieldAddr rfl) ?_
  refine XO.q (Q.ld rfl rfl) ?_
  refine XO.len rfl fun l18 => ?_
  refine XO.q (Q.fieldAddr rfl) ?_
  refine XO.q (Q.ld rfl rfl) ?_
  refine XO.q (Q.neq rfl rfl) ?_
  refine XO.q (Q.move rfl) ?_
  refine XO.q (Quiet.guardF rfl rfl fun g23 p23 => Q.fieldAddr rfl) ?_
  refine XO.q (Quiet.guardF rfl rfl fun g24 p24 => Q.ld (lzv g24 rfl) rfl) ?_
  refine XO.q (Quiet.guardF rfl rfl fun g25 p25 => Q.len (lzv g25 rfl)) ?_
  refine XO.q (Quiet.guardF rfl rfl fun g26 p26 => Q.fieldAddr rfl) ?_
  refine XO.q (Quiet.guardF rfl rfl fun g27 p27 => Q.ld (lzv g27 rfl) rfl) ?_
  refine XO.q (Quiet.guardF rfl rfl fun g28 p28 => Q.neq (lzv g28 rfl) (lzv g28 rfl)) ?_
  refine XO.q (Q.or rfl (fun hp => lzv hp rfl)) ?_
  refine XO.q (Q.move rfl) ?_
  refine XO.q (Quiet.guardF rfl rfl fun g31 p31 => Q.fieldAddr rfl) ?_
  refine XO.q (Quiet.guardF rfl rfl fun g32 p32 => Q.ld (lzv g32 rfl) rfl) ?_
  refine XO.q (Quiet.guardF rfl rfl fun g33 p33 => Q.len (lzv g33 rfl)) ?_
  refine XO.q (Quiet.guardF rfl rfl fun g34 p34 => Q.fieldAddr rfl) ?_
  refine XO.q (Quiet.guardF rfl rfl fun g35 p35 => Q.ld (lzv g35 rfl) rfl) ?_
  refine XO.q (Quiet.guardF rfl rfl fun g36 p36 => Q.neq (lzv g36 rfl) (lzv g36 rfl)) ?_
  refine XO.q (Q.or rfl (fun hp => lzv hp rfl)) ?_
  refine XO.done ?_
  refine XK.if rfl (fun c1 => ?_) (fun c1 => ?_)
  ·skip
   refine XK.seq (XK.region rfl (XO.q (Q.assign rfl) (XO.done ?_)))
   refine XK.rt [] Tryz.func13 Tryz.results13 (.t rfl .n) ?_
   exact ⟨by rw [verify_len (Decidable.of_not_not c0) c1], rfl⟩
  ·skip
   have hl1 : ins.length = S := by omega
   have hl2 : ctl.length = S := by omega
   have hl3 : rnk.length = S := by omega
   have hgl := ok.glen
   have hs2 := ok.s2
   have hcc := ok.c2
   refine XK.skip (XK.seq (XK.seq (XK.region rfl ?_)))
   refine XO.q (Q.fieldAddr rfl) ?_
   refine XO.q (Q.ld rfl rfl) ?_
   refine XO.len rfl fun l40 => ?_
   refine XO.q (Q.move rfl) (XO.done (XK.block ?_))
   refine XK.while (X := Nat) [4, 6, 7, 8, 9, 10, 41, 42, 43, 44, 45, 46, 47, 48, 49, 50, 51, 52, 53, 54, 55, 56, 57, 58, 59, 60, 61, 62, 63, 64, 65, 66, 67, 68, 69, 70, 71, 72, 73, 74, 75, 76, 77, 78, 79, 80, 81, 82, 83, 84, 85, 86, 87, 88, 89, 90, 91, 92, 93, 94, 95, 96, 97, 98, 99, 100, 101, 102, 103, 104, 105, 106, 107, 108, 109, 110, 111] (fun s => [(41, some (.int .i64 (s : Nat)))]) (fun s => []) (fun s => s ≤ S ∧ (List.range s).all (rightP C K next good ins ctl rnk) = true) (fun s => S - s) (0) [] rfl ⟨by omega, rfl⟩ (.c rfl (.base 0 rfl rfl)) ?_
   rintro s ⟨hs, hall⟩ ih0
   dsimp only [lcA, lnA] at ih0 ⊢
   refine XK.seq (XK.region rfl ?_)
   refine XO.q (Q.lss rfl rfl) ?_
   refine XO.done (XK.seq ?_)
   refine XK.if rfl (fun c2 => ?_) (fun c2 => ?_)
   ·skip
    refine XK.skip (XK.seq (XK.block (XK.seq (XK.region rfl (XO.q (Q.move rfl) ?_)))))
    refine XO.ix rfl rfl (by omega) (by omega) fun i44 => ?_
    refine XO.q (Q.ldE rfl (by first | assumption | omega) rfl) ?_
    refine XO.q (Q.assign rfl) (XO.q (Q.assign rfl) (XO.done (XK.seq ?_)))
    refine XK.drawn [0, 1, 2, 3, 4, 5, 6, 7, 8, 9, 10, 11] [b3] [] (.q 0 (.q 1 (.q 2 (.q 3 (.q 4 (.q 5 (.q 6 (.q 7 (.q 8 (.q 9 (.q 10 (.q 11 .done)))))))))))) Tryz.mixed rfl (by kernel_rfl) ?_
    refine XT.q rfl rfl (Q.fieldAddr rfl) ?_
    refine XT.q rfl rfl (Q.ld rfl rfl) ?_
    refine XT.q rfl rfl (Q.move rfl) ?_
    refine XT.ix rfl rfl rfl rfl (by omega) (by omega) fun i49 => ?_
    refine XT.q rfl rfl (Q.ldE rfl (by first | assumption | omega) rfl) ?_
    refine XT.q rfl rfl (Q.fieldAddr rfl) ?_
    refine XT.q rfl rfl (Q.ld rfl rfl) ?_
    refine XT.q rfl rfl (Q.move rfl) ?_
    refine XT.ix rfl rfl rfl rfl (by omega) (by omega) fun i54 => ?_
    refine XT.q rfl rfl (Q.ldE rfl (by first | assumption | omega) rfl) ?_
    refine XT.q rfl rfl (Q.assign rfl) ?_
    refine XT.q rfl rfl (Q.assign rfl) ?_
    refine XT.done ?_
    refine XK.seq (XK.region rfl (XO.q (Q.assign rfl) (XO.done (XK.seq (XK.block ?_)))))
    refine XK.seq (XK.region rfl (XO.q (Q.move rfl) (XO.q (Q.assign rfl) (XO.done ?_))))
    refine XK.meet (X := Bool) [10, 56, 57, 58, 59, 60, 61, 62, 63, 64, 65, 66, 67, 70, 71, 72, 73, 74, 75, 76, 77, 78, 79, 80, 81, 82, 83, 84, 85, 86, 87, 88, 89, 90, 91, 92, 93, 94, 95, 96, 97, 98, 99, 100, 101, 102, 103, 104, 105, 106, 107, 108] (fun y => [(10, some (.bool y))]) (fun y => []) (fun y => y = rightP C K next good ins ctl rnk s) [] ?_ ?_
    ·rintro y hy
     dsimp only [lcA, lnA]
     refine XK.inBlock ?_
     refine XK.seq (XK.region rfl (XO.q (Q.move rfl) ?_))
     refine XO.q (Q.not rfl) ?_
     refine XO.done ?_
     refine XK.if rfl (fun c4 => ?_) (fun c4 => ?_)
     ·skip
      refine XK.seq (XK.region rfl (XO.q (Q.assign rfl) (XO.done ?_)))
      refine XK.rt [] Tryz.func13 Tryz.results13 (.t rfl .n) ?_
      exact ⟨by rw [verify_all ok hl1 hl2 hl3, if_neg]; rw [all_false (s := s) (by omega) (by rw [← hy]; simpa using c4)]; simp, rfl⟩
     ·skip
      refine XK.skip ?_
      refine XK.inBlock ?_
      refine XK.region rfl ?_
      refine XO.q (Q.add rfl rfl ⟨by omega, by omega⟩) ?_
      refine XO.q (Q.move rfl) (XO.done ?_)
      exact ih0 (s + 1) _ _ ⟨by omega, by rw [all_succ, hall, Bool.true_and, ← hy]; simpa using c4⟩ (by first | omega | (dsimp only; omega)) (.c rfl (.base 156 rfl rfl)) inferInstance
    ·intro mt3
     dsimp only [lcA, lnA] at mt3
     refine XK.if rfl (fun c3 => ?_) (fun c3 => ?_)
     ·skip
      refine XK.region rfl ?_
      refine XO.q (Q.fieldAddr rfl) ?_
      refine XO.q (Q.ld rfl rfl) ?_
      refine XO.q (Q.move rfl) ?_
      refine XO.ix rfl rfl (by omega) (by omega) fun i73 => ?_
      refine XO.q (Q.ldE rfl (by first | assumption | omega) rfl) ?_
      refine XO.q (Q.move rfl) ?_
      refine XO.q (Quiet.guardT rfl rfl fun g76 p76 => Q.move rfl) ?_
      refine XO.q (Quiet.guardT rfl rfl fun g77 p77 => Q.geq (lzv g77 rfl) rfl) ?_
      refine XO.q (Q.and rfl (fun hp => lzv hp rfl)) ?_
      refine XO.q (Q.move rfl) ?_
      refine XO.q (Quiet.guardT rfl rfl fun g80 p80 => Q.move rfl) ?_
      refine XO.q (Quiet.guardT rfl rfl fun g81 p81 => Q.fieldAddr rfl) ?_
      refine XO.q (Quiet.guardT rfl rfl fun g82 p82 => Q.ld (lzv g82 rfl) rfl) ?_
      refine XO.q (Quiet.guardT rfl rfl fun g83 p83 => Q.lss (lzv g83 rfl) (lzv g83 rfl)) ?_
      refine XO.q (Q.and rfl (fun hp => lzv hp rfl)) ?_
      refine XO.q (Q.move rfl) ?_
      refine XO.q (Quiet.guardT rfl rfl fun g86 p86 => Q.move rfl) ?_
      refine XO.q (Quiet.guardT rfl rfl fun g87 p87 => Q.eql (lzv g87 rfl) rfl) ?_
      refine XO.q (Q.and rfl (fun hp => lzv hp rfl)) ?_
      refine XO.q (Q.move rfl) ?_
      refine XO.q (Quiet.guardT rfl rfl fun g90 p90 => Q.ldA [_, _, _] rfl rfl rfl) ?_
      refine XO.q (Quiet.guardT rfl rfl fun g91 p91 => Q.ldA [_, _, _, _, _] rfl rfl rfl) ?_
      refine XO.q (Quiet.guardT rfl rfl fun g92 p92 => Q.move rfl) ?_
      refine XO.q (Quiet.guardT rfl rfl fun g93 p93 => Q.move rfl) ?_
      refine XO.gcallT rfl rfl Tryz.call46 rfl (fun g94 => .c (lzv g94 rfl) (.c (lzv g94 rfl) (.c (lzv g94 rfl) (.c (lzv g94 rfl) .n)))) rfl (fun g94 p94 => keeps_specI S C K next good ok vn vg hn vi vc vr hi ins hl1 s _ (by omega) (by omega) (by omega)) ?_
      refine XO.q (Q.and rfl (fun hp => lzv hp rfl)) ?_
      refine XO.q (Q.assign rfl) (XO.done ?_)
      exact mt3 (_) _ _ (by unfold rightP; rw [if_pos c3]) (.c rfl (.base 27 rfl rfl)) inferInstance
     ·skip
      refine XK.seq (XK.region rfl (XO.q (Q.move rfl) ?_))
      refine XO.q (Q.eql rfl rfl) ?_
      refine XO.q (Q.assign rfl) (XO.done ?_)
      refine XK.if rfl (fun c5 => ?_) (fun c5 => ?_)
      ·skip
       refine XK.region rfl (XO.q (Q.move rfl) ?_)
       refine XO.q (Q.eql rfl rfl) ?_
       refine XO.q (Q.move rfl) ?_
       refine XO.q (Quiet.guardT rfl rfl fun g102 p102 => Q.fieldAddr rfl) ?_
       refine XO.q (Quiet.guardT rfl rfl fun g103 p103 => Q.ld (lzv g103 rfl) rfl) ?_
       refine XO.q (Quiet.guardT rfl rfl fun g104 p104 => Q.move rfl) ?_
       refine XO.q (Quiet.guardT rfl rfl fun g105 p105 => Q.ix (lzv g105 rfl) (lzv g105 rfl) (by omega) (by omega)) ?_
       refine XO.q (Quiet.guardT rfl rfl fun g106 p106 => Q.ldE (lzv g106 rfl) (by first | assumption | omega) rfl) ?_
       refine XO.q (Quiet.guardT rfl rfl fun g107 p107 => Q.not (lzv g107 rfl)) ?_
       refine XO.q (Q.and rfl (fun hp => lzv hp rfl)) ?_
       refine XO.q (Q.assign rfl) (XO.done ?_)
       exact mt3 (_) _ _ (by unfold rightP; rw [if_neg c3, if_pos c5]) (.c rfl (.base 14 rfl rfl)) inferInstance
      ·skip
       refine XK.region rfl (XO.q (Q.move rfl) ?_)
       refine XO.q (Q.eql rfl rfl) ?_
       refine XO.q (Q.move rfl) ?_
       refine XO.q (Quiet.guardT rfl rfl fun g59 p59 => Q.move rfl) ?_
       refine XO.q (Quiet.guardT rfl rfl fun g60 p60 => Q.gtr (lzv g60 rfl) rfl) ?_
       refine XO.q (Q.and rfl (fun hp => lzv hp rfl)) ?_
       refine XO.q (Q.move rfl) ?_
       refine XO.q (Quiet.guardT rfl rfl fun g63 p63 => Q.ldA [_, _, _] rfl rfl rfl) ?_
       refine XO.q (Quiet.guardT rfl rfl fun g64 p64 => Q.ldA [_, _, _, _, _] rfl rfl rfl) ?_
       refine XO.q (Quiet.guardT rfl rfl fun g65 p65 => Q.move rfl) ?_
       refine XO.gcallT rfl rfl Tryz.call47 rfl (fun g66 => .c (lzv g66 rfl) (.c (lzv g66 rfl) (.c (lzv g66 rfl) .n))) rfl (fun g66 p66 => lost_spec S C K next good ok vn vg hn vi vc vr hi hr ins rnk hl1 hl3 s (by omega)) ?_
       refine XO.q (Q.and rfl (fun hp => lzv hp rfl)) ?_
       refine XO.q (Q.assign rfl) (XO.done ?_)
       exact mt3 (_) _ _ (by unfold rightP; rw [if_neg c3, if_neg c5]) (.c rfl (.base 16 rfl rfl)) inferInstance
   ·skip
    refine XK.exit rfl ?_
    refine XK.seq (XK.region rfl (XO.q (Q.assign rfl) (XO.done ?_)))
    refine XK.rt [] Tryz.func13 Tryz.results13 (.t rfl .n) ?_
    have hsS : s = S := by omega
    rw [hsS] at hall
    exact ⟨by rw [verify_all ok hl1 hl2 hl3, if_pos hall], rfl⟩
end Go.X.Ke

set_option linter.unusedSimpArgs false
set_option linter.unusedVariables false
set_option maxRecDepth 20000
namespace Go.X
open Go.Proofs
structure WideOk (n : Nat) (c : HCase) : Prop where
 l : c.load.length = n ∧ ∀ i, i < c.load.length → 0 ≤ c.load.getD i 0 ∧ c.load.getD i 0 ≤ 100000
 o : 0 ≤ c.out ∧ c.out ≤ 100000
 p : 0 ≤ c.pump ∧ c.pump ≤ 100000
theorem WideOk.cok {h : Hall} {c : HCase} (q : WideOk h.rooms.length c) : COk h c := ⟨q.l.1, fun i hi => by have := q.l.2 i hi; omega, by have := q.o; omega, by have := q.p; omega⟩
theorem WideOk.pump {n : Nat} {c : HCase} (q : WideOk n c) {p : Int} (hp : 0 ≤ p ∧ p ≤ 100000) : WideOk n (pumpC c p) := ⟨q.l, q.o, hp⟩
theorem WideOk.mid {n : Nat} {a c d : HCase} (qa : WideOk n a) (qd : WideOk n d) (hl : c.load.length = a.load.length) (h1 : Ht.LeC a c) (h2 : Ht.LeC c d) : WideOk n c :=
 ⟨⟨hl.trans qa.l.1, fun i hi => by
  have e1 := qa.l.2 i (by omega)
  have e2 := qd.l.2 i (by have := qa.l.1; have := qd.l.1; omega)
  have e3 := h1.load i (by omega)
  have e4 := h2.load i hi
  omega⟩, by have := qa.o; have := qd.o; have := h1.out; have := h2.out; omega, by have := qa.p; have := qd.p; have := h1.pump; have := h2.pump; omega⟩
theorem pumpedT (a d : HCase) (va vd : Value) (ha hd : PHeap) [ia : Arr va encI 1 ha a.load] [id : Arr vd encI 1 hd d.load] (p : Int) : Spec Tryz.prog 18 #[.agg #[va, .int .i64 a.out, .int .i64 a.pump, vd, .int .i64 d.out, .int .i64 d.pump], .int .i64 p] [] [ha, hd] (fun v hs => v = .agg #[va, .int .i64 a.out, .int .i64 p, vd, .int .i64 d.out, .int .i64 p] ∧ hs = []) := by
 refine Spec.intro (fn := Tryz.f18) (N := 12) Tryz.func18 rfl Tryz.ntmps18 rfl fun B => ?_
 refine XK.seq (XK.region rfl ?_)
 refine XO.box rfl fun b2 => ?_
 refine XO.alloc fun b4 => ?_
 refine XO.done (XK.seq (XK.region rfl (XO.q (Q.move rfl) (XO.q (Q.move rfl) ?_))))
 refine XO.q (Q.fieldAddr rfl) ?_
 refine XO.q (Q.fieldAddr rfl) ?_
 refine XO.st rfl rfl rfl ?_
 refine XO.q (Q.fieldAddr rfl) ?_
 refine XO.q (Q.fieldAddr rfl) ?_
 refine XO.st rfl rfl rfl ?_
 refine XO.done (XK.seq (XK.region rfl ?_))
 refine XO.q (Q.ldA [_, _, _, _, _, _] rfl rfl rfl) ?_
 refine XO.st rfl rfl rfl ?_
 refine XO.done ?_
 refine XK.rt [] Tryz.func18 Tryz.results18 (.cell [_, _, _, _, _, _] rfl rfl rfl (.n)) ?_
 exact ⟨rfl, rfl⟩
theorem cellT (vn vg vp : Value) [o1 : One vn] [o2 : One vg] [o3 : One vp] (n : Nat) (f w t : Int) (hf : 0 ≤ f ∧ f ≤ 1000000) (hw : 1 ≤ w ∧ w ≤ 1000000) (hn : n ≤ 400) (hfw : f + w * n ≤ 1000000) (ht : 0 ≤ t ∧ t ≤ 1000000) : Spec Tryz.prog 15 #[.agg #[.int .i64 (n : Nat), .int .i64 3, .int .i64 3, vn, vg, .int .i64 f, .int .i64 w, .int .i64 (n : Nat), vp], .int .i64 t] [] [] (fun v hs => v = .int .i64 (cellP f w n t) ∧ hs = []) := by
 have hwn : 0 ≤ w * (n : Int) := Int.mul_nonneg (by omega) (by omega)
 have hq : f ≤ t → 0 ≤ (t - f) / w ∧ (t - f) / w ≤ 1000000 := fun hft => ⟨Int.ediv_nonneg (by omega) (by omega), Int.le_trans (Int.ediv_le_self _ (by omega)) (by omega)⟩
 refine Spec.intro (fn := Tryz.f15) (N := 28) Tryz.func15 rfl Tryz.ntmps15 rfl fun B => ?_
 refine XK.seq (XK.region rfl ?_)
 refine XO.box rfl fun b2 => ?_
 refine XO.q (Q.assign rfl) (XO.done (XK.seq (XK.seq (XK.region rfl (XO.q (Q.move rfl) ?_)))))
 refine XO.q (Q.fieldAddr rfl) ?_
 refine XO.q (Q.ld rfl rfl) ?_
 refine XO.q (Q.lss rfl rfl) ?_
 refine XO.q (Q.move rfl) ?_
 refine XO.q (Quiet.guardF rfl rfl fun g10 p10 => Q.move rfl) ?_
 refine XO.q (Quiet.guardF rfl rfl fun g11 p11 => Q.fieldAddr rfl) ?_
 refine XO.q (Quiet.guardF rfl rfl fun g12 p12 => Q.ld (lzv g12 rfl) rfl) ?_
 refine XO.q (Quiet.guardF rfl rfl fun g13 p13 => Q.fieldAddr rfl) ?_
 refine XO.q (Quiet.guardF rfl rfl fun g14 p14 => Q.ld (lzv g14 rfl) rfl) ?_
 refine XO.q (Quiet.guardF rfl rfl fun g15 p15 => Q.fieldAddr rfl) ?_
 refine XO.q (Quiet.guardF rfl rfl fun g16 p16 => Q.ld (lzv g16 rfl) rfl) ?_
 refine XO.q (Quiet.guardF rfl rfl fun g17 p17 => Q.mul (lzv g17 rfl) (lzv g17 rfl) ⟨by omega, by omega⟩) ?_
 refine XO.q (Quiet.guardF rfl rfl fun g18 p18 => Q.add (lzv g18 rfl) (lzv g18 rfl) ⟨by omega, by omega⟩) ?_
 refine XO.q (Quiet.guardF rfl rfl fun g19 p19 => Q.geq (lzv g19 rfl) (lzv g19 rfl)) ?_
 refine XO.q (Q.or rfl (fun hp => lzv hp rfl)) ?_
 refine XO.done ?_
 refine XK.if rfl (fun c0 => ?_) (fun c0 => ?_)
 ·skip
  refine XK.seq (XK.region rfl (XO.q (Q.assign rfl) (XO.done ?_)))
  refine XK.rt [] Tryz.func15 Tryz.results15 (.t rfl .n) ?_
  exact ⟨by rw [cellP, if_pos c0], rfl⟩
 ·skip
  refine XK.skip (XK.seq (XK.region rfl (XO.q (Q.move rfl) ?_)))
  refine XO.q (Q.fieldAddr rfl) ?_
  refine XO.q (Q.ld rfl rfl) ?_
  refine XO.q (Q.sub rfl rfl ⟨by omega, by omega⟩) ?_
  refine XO.q (Q.fieldAddr rfl) ?_
  refine XO.q (Q.ld rfl rfl) ?_
  refine XO.q (Q.quo rfl rfl (by omega) (by omega) (by omega)) ?_
  refine XO.q (Q.assign rfl) (XO.done ?_)
  refine XK.rt [] Tryz.func15 Tryz.results15 (.t rfl .n) ?_
  exact ⟨by rw [cellP, if_neg c0], rfl⟩
theorem betweenW (m : Nat) (hm : m ≤ 8) (a d : HCase) (va vd : Value) (ha hd : PHeap) [ia : Arr va encI 1 ha a.load] [id : Arr vd encI 1 hd d.load] (qa : WideOk m a) (qd : WideOk m d) (ad : Ht.LeC a d) (b q : Nat) (hq : q ≤ 100000) (vp : Value) (hp : PHeap) (p : List UInt8) [sp : Arr vp encU8 1 hp p] : Spec Tryz.prog 17 #[.agg #[va, .int .i64 a.out, .int .i64 a.pump, vd, .int .i64 d.out, .int .i64 d.pump], ptr b 0] [blk b [vp, .int .i64 ((q : Nat) : Int)] 38] [ha, hd, hp]
  (fun v hs => ∃ (c : HCase) (v1 : Value) (k : PHeap), v = .agg #[v1, .int .i64 c.out, .int .i64 c.pump] ∧ hs = [k, blk b [vp, .int .i64 ((q + 2 + m : Nat) : Int)] 38] ∧ OArr v1 encI 1 3 k c.load ∧ c.load.length = a.load.length ∧ Ht.LeC a c ∧ Ht.LeC c d) := by
 have hnil : OArr (.slice none 0 0) encI 1 3 emp ([] : List Int) := OArr.nil (fun _ => rfl)
 have q1 := qa.o
 have q2 := qd.o
 have q3 := qa.p
 have q4 := qd.p
 have q5 := ad.out
 have q6 := ad.pump
 have q7 := qa.l.1
 have q8 := qd.l.1
 refine Spec.intro (fn := Tryz.f17) (N := 54) Tryz.func17 rfl Tryz.ntmps17 rfl fun B => ?_
 refine XK.seq (XK.region rfl ?_)
 refine XO.box rfl fun b2 => ?_
 refine XO.box rfl fun b3 => ?_
 refine XO.alloc fun b4 => ?_
 refine XO.done (XK.seq (XK.region rfl ?_))
 refine XO.q (Q.func (fun _ he => rfl) (fun _ he => evs_rel he rfl)) ?_
 refine XO.q (Q.assign rfl) (XO.done (XK.seq ?_))
 refine XK.meet (X := Nat × Int × Int) [6, 9, 10, 11, 12, 13, 14, 15, 16, 17, 18, 19, 20, 21, 22, 23, 24, 25] (fun ⟨b6, m16, m24⟩ => [(6, some (ptr b6 0))]) (fun ⟨b6, m16, m24⟩ => [blk b6 [.slice none 0 0, .int .i64 m16, .int .i64 m24] 31, blk b [vp, .int .i64 ((q + 2 : Nat) : Int)] 38]) (fun ⟨b6, m16, m24⟩ => (a.out ≤ m16 ∧ m16 ≤ d.out) ∧ d.pump ≤ m24 ∧ m24 ≤ a.pump) [blk b [vp, .int .i64 ((q : Nat) : Int)] 38] ?_ ?_
 ·rintro ⟨b6, m16, m24⟩ ⟨⟨l16, u16⟩, l24, u24⟩
  dsimp only [lcA, lnA]
  refine XK.seq (XK.seq (XK.region rfl ?_))
  refine XO.q (Q.fieldAddr rfl) ?_
  refine XO.q (Q.fieldAddr rfl) ?_
  refine XO.q (Q.ld rfl rfl) ?_
  refine XO.len rfl fun l29 => ?_
  refine XO.q (Q.move rfl) (XO.done (XK.block ?_))
  refine XK.while (X := Nat × Value × PHeap × List Int) [7, 30, 31, 32, 33, 34, 35, 36, 37, 38, 39, 40, 41, 42, 43, 44, 45, 46, 47, 48, 49, 50, 51, 52] (fun ⟨i, v, k, t⟩ => [(30, some (.int .i64 (i : Nat)))]) (fun ⟨i, v, k, t⟩ => [blk b6 [v, .int .i64 m16, .int .i64 m24] 31, blk b [vp, .int .i64 ((q + 2 + i : Nat) : Int)] 38, k]) (fun ⟨i, v, k, t⟩ => i ≤ a.load.length ∧ t.length = i ∧ OArr v encI 1 3 k t ∧ ∀ j, j < i → a.load.getD j 0 ≤ t.getD j 0 ∧ t.getD j 0 ≤ d.load.getD j 0) (fun ⟨i, v, k, t⟩ => a.load.length - i) (0, .slice none 0 0, emp, []) [blk b6 [.slice none 0 0, .int .i64 m16, .int .i64 m24] 31, blk b [vp, .int .i64 ((q + 2 : Nat) : Int)] 38, emp] rfl ⟨by omega, rfl, hnil, fun j hj => by omega⟩ (.c rfl (.base 0 rfl rfl)) ?_
  rintro ⟨i, v, k, t⟩ ⟨hi, htl, OT, hT⟩ ih0
  dsimp only [lcA, lnA] at ih0 ⊢
  refine XK.seq (XK.region rfl ?_)
  refine XO.q (Q.lss rfl rfl) ?_
  refine XO.done (XK.seq ?_)
  refine XK.if rfl (fun c0 => ?_) (fun c0 => ?_)
  ·skip
   have r1 := qa.l.2 i (by omega)
   have r2 := qd.l.2 i (by omega)
   have r3 := ad.load i (by omega)
   change 0 ≤ a.load.getD i default ∧ a.load.getD i default ≤ _ at r1
   change 0 ≤ d.load.getD i default ∧ d.load.getD i default ≤ _ at r2
   change a.load.getD i default ≤ d.load.getD i default at r3
   refine XK.skip (XK.seq (XK.block (XK.seq (XK.region rfl (XO.q (Q.move rfl) ?_)))))
   refine XO.q (Q.assign rfl) (XO.done ?_)
   refine XK.drawn [0, 1, 2, 3, 4, 5, 6, 7, 8, 9, 10, 11, 12, 13, 14, 18] [b6, b2] [] (.q 0 (.q 1 (.q 2 (.q 3 (.q 4 (.q 5 (.q 6 (.q 7 (.q 8 (.q 9 (.q 10 (.q 11 (.q 12 (.q 13 (.q 14 (.br 15 true (.br 16 true (.br 17 true (.q 18 (.br 19 false .done .stop)) .stop) .stop) .stop)))))))))))))))) Tryz.mixed rfl (by kernel_rfl) ?_
   refine XT.q rfl rfl (Q.fieldAddr rfl) ?_
   refine XT.q rfl rfl (Q.ld rfl rfl) ?_
   refine XT.q rfl rfl (Q.move rfl) ?_
   refine XT.q rfl rfl (Q.fieldAddr rfl) ?_
   refine XT.q rfl rfl (Q.fieldAddr rfl) ?_
   refine XT.q rfl rfl (Q.ld rfl rfl) ?_
   refine XT.q rfl rfl (Q.move rfl) ?_
   refine XT.ix rfl rfl rfl rfl (by omega) (by omega) fun i40 => ?_
   refine XT.q rfl rfl (Q.ldE rfl (by first | assumption | omega) rfl) ?_
   refine XT.q rfl rfl (Q.fieldAddr rfl) ?_
   refine XT.q rfl rfl (Q.fieldAddr rfl) ?_
   refine XT.q rfl rfl (Q.ld rfl rfl) ?_
   refine XT.q rfl rfl (Q.move rfl) ?_
   refine XT.ix rfl rfl rfl rfl (by omega) (by omega) fun i46 => ?_
   refine XT.q rfl rfl (Q.ldE rfl (by first | assumption | omega) rfl) ?_
   refine XT.vcall rfl rfl rfl rfl (VSpec.fn (fst := []) (cap := [ptr b3 0]) Tryz.call54 rfl (midT b b3 (q + 2 + i) (by omega) vp hp p (a.load.getD i default) (d.load.getD i default) (by omega) (by omega) (by omega))) (fun v48 s48 R48 => ?_) XT.stop
   obtain ⟨m48, rfl, rfl, l48, u48⟩ := R48
   dsimp only [lcA, lnA]
   refine ⟨inferInstance, ?_⟩
   refine XT.lit [_] [_] [_] encI rfl rfl (by rfl) (by rfl) rfl (by rfl) (by exact .c 0 1 rfl rfl rfl (.n _)) (fun _ => rfl) (by rfl) rfl (by infer_instance) rfl (fun v49 h49 O49 => ⟨inferInstance, ?_⟩) XT.stop
   refine XT.append rfl rfl rfl rfl rfl rfl (by simp only [List.length_cons, List.length_nil]; omega) (fun v50 h50 O50 => ⟨inferInstance, ?_⟩) XT.stop
   refine XT.q rfl rfl (Q.fieldAddr rfl) ?_
   refine XT.st rfl rfl rfl rfl rfl ⟨inferInstance, ?_⟩ XT.stop
   refine XT.done ?_
   refine XK.inBlock ?_
   refine XK.region rfl ?_
   refine XO.q (Q.add rfl rfl ⟨by omega, by omega⟩) ?_
   refine XO.q (Q.move rfl) (XO.done ?_)
   exact ih0 (i + 1, v50, h50, _) _ _ ⟨by dsimp only; omega, by dsimp only; rw [List.length_append, htl]; rfl, O50, fun j hj => by
     dsimp only
     rw [Ht.snoc_getD, htl]
     by_cases hji : j < i
     ·rw [if_pos hji]; exact hT j hji
     ·rw [if_neg hji, if_pos (by omega), show j = i by omega]; exact ⟨l48, u48⟩⟩ (by first | omega | (dsimp only; omega)) (.c rfl (.base 49 rfl rfl)) inferInstance
  ·skip
   refine XK.exit rfl ?_
   refine XK.seq (XK.region rfl ?_)
   refine XO.q (Q.ldA [_, _, _] rfl rfl rfl) ?_
   refine XO.st rfl rfl rfl ?_
   refine XO.done ?_
   obtain rfl : m = i := by omega
   refine XK.rt [k, blk b [vp, .int .i64 ((q + 2 + m : Nat) : Int)] 38] Tryz.func17 Tryz.results17 (.cell [_, _, _] rfl rfl rfl (.n)) ?_
   exact ⟨⟨t, m16, m24⟩, v, k, rfl, rfl, OT, by dsimp only; omega, ⟨fun j hj => (hT j (by omega)).1, l16, u24⟩, ⟨fun j hj => (hT j (by dsimp only at hj; omega)).2, u16, l24⟩⟩
 ·intro mtr2
  dsimp only [lcA, lnA] at mtr2
  refine XK.drawn [0, 1, 2, 3, 4, 5, 6, 8, 9, 10, 11, 12, 13, 14, 16] [b2] [] (.q 0 (.q 1 (.q 2 (.q 3 (.q 4 (.q 5 (.q 6 (.q 8 (.q 9 (.q 10 (.q 11 (.q 12 (.q 13 (.q 14 (.br 7 true (.br 15 true (.q 16 (.br 17 true (.br 18 false .done .stop) .stop)) (.br 17 true (.br 15 true (.q 16 (.br 18 false .done .stop)) .stop) .stop)) (.br 17 true (.br 7 true (.br 15 true (.q 16 (.br 18 false .done .stop)) .stop) .stop) .stop)))))))))))))))) Tryz.mixed rfl (by kernel_rfl) ?_
  refine XT.q rfl rfl (Q.move rfl) ?_
  refine XT.q rfl rfl (Q.fieldAddr rfl) ?_
  refine XT.q rfl rfl (Q.fieldAddr rfl) ?_
  refine XT.q rfl rfl (Q.ld rfl rfl) ?_
  refine XT.q rfl rfl (Q.fieldAddr rfl) ?_
  refine XT.q rfl rfl (Q.fieldAddr rfl) ?_
  refine XT.q rfl rfl (Q.ld rfl rfl) ?_
  refine XT.q rfl rfl (Q.move rfl) ?_
  refine XT.q rfl rfl (Q.fieldAddr rfl) ?_
  refine XT.q rfl rfl (Q.fieldAddr rfl) ?_
  refine XT.q rfl rfl (Q.ld rfl rfl) ?_
  refine XT.q rfl rfl (Q.fieldAddr rfl) ?_
  refine XT.q rfl rfl (Q.fieldAddr rfl) ?_
  refine XT.q rfl rfl (Q.ld rfl rfl) ?_
  refine XT.vcall rfl rfl rfl rfl (VSpec.fn (fst := []) (cap := [ptr b3 0]) Tryz.call54 rfl (midT b b3 (q) (by omega) vp hp p (a.out) (d.out) (by omega) (by omega) (by omega))) (fun v16 s16 R16 => ?_) ?_
  ·skip
   obtain ⟨m16, rfl, rfl, l16, u16⟩ := R16
   dsimp only [lcA, lnA]
   refine ⟨inferInstance, ?_⟩
   refine XT.vcall rfl rfl rfl rfl (VSpec.fn (fst := []) (cap := [ptr b3 0]) Tryz.call54 rfl (midT b b3 (q + 1) (by omega) vp hp p (d.pump) (a.pump) (by omega) (by omega) (by omega))) (fun v24 s24 R24 => ?_) ?_
   ·skip
    obtain ⟨m24, rfl, rfl, l24, u24⟩ := R24
    dsimp only [lcA, lnA]
    refine ⟨inferInstance, ?_⟩
    refine XT.q rfl rfl (Q.build [_, _, _] (.c 1 1 rfl rfl rfl (.c 2 1 rfl rfl rfl (.n _)))) ?_
    refine XT.alloc rfl rfl (fun b6 => ⟨inferInstance, ?_⟩) XT.stop
    refine XT.st rfl rfl rfl rfl rfl ⟨inferInstance, ?_⟩ XT.stop
    refine XT.done ?_
    exact mtr2 ((b6, m16, m24)) _ _ ⟨⟨l16, u16⟩, l24, u24⟩ (.c rfl (.base 18 rfl rfl)) inferInstance
   ·skip
    refine XT.alloc rfl rfl (fun b6 => ⟨inferInstance, ?_⟩) XT.stop
    refine XT.vcall rfl rfl rfl rfl (VSpec.fn (fst := []) (cap := [ptr b3 0]) Tryz.call54 rfl (midT b b3 (q + 1) (by omega) vp hp p (d.pump) (a.pump) (by omega) (by omega) (by omega))) (fun v24 s24 R24 => ?_) XT.stop
    obtain ⟨m24, rfl, rfl, l24, u24⟩ := R24
    dsimp only [lcA, lnA]
    refine ⟨inferInstance, ?_⟩
    refine XT.q rfl rfl (Q.build [_, _, _] (.c 1 1 rfl rfl rfl (.c 2 1 rfl rfl rfl (.n _)))) ?_
    refine XT.st rfl rfl rfl rfl rfl ⟨inferInstance, ?_⟩ XT.stop
    refine XT.done ?_
    exact mtr2 ((b6, m16, m24)) _ _ ⟨⟨l16, u16⟩, l24, u24⟩ (.c rfl (.base 18 rfl rfl)) inferInstance
  ·skip
   refine XT.alloc rfl rfl (fun b6 => ⟨inferInstance, ?_⟩) XT.stop
   refine XT.vcall rfl rfl rfl rfl (VSpec.fn (fst := []) (cap := [ptr b3 0]) Tryz.call54 rfl (midT b b3 (q) (by omega) vp hp p (a.out) (d.out) (by omega) (by omega) (by omega))) (fun v16 s16 R16 => ?_) XT.stop
   obtain ⟨m16, rfl, rfl, l16, u16⟩ := R16
   dsimp only [lcA, lnA]
   refine ⟨inferInstance, ?_⟩
   refine XT.vcall rfl rfl rfl rfl (VSpec.fn (fst := []) (cap := [ptr b3 0]) Tryz.call54 rfl (midT b b3 (q + 1) (by omega) vp hp p (d.pump) (a.pump) (by omega) (by omega) (by omega))) (fun v24 s24 R24 => ?_) XT.stop
   obtain ⟨m24, rfl, rfl, l24, u24⟩ := R24
   dsimp only [lcA, lnA]
   refine ⟨inferInstance, ?_⟩
   refine XT.q rfl rfl (Q.build [_, _, _] (.c 1 1 rfl rfl rfl (.c 2 1 rfl rfl rfl (.n _)))) ?_
   refine XT.st rfl rfl rfl rfl rfl ⟨inferInstance, ?_⟩ XT.stop
   refine XT.done ?_
   exact mtr2 ((b6, m16, m24)) _ _ ⟨⟨l16, u16⟩, l24, u24⟩ (.c rfl (.base 18 rfl rfl)) inferInstance
end Go.X

set_option linter.unusedSimpArgs false
set_option linter.unusedVariables false
set_option maxRecDepth 20000
namespace Go.X
open Go.Proofs
set_option maxHeartbeats 1000000 in
theorem roomT (vx : Value) (hx : PHeap) (x : List UInt8) [jx : Arr vx encU8 1 hx x] : Spec Tryz.prog 9 #[vx] [] [hx] (fun v hs => ∃ (h : Hall) (vr vw vb vc wlo whi : Value) (kr kw kb kc jlo jhi : PHeap) (ca cb : HCase),
  v = .tuple #[.agg #[vr, vw, vb, vc], .agg #[wlo, .int .i64 ca.out, .int .i64 ca.pump, whi, .int .i64 cb.out, .int .i64 cb.pump]] ∧ hs = [kr, kw, kb, kc, jlo, jhi] ∧ (OArr vr Ht.encRoom 2 55 kr h.rooms ∧ OArr vw Ht.encWall 3 164 kw h.walls ∧ OArr vb Ht.encBranch 3 166 kb h.branches ∧ OArr vc Ht.encCooler 5 168 kc h.coolers) ∧ hcheck h = 0 ∧ h.rooms.length = 1 ∧
  OArr wlo encI 1 3 jlo ca.load ∧ OArr whi encI 1 3 jhi cb.load ∧ WideOk 1 ca ∧ WideOk 1 cb ∧ Ht.LeC ca {cb with pump := ca.pump}) := by
 refine Spec.intro (fn := Tryz.f9) (N := 81) Tryz.func9 rfl Tryz.ntmps9 rfl fun B => ?_
 refine XK.seq (XK.region rfl ?_)
 refine XO.alloc fun b2 => ?_
 refine XO.alloc fun b3 => ?_
 refine XO.done (XK.seq (XK.region rfl (XO.q (Q.move rfl) ?_)))
 refine XO.q (Q.build [_, _] (.c 0 1 rfl rfl rfl (.n _))) ?_
 refine XO.box rfl fun b9 => ?_
 refine XO.q (Q.assign rfl) (XO.done (XK.seq (XK.region rfl (XO.q (Q.move rfl) ?_))))
 refine XO.callB b9 Tryz.call10 rfl rfl rfl (nextT b9 vx hx x (0) (20) (by omega) (by omega) (by omega)) fun v11 s11 R11 => ?_
 obtain ⟨rfl, n11, rfl, h11⟩ := R11
 dsimp only [lcA, lnA]
 refine XO.q (Q.build [_, _, _] (.c 0 1 rfl rfl rfl (.c 1 1 rfl rfl rfl (.c 2 1 rfl rfl rfl (.n _))))) ?_
 refine XO.lit [_, _, _] [_, _, _] [⟨0, -1, (n11 : Nat)⟩] Ht.encWall (by rfl) (by rfl) rfl (by rfl) (by exact .c 0 3 rfl rfl rfl (.n _)) (fun _ => rfl) (by rfl) rfl (by infer_instance) rfl fun v13 h13 O13 => ?_
 refine XO.q (Q.move rfl) ?_
 refine XO.callB b9 Tryz.call10 rfl rfl rfl (nextT b9 vx hx x (1) (9) (by omega) (by omega) (by omega)) fun v15 s15 R15 => ?_
 obtain ⟨rfl, n15, rfl, h15⟩ := R15
 dsimp only [lcA, lnA]
 refine XO.q (Q.build [_, _, _] (.c 0 1 rfl rfl rfl (.c 2 1 rfl rfl rfl (.n _)))) ?_
 refine XO.lit [_, _, _] [_, _, _] [⟨-1, 0, (n15 : Nat)⟩] Ht.encBranch (by rfl) (by rfl) rfl (by rfl) (by exact .c 0 3 rfl rfl rfl (.n _)) (fun _ => rfl) (by rfl) rfl (by infer_instance) rfl fun v17 h17 O17 => ?_
 refine XO.q (Q.move rfl) ?_
 refine XO.callB b9 Tryz.call10 rfl rfl rfl (nextT b9 vx hx x (2) (50) (by omega) (by omega) (by omega)) fun v19 s19 R19 => ?_
 obtain ⟨rfl, n19, rfl, h19⟩ := R19
 dsimp only [lcA, lnA]
 refine XO.q (Q.add rfl rfl ⟨by omega, by omega⟩) ?_
 refine XO.q (Q.move rfl) ?_
 refine XO.callB b9 Tryz.call10 rfl rfl rfl (nextT b9 vx hx x (3) (200) (by omega) (by omega) (by omega)) fun v22 s22 R22 => ?_
 obtain ⟨rfl, n22, rfl, h22⟩ := R22
 dsimp only [lcA, lnA]
 refine XO.q (Q.add rfl rfl ⟨by omega, by omega⟩) ?_
 refine XO.q (Q.move rfl) ?_
 refine XO.callB b9 Tryz.call10 rfl rfl rfl (nextT b9 vx hx x (4) (256) (by omega) (by omega) (by omega)) fun v25 s25 R25 => ?_
 obtain ⟨rfl, n25, rfl, h25⟩ := R25
 dsimp only [lcA, lnA]
 refine XO.q (Q.mul rfl rfl ⟨by omega, by omega⟩) ?_
 refine XO.q (Q.add rfl rfl ⟨by omega, by omega⟩) ?_
 refine XO.q (Q.build [_, _, _, _, _] (.c 2 1 rfl rfl rfl (.c 3 1 rfl rfl rfl (.c 4 1 rfl rfl rfl (.n _))))) ?_
 refine XO.lit [_, _, _, _, _] [_, _, _, _, _] [⟨0, 0, (5 + (n19 : Nat)), 1 + (n22 : Nat), (15000 + 10 * (n25 : Nat))⟩] Ht.encCooler (by rfl) (by rfl) rfl (by rfl) (by exact .c 0 5 rfl rfl rfl (.n _)) (fun _ => rfl) (by rfl) rfl (by infer_instance) rfl fun v29 h29 O29 => ?_
 refine XO.q (Q.build [_, _, _, _] (.c 1 1 rfl rfl rfl (.c 2 1 rfl rfl rfl (.c 3 1 rfl rfl rfl (.n _))))) ?_
 refine XO.alloc fun b5 => ?_
 refine XO.st rfl rfl rfl ?_
 refine XO.done (XK.seq ?_)
 refine XK.drawn [0, 1, 2, 3, 4, 5, 6, 7, 8, 9, 10, 11, 12, 15, 14, 17, 18, 19, 21] [b5] [h13, h29] (.q 0 (.q 1 (.q 2 (.q 3 (.q 4 (.q 5 (.q 6 (.q 7 (.q 8 (.q 9 (.q 10 (.q 11 (.q 12 (.q 15 (.br 13 true (.q 14 (.br 16 true (.q 17 (.q 18 (.q 19 (.br 20 true (.q 21 (.br 22 false .done .stop)) .stop)))) .stop)) .stop))))))))))))))) Tryz.mixed rfl (by kernel_rfl) ?_
 refine XT.q rfl rfl (Q.fieldAddr rfl) ?_
 refine XT.q rfl rfl (Q.ld rfl rfl) ?_
 refine XT.ix rfl rfl rfl rfl (by simp) (by simp) fun i33 => ?_
 refine XT.q rfl rfl (Q.fieldQ rfl (by first | assumption | omega)) ?_
 refine XT.q rfl rfl (Q.ldE rfl (by first | assumption | omega) rfl) ?_
 rw [show (([⟨0, -1, (n11 : Nat)⟩] : List HWall).getD (0 : Int).toNat default).pass = (n11 : Nat) from rfl]
 refine XT.q rfl rfl (Q.fieldAddr rfl) ?_
 refine XT.q rfl rfl (Q.ld rfl rfl) ?_
 refine XT.ix rfl rfl rfl rfl (by simp) (by simp) fun i38 => ?_
 refine XT.q rfl rfl (Q.fieldQ rfl (by first | assumption | omega)) ?_
 refine XT.q rfl rfl (Q.ldE rfl (by first | assumption | omega) rfl) ?_
 rw [show (([⟨0, 0, (5 + (n19 : Nat)), 1 + (n22 : Nat), (15000 + 10 * (n25 : Nat))⟩] : List HCooler).getD (0 : Int).toNat default).gain = (5 + (n19 : Nat)) from rfl]
 refine XT.q rfl rfl (Q.add rfl rfl ⟨by omega, by omega⟩) ?_
 refine XT.q rfl rfl (Q.add rfl rfl ⟨by omega, by omega⟩) ?_
 refine XT.q rfl rfl (Q.move rfl) ?_
 refine XT.q rfl rfl (Q.move rfl) ?_
 refine XT.callB b9 rfl rfl Tryz.call10 rfl rfl rfl (nextT b9 vx hx x (5) (256) (by omega) (by omega) (by omega)) (fun v44 s44 R44 => ?_) XT.stop
 obtain ⟨rfl, n44, rfl, h44⟩ := R44
 dsimp only [lcA, lnA]
 refine ⟨inferInstance, ?_⟩
 refine XT.q rfl rfl (Q.add rfl rfl ⟨by omega, by omega⟩) ?_
 refine XT.callB b9 rfl rfl Tryz.call10 rfl rfl rfl (nextT b9 vx hx x (6) (256) (by omega) (by omega) (by omega)) (fun v47 s47 R47 => ?_) XT.stop
 obtain ⟨rfl, n47, rfl, h47⟩ := R47
 dsimp only [lcA, lnA]
 refine ⟨inferInstance, ?_⟩
 refine XT.q rfl rfl (Q.mul rfl rfl ⟨by omega, by omega⟩) ?_
 refine XT.q rfl rfl (Q.add rfl rfl ⟨by omega, by omega⟩) ?_
 refine XT.q rfl rfl (Q.build [_, _] (.c 0 1 rfl rfl rfl (.c 1 1 rfl rfl rfl (.n _)))) ?_
 refine XT.lit [_, _] [_, _] [⟨((n11 : Nat) + (5 + (n19 : Nat)) + 1 + (n44 : Nat)), (20000 + 10 * (n47 : Nat))⟩] Ht.encRoom rfl rfl (by rfl) (by rfl) rfl (by rfl) (by exact .c 0 2 rfl rfl rfl (.n _)) (fun _ => rfl) (by rfl) rfl (by infer_instance) rfl (fun v51 h51 O51 => ⟨inferInstance, ?_⟩) XT.stop
 refine XT.q rfl rfl (Q.fieldAddr rfl) ?_
 refine XT.st rfl rfl rfl rfl rfl ⟨inferInstance, ?_⟩ XT.stop
 refine XT.done ?_
 refine XK.seq (XK.region rfl (XO.q (Q.move rfl) ?_))
 refine XO.callB b9 Tryz.call10 rfl rfl rfl (nextT b9 vx hx x (7) (256) (by omega) (by omega) (by omega)) fun v54 s54 R54 => ?_
 obtain ⟨rfl, n54, rfl, h54⟩ := R54
 dsimp only [lcA, lnA]
 refine XO.q (Q.mul rfl rfl ⟨by omega, by omega⟩) ?_
 refine XO.lit [_] [_] [(200 * (n54 : Nat) : Int)] encI (by rfl) (by rfl) rfl (by rfl) (by exact .c 0 1 rfl rfl rfl (.n _)) (fun _ => rfl) (by rfl) rfl (by infer_instance) rfl fun v56 h56 O56 => ?_
 refine XO.q (Q.move rfl) ?_
 refine XO.callB b9 Tryz.call10 rfl rfl rfl (nextT b9 vx hx x (8) (256) (by omega) (by omega) (by omega)) fun v58 s58 R58 => ?_
 obtain ⟨rfl, n58, rfl, h58⟩ := R58
 dsimp only [lcA, lnA]
 refine XO.q (Q.mul rfl rfl ⟨by omega, by omega⟩) ?_
 refine XO.q (Q.add rfl rfl ⟨by omega, by omega⟩) ?_
 refine XO.q (Q.build [_, _, _] (.c 0 1 rfl rfl rfl (.c 1 1 rfl rfl rfl (.n _)))) ?_
 refine XO.alloc fun b6 => ?_
 refine XO.st rfl rfl rfl ?_
 refine XO.done (XK.seq ?_)
 refine XK.meet (X := Nat × Nat × Value × PHeap) [62, 63, 64, 65, 66, 67, 68, 69, 70, 71, 72, 73, 74, 75, 76, 77, 78, 79, 80] (fun ⟨n69, n76, v72, h72⟩ => []) (fun ⟨n69, n76, v72, h72⟩ => [blk b2 [v51, v13, v17, v29] 28, blk b3 [v56, .int .i64 (15000 + 20 * (n58 : Nat)), .int .i64 0, v72, .int .i64 ((15000 + 20 * (n58 : Nat)) + 10 * (n76 : Nat)), .int .i64 0] 33, blk b9 [vx, .int .i64 ((11 : Nat) : Int)] 38, h72]) (fun ⟨n69, n76, v72, h72⟩ => (n69 < 256 ∧ n76 < 256) ∧ OArr v72 encI 1 3 h72 [200 * ((n54 : Nat) : Int) + 50 * (n69 : Nat)]) [blk b2 [.slice none 0 0, .slice none 0 0, .slice none 0 0, .slice none 0 0] 28, blk b3 [.slice none 0 0, .int .i64 0, .int .i64 0, .slice none 0 0, .int .i64 0, .int .i64 0] 33, blk b9 [vx, .int .i64 ((9 : Nat) : Int)] 38] ?_ ?_
 ·rintro ⟨n69, n76, v72, h72⟩ ⟨⟨h69, h76⟩, O72⟩
  dsimp only [lcA, lnA]
  refine XK.rt [h51, h13, h17, h29, h56, h72] Tryz.func9 Tryz.results9 (.cell [_, _, _, _] rfl rfl rfl (.cell [_, _, _, _, _, _] rfl rfl rfl (.n))) ?_
  have one : ∀ y : Int, 0 ≤ y ∧ y ≤ 100000 → ∀ i, i < ([y] : List Int).length → 0 ≤ ([y] : List Int).getD i 0 ∧ ([y] : List Int).getD i 0 ≤ 100000 := fun y hy i hi => by
   obtain rfl : i = 0 := by simpa using hi
   exact hy
  exact ⟨roomH (n11 : Nat) (n15 : Nat) (5 + (n19 : Nat)) (1 + (n22 : Nat)) (15000 + 10 * (n25 : Nat)) ((n11 : Nat) + (5 + (n19 : Nat)) + 1 + (n44 : Nat)) (20000 + 10 * (n47 : Nat)), v51, v13, v17, v29, v56, v72, h51, h13, h17, h29, h56, h72, ⟨[200 * (n54 : Nat)], (15000 + 20 * (n58 : Nat)), 0⟩, ⟨[200 * (n54 : Nat) + 50 * (n69 : Nat)], (15000 + 20 * (n58 : Nat)) + 10 * (n76 : Nat), 0⟩, rfl, rfl, ⟨O51, O13, O17, O29⟩, room_fine (by omega) (by omega) (by omega) (by omega) (by omega) (by omega) (by omega), rfl, O56, O72,
   ⟨⟨rfl, one _ (by omega)⟩, by dsimp only; omega, by dsimp only; omega⟩, ⟨⟨rfl, one _ (by omega)⟩, by dsimp only; omega, by dsimp only; omega⟩, ⟨fun i hi => by
    obtain rfl : i = 0 := by simpa using hi
    show 200 * ((n54 : Nat) : Int) ≤ 200 * ((n54 : Nat) : Int) + 50 * (n69 : Nat)
    omega, by dsimp only; omega, Int.le_refl _⟩⟩
 ·intro mtr5
  dsimp only [lcA, lnA] at mtr5
  refine XK.drawn [0, 1, 2, 3, 4, 5, 6, 11, 12, 13, 8, 9, 15, 16, 17, 18] [b5, b6] [h56] (.q 0 (.q 1 (.q 2 (.q 3 (.q 4 (.q 5 (.q 6 (.q 11 (.q 12 (.q 13 (.br 7 true (.q 8 (.q 9 (.br 10 true (.br 14 true (.q 15 (.q 16 (.q 17 (.q 18 (.br 19 true (.br 20 false .done .stop) .stop))))) .stop) (.br 14 true (.q 15 (.q 16 (.br 10 true (.q 17 (.q 18 (.br 19 true (.br 20 false .done .stop) .stop))) (.br 19 true (.br 10 true (.q 17 (.q 18 (.br 20 false .done .stop))) .stop) .stop)))) .stop)))) .stop))))))))))) Tryz.mixed rfl (by kernel_rfl) ?_
  refine XT.q rfl rfl (Q.ldA [_, _, _, _] rfl rfl rfl) ?_
  refine XT.q rfl rfl (Q.ldA [_, _, _] rfl rfl rfl) ?_
  refine XT.q rfl rfl (Q.fieldAddr rfl) ?_
  refine XT.q rfl rfl (Q.ld rfl rfl) ?_
  refine XT.ix rfl rfl rfl rfl (by simp) (by simp) fun i66 => ?_
  refine XT.q rfl rfl (Q.ldE rfl (by first | assumption | omega) rfl) ?_
  rw [show ([200 * ((n54 : Nat) : Int)] : List Int).getD (0 : Int).toNat default = 200 * (n54 : Nat) from rfl]
  refine XT.q rfl rfl (Q.move rfl) ?_
  refine XT.q rfl rfl (Q.fieldAddr rfl) ?_
  refine XT.q rfl rfl (Q.ld rfl rfl) ?_
  refine XT.q rfl rfl (Q.move rfl) ?_
  refine XT.callB b9 rfl rfl Tryz.call10 rfl rfl rfl (nextT b9 vx hx x (9) (256) (by omega) (by omega) (by omega)) (fun v69 s69 R69 => ?_) XT.stop
  obtain ⟨rfl, n69, rfl, h69⟩ := R69
  dsimp only [lcA, lnA]
  refine ⟨inferInstance, ?_⟩
  refine XT.q rfl rfl (Q.mul rfl rfl ⟨by omega, by omega⟩) ?_
  refine XT.q rfl rfl (Q.add rfl rfl ⟨by omega, by omega⟩) ?_
  refine XT.lit [_] [_] [(200 * (n54 : Nat) + 50 * (n69 : Nat) : Int)] encI rfl rfl (by rfl) (by rfl) rfl (by rfl) (by exact .c 0 1 rfl rfl rfl (.n _)) (fun _ => rfl) (by rfl) rfl (by infer_instance) rfl (fun v72 h72 O72 => ⟨inferInstance, ?_⟩) ?_
  ·skip
   refine XT.callB b9 rfl rfl Tryz.call10 rfl rfl rfl (nextT b9 vx hx x (10) (256) (by omega) (by omega) (by omega)) (fun v76 s76 R76 => ?_) XT.stop
   obtain ⟨rfl, n76, rfl, h76⟩ := R76
   dsimp only [lcA, lnA]
   refine ⟨inferInstance, ?_⟩
   refine XT.q rfl rfl (Q.mul rfl rfl ⟨by omega, by omega⟩) ?_
   refine XT.q rfl rfl (Q.add rfl rfl ⟨by omega, by omega⟩) ?_
   refine XT.q rfl rfl (Q.build [_, _, _] (.c 0 1 rfl rfl rfl (.c 1 1 rfl rfl rfl (.n _)))) ?_
   refine XT.q rfl rfl (Q.build [_, _, _, _, _, _] (.c 0 3 rfl rfl rfl (.c 3 3 rfl rfl rfl (.n _)))) ?_
   refine XT.st rfl rfl rfl rfl rfl ⟨inferInstance, ?_⟩ XT.stop
   refine XT.st rfl rfl rfl rfl rfl ⟨inferInstance, ?_⟩ XT.stop
   refine XT.done ?_
   exact mtr5 ((n69, n76, v72, h72)) _ _ ⟨⟨h69, h76⟩, O72⟩ (.base 19 rfl rfl) inferInstance
  ·skip
   refine XT.callB b9 rfl rfl Tryz.call10 rfl rfl rfl (nextT b9 vx hx x (10) (256) (by omega) (by omega) (by omega)) (fun v76 s76 R76 => ?_) XT.stop
   obtain ⟨rfl, n76, rfl, h76⟩ := R76
   dsimp only [lcA, lnA]
   refine ⟨inferInstance, ?_⟩
   refine XT.q rfl rfl (Q.mul rfl rfl ⟨by omega, by omega⟩) ?_
   refine XT.q rfl rfl (Q.add rfl rfl ⟨by omega, by omega⟩) ?_
   refine XT.lit [_] [_] [(200 * (n54 : Nat) + 50 * (n69 : Nat) : Int)] encI rfl rfl (by rfl) (by rfl) rfl (by rfl) (by exact .c 0 1 rfl rfl rfl (.n _)) (fun _ => rfl) (by rfl) rfl (by infer_instance) rfl (fun v72 h72 O72 => ⟨inferInstance, ?_⟩) ?_
   ·skip
    refine XT.q rfl rfl (Q.build [_, _, _] (.c 0 1 rfl rfl rfl (.c 1 1 rfl rfl rfl (.n _)))) ?_
    refine XT.q rfl rfl (Q.build [_, _, _, _, _, _] (.c 0 3 rfl rfl rfl (.c 3 3 rfl rfl rfl (.n _)))) ?_
    refine XT.st rfl rfl rfl rfl rfl ⟨inferInstance, ?_⟩ XT.stop
    refine XT.st rfl rfl rfl rfl rfl ⟨inferInstance, ?_⟩ XT.stop
    refine XT.done ?_
    exact mtr5 ((n69, n76, v72, h72)) _ _ ⟨⟨h69, h76⟩, O72⟩ (.base 19 rfl rfl) inferInstance
   ·skip
    refine XT.st rfl rfl rfl rfl rfl ⟨inferInstance, ?_⟩ XT.stop
    refine XT.lit [_] [_] [(200 * (n54 : Nat) + 50 * (n69 : Nat) : Int)] encI rfl rfl (by rfl) (by rfl) rfl (by rfl) (by exact .c 0 1 rfl rfl rfl (.n _)) (fun _ => rfl) (by rfl) rfl (by infer_instance) rfl (fun v72 h72 O72 => ⟨inferInstance, ?_⟩) XT.stop
    refine XT.q rfl rfl (Q.build [_, _, _] (.c 0 1 rfl rfl rfl (.c 1 1 rfl rfl rfl (.n _)))) ?_
    refine XT.q rfl rfl (Q.build [_, _, _, _, _, _] (.c 0 3 rfl rfl rfl (.c 3 3 rfl rfl rfl (.n _)))) ?_
    refine XT.st rfl rfl rfl rfl rfl ⟨inferInstance, ?_⟩ XT.stop
    refine XT.done ?_
    exact mtr5 ((n69, n76, v72, h72)) _ _ ⟨⟨h69, h76⟩, O72⟩ (.base 19 rfl rfl) inferInstance
theorem cellE (vn vg vp : Value) [o1 : One vn] [o2 : One vg] [o3 : One vp] (n : Nat) (f w t : Int) (hf : 0 ≤ f ∧ f ≤ 1000000) (hw : 1 ≤ w ∧ w ≤ 1000000) (hn : n ≤ 400) (hfw : f + w * n ≤ 1000000) (ht : 0 ≤ t ∧ t ≤ 1000000) : Spec Tryz.prog 15 #[.agg #[.int .i64 (n : Nat), .int .i64 3, .int .i64 3, vn, vg, .int .i64 f, .int .i64 w, .int .i64 (n : Nat), vp], .int .i64 t] [] [] (fun v hs => (∃ z, v = .int .i64 z ∧ z = cellP f w n t) ∧ hs = []) :=
 (cellT vn vg vp n f w t hf hw hn hfw ht).mono fun v hs h => ⟨⟨_, h.1, rfl⟩, h.2⟩
set_option maxHeartbeats 4000000 in
theorem stagedT (h : Hall) (vr vw vb vc : Value) (kr kw kb kc : PHeap) [ir : Arr vr Ht.encRoom 2 kr h.rooms] [iw : Arr vw Ht.encWall 3 kw h.walls] [ib : Arr vb Ht.encBranch 3 kb h.branches] [ic : Arr vc Ht.encCooler 5 kc h.coolers] (hc : hcheck h = 0) (hr : h.rooms.length = 1)
  (ca cb : HCase) (wlo whi : Value) (jlo jhi : PHeap) [ia : Arr wlo encI 1 jlo ca.load] [id : Arr whi encI 1 jhi cb.load] (qa : WideOk 1 ca) (qb : WideOk 1 cb) (f w : Int) (n : Nat) (hf : 0 ≤ f ∧ f ≤ 100000) (hw : 1 ≤ w ∧ w ≤ 10000) (hn : n ≤ 60) (hn1 : 1 ≤ n)
  (vp : Value) (kp : PHeap) (ps : List Int) [ip : Arr vp encI 1 kp ps] (hp : ps.length = 3) (hpr : ∀ u, u < 3 → 0 ≤ ps.getD u 0 ∧ ps.getD u 0 ≤ 100000) : Spec Tryz.prog 11 #[.agg #[vr, vw, vb, vc], .agg #[wlo, .int .i64 ca.out, .int .i64 ca.pump, whi, .int .i64 cb.out, .int .i64 cb.pump], .int .i64 f, .int .i64 w, .int .i64 (n : Nat), vp] [] [kr, kw, kb, kc, jlo, jhi, kp]
  (fun v hs => ∃ (vn vg : Value) (kn kg : PHeap) (nxt : List Int) (gd : List Bool), v = .tuple #[.agg #[.int .i64 (n : Nat), .int .i64 3, .int .i64 3, vn, vg, .int .i64 f, .int .i64 w, .int .i64 (n : Nat), vp], .bool true] ∧ hs = [kn, kg] ∧ OArr vn encI 1 3 kn nxt ∧ OArr vg encB 1 4 kg gd ∧ StageOk h ca cb f w n ps nxt gd) := by
 have nI : OArr (.slice none 0 0) encI 1 3 emp ([] : List Int) := OArr.nil (fun _ => rfl)
 have nB : OArr (.slice none 0 0) encB 1 4 emp ([] : List Bool) := OArr.nil (fun _ => rfl)
 have hwn : w * (n : Int) ≤ 10000 * 60 := Int.mul_le_mul hw.2 (by omega) (by omega) (by omega)
 have hwn0 : 0 ≤ w * (n : Int) := Int.mul_nonneg (by omega) (by omega)
 have ok := hcheck_ok hc
 have one : ∀ y : Int, 0 ≤ y ∧ y ≤ 1000000 → TOk h [y] := fun y hy => ⟨by rw [hr]; rfl, fun k hk => by
  obtain rfl : k = 0 := by simpa using hk
  exact hy⟩
 refine Spec.intro (fn := Tryz.f11) (N := 154) Tryz.func11 rfl Tryz.ntmps11 rfl fun B => ?_
 refine XK.seq (XK.region rfl ?_)
 refine XO.box rfl fun b6 => ?_
 refine XO.box rfl fun b7 => ?_
 refine XO.alloc fun b12 => ?_
 refine XO.q (Q.assign rfl) (XO.done (XK.seq (XK.region rfl (XO.q (Q.move rfl) (XO.q (Q.move rfl) ?_)))))
 refine XO.len rfl fun l30 => ?_
 rw [show ((ps.length : Nat) : Int) = 3 by rw [hp]; rfl]
 refine XO.q (Q.build [_, _, _, _, _] (.c 0 1 rfl rfl rfl (.c 1 1 rfl rfl rfl (.c 2 1 rfl rfl rfl (.n _))))) ?_
 refine XO.q (Q.move rfl) (XO.q (Q.move rfl) (XO.q (Q.move rfl) (XO.q (Q.move rfl) ?_)))
 refine XO.q (Q.build [_, _, _, _, _, _, _, _, _] (.c 0 5 rfl rfl rfl (.c 5 1 rfl rfl rfl (.c 6 1 rfl rfl rfl (.c 7 1 rfl rfl rfl (.c 8 1 rfl rfl rfl (.n _))))))) ?_
 refine XO.alloc fun b14 => ?_
 refine XO.st rfl rfl rfl ?_
 refine XO.done (XK.seq (XK.seq (XK.region rfl (XO.q (Q.move rfl) (XO.q (Q.move rfl) ?_)))))
 refine XO.done (XK.block ?_)
 refine XK.while (X := Nat × Value × PHeap × List Int × Value × PHeap × List Bool) [13, 15, 16, 17, 19, 20, 21, 22, 23, 24, 25, 26, 27, 38, 39, 40, 41, 42, 43, 44, 45, 46, 47, 48, 49, 50, 51, 52, 53, 54, 55, 56, 57, 58, 59, 60, 61, 62, 63, 64, 65, 66, 67, 68, 69, 70, 71, 72, 73, 74, 75, 76, 77, 78, 79, 80, 81, 82, 83, 84, 85, 86, 87, 88, 89, 90, 91, 92, 93, 94, 95, 96, 97, 98, 99, 100, 101, 102, 103, 104, 105, 106, 107, 108, 109, 110, 111, 112, 113, 114, 115, 116, 117, 118, 119, 120, 121, 122, 123, 124, 125, 126, 127, 128, 129, 130, 131, 132, 133, 134, 135, 136, 137, 138, 139, 140, 141, 142, 143, 144, 145, 146, 147, 148, 149, 150, 151, 152] (fun ⟨i, v, k, nx, vg, kg, gd⟩ => [(38, some (.int .i64 (i : Nat)))]) (fun ⟨i, v, k, nx, vg, kg, gd⟩ => [blk b14 [.int .i64 (n : Nat), .int .i64 3, .int .i64 3, v, vg, .int .i64 f, .int .i64 w, .int .i64 (n : Nat), vp] 44, k, kg]) (fun ⟨i, v, k, nx, vg, kg, gd⟩ => i ≤ n ∧ ListTo (valP h ca cb f w n ps) nx (9 * i) ∧ OArr v encI 1 3 k nx ∧ GoodTo (fun i => decide (f + ((i : Int) + 1) * w - 1 ≤ (h.rooms.getD 0 default).limit)) gd i ∧ OArr vg encB 1 4 kg gd) (fun ⟨i, v, k, nx, vg, kg, gd⟩ => n - i) (0, .slice none 0 0, emp, [], .slice none 0 0, emp, []) [blk b14 [.int .i64 (n : Nat), .int .i64 3, .int .i64 3, .slice none 0 0, .slice none 0 0, .int .i64 f, .int .i64 w, .int .i64 (n : Nat), vp] 44, emp, emp] rfl ⟨by omega, ⟨rfl, fun k hk => absurd hk (by omega)⟩, nI, ⟨rfl, fun k hk => absurd hk (by omega)⟩, nB⟩ (.c rfl (.base 0 rfl rfl)) ?_
 rintro ⟨i, v, k, nx, vg, kg, gd⟩ ⟨hi, hnx, ON, hgd, OG⟩ ih0
 dsimp only [lcA, lnA] at ih0 ⊢
 refine XK.seq (XK.region rfl ?_)
 refine XO.q (Q.lss rfl rfl) ?_
 refine XO.done (XK.seq ?_)
 refine XK.if rfl (fun c0 => ?_) (fun c0 => ?_)
 ·skip
  have z1 : (0 : Int) ≤ (i : Int) * w := Int.mul_nonneg (by omega) (by omega)
  have z2 : ((i : Int) + 1) * w ≤ (n : Int) * w := Int.mul_le_mul_of_nonneg_right (by omega) (by omega)
  rw [Int.mul_comm (n : Int)] at z2
  have z3 : ((i : Int) + 1) * w = (i : Int) * w + w := by rw [Int.add_mul, Int.one_mul]
  refine XK.skip (XK.seq (XK.block (XK.seq (XK.region rfl (XO.q (Q.move rfl) ?_)))))
  refine XO.q (Q.assign rfl) (XO.done (XK.seq (XK.region rfl (XO.q (Q.move rfl) (XO.q (Q.move rfl) ?_)))))
  refine XO.q (Q.move rfl) ?_
  refine XO.q (Q.mul rfl rfl ⟨by omega, by omega⟩) ?_
  refine XO.q (Q.add rfl rfl ⟨by omega, by omega⟩) ?_
  refine XO.q (Q.move rfl) (XO.q (Q.move rfl) ?_)
  refine XO.q (Q.add rfl rfl ⟨by omega, by omega⟩) ?_
  refine XO.q (Q.move rfl) ?_
  refine XO.q (Q.mul rfl rfl ⟨by omega, by omega⟩) ?_
  refine XO.q (Q.add rfl rfl ⟨by omega, by omega⟩) ?_
  refine XO.q (Q.sub rfl rfl ⟨by omega, by omega⟩) ?_
  refine XO.q (Q.assign rfl) (XO.q (Q.assign rfl) (XO.done (XK.seq ?_)))
  refine XK.drawn [0, 1, 2, 3, 4, 5, 6, 7, 8, 9] [b14, b6] [] (.q 0 (.q 1 (.q 2 (.q 3 (.q 4 (.q 5 (.q 6 (.q 7 (.q 8 (.q 9 (.br 10 true (.br 11 true (.br 12 false (.br 13 false (.br 14 false .done .stop) .stop) .stop) .stop) .stop))))))))))) Tryz.mixed rfl (by kernel_rfl) ?_
  refine XT.q rfl rfl (Q.fieldAddr rfl) ?_
  refine XT.q rfl rfl (Q.fieldAddr rfl) ?_
  refine XT.q rfl rfl (Q.ld rfl rfl) ?_
  refine XT.q rfl rfl (Q.move rfl) ?_
  refine XT.q rfl rfl (Q.fieldAddr rfl) ?_
  refine XT.q rfl rfl (Q.ld rfl rfl) ?_
  refine XT.ix rfl rfl rfl rfl (by omega) (by omega) fun i59 => ?_
  refine XT.q rfl rfl (Q.fieldQ rfl (by first | assumption | omega)) ?_
  refine XT.q rfl rfl (Q.ldE rfl (by first | assumption | omega) rfl) ?_
  refine XT.q rfl rfl (Q.leq rfl rfl) ?_
  refine XT.lit [_] [_] [decide (f + ((i : Int) + 1) * w - 1 ≤ (h.rooms.getD 0 default).limit)] encB rfl rfl (by rfl) (by rfl) rfl (by rfl) (by exact .c 0 1 rfl rfl rfl (.n _)) (fun _ => rfl) (by rfl) rfl (by infer_instance) rfl (fun v63 h63 O63 => ⟨inferInstance, ?_⟩) XT.stop
  refine XT.append rfl rfl rfl rfl rfl rfl (by have := hgd.1; simp only [List.length_cons, List.length_nil]; omega) (fun v64 h64 O64 => ⟨inferInstance, ?_⟩) XT.stop
  refine XT.qs rfl rfl (Q.fieldAddr rfl) ⟨inferInstance, ?_⟩ XT.stop
  refine XT.qs rfl rfl (Q.fieldAddr rfl) ⟨inferInstance, ?_⟩ XT.stop
  refine XT.st rfl rfl rfl rfl rfl ⟨inferInstance, ?_⟩ XT.stop
  refine XT.done ?_
  refine XK.seq (XK.region rfl (XO.q (Q.move rfl) ?_))
  refine XO.len rfl fun l68 => ?_
  refine XO.q (Q.move rfl) (XO.done (XK.block ?_))
  refine XK.while (X := Nat × Value × PHeap × List Int) [13, 19, 20, 21, 22, 23, 24, 25, 26, 27, 69, 70, 71, 72, 73, 74, 75, 76, 77, 78, 79, 80, 81, 82, 83, 84, 85, 86, 87, 88, 89, 90, 91, 92, 93, 94, 95, 96, 97, 98, 99, 100, 101, 102, 103, 104, 105, 106, 107, 108, 109, 110, 111, 112, 113, 114, 115, 116, 117, 118, 119, 120, 121, 122, 123, 124, 125, 126, 127, 128, 129, 130, 131, 132, 133, 134, 135, 136, 137, 138, 139, 140, 141, 142, 143, 144, 145, 146, 147, 148, 149, 150, 151] (fun ⟨u, v, k, nx⟩ => [(69, some (.int .i64 (u : Nat)))]) (fun ⟨u, v, k, nx⟩ => [blk b14 [.int .i64 (n : Nat), .int .i64 3, .int .i64 3, v, v64, .int .i64 f, .int .i64 w, .int .i64 (n : Nat), vp] 44, k]) (fun ⟨u, v, k, nx⟩ => u ≤ 3 ∧ ListTo (valP h ca cb f w n ps) nx (9 * i + 3 * u) ∧ OArr v encI 1 3 k nx) (fun ⟨u, v, k, nx⟩ => 3 - u) (0, v, k, nx) [blk b14 [.int .i64 (n : Nat), .int .i64 3, .int .i64 3, v, v64, .int .i64 f, .int .i64 w, .int .i64 (n : Nat), vp] 44, k] rfl ⟨by omega, hnx, ON⟩ (.c rfl (.base 0 rfl rfl)) ?_
  rintro ⟨u, v, k, nx⟩ ⟨hu, hnx, ON⟩ ih1
  dsimp only [lcA, lnA] at ih1 ⊢
  refine XK.seq (XK.region rfl ?_)
  refine XO.q (Q.lss rfl rfl) ?_
  refine XO.done (XK.seq ?_)
  refine XK.if rfl (fun c1 => ?_) (fun c1 => ?_)
  ·skip
   have q1 := WideOk.pump (n := h.rooms.length) (by rw [hr]; exact qa) (hpr u (by omega))
   have q2 := WideOk.pump (n := h.rooms.length) (by rw [hr]; exact qb) (hpr u (by omega))
   have r1 := (Ht.next_ok ok (one _ (show 0 ≤ f + (i : Int) * w ∧ f + (i : Int) * w ≤ 1000000 by omega)) q1.cok).rng 0 (by rw [Ht.nextL_len, hr]; omega)
   have r2 := (Ht.next_ok ok (one _ (show 0 ≤ f + ((i : Int) + 1) * w - 1 ∧ f + ((i : Int) + 1) * w - 1 ≤ 1000000 by omega)) q2.cok).rng 0 (by rw [Ht.nextL_len, hr]; omega)
   have l1 : (nextL h [f + (i : Int) * w] (pumpC ca (ps.getD u default))).length = 1 := by rw [Ht.nextL_len, hr]
   have l2 : (nextL h [f + ((i : Int) + 1) * w - 1] (pumpC cb (ps.getD u default))).length = 1 := by rw [Ht.nextL_len, hr]
   refine XK.skip (XK.seq (XK.block (XK.seq (XK.region rfl ?_))))
   refine XO.ix rfl rfl (by omega) (by omega) fun i71 => ?_
   refine XO.q (Q.ldE rfl (by first | assumption | omega) rfl) ?_
   refine XO.q (Q.assign rfl) (XO.done (XK.seq ?_))
   refine XK.meet (X := Value × PHeap) [20, 21, 73, 74, 75, 76, 77, 78, 79, 80, 81, 82, 83] (fun ⟨x81, y81⟩ => [(20, some (x81)), (21, some (.int .i64 0))]) (fun ⟨x81, y81⟩ => [y81]) (fun ⟨x81, y81⟩ => OArr x81 encI 1 3 y81 (nextL h [f + (i : Int) * w] (pumpC ca (ps.getD u default)))) [] ?_ ?_
   ·rintro ⟨x81, y81⟩ X81
    dsimp only [lcA, lnA]
    refine XK.seq ?_
    refine XK.meet (X := Value × PHeap) [22, 23, 84, 85, 86, 87, 88, 89, 90, 91, 92, 93, 94] (fun ⟨x92, y92⟩ => [(22, some (x92)), (23, some (.int .i64 0))]) (fun ⟨x92, y92⟩ => [y92]) (fun ⟨x92, y92⟩ => OArr x92 encI 1 3 y92 (nextL h [f + ((i : Int) + 1) * w - 1] (pumpC cb (ps.getD u default)))) [] ?_ ?_
    ·rintro ⟨x92, y92⟩ X92
     dsimp only [lcA, lnA]
     refine XK.seq (XK.seq (XK.region rfl (XO.q (Q.move rfl) ?_)))
     refine XO.q (Q.neq rfl rfl) ?_
     first | rw [decide_eq_false (show ¬ (0 : Int) ≠ (0 : Int) from fun h => h rfl)] | skip
     refine XO.q (Q.move rfl) ?_
     refine XO.q (Quiet.guardF rfl rfl fun g98 p98 => Q.move rfl) ?_
     refine XO.q (Quiet.guardF rfl rfl fun g99 p99 => Q.neq (lzv rfl rfl) rfl) ?_
     first | rw [decide_eq_false (show ¬ (0 : Int) ≠ (0 : Int) from fun h => h rfl)] | skip
     refine XO.q (Q.or rfl (fun hp => lzv hp rfl)) ?_
     refine XO.q (Q.move rfl) ?_
     refine XO.q (Quiet.guardF rfl rfl fun g102 p102 => Q.move rfl) ?_
     refine XO.q (Quiet.guardF rfl rfl fun g103 p103 => Q.len (lzv rfl rfl)) ?_
     refine XO.q (Quiet.guardF rfl rfl fun g104 p104 => Q.neq (lzv rfl rfl) rfl) ?_
     rw [show (nextL h [f + (i : Int) * w] (pumpC ca (ps.getD u default))).length = 1 by rw [Ht.nextL_len, hr]]
     first | rw [decide_eq_false (show ¬ ((1 : Nat) : Int) ≠ ((1 : Nat) : Int) from fun h => h rfl)] | skip
     refine XO.q (Q.or rfl (fun hp => lzv hp rfl)) ?_
     refine XO.q (Q.move rfl) ?_
     refine XO.q (Quiet.guardF rfl rfl fun g107 p107 => Q.move rfl) ?_
     refine XO.q (Quiet.guardF rfl rfl fun g108 p108 => Q.len (lzv rfl rfl)) ?_
     refine XO.q (Quiet.guardF rfl rfl fun g109 p109 => Q.neq (lzv rfl rfl) rfl) ?_
     rw [show (nextL h [f + ((i : Int) + 1) * w - 1] (pumpC cb (ps.getD u default))).length = 1 by rw [Ht.nextL_len, hr]]
     first | rw [decide_eq_false (show ¬ ((1 : Nat) : Int) ≠ ((1 : Nat) : Int) from fun h => h rfl)] | skip
     refine XO.q (Q.or rfl (fun hp => lzv hp rfl)) ?_
     refine XO.done ?_
     refine XK.if rfl (fun c2 => ?_) (fun c2 => ?_)
     ·skip
      simp at c2
     ·skip
      refine XK.skip (XK.seq ?_)
      refine XK.drawn [0, 1, 2, 3, 5, 6, 7, 8, 10, 11] [b14] [y81, y92] (.q 0 (.q 1 (.q 2 (.q 3 (.q 5 (.q 6 (.q 7 (.q 8 (.br 4 true (.br 9 true (.q 10 (.q 11 .done)) .stop) .stop))))))))) Tryz.mixed rfl (by kernel_rfl) ?_
      refine XT.q rfl rfl (Q.ldA [_, _, _, _, _, _, _, _, _] rfl rfl rfl) ?_
      refine XT.q rfl rfl (Q.move rfl) ?_
      refine XT.ix rfl rfl rfl rfl (by omega) (by omega) fun i114 => ?_
      refine XT.q rfl rfl (Q.ldE rfl (by first | assumption | omega) rfl) ?_
      refine XT.q rfl rfl (Q.ldA [_, _, _, _, _, _, _, _, _] rfl rfl rfl) ?_
      refine XT.q rfl rfl (Q.move rfl) ?_
      refine XT.ix rfl rfl rfl rfl (by omega) (by omega) fun i119 => ?_
      refine XT.q rfl rfl (Q.ldE rfl (by first | assumption | omega) rfl) ?_
      refine XT.call rfl rfl Tryz.call15 rfl rfl rfl (cellE v v64 vp n f w _ (by omega) (by omega) (by omega) (by omega) r1) (fun v116 s116 R116 => ?_) XT.stop
      obtain ⟨⟨z116, rfl, e116⟩, rfl⟩ := R116
      dsimp only [lcA, lnA]
      refine ⟨inferInstance, ?_⟩
      refine XT.call rfl rfl Tryz.call15 rfl rfl rfl (cellE v v64 vp n f w _ (by omega) (by omega) (by omega) (by omega) r2) (fun v121 s121 R121 => ?_) XT.stop
      obtain ⟨⟨z121, rfl, e121⟩, rfl⟩ := R121
      dsimp only [lcA, lnA]
      refine ⟨inferInstance, ?_⟩
      have g1 : -1 ≤ z116 ∧ z116 < n := by rw [e116]; exact (cell_rng hw.1).resolve_right (by omega)
      have g2 : -1 ≤ z121 ∧ z121 < n := by rw [e121]; exact (cell_rng hw.1).resolve_right (by omega)
      have fr : z116 = fromP h ca f w n (ps.getD u 0) i := e116
      have to : z121 = toP h cb f w n (ps.getD u 0) i := e121
      clear e116 e121
      refine XT.q rfl rfl (Q.assign rfl) ?_
      refine XT.q rfl rfl (Q.assign rfl) ?_
      refine XT.done ?_
      refine XK.seq (XK.region rfl (XO.q (Q.move rfl) (XO.done (XK.block ?_))))
      refine XK.while (X := Nat × Value × PHeap × List Int) [26, 27, 122, 123, 124, 125, 126, 127, 128, 129, 130, 131, 132, 133, 134, 135, 136, 137, 138, 139, 140, 141, 142, 143, 144, 145, 146, 147, 148, 149, 150] (fun ⟨s, v, k, nx⟩ => [(122, some (.int .i64 (s : Nat)))]) (fun ⟨s, v, k, nx⟩ => [blk b14 [.int .i64 (n : Nat), .int .i64 3, .int .i64 3, v, v64, .int .i64 f, .int .i64 w, .int .i64 (n : Nat), vp] 44, k]) (fun ⟨s, v, k, nx⟩ => s ≤ 3 ∧ ListTo (valP h ca cb f w n ps) nx (9 * i + 3 * u + s) ∧ OArr v encI 1 3 k nx) (fun ⟨s, v, k, nx⟩ => 3 - s) (0, v, k, nx) [blk b14 [.int .i64 (n : Nat), .int .i64 3, .int .i64 3, v, v64, .int .i64 f, .int .i64 w, .int .i64 (n : Nat), vp] 44, k] rfl ⟨by omega, hnx, ON⟩ (.c rfl (.base 0 rfl rfl)) ?_
      rintro ⟨s, v, k, nx⟩ ⟨hs, hnx, ON⟩ ih2
      dsimp only [lcA, lnA] at ih2 ⊢
      refine XK.seq (XK.region rfl ?_)
      refine XO.q (Q.lss rfl rfl) ?_
      refine XO.done (XK.seq ?_)
      refine XK.if rfl (fun c3 => ?_) (fun c3 => ?_)
      ·skip
       refine XK.skip (XK.seq (XK.block (XK.seq (XK.region rfl (XO.q (Q.move rfl) ?_)))))
       refine XO.q (Q.assign rfl) (XO.done (XK.seq (XK.region rfl (XO.q (Q.move rfl) (XO.q (Q.move rfl) ?_)))))
       refine XO.q (Q.add rfl rfl ⟨by omega, by omega⟩) ?_
       refine XO.q (Q.move rfl) ?_
       refine XO.q (Q.min rfl rfl) ?_
       refine XO.q (Q.assign rfl) (XO.done (XK.seq (XK.seq (XK.region rfl (XO.q (Q.move rfl) ?_)))))
       refine XO.q (Q.lss rfl rfl) ?_
       refine XO.q (Q.move rfl) ?_
       refine XO.q (Quiet.guardF rfl rfl fun g133 p133 => Q.move rfl) ?_
       refine XO.q (Quiet.guardF rfl rfl fun g134 p134 => Q.lss (lzv g134 rfl) rfl) ?_
       refine XO.q (Q.or rfl (fun hp => lzv hp rfl)) ?_
       refine XO.q (Q.move rfl) ?_
       refine XO.q (Quiet.guardF rfl rfl fun g137 p137 => Q.move rfl) ?_
       refine XO.q (Quiet.guardF rfl rfl fun g138 p138 => Q.move rfl) ?_
       refine XO.q (Quiet.guardF rfl rfl fun g139 p139 => Q.sub (lzv g139 rfl) (lzv g139 rfl) ⟨by omega, by omega⟩) ?_
       refine XO.q (Quiet.guardF rfl rfl fun g140 p140 => Q.gtr (lzv g140 rfl) rfl) ?_
       refine XO.q (Q.or rfl (fun hp => lzv hp rfl)) ?_
       refine XO.done ?_
       refine XK.meet (X := Int) [27] (fun m => [(27, some (.int .i64 m))]) (fun m => []) (fun m => m = stepP z116 z121 (s : Nat)) [] ?_ ?_
       ·rintro m hm
        dsimp only [lcA, lnA]
        refine XK.region rfl ?_
        refine XO.q (Q.fieldAddr rfl) ?_
        refine XO.q (Q.fieldAddr rfl) ?_
        refine XO.q (Q.ld rfl rfl) ?_
        refine XO.q (Q.move rfl) ?_
        refine XO.lit [_] [_] [m] encI (by rfl) (by rfl) rfl (by rfl) (by exact .c 0 1 rfl rfl rfl (.n _)) (fun _ => rfl) (by rfl) rfl (by infer_instance) rfl fun v146 h146 O146 => ?_
        refine XO.append rfl rfl rfl rfl (by have := hnx.1; simp only [List.length_cons, List.length_nil]; omega) fun v147 h147 O147 => ?_
        refine XO.q (Q.fieldAddr rfl) ?_
        refine XO.q (Q.fieldAddr rfl) ?_
        refine XO.st rfl rfl rfl ?_
        refine XO.done ?_
        refine XK.inBlock ?_
        refine XK.region rfl ?_
        refine XO.q (Q.add rfl rfl ⟨by omega, by omega⟩) ?_
        refine XO.q (Q.move rfl) (XO.done ?_)
        exact ih2 (s + 1, v147, h147, _) _ _ ⟨by dsimp only; omega, hnx.snoc (by rw [val_at (by omega) (by omega), ← fr, ← to, hm]), O147⟩ (by first | omega | (dsimp only; omega)) (.c rfl (.base 65 rfl rfl)) inferInstance
       ·intro mt4
        dsimp only [lcA, lnA] at mt4
        refine XK.if rfl (fun c4 => ?_) (fun c4 => ?_)
        ·skip
         refine XK.region rfl (XO.q (Q.assign rfl) (XO.done ?_))
         exact mt4 (_) _ _ (by rw [stepP, if_pos c4]) (.c rfl (.base 1 rfl rfl)) inferInstance
        ·skip
         refine XK.skip ?_
         exact mt4 (_) _ _ (by rw [stepP, if_neg c4]) (.c rfl (.base 0 rfl rfl)) inferInstance
      ·skip
       have hs3 : s = 3 := by omega
       refine XK.exit rfl ?_
       refine XK.inBlock ?_
       refine XK.region rfl ?_
       refine XO.q (Q.add rfl rfl ⟨by omega, by omega⟩) ?_
       refine XO.q (Q.move rfl) (XO.done ?_)
       exact ih1 (u + 1, v, k, nx) _ _ ⟨by dsimp only; omega, by subst hs3; exact hnx, ON⟩ (by first | omega | (dsimp only; omega)) (.c rfl (.base 192 rfl rfl)) inferInstance
    ·intro mtr11
     dsimp only [lcA, lnA] at mtr11
     refine XK.drawn [0, 1, 3, 4, 6, 8, 9, 10, 11, 12] [b6, b7] [] (.q 0 (.q 1 (.q 3 (.q 4 (.br 2 true (.br 5 true (.q 6 (.br 7 true (.q 8 (.q 9 (.q 10 (.q 11 (.q 12 .done))))) .stop)) .stop) (.br 5 true (.q 6 (.br 2 true (.br 7 true (.q 8 (.q 9 (.q 10 (.q 11 (.q 12 .done))))) .stop) .stop)) .stop)))))) Tryz.mixed rfl (by kernel_rfl) ?_
     refine XT.q rfl rfl (Q.ldA [_, _, _, _] rfl rfl rfl) ?_
     refine XT.q rfl rfl (Q.move rfl) ?_
     refine XT.q rfl rfl (Q.ldA [_, _, _, _, _, _] rfl rfl rfl) ?_
     refine XT.q rfl rfl (Q.move rfl) ?_
     refine XT.lit [_] [_] [f + ((i : Int) + 1) * w - 1] encI rfl rfl (by rfl) (by rfl) rfl (by rfl) (by exact .c 0 1 rfl rfl rfl (.n _)) (fun _ => rfl) (by rfl) rfl (by infer_instance) rfl (fun v87 h87 O87 => ⟨inferInstance, ?_⟩) ?_
     ·skip
      refine XT.call rfl rfl Tryz.call18 rfl rfl rfl (pumpedT ca cb wlo whi jlo jhi (ps.getD u default)) (fun v90 s90 R90 => ?_) XT.stop
      obtain ⟨rfl, rfl⟩ := R90
      dsimp only [lcA, lnA]
      refine ⟨inferInstance, ?_⟩
      refine XT.q rfl rfl (Q.fieldA 31 3 rfl rfl rfl) ?_
      refine XT.call rfl rfl Tryz.call16 rfl rfl rfl (Ht.Next_spec h vr vw vb vc kr kw kb kc [f + ((i : Int) + 1) * w - 1] v87 h87 (pumpC cb (ps.getD u default)) whi jhi) (fun v92 s92 R92 => ?_) XT.stop
      obtain ⟨x92, y92, rfl, rfl, X92⟩ := R92
      dsimp only [lcA, lnA]
      refine ⟨inferInstance, ?_⟩
      have hN92 : nextG h [f + ((i : Int) + 1) * w - 1] (pumpC cb (ps.getD u default)) = (nextL h [f + ((i : Int) + 1) * w - 1] (pumpC cb (ps.getD u default)), 0) := Ht.next_fine hc (one _ (by omega)) (q2.cok)
      rw [hN92] at X92 ⊢
      dsimp only at X92 ⊢
      refine XT.q rfl rfl (Q.move rfl) ?_
      refine XT.q rfl rfl (Q.extract rfl rfl) ?_
      refine XT.q rfl rfl (Q.extract rfl rfl) ?_
      refine XT.q rfl rfl (Q.assign rfl) ?_
      refine XT.q rfl rfl (Q.assign rfl) ?_
      refine XT.done ?_
      exact mtr11 ((x92, y92)) _ _ X92 (.c rfl (.c rfl (.base 13 rfl rfl))) inferInstance
     ·skip
      refine XT.call rfl rfl Tryz.call18 rfl rfl rfl (pumpedT ca cb wlo whi jlo jhi (ps.getD u default)) (fun v90 s90 R90 => ?_) XT.stop
      obtain ⟨rfl, rfl⟩ := R90
      dsimp only [lcA, lnA]
      refine ⟨inferInstance, ?_⟩
      refine XT.q rfl rfl (Q.fieldA 31 3 rfl rfl rfl) ?_
      refine XT.lit [_] [_] [f + ((i : Int) + 1) * w - 1] encI rfl rfl (by rfl) (by rfl) rfl (by rfl) (by exact .c 0 1 rfl rfl rfl (.n _)) (fun _ => rfl) (by rfl) rfl (by infer_instance) rfl (fun v87 h87 O87 => ⟨inferInstance, ?_⟩) XT.stop
      refine XT.call rfl rfl Tryz.call16 rfl rfl rfl (Ht.Next_spec h vr vw vb vc kr kw kb kc [f + ((i : Int) + 1) * w - 1] v87 h87 (pumpC cb (ps.getD u default)) whi jhi) (fun v92 s92 R92 => ?_) XT.stop
      obtain ⟨x92, y92, rfl, rfl, X92⟩ := R92
      dsimp only [lcA, lnA]
      refine ⟨inferInstance, ?_⟩
      have hN92 : nextG h [f + ((i : Int) + 1) * w - 1] (pumpC cb (ps.getD u default)) = (nextL h [f + ((i : Int) + 1) * w - 1] (pumpC cb (ps.getD u default)), 0) := Ht.next_fine hc (one _ (by omega)) (q2.cok)
      rw [hN92] at X92 ⊢
      dsimp only at X92 ⊢
      refine XT.q rfl rfl (Q.move rfl) ?_
      refine XT.q rfl rfl (Q.extract rfl rfl) ?_
      refine XT.q rfl rfl (Q.extract rfl rfl) ?_
      refine XT.q rfl rfl (Q.assign rfl) ?_
      refine XT.q rfl rfl (Q.assign rfl) ?_
      refine XT.done ?_
      exact mtr11 ((x92, y92)) _ _ X92 (.c rfl (.c rfl (.base 13 rfl rfl))) inferInstance
   ·intro mtr10
    dsimp only [lcA, lnA] at mtr10
    refine XK.drawn [0, 1, 3, 4, 6, 8, 9, 10, 11, 12] [b6, b7] [] (.q 0 (.q 1 (.q 3 (.q 4 (.br 2 true (.br 5 true (.q 6 (.br 7 true (.q 8 (.q 9 (.q 10 (.q 11 (.q 12 .done))))) .stop)) .stop) (.br 5 true (.q 6 (.br 2 true (.br 7 true (.q 8 (.q 9 (.q 10 (.q 11 (.q 12 .done))))) .stop) .stop)) .stop)))))) Tryz.mixed rfl (by kernel_rfl) ?_
    refine XT.q rfl rfl (Q.ldA [_, _, _, _] rfl rfl rfl) ?_
    refine XT.q rfl rfl (Q.move rfl) ?_
    refine XT.q rfl rfl (Q.ldA [_, _, _, _, _, _] rfl rfl rfl) ?_
    refine XT.q rfl rfl (Q.move rfl) ?_
    refine XT.lit [_] [_] [f + (i : Int) * w] encI rfl rfl (by rfl) (by rfl) rfl (by rfl) (by exact .c 0 1 rfl rfl rfl (.n _)) (fun _ => rfl) (by rfl) rfl (by infer_instance) rfl (fun v76 h76 O76 => ⟨inferInstance, ?_⟩) ?_
    ·skip
     refine XT.call rfl rfl Tryz.call18 rfl rfl rfl (pumpedT ca cb wlo whi jlo jhi (ps.getD u default)) (fun v79 s79 R79 => ?_) XT.stop
     obtain ⟨rfl, rfl⟩ := R79
     dsimp only [lcA, lnA]
     refine ⟨inferInstance, ?_⟩
     refine XT.q rfl rfl (Q.fieldA 31 0 rfl rfl rfl) ?_
     refine XT.call rfl rfl Tryz.call16 rfl rfl rfl (Ht.Next_spec h vr vw vb vc kr kw kb kc [f + (i : Int) * w] v76 h76 (pumpC ca (ps.getD u default)) wlo jlo) (fun v81 s81 R81 => ?_) XT.stop
     obtain ⟨x81, y81, rfl, rfl, X81⟩ := R81
     dsimp only [lcA, lnA]
     refine ⟨inferInstance, ?_⟩
     have hN81 : nextG h [f + (i : Int) * w] (pumpC ca (ps.getD u default)) = (nextL h [f + (i : Int) * w] (pumpC ca (ps.getD u default)), 0) := Ht.next_fine hc (one _ (by omega)) (q1.cok)
     rw [hN81] at X81 ⊢
     dsimp only at X81 ⊢
     refine XT.q rfl rfl (Q.move rfl) ?_
     refine XT.q rfl rfl (Q.extract rfl rfl) ?_
     refine XT.q rfl rfl (Q.extract rfl rfl) ?_
     refine XT.q rfl rfl (Q.assign rfl) ?_
     refine XT.q rfl rfl (Q.assign rfl) ?_
     refine XT.done ?_
     exact mtr10 ((x81, y81)) _ _ X81 (.c rfl (.c rfl (.base 13 rfl rfl))) inferInstance
    ·skip
     refine XT.call rfl rfl Tryz.call18 rfl rfl rfl (pumpedT ca cb wlo whi jlo jhi (ps.getD u default)) (fun v79 s79 R79 => ?_) XT.stop
     obtain ⟨rfl, rfl⟩ := R79
     dsimp only [lcA, lnA]
     refine ⟨inferInstance, ?_⟩
     refine XT.q rfl rfl (Q.fieldA 31 0 rfl rfl rfl) ?_
     refine XT.lit [_] [_] [f + (i : Int) * w] encI rfl rfl (by rfl) (by rfl) rfl (by rfl) (by exact .c 0 1 rfl rfl rfl (.n _)) (fun _ => rfl) (by rfl) rfl (by infer_instance) rfl (fun v76 h76 O76 => ⟨inferInstance, ?_⟩) XT.stop
     refine XT.call rfl rfl Tryz.call16 rfl rfl rfl (Ht.Next_spec h vr vw vb vc kr kw kb kc [f + (i : Int) * w] v76 h76 (pumpC ca (ps.getD u default)) wlo jlo) (fun v81 s81 R81 => ?_) XT.stop
     obtain ⟨x81, y81, rfl, rfl, X81⟩ := R81
     dsimp only [lcA, lnA]
     refine ⟨inferInstance, ?_⟩
     have hN81 : nextG h [f + (i : Int) * w] (pumpC ca (ps.getD u default)) = (nextL h [f + (i : Int) * w] (pumpC ca (ps.getD u default)), 0) := Ht.next_fine hc (one _ (by omega)) (q1.cok)
     rw [hN81] at X81 ⊢
     dsimp only at X81 ⊢
     refine XT.q rfl rfl (Q.move rfl) ?_
     refine XT.q rfl rfl (Q.extract rfl rfl) ?_
     refine XT.q rfl rfl (Q.extract rfl rfl) ?_
     refine XT.q rfl rfl (Q.assign rfl) ?_
     refine XT.q rfl rfl (Q.assign rfl) ?_
     refine XT.done ?_
     exact mtr10 ((x81, y81)) _ _ X81 (.c rfl (.c rfl (.base 13 rfl rfl))) inferInstance
  ·skip
   have hu3 : u = 3 := by omega
   refine XK.exit rfl ?_
   refine XK.inBlock ?_
   refine XK.region rfl ?_
   refine XO.q (Q.add rfl rfl ⟨by omega, by omega⟩) ?_
   refine XO.q (Q.move rfl) (XO.done ?_)
   exact ih0 (i + 1, v, k, nx, v64, h64, _) _ _ ⟨by dsimp only; omega, by subst hu3; exact hnx, ON, hgd.snoc rfl, O64⟩ (by first | omega | (dsimp only; omega)) (.c rfl (.base 260 rfl rfl)) inferInstance
 ·skip
  refine XK.exit rfl ?_
  refine XK.seq (XK.region rfl ?_)
  refine XO.q (Q.ldA [_, _, _, _, _, _, _, _, _] rfl rfl rfl) ?_
  refine XO.st rfl rfl rfl ?_
  refine XO.q (Q.assign rfl) (XO.done ?_)
  refine XK.rt [k, kg] Tryz.func11 Tryz.results11 (.cell [_, _, _, _, _, _, _, _, _] rfl rfl rfl (.t rfl .n)) ?_
  obtain rfl : i = n := by omega
  exact ⟨v, vg, k, kg, nx, gd, rfl, rfl, ON, OG, hnx, hgd⟩
end Go.X

set_option linter.unusedSimpArgs false
set_option linter.unusedVariables false
set_option maxRecDepth 20000
namespace Go.X
open Go.Proofs
theorem solve_mk {n : Nat} {nxt : List Int} {gd : List Bool} (ok : Ke.Ok n 3 3 nxt gd) : Ke.solveG (Ke.mkG n 3 3 nxt gd) = Ke.solved n 3 3 nxt gd := by
 unfold Ke.solveG
 rw [if_neg (by rw [Ke.gcheck_mk ok]; simp)]
 rfl
set_option maxHeartbeats 8000000 in
set_option synthInstance.maxSize 1000 in
set_option synthInstance.maxHeartbeats 400000 in
theorem TopCooled_spec (v0 : Value) (h0 : PHeap) (x0 : List UInt8) [i0 : Arr v0 encU8 1 h0 x0] (v1 : Value) (h1 : PHeap) (x1 : List UInt8) [i1 : Arr v1 encU8 1 h1 x1] (v2 : Value) (h2 : PHeap) (x2 : List UInt8) [i2 : Arr v2 encU8 1 h2 x2] (n3 : Nat) (hn3 : n3 < 256) : Spec Tryz.prog 3 #[v0, v1, v2, .int .u8 (n3 : Nat)] [] [h0, h1, h2] (fun v hs => v = .bool true ∧ hs = []) := by
 have nI : OArr (.slice none 0 0) encI 1 3 emp ([] : List Int) := OArr.nil (fun _ => rfl)
 refine Spec.intro (fn := Tryz.f3) (N := 194) Tryz.func3 rfl Tryz.ntmps3 rfl fun B => ?_
 refine XK.seq (XK.region rfl (XO.q (Q.assign rfl) (XO.done (XK.seq (XK.region rfl ?_)))))
 refine XO.q (Q.move rfl) ?_
 refine XO.call Tryz.call9 rfl rfl rfl (roomT v0 h0 x0) fun v28 s28 R28 => ?_
 obtain ⟨h, vr, vw, vb, vc, wlo, whi, kr, kw, kb, kc, jlo, jhi, ca, cb, rfl, rfl, ⟨Or, Ow, Ob, Oc⟩, hc, hr, Olo, Ohi, qa, qb, lab⟩ := R28
 dsimp only [lcA, lnA]
 have ok := hcheck_ok hc
 refine XO.q (Q.move rfl) ?_
 refine XO.q (Q.extract rfl rfl) ?_
 refine XO.q (Q.extract rfl rfl) ?_
 refine XO.alloc fun b9 => ?_
 refine XO.alloc fun b10 => ?_
 refine XO.st rfl rfl rfl ?_
 refine XO.st rfl rfl rfl ?_
 refine XO.done (XK.seq (XK.region rfl (XO.q (Q.move rfl) ?_)))
 refine XO.q (Q.build [_, _] (.c 0 1 rfl rfl rfl (.n _))) ?_
 refine XO.box rfl fun b33 => ?_
 refine XO.q (Q.assign rfl) (XO.done (XK.seq (XK.region rfl (XO.q (Q.move rfl) ?_))))
 refine XO.callB b33 Tryz.call10 rfl rfl rfl (nextT b33 v1 h1 x1 (0) (256) (by omega) (by omega) (by omega)) fun v35 s35 R35 => ?_
 obtain ⟨rfl, n35, rfl, h35⟩ := R35
 dsimp only [lcA, lnA]
 refine XO.q (Q.mul rfl rfl ⟨by omega, by omega⟩) ?_
 refine XO.q (Q.add rfl rfl ⟨by omega, by omega⟩) ?_
 obtain ⟨w, ew⟩ : ∃ w : Int, w = 200 + 20 * (n35 : Nat) := ⟨_, rfl⟩
 rw [← ew]
 have hw : 200 ≤ w ∧ w ≤ 5300 := by omega
 refine XO.q (Q.assign rfl) (XO.done (XK.seq (XK.region rfl (XO.q (Q.move rfl) ?_))))
 refine XO.callB b33 Tryz.call10 rfl rfl rfl (nextT b33 v1 h1 x1 (1) (256) (by omega) (by omega) (by omega)) fun v39 s39 R39 => ?_
 obtain ⟨rfl, n39, rfl, h39⟩ := R39
 dsimp only [lcA, lnA]
 refine XO.q (Q.move rfl) ?_
 refine XO.callB b33 Tryz.call10 rfl rfl rfl (nextT b33 v1 h1 x1 (2) (256) (by omega) (by omega) (by omega)) fun v41 s41 R41 => ?_
 obtain ⟨rfl, n41, rfl, h41⟩ := R41
 dsimp only [lcA, lnA]
 refine XO.q (Q.mul rfl rfl ⟨by omega, by omega⟩) ?_
 refine XO.q (Q.move rfl) ?_
 refine XO.callB b33 Tryz.call10 rfl rfl rfl (nextT b33 v1 h1 x1 (3) (256) (by omega) (by omega) (by omega)) fun v44 s44 R44 => ?_
 obtain ⟨rfl, n44, rfl, h44⟩ := R44
 dsimp only [lcA, lnA]
 refine XO.q (Q.mul rfl rfl ⟨by omega, by omega⟩) ?_
 refine XO.q (Q.add rfl rfl ⟨by omega, by omega⟩) ?_
 refine XO.lit [_, _, _] [_, _, _] [((n39 : Nat) : Int), 2 * (n41 : Nat), 1000 + 200 * (n44 : Nat)] encI (by rfl) (by rfl) rfl (by rfl) (by exact .c 0 1 rfl rfl rfl (.c 1 1 rfl rfl rfl (.c 2 1 rfl rfl rfl (.n _)))) (fun _ => rfl) (by rfl) rfl (by infer_instance) rfl fun v47 h47 O47 => ?_
 obtain ⟨ps, eps⟩ : ∃ ps : List Int, ps = [((n39 : Nat) : Int), 2 * (n41 : Nat), 1000 + 200 * (n44 : Nat)] := ⟨_, rfl⟩
 rw [← eps] at O47
 have hp : ps.length = 3 := by rw [eps]; rfl
 have hpr : ∀ u, u < 3 → 0 ≤ ps.getD u 0 ∧ ps.getD u 0 ≤ 100000 := fun u hu => by
  rw [eps]
  match u, hu with
  | 0, _ => show 0 ≤ ((n39 : Nat) : Int) ∧ ((n39 : Nat) : Int) ≤ 100000; omega
  | 1, _ => show 0 ≤ 2 * ((n41 : Nat) : Int) ∧ 2 * ((n41 : Nat) : Int) ≤ 100000; omega
  | 2, _ => show 0 ≤ 1000 + 200 * ((n44 : Nat) : Int) ∧ 1000 + 200 * ((n44 : Nat) : Int) ≤ 100000; omega
 clear eps
 refine XO.q (Q.assign rfl) (XO.done (XK.seq ?_))
 refine XK.meet (X := Int × Nat × Value × Value × PHeap × PHeap × List Int × List Bool × Nat) [14, 15, 48, 49, 50, 51, 52, 53, 54, 55, 56, 57, 58, 59, 60, 61, 62] (fun ⟨f, n, vn, vg, kn, kg, nxt, gd, b14⟩ => [(14, some (ptr b14 0)), (15, some (.bool true))]) (fun ⟨f, n, vn, vg, kn, kg, nxt, gd, b14⟩ => [blk b14 [.int .i64 (n : Nat), .int .i64 3, .int .i64 3, vn, vg, .int .i64 f, .int .i64 w, .int .i64 (n : Nat), v47] 44, kn, kg, blk b33 [v1, .int .i64 ((6 : Nat) : Int)] 38]) (fun ⟨f, n, vn, vg, kn, kg, nxt, gd, b14⟩ => ((14000 ≤ f ∧ f ≤ 16550) ∧ 2 ≤ n ∧ n ≤ 60) ∧ OArr vn encI 1 3 kn nxt ∧ OArr vg encB 1 4 kg gd ∧ StageOk h ca cb f w n ps nxt gd) [blk b33 [v1, .int .i64 ((4 : Nat) : Int)] 38] ?_ ?_
 ·rintro ⟨f, n, vn, vg, kn, kg, nxt, gd, b14⟩ ⟨⟨hf, hn, hn2⟩, ON, OG, so⟩
  dsimp only [lcA, lnA]
  have hwn : w * (n : Int) ≤ 5300 * 60 := Int.mul_le_mul hw.2 (by omega) (by omega) (by omega)
  refine XK.seq (XK.seq (XK.region rfl (XO.q (Q.move rfl) ?_)))
  refine XO.q (Q.not rfl) ?_
  refine XO.done ?_
  refine XK.if rfl (fun c0 => ?_) (fun c0 => ?_)
  ·skip
   simp at c0
  ·skip
   refine XK.skip (XK.seq (XK.region rfl ?_))
   refine XO.q (Q.fieldAddr rfl) ?_
   refine XO.q (Q.ldA [_, _, _, _, _] rfl rfl rfl) ?_
   refine XO.call Tryz.call12 rfl rfl rfl (Ke.Solve_spec (Ke.mkG n 3 3 nxt gd) vn vg kn kg) fun v68 s68 R68 => ?_
   obtain ⟨p1, p2, p3, q1, q2, q3, rfl, rfl, P1, P2, P3⟩ := R68
   dsimp only [lcA, lnA]
   have kok : Ke.Ok n 3 3 nxt gd := so.ok (by omega) (by omega) (by omega)
   rw [solve_mk kok] at P1 P2 P3
   rw [Ke.gcheck_mk kok]
   have sv := Ke.solved_verify kok
   have sr := Ke.solved_right kok
   generalize (Ke.solved n 3 3 nxt gd) = R at P1 P2 P3 sv sr
   obtain ⟨ins, ctl, rnk⟩ := R
   dsimp only at P1 P2 P3 sv sr
   obtain ⟨li, lc, lr, sr⟩ := sr
   refine XO.q (Q.move rfl) ?_
   refine XO.q (Q.extract rfl rfl) ?_
   refine XO.q (Q.extract rfl rfl) ?_
   refine XO.alloc fun b16 => ?_
   refine XO.st rfl rfl rfl ?_
   refine XO.q (Q.assign rfl) (XO.done (XK.seq (XK.seq (XK.region rfl (XO.q (Q.move rfl) ?_)))))
   refine XO.q (Q.neq rfl rfl) ?_
   first | rw [decide_eq_false (show ¬ (0 : Int) ≠ (0 : Int) from fun h => h rfl)] | skip
   refine XO.q (Q.move rfl) ?_
   refine XO.q (Quiet.guardF rfl rfl fun g74 p74 => Q.fieldAddr rfl) ?_
   refine XO.q (Quiet.guardF rfl rfl fun g75 p75 => Q.ldA [_, _, _, _, _] (lzv rfl rfl) rfl rfl) ?_
   refine XO.q (Quiet.guardF rfl rfl fun g76 p76 => Q.ldA [_, _, _] rfl rfl rfl) ?_
   refine XO.callS rfl rfl rfl Tryz.call13 rfl (.c (lzv rfl rfl) (.c (lzv rfl rfl) .n)) rfl (Ke.Verify_spec (Ke.mkG n 3 3 nxt gd) vn vg kn kg p1 p2 p3 q1 q2 q3 ins ctl rnk) fun v77 s77 R77 => ?_
   obtain ⟨rfl, rfl⟩ := R77
   dsimp only [lcA, lnA]
   rw [sv]
   refine XO.q (Quiet.guardF rfl rfl fun g78 p78 => Q.neq rfl rfl) ?_
   first | rw [decide_eq_false (show ¬ (0 : Int) ≠ (0 : Int) from fun h => h rfl)] | skip
   refine XO.q (Q.or rfl (fun hp => lzv hp rfl)) ?_
   refine XO.q (Q.move rfl) ?_
   refine XO.q (Quiet.guardF rfl rfl fun g81 p81 => Q.fieldAddr rfl) ?_
   refine XO.q (Quiet.guardF rfl rfl fun g82 p82 => Q.ld (lzv rfl rfl) rfl) ?_
   refine XO.q (Quiet.guardF rfl rfl fun g83 p83 => Q.len (lzv rfl rfl)) ?_
   refine XO.q (Quiet.guardF rfl rfl fun g84 p84 => Q.fieldAddr rfl) ?_
   refine XO.q (Quiet.guardF rfl rfl fun g85 p85 => Q.fieldAddr (lzv rfl rfl)) ?_
   refine XO.q (Quiet.guardF rfl rfl fun g86 p86 => Q.ld (lzv rfl rfl) rfl) ?_
   refine XO.q (Quiet.guardF rfl rfl fun g87 p87 => Q.neq (lzv rfl rfl) (lzv rfl rfl)) ?_
   rw [li]
   first | rw [decide_eq_false (show ¬ ((n : Nat) : Int) ≠ ((n : Nat) : Int) from fun h => h rfl)] | skip
   refine XO.q (Q.or rfl (fun hp => lzv hp rfl)) ?_
   refine XO.q (Q.move rfl) ?_
   refine XO.q (Quiet.guardF rfl rfl fun g90 p90 => Q.fieldAddr rfl) ?_
   refine XO.q (Quiet.guardF rfl rfl fun g91 p91 => Q.ld (lzv rfl rfl) rfl) ?_
   refine XO.q (Quiet.guardF rfl rfl fun g92 p92 => Q.len (lzv rfl rfl)) ?_
   refine XO.q (Quiet.guardF rfl rfl fun g93 p93 => Q.fieldAddr rfl) ?_
   refine XO.q (Quiet.guardF rfl rfl fun g94 p94 => Q.fieldAddr (lzv rfl rfl)) ?_
   refine XO.q (Quiet.guardF rfl rfl fun g95 p95 => Q.ld (lzv rfl rfl) rfl) ?_
   refine XO.q (Quiet.guardF rfl rfl fun g96 p96 => Q.neq (lzv rfl rfl) (lzv rfl rfl)) ?_
   rw [lc]
   first | rw [decide_eq_false (show ¬ ((n : Nat) : Int) ≠ ((n : Nat) : Int) from fun h => h rfl)] | skip
   refine XO.q (Q.or rfl (fun hp => lzv hp rfl)) ?_
   refine XO.done ?_
   refine XK.if rfl (fun c1 => ?_) (fun c1 => ?_)
   ·skip
    simp at c1
   ·skip
    refine XK.skip (XK.seq (XK.region rfl (XO.q (Q.assign rfl) (XO.done (XK.seq ?_)))))
    refine XK.seq (XK.region rfl ?_)
    refine XO.q (Q.fieldAddr rfl) ?_
    refine XO.q (Q.ld rfl rfl) ?_
    refine XO.len rfl fun l100 => ?_
    refine XO.q (Q.move rfl) (XO.done (XK.block ?_))
    refine XK.while (X := Nat × Value × PHeap × List Int) [18, 19, 20, 101, 102, 103, 104, 105, 106, 107, 108, 109, 110, 111] (fun ⟨i, vs, ks, sf⟩ => [(101, some (.int .i64 (i : Nat))), (18, some (vs))]) (fun ⟨i, vs, ks, sf⟩ => [ks]) (fun ⟨i, vs, ks, sf⟩ => i ≤ ins.length ∧ sf.length ≤ i ∧ OArr vs encI 1 3 ks sf ∧ ∀ x ∈ sf, ∃ j : Nat, x = (j : Nat) ∧ Ke.inS ins j ∧ j < n) (fun ⟨i, vs, ks, sf⟩ => ins.length - i) (0, .slice none 0 0, emp, []) [emp] rfl ⟨by omega, by simp, nI, fun x hx => by cases hx⟩ (.c rfl (.c rfl (.base 0 rfl rfl))) ?_
    rintro ⟨i, vs, ks, sf⟩ ⟨hi, hsl0, OS, hsf⟩ ih0
    dsimp only [lcA, lnA] at ih0 ⊢
    refine XK.seq (XK.region rfl ?_)
    refine XO.q (Q.lss rfl rfl) ?_
    refine XO.done (XK.seq ?_)
    refine XK.if rfl (fun c2 => ?_) (fun c2 => ?_)
    ·skip
     refine XK.skip (XK.seq (XK.block (XK.seq (XK.region rfl (XO.q (Q.move rfl) ?_)))))
     refine XO.ix rfl rfl (by omega) (by omega) fun i104 => ?_
     refine XO.q (Q.ldE rfl (by first | assumption | omega) rfl) ?_
     refine XO.q (Q.assign rfl) (XO.q (Q.assign rfl) (XO.done (XK.seq (XK.region rfl (XO.q (Q.move rfl) ?_)))))
     refine XO.done ?_
     refine XK.if rfl (fun c3 => ?_) (fun c3 => ?_)
     ·skip
      refine XK.region rfl (XO.q (Q.move rfl) (XO.q (Q.move rfl) ?_))
      refine XO.lit [_] [_] [((i : Nat) : Int)] encI (by rfl) (by rfl) rfl (by rfl) (by exact .c 0 1 rfl rfl rfl (.n _)) (fun _ => rfl) (by rfl) rfl (by infer_instance) rfl fun v109 h109 O109 => ?_
      refine XO.append rfl rfl rfl rfl (by simp only [List.length_cons, List.length_nil]; omega) fun v110 h110 O110 => ?_
      refine XO.q (Q.assign rfl) (XO.done ?_)
      refine XK.inBlock ?_
      refine XK.region rfl ?_
      refine XO.q (Q.add rfl rfl ⟨by omega, by omega⟩) ?_
      refine XO.q (Q.move rfl) (XO.done ?_)
      exact ih0 (i + 1, v110, h110, _) _ _ ⟨by dsimp only; omega, by dsimp only; rw [List.length_append]; simp only [List.length_cons, List.length_nil]; omega, O110, fun x hx => by
        rcases List.mem_append.1 hx with hx | hx
        ·exact hsf x hx
        ·rw [List.mem_singleton] at hx
         exact ⟨i, hx, c3, by omega⟩⟩ (by first | omega | (dsimp only; omega)) (.c rfl (.c rfl (.base 30 rfl rfl))) inferInstance
     ·skip
      refine XK.skip ?_
      refine XK.inBlock ?_
      refine XK.region rfl ?_
      refine XO.q (Q.add rfl rfl ⟨by omega, by omega⟩) ?_
      refine XO.q (Q.move rfl) (XO.done ?_)
      exact ih0 (i + 1, vs, ks, sf) _ _ ⟨by dsimp only; omega, by dsimp only; omega, OS, hsf⟩ (by first | omega | (dsimp only; omega)) (.c rfl (.c rfl (.base 25 rfl rfl))) inferInstance
    ·skip
     refine XK.exit rfl ?_
     refine XK.seq (XK.seq (XK.region rfl (XO.q (Q.move rfl) ?_)))
     refine XO.len rfl fun l113 => ?_
     refine XO.q (Q.eql rfl rfl) ?_
     refine XO.done ?_
     refine XK.if rfl (fun c4 => ?_) (fun c4 => ?_)
     ·skip
      refine XK.seq (XK.region rfl ?_)
      refine XO.call Tryz.call14 rfl rfl rfl (there_spec) fun v115 s115 R115 => ?_
      obtain ⟨rfl, rfl⟩ := R115
      dsimp only [lcA, lnA]
      refine XO.q (Q.assign rfl) (XO.done ?_)
      refine XK.rt [] Tryz.func3 Tryz.results3 (.t rfl .n) ?_
      exact ⟨by simp, rfl⟩
     ·skip
      have hsl : 0 < sf.length := by omega
      refine XK.skip (XK.seq (XK.region rfl (XO.q (Q.move rfl) ?_)))
      refine XO.q (Q.build [_, _] (.c 0 1 rfl rfl rfl (.n _))) ?_
      refine XO.box rfl fun b118 => ?_
      refine XO.q (Q.assign rfl) (XO.done (XK.seq ?_))
      refine XK.drawn [0, 1, 2, 3, 4, 5, 6, 7, 8, 9, 10, 11, 12, 13, 15, 16, 17, 18, 19, 20] [b14] [ks] (.q 0 (.q 1 (.q 2 (.q 3 (.q 4 (.q 5 (.q 6 (.q 7 (.q 8 (.q 9 (.q 10 (.q 11 (.q 12 (.q 13 (.q 15 (.q 16 (.br 14 true (.q 17 (.q 18 (.q 19 (.q 20 .done)))) .stop))))))))))))))))) Tryz.mixed rfl (by kernel_rfl) ?_
      refine XT.q rfl rfl (Q.fieldAddr rfl) ?_
      refine XT.q rfl rfl (Q.ld rfl rfl) ?_
      refine XT.q rfl rfl (Q.move rfl) ?_
      refine XT.q rfl rfl (Q.move rfl) ?_
      refine XT.q rfl rfl (Q.conv rfl) ?_
      rw [wrap64_of ⟨by omega, by omega⟩]
      refine XT.q rfl rfl (Q.move rfl) ?_
      refine XT.q rfl rfl (Q.len rfl) ?_
      refine XT.q rfl rfl (Q.rem rfl rfl (by omega) (by omega)) ?_
      rw [show ((n3 : Nat) : Int) % ((sf.length : Nat) : Int) = ((n3 % sf.length : Nat) : Int) from rfl]
      have hmod := Nat.mod_lt n3 hsl
      obtain ⟨ia, eia⟩ : ∃ ia, ia = n3 % sf.length := ⟨_, rfl⟩
      rw [← eia] at hmod ⊢
      refine XT.ix rfl rfl rfl rfl (by omega) (by omega) fun i127 => ?_
      refine XT.q rfl rfl (Q.ldE rfl (by first | assumption | omega) rfl) ?_
      obtain ⟨j0, ej, inj, ltj⟩ := hsf _ (getD_mem hmod)
      rw [ej]
      have z1 : (0 : Int) ≤ (j0 : Int) * w := Int.mul_nonneg (by omega) (by omega)
      have z2 : ((j0 : Int) + 1) * w ≤ (n : Int) * w := Int.mul_le_mul_of_nonneg_right (by omega) (by omega)
      rw [Int.mul_comm (n : Int)] at z2
      have z3 : ((j0 : Int) + 1) * w = (j0 : Int) * w + w := by rw [Int.add_mul, Int.one_mul]
      refine XT.q rfl rfl (Q.move rfl) ?_
      refine XT.q rfl rfl (Q.mul rfl rfl ⟨by omega, by omega⟩) ?_
      refine XT.q rfl rfl (Q.add rfl rfl ⟨by omega, by omega⟩) ?_
      refine XT.q rfl rfl (Q.move rfl) ?_
      refine XT.q rfl rfl (Q.move rfl) ?_
      refine XT.q rfl rfl (Q.sub rfl rfl ⟨by omega, by omega⟩) ?_
      refine XT.callB b118 rfl rfl Tryz.call10 rfl rfl rfl (nextT b118 v2 h2 x2 (0) (256) (by omega) (by omega) (by omega)) (fun v133 s133 R133 => ?_) XT.stop
      obtain ⟨rfl, n133, rfl, h133⟩ := R133
      dsimp only [lcA, lnA]
      refine ⟨inferInstance, ?_⟩
      have y1 : 0 ≤ ((n133 : Nat) : Int) * (w - 1) ∧ ((n133 : Nat) : Int) * (w - 1) ≤ 255 * (w - 1) := ⟨Int.mul_nonneg (by omega) (by omega), Int.mul_le_mul_of_nonneg_right (by omega) (by omega)⟩
      refine XT.q rfl rfl (Q.mul rfl rfl ⟨by omega, by omega⟩) ?_
      refine XT.q rfl rfl (Q.quo rfl rfl (by omega) (by omega) (by omega)) ?_
      refine XT.q rfl rfl (Q.add rfl rfl ⟨by omega, by omega⟩) ?_
      refine XT.q rfl rfl (Q.assign rfl) ?_
      refine XT.done ?_
      refine XK.seq (XK.seq (XK.region rfl (XO.q (Q.move rfl) (XO.done (XK.block ?_)))))
      have hcell0 : cellP f w n (f + (j0 : Int) * w + ((n133 : Nat) : Int) * (w - 1) / 255) = (j0 : Nat) := cell_of (by omega) (by omega) (by omega) (by omega)
      have one : ∀ y : Int, 0 ≤ y ∧ y ≤ 1000000 → TOk h [y] := fun y hy => ⟨by rw [hr]; rfl, fun k hk => by
       obtain rfl : k = 0 := by simpa using hk
       exact hy⟩
      refine XK.while (X := Nat × Int × Nat) [8, 22, 23, 24, 25, 139, 140, 141, 142, 143, 144, 145, 146, 147, 148, 149, 150, 151, 152, 153, 154, 155, 156, 157, 158, 159, 160, 161, 162, 163, 164, 165, 166, 167, 168, 169, 170, 171, 172, 173, 174, 175, 176, 177, 178, 179, 180, 181, 182, 183, 184, 185, 186, 187, 188, 189, 190, 191, 192] (fun ⟨k, now, q⟩ => [(139, some (.int .i64 (k : Nat))), (22, some (.int .i64 now))]) (fun ⟨k, now, q⟩ => [blk b118 [v2, .int .i64 ((q : Nat) : Int)] 38]) (fun ⟨k, now, q⟩ => k ≤ 40 ∧ q ≤ 1 + 3 * k ∧ (0 ≤ now ∧ now ≤ 1000000) ∧ ∃ j : Nat, cellP f w n now = (j : Nat) ∧ Ke.inS ins j ∧ j < n) (fun ⟨k, now, q⟩ => 40 - k) (0, _, 1) [blk b118 [v2, .int .i64 ((1 : Nat) : Int)] 38] rfl ⟨by omega, by omega, by omega, j0, hcell0, inj, ltj⟩ (.c rfl (.c rfl (.base 0 rfl rfl))) ?_
      rintro ⟨k, now, q⟩ ⟨hk, hq, hnow, hcell⟩ ih1
      dsimp only [lcA, lnA] at ih1 ⊢
      refine XK.seq (XK.region rfl ?_)
      refine XO.q (Q.lss rfl rfl) ?_
      refine XO.done (XK.seq ?_)
      refine XK.if rfl (fun c5 => ?_) (fun c5 => ?_)
      ·skip
       obtain ⟨j, hj, inj, ltj⟩ := hcell
       obtain ⟨_, gj, _, u, hu, cu, kp⟩ := (sr j ltj).resolve_right (fun hx => hx.1 inj)
       obtain ⟨c1, c2, c3⟩ := cell_in (by omega) hj
       have nl : ¬ (h.rooms.getD 0 default).limit < now := by
        have g2 := so.gd.2 j ltj
        unfold Ke.inS at gj
        rw [gj] at g2
        have := of_decide_eq_true g2.symm
        omega
       have qp1 := qa.pump (hpr u hu)
       have qp2 := qb.pump (hpr u hu)
       have lap : Ht.LeC (pumpC ca (ps.getD u 0)) (pumpC cb (ps.getD u 0)) := ⟨lab.load, lab.out, Int.le_refl _⟩
       have tnow := one now hnow
       refine XK.skip (XK.seq (XK.block (XK.seq (XK.region rfl ?_))))
       refine XO.q (Q.ldA [_, _, _, _, _, _, _, _, _] rfl rfl rfl) ?_
       refine XO.q (Q.move rfl) ?_
       refine XO.call Tryz.call15 rfl rfl rfl (cellT vn vg v47 n f w now (by omega) (by omega) (by omega) (by omega) hnow) fun v143 s143 R143 => ?_
       obtain ⟨rfl, rfl⟩ := R143
       dsimp only [lcA, lnA]
       rw [hj]
       refine XO.q (Q.assign rfl) (XO.done (XK.seq (XK.seq (XK.region rfl (XO.q (Q.move rfl) ?_)))))
       refine XO.q (Q.lss rfl rfl) ?_
       rw [decide_eq_false (show ¬ ((j : Nat) : Int) < 0 by omega)]
       refine XO.q (Q.move rfl) ?_
       refine XO.q (Quiet.guardF rfl rfl fun g147 p147 => Q.fieldAddr rfl) ?_
       refine XO.q (Quiet.guardF rfl rfl fun g148 p148 => Q.ld (lzv rfl rfl) rfl) ?_
       refine XO.q (Quiet.guardF rfl rfl fun g149 p149 => Q.move rfl) ?_
       refine XO.q (Quiet.guardF rfl rfl fun g150 p150 => Q.ix (lzv rfl rfl) (lzv rfl rfl) (by omega) (by omega)) ?_
       refine XO.q (Quiet.guardF rfl rfl fun g151 p151 => Q.ldE (lzv rfl rfl) (by first | assumption | omega) rfl) ?_
       rw [show ins.getD j default = true from inj]
       refine XO.q (Quiet.guardF rfl rfl fun g152 p152 => Q.not (lzv rfl rfl)) ?_
       refine XO.q (Q.or rfl (fun hp => lzv hp rfl)) ?_
       refine XO.q (Q.move rfl) ?_
       refine XO.q (Quiet.guardF rfl rfl fun g155 p155 => Q.move rfl) ?_
       refine XO.q (Quiet.guardF rfl rfl fun g156 p156 => Q.fieldAddr rfl) ?_
       refine XO.q (Quiet.guardF rfl rfl fun g157 p157 => Q.ld (lzv rfl rfl) rfl) ?_
       refine XO.q (Quiet.guardF rfl rfl fun g158 p158 => Q.ix (lzv rfl rfl) rfl (by omega) (by omega)) ?_
       refine XO.q (Quiet.guardF rfl rfl fun g159 p159 => Q.fieldQ (lzv rfl rfl) (by first | assumption | omega)) ?_
       refine XO.q (Quiet.guardF rfl rfl fun g160 p160 => Q.ldE (lzv rfl rfl) (by first | assumption | omega) rfl) ?_
       refine XO.q (Quiet.guardF rfl rfl fun g161 p161 => Q.gtr (lzv rfl rfl) (lzv rfl rfl)) ?_
       rw [decide_eq_false (show ¬ (h.rooms.getD (0 : Int).toNat default).limit < now from nl)]
       refine XO.q (Q.or rfl (fun hp => lzv hp rfl)) ?_
       refine XO.done ?_
       refine XK.if rfl (fun c6 => ?_) (fun c6 => ?_)
       ·skip
        simp at c6
       ·skip
        refine XK.skip (XK.seq ?_)
        refine XK.meet (X := HCase × Value × PHeap) [24, 25, 163, 164, 165, 166, 167, 168, 169, 170, 171, 172, 173, 174, 175, 176, 177, 178, 179, 180, 181] (fun ⟨cc, x179, y179⟩ => [(24, some (x179)), (25, some (.int .i64 0))]) (fun ⟨cc, x179, y179⟩ => [blk b118 [v2, .int .i64 ((q + 2 + 1 : Nat) : Int)] 38, y179]) (fun ⟨cc, x179, y179⟩ => OArr x179 encI 1 3 y179 (nextL h [now] cc) ∧ COk h cc ∧ Ht.LeC (pumpC ca (ps.getD u default)) cc ∧ Ht.LeC cc (pumpC cb (ps.getD u default))) [blk b118 [v2, .int .i64 ((q : Nat) : Int)] 38] ?_ ?_
        ·rintro ⟨cc, x179, y179⟩ ⟨X179, ckk, acc, ccb⟩
         dsimp only [lcA, lnA]
         refine XK.seq (XK.seq (XK.region rfl (XO.q (Q.move rfl) ?_)))
         refine XO.q (Q.neq rfl rfl) ?_
         first | rw [decide_eq_false (show ¬ (0 : Int) ≠ (0 : Int) from fun h => h rfl)] | skip
         refine XO.q (Q.move rfl) ?_
         refine XO.q (Quiet.guardF rfl rfl fun g185 p185 => Q.move rfl) ?_
         refine XO.q (Quiet.guardF rfl rfl fun g186 p186 => Q.len (lzv rfl rfl)) ?_
         refine XO.q (Quiet.guardF rfl rfl fun g187 p187 => Q.neq (lzv rfl rfl) rfl) ?_
         rw [show (nextL h [now] cc).length = 1 by rw [Ht.nextL_len, hr]]
         first | rw [decide_eq_false (show ¬ ((1 : Nat) : Int) ≠ ((1 : Nat) : Int) from fun h => h rfl)] | skip
         refine XO.q (Q.or rfl (fun hp => lzv hp rfl)) ?_
         refine XO.done ?_
         refine XK.if rfl (fun c7 => ?_) (fun c7 => ?_)
         ·skip
          simp at c7
         ·skip
          have l1 : (nextL h [now] cc).length = 1 := by rw [Ht.nextL_len, hr]
          refine XK.skip (XK.region rfl (XO.q (Q.move rfl) ?_))
          refine XO.ix rfl rfl (by omega) (by omega) fun i190 => ?_
          refine XO.q (Q.ldE rfl (by first | assumption | omega) rfl) ?_
          refine XO.q (Q.assign rfl) (XO.done ?_)
          refine XK.inBlock ?_
          refine XK.region rfl ?_
          refine XO.q (Q.add rfl rfl ⟨by omega, by omega⟩) ?_
          refine XO.q (Q.move rfl) (XO.done ?_)
          exact ih1 (k + 1, (nextL h [now] cc).getD 0 0, q + 2 + 1) _ _ ⟨by dsimp only; omega, by dsimp only; omega, (Ht.next_ok ok tnow ckk).rng 0 (by omega), keep_step ok hr so (by omega) (by omega) ltj hu (show WideOk h.rooms.length _ by rw [hr]; exact qp1).cok (show WideOk h.rooms.length _ by rw [hr]; exact qp2).cok ckk acc ccb kp hj⟩ (by first | omega | (dsimp only; omega)) (.c rfl (.c rfl (.base 121 rfl rfl))) inferInstance
        ·intro mtr27
         dsimp only [lcA, lnA] at mtr27
         refine XK.drawn [0, 1, 3, 4, 5, 6, 7, 8, 9, 10, 11, 13, 16, 17, 18, 19, 20] [b9, b10, b16] [q2, h47] (.q 0 (.q 1 (.q 3 (.q 4 (.q 5 (.q 6 (.q 7 (.q 8 (.q 9 (.q 10 (.q 11 (.q 13 (.br 2 true (.br 12 true (.br 14 true (.br 15 true (.q 16 (.q 17 (.q 18 (.q 19 (.q 20 .done))))) .stop) .stop) .stop) (.br 12 true (.br 2 true (.br 14 true (.br 15 true (.q 16 (.q 17 (.q 18 (.q 19 (.q 20 .done))))) .stop) .stop) (.br 14 true (.br 2 true (.br 15 true (.q 16 (.q 17 (.q 18 (.q 19 (.q 20 .done))))) .stop) .stop) .stop)) .stop)))))))))))))) Tryz.mixed rfl (by kernel_rfl) ?_
         refine XT.q rfl rfl (Q.ldA [_, _, _, _] rfl rfl rfl) ?_
         refine XT.q rfl rfl (Q.move rfl) ?_
         refine XT.q rfl rfl (Q.ldA [_, _, _, _, _, _] rfl rfl rfl) ?_
         refine XT.q rfl rfl (Q.move rfl) ?_
         refine XT.q rfl rfl (Q.fieldAddr rfl) ?_
         refine XT.q rfl rfl (Q.ld rfl rfl) ?_
         refine XT.q rfl rfl (Q.move rfl) ?_
         refine XT.ix rfl rfl rfl rfl (by omega) (by omega) fun i172 => ?_
         refine XT.q rfl rfl (Q.ldE rfl (by first | assumption | omega) rfl) ?_
         rw [show ctl.getD j default = ((u : Nat) : Int) from cu]
         refine XT.ix rfl rfl rfl rfl (by omega) (by omega) fun i174 => ?_
         refine XT.q rfl rfl (Q.ldE rfl (by first | assumption | omega) rfl) ?_
         refine XT.q rfl rfl (Q.move rfl) ?_
         refine XT.lit [_] [_] [now] encI rfl rfl (by rfl) (by rfl) rfl (by rfl) (by exact .c 0 1 rfl rfl rfl (.n _)) (fun _ => rfl) (by rfl) rfl (by infer_instance) rfl (fun v166 h166 O166 => ⟨inferInstance, ?_⟩) ?_
         ·skip
          refine XT.call rfl rfl Tryz.call18 rfl rfl rfl (pumpedT ca cb wlo whi jlo jhi (ps.getD u default)) (fun v176 s176 R176 => ?_) XT.stop
          obtain ⟨rfl, rfl⟩ := R176
          dsimp only [lcA, lnA]
          refine ⟨inferInstance, ?_⟩
          refine XT.call rfl rfl Tryz.call17 rfl rfl rfl (betweenW 1 (by omega) (pumpC ca (ps.getD u default)) (pumpC cb (ps.getD u default)) wlo whi jlo jhi qp1 qp2 lap b118 q (by omega) v2 h2 x2) (fun v178 s178 R178 => ?_) XT.stop
          obtain ⟨cc, vcc, kcc, rfl, rfl, Occ, lcc, acc, ccb⟩ := R178
          dsimp only [lcA, lnA]
          refine ⟨inferInstance, ?_⟩
          have ckk : COk h cc := (show WideOk h.rooms.length cc by rw [hr]; exact qp1.mid qp2 lcc acc ccb).cok
          refine XT.call rfl rfl Tryz.call16 rfl rfl rfl (Ht.Next_spec h vr vw vb vc kr kw kb kc [now] v166 h166 cc vcc kcc) (fun v179 s179 R179 => ?_) XT.stop
          obtain ⟨x179, y179, rfl, rfl, X179⟩ := R179
          dsimp only [lcA, lnA]
          refine ⟨inferInstance, ?_⟩
          have hN : nextG h [now] cc = (nextL h [now] cc, 0) := Ht.next_fine hc tnow ckk
          rw [hN] at X179 ⊢
          dsimp only at X179 ⊢
          refine XT.q rfl rfl (Q.move rfl) ?_
          refine XT.q rfl rfl (Q.extract rfl rfl) ?_
          refine XT.q rfl rfl (Q.extract rfl rfl) ?_
          refine XT.q rfl rfl (Q.assign rfl) ?_
          refine XT.q rfl rfl (Q.assign rfl) ?_
          refine XT.done ?_
          exact mtr27 ((cc, x179, y179)) _ _ ⟨X179, ckk, acc, ccb⟩ (.c rfl (.c rfl (.base 21 rfl rfl))) inferInstance
         ·skip
          refine XT.call rfl rfl Tryz.call18 rfl rfl rfl (pumpedT ca cb wlo whi jlo jhi (ps.getD u default)) (fun v176 s176 R176 => ?_) XT.stop
          obtain ⟨rfl, rfl⟩ := R176
          dsimp only [lcA, lnA]
          refine ⟨inferInstance, ?_⟩
          refine XT.lit [_] [_] [now] encI rfl rfl (by rfl) (by rfl) rfl (by rfl) (by exact .c 0 1 rfl rfl rfl (.n _)) (fun _ => rfl) (by rfl) rfl (by infer_instance) rfl (fun v166 h166 O166 => ⟨inferInstance, ?_⟩) ?_
          ·skip
           refine XT.call rfl rfl Tryz.call17 rfl rfl rfl (betweenW 1 (by omega) (pumpC ca (ps.getD u default)) (pumpC cb (ps.getD u default)) wlo whi jlo jhi qp1 qp2 lap b118 q (by omega) v2 h2 x2) (fun v178 s178 R178 => ?_) XT.stop
           obtain ⟨cc, vcc, kcc, rfl, rfl, Occ, lcc, acc, ccb⟩ := R178
           dsimp only [lcA, lnA]
           refine ⟨inferInstance, ?_⟩
           have ckk : COk h cc := (show WideOk h.rooms.length cc by rw [hr]; exact qp1.mid qp2 lcc acc ccb).cok
           refine XT.call rfl rfl Tryz.call16 rfl rfl rfl (Ht.Next_spec h vr vw vb vc kr kw kb kc [now] v166 h166 cc vcc kcc) (fun v179 s179 R179 => ?_) XT.stop
           obtain ⟨x179, y179, rfl, rfl, X179⟩ := R179
           dsimp only [lcA, lnA]
           refine ⟨inferInstance, ?_⟩
           have hN : nextG h [now] cc = (nextL h [now] cc, 0) := Ht.next_fine hc tnow ckk
           rw [hN] at X179 ⊢
           dsimp only at X179 ⊢
           refine XT.q rfl rfl (Q.move rfl) ?_
           refine XT.q rfl rfl (Q.extract rfl rfl) ?_
           refine XT.q rfl rfl (Q.extract rfl rfl) ?_
           refine XT.q rfl rfl (Q.assign rfl) ?_
           refine XT.q rfl rfl (Q.assign rfl) ?_
           refine XT.done ?_
           exact mtr27 ((cc, x179, y179)) _ _ ⟨X179, ckk, acc, ccb⟩ (.c rfl (.c rfl (.base 21 rfl rfl))) inferInstance
          ·skip
           refine XT.call rfl rfl Tryz.call17 rfl rfl rfl (betweenW 1 (by omega) (pumpC ca (ps.getD u default)) (pumpC cb (ps.getD u default)) wlo whi jlo jhi qp1 qp2 lap b118 q (by omega) v2 h2 x2) (fun v178 s178 R178 => ?_) XT.stop
           obtain ⟨cc, vcc, kcc, rfl, rfl, Occ, lcc, acc, ccb⟩ := R178
           dsimp only [lcA, lnA]
           refine ⟨inferInstance, ?_⟩
           have ckk : COk h cc := (show WideOk h.rooms.length cc by rw [hr]; exact qp1.mid qp2 lcc acc ccb).cok
           refine XT.lit [_] [_] [now] encI rfl rfl (by rfl) (by rfl) rfl (by rfl) (by exact .c 0 1 rfl rfl rfl (.n _)) (fun _ => rfl) (by rfl) rfl (by infer_instance) rfl (fun v166 h166 O166 => ⟨inferInstance, ?_⟩) XT.stop
           refine XT.call rfl rfl Tryz.call16 rfl rfl rfl (Ht.Next_spec h vr vw vb vc kr kw kb kc [now] v166 h166 cc vcc kcc) (fun v179 s179 R179 => ?_) XT.stop
           obtain ⟨x179, y179, rfl, rfl, X179⟩ := R179
           dsimp only [lcA, lnA]
           refine ⟨inferInstance, ?_⟩
           have hN : nextG h [now] cc = (nextL h [now] cc, 0) := Ht.next_fine hc tnow ckk
           rw [hN] at X179 ⊢
           dsimp only at X179 ⊢
           refine XT.q rfl rfl (Q.move rfl) ?_
           refine XT.q rfl rfl (Q.extract rfl rfl) ?_
           refine XT.q rfl rfl (Q.extract rfl rfl) ?_
           refine XT.q rfl rfl (Q.assign rfl) ?_
           refine XT.q rfl rfl (Q.assign rfl) ?_
           refine XT.done ?_
           exact mtr27 ((cc, x179, y179)) _ _ ⟨X179, ckk, acc, ccb⟩ (.c rfl (.c rfl (.base 21 rfl rfl))) inferInstance
      ·skip
       refine XK.exit rfl ?_
       refine XK.seq (XK.region rfl ?_)
       refine XO.call Tryz.call14 rfl rfl rfl (there_spec) fun v193 s193 R193 => ?_
       obtain ⟨rfl, rfl⟩ := R193
       dsimp only [lcA, lnA]
       refine XO.q (Q.assign rfl) (XO.done ?_)
       refine XK.rt [] Tryz.func3 Tryz.results3 (.t rfl .n) ?_
       exact ⟨by simp, rfl⟩
 ·intro mtr5
  dsimp only [lcA, lnA] at mtr5
  refine XK.drawn [0, 1, 2, 6, 7, 10, 4, 5, 9, 12, 13, 14, 17] [b9, b10] [] (.q 0 (.q 1 (.q 2 (.q 6 (.q 7 (.q 10 (.br 3 true (.q 4 (.q 5 (.br 8 true (.q 9 (.br 11 true (.q 12 (.q 13 (.q 14 (.br 15 true (.br 16 true (.q 17 .done) .stop) .stop)))) (.br 15 true (.br 11 true (.q 12 (.q 13 (.q 14 (.br 16 true (.q 17 .done) .stop)))) .stop) .stop))) (.br 15 true (.br 8 true (.q 9 (.br 11 true (.q 12 (.q 13 (.q 14 (.br 16 true (.q 17 .done) .stop)))) .stop)) .stop) .stop)))) (.br 15 true (.br 3 true (.q 4 (.q 5 (.br 8 true (.q 9 (.br 11 true (.q 12 (.q 13 (.q 14 (.br 16 true (.q 17 .done) .stop)))) .stop)) .stop))) .stop) .stop)))))))) Tryz.mixed rfl (by kernel_rfl) ?_
  refine XT.q rfl rfl (Q.ldA [_, _, _, _] rfl rfl rfl) ?_
  refine XT.q rfl rfl (Q.ldA [_, _, _, _, _, _] rfl rfl rfl) ?_
  refine XT.q rfl rfl (Q.move rfl) ?_
  refine XT.q rfl rfl (Q.move rfl) ?_
  refine XT.q rfl rfl (Q.move rfl) ?_
  refine XT.q rfl rfl (Q.move rfl) ?_
  refine XT.callB b33 rfl rfl Tryz.call10 rfl rfl rfl (nextT b33 v1 h1 x1 (4) (256) (by omega) (by omega) (by omega)) (fun v52 s52 R52 => ?_) ?_
  ·skip
   obtain ⟨rfl, n52, rfl, h52⟩ := R52
   dsimp only [lcA, lnA]
   refine ⟨inferInstance, ?_⟩
   refine XT.q rfl rfl (Q.mul rfl rfl ⟨by omega, by omega⟩) ?_
   refine XT.q rfl rfl (Q.add rfl rfl ⟨by omega, by omega⟩) ?_
   obtain ⟨f, ef⟩ : ∃ f : Int, f = 14000 + 10 * (n52 : Nat) := ⟨_, rfl⟩
   rw [← ef]
   have hf : 14000 ≤ f ∧ f ≤ 16550 := by omega
   refine XT.callB b33 rfl rfl Tryz.call10 rfl rfl rfl (nextT b33 v1 h1 x1 (5) (59) (by omega) (by omega) (by omega)) (fun v57 s57 R57 => ?_) ?_
   ·skip
    obtain ⟨rfl, n57, rfl, h57⟩ := R57
    dsimp only [lcA, lnA]
    refine ⟨inferInstance, ?_⟩
    refine XT.q rfl rfl (Q.add rfl rfl ⟨by omega, by omega⟩) ?_
    obtain ⟨n, en⟩ : ∃ n : Nat, n = 2 + n57 := ⟨_, rfl⟩
    rw [show 2 + ((n57 : Nat) : Int) = ((n : Nat) : Int) by omega]
    refine XT.call rfl rfl Tryz.call11 rfl rfl rfl (stagedT h vr vw vb vc kr kw kb kc hc hr ca cb wlo whi jlo jhi qa qb f w n (by omega) (by omega) (by omega) (by omega) v47 h47 ps hp hpr) (fun v60 s60 R60 => ?_) ?_
    ·skip
     obtain ⟨vn, vg, kn, kg, nxt, gd, rfl, rfl, ON, OG, so⟩ := R60
     dsimp only [lcA, lnA]
     refine ⟨inferInstance, ?_⟩
     refine XT.q rfl rfl (Q.move rfl) ?_
     refine XT.q rfl rfl (Q.extract rfl rfl) ?_
     refine XT.q rfl rfl (Q.extract rfl rfl) ?_
     refine XT.alloc rfl rfl (fun b14 => ⟨inferInstance, ?_⟩) XT.stop
     refine XT.st rfl rfl rfl rfl rfl ⟨inferInstance, ?_⟩ XT.stop
     refine XT.q rfl rfl (Q.assign rfl) ?_
     refine XT.done ?_
     exact mtr5 ((f, n, vn, vg, kn, kg, nxt, gd, b14)) _ _ ⟨⟨hf, by dsimp only; omega, by dsimp only; omega⟩, ON, OG, so⟩ (.c rfl (.c rfl (.base 17 rfl rfl))) inferInstance
    ·skip
     refine XT.alloc rfl rfl (fun b14 => ⟨inferInstance, ?_⟩) XT.stop
     refine XT.call rfl rfl Tryz.call11 rfl rfl rfl (stagedT h vr vw vb vc kr kw kb kc hc hr ca cb wlo whi jlo jhi qa qb f w n (by omega) (by omega) (by omega) (by omega) v47 h47 ps hp hpr) (fun v60 s60 R60 => ?_) XT.stop
     obtain ⟨vn, vg, kn, kg, nxt, gd, rfl, rfl, ON, OG, so⟩ := R60
     dsimp only [lcA, lnA]
     refine ⟨inferInstance, ?_⟩
     refine XT.q rfl rfl (Q.move rfl) ?_
     refine XT.q rfl rfl (Q.extract rfl rfl) ?_
     refine XT.q rfl rfl (Q.extract rfl rfl) ?_
     refine XT.st rfl rfl rfl rfl rfl ⟨inferInstance, ?_⟩ XT.stop
     refine XT.q rfl rfl (Q.assign rfl) ?_
     refine XT.done ?_
     exact mtr5 ((f, n, vn, vg, kn, kg, nxt, gd, b14)) _ _ ⟨⟨hf, by dsimp only; omega, by dsimp only; omega⟩, ON, OG, so⟩ (.c rfl (.c rfl (.base 17 rfl rfl))) inferInstance
   ·skip
    refine XT.alloc rfl rfl (fun b14 => ⟨inferInstance, ?_⟩) XT.stop
    refine XT.callB b33 rfl rfl Tryz.call10 rfl rfl rfl (nextT b33 v1 h1 x1 (5) (59) (by omega) (by omega) (by omega)) (fun v57 s57 R57 => ?_) XT.stop
    obtain ⟨rfl, n57, rfl, h57⟩ := R57
    dsimp only [lcA, lnA]
    refine ⟨inferInstance, ?_⟩
    refine XT.q rfl rfl (Q.add rfl rfl ⟨by omega, by omega⟩) ?_
    obtain ⟨n, en⟩ : ∃ n : Nat, n = 2 + n57 := ⟨_, rfl⟩
    rw [show 2 + ((n57 : Nat) : Int) = ((n : Nat) : Int) by omega]
    refine XT.call rfl rfl Tryz.call11 rfl rfl rfl (stagedT h vr vw vb vc kr kw kb kc hc hr ca cb wlo whi jlo jhi qa qb f w n (by omega) (by omega) (by omega) (by omega) v47 h47 ps hp hpr) (fun v60 s60 R60 => ?_) XT.stop
    obtain ⟨vn, vg, kn, kg, nxt, gd, rfl, rfl, ON, OG, so⟩ := R60
    dsimp only [lcA, lnA]
    refine ⟨inferInstance, ?_⟩
    refine XT.q rfl rfl (Q.move rfl) ?_
    refine XT.q rfl rfl (Q.extract rfl rfl) ?_
    refine XT.q rfl rfl (Q.extract rfl rfl) ?_
    refine XT.st rfl rfl rfl rfl rfl ⟨inferInstance, ?_⟩ XT.stop
    refine XT.q rfl rfl (Q.assign rfl) ?_
    refine XT.done ?_
    exact mtr5 ((f, n, vn, vg, kn, kg, nxt, gd, b14)) _ _ ⟨⟨hf, by dsimp only; omega, by dsimp only; omega⟩, ON, OG, so⟩ (.c rfl (.c rfl (.base 17 rfl rfl))) inferInstance
  ·skip
   refine XT.alloc rfl rfl (fun b14 => ⟨inferInstance, ?_⟩) XT.stop
   refine XT.callB b33 rfl rfl Tryz.call10 rfl rfl rfl (nextT b33 v1 h1 x1 (4) (256) (by omega) (by omega) (by omega)) (fun v52 s52 R52 => ?_) XT.stop
   obtain ⟨rfl, n52, rfl, h52⟩ := R52
   dsimp only [lcA, lnA]
   refine ⟨inferInstance, ?_⟩
   refine XT.q rfl rfl (Q.mul rfl rfl ⟨by omega, by omega⟩) ?_
   refine XT.q rfl rfl (Q.add rfl rfl ⟨by omega, by omega⟩) ?_
   obtain ⟨f, ef⟩ : ∃ f : Int, f = 14000 + 10 * (n52 : Nat) := ⟨_, rfl⟩
   rw [← ef]
   have hf : 14000 ≤ f ∧ f ≤ 16550 := by omega
   refine XT.callB b33 rfl rfl Tryz.call10 rfl rfl rfl (nextT b33 v1 h1 x1 (5) (59) (by omega) (by omega) (by omega)) (fun v57 s57 R57 => ?_) XT.stop
   obtain ⟨rfl, n57, rfl, h57⟩ := R57
   dsimp only [lcA, lnA]
   refine ⟨inferInstance, ?_⟩
   refine XT.q rfl rfl (Q.add rfl rfl ⟨by omega, by omega⟩) ?_
   obtain ⟨n, en⟩ : ∃ n : Nat, n = 2 + n57 := ⟨_, rfl⟩
   rw [show 2 + ((n57 : Nat) : Int) = ((n : Nat) : Int) by omega]
   refine XT.call rfl rfl Tryz.call11 rfl rfl rfl (stagedT h vr vw vb vc kr kw kb kc hc hr ca cb wlo whi jlo jhi qa qb f w n (by omega) (by omega) (by omega) (by omega) v47 h47 ps hp hpr) (fun v60 s60 R60 => ?_) XT.stop
   obtain ⟨vn, vg, kn, kg, nxt, gd, rfl, rfl, ON, OG, so⟩ := R60
   dsimp only [lcA, lnA]
   refine ⟨inferInstance, ?_⟩
   refine XT.q rfl rfl (Q.move rfl) ?_
   refine XT.q rfl rfl (Q.extract rfl rfl) ?_
   refine XT.q rfl rfl (Q.extract rfl rfl) ?_
   refine XT.st rfl rfl rfl rfl rfl ⟨inferInstance, ?_⟩ XT.stop
   refine XT.q rfl rfl (Q.assign rfl) ?_
   refine XT.done ?_
   exact mtr5 ((f, n, vn, vg, kn, kg, nxt, gd, b14)) _ _ ⟨⟨hf, by dsimp only; omega, by dsimp only; omega⟩, ON, OG, so⟩ (.c rfl (.c rfl (.base 17 rfl rfl))) inferInstance
end Go.X
