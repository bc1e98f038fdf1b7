/- A part of the proof: a small program logic, plain laws and contracts of functions, each proved by a walk through its operations. No condition but those that stand in each theorem. -/
import Derived.Test.YtbeieafhcephmaaA5
set_option linter.unusedSimpArgs false
set_option linter.unusedVariables false
set_option maxRecDepth 20000
namespace Go.X
open Go.Proofs
set_option maxHeartbeats 4000000 in
set_option synthInstance.maxSize 1000 in
theorem MarketBalance_spec (v0 : Value) (h0 : PHeap) (x0 : List UInt8) [i0 : Arr v0 encU8 1 h0 x0] (n1 : Nat) (hn1 : n1 < 256) (v2 : Value) (h2 : PHeap) (x2 : List UInt8) [i2 : Arr v2 encU8 1 h2 x2] : Spec Try.prog 7 #[v0, .int .u8 (n1 : Nat), v2] [] [h0, h2] (fun v hs => v = .bool true ∧ hs = []) := by
  refine Spec.intro (fn := Try.f7) (N := 256) Try.func7 rfl Try.ntmps7 rfl fun B => ?_
  refine XK.seq ?_
  refine XK.region rfl ?_
  refine XO.q (Q.assign rfl) ?_
  refine XO.done ?_
  refine XK.seq ?_
  refine XK.region rfl ?_
  refine XO.q (Q.move rfl) ?_
  refine XO.call Try.call9 rfl rfl rfl (Made_spec v0 h0 x0) fun v24 s24 R24 => ?_
  obtain ⟨vh, vj, kh, kj, rfl, rfl, OH, OJ⟩ := R24
  dsimp only [List.cons_append, List.nil_append]
  have ok := made_ok x0
  have ml := made_len x0
  have mm := made_most x0
  have mh := fun i hi => made_hour x0 (i := i) hi
  obtain ⟨d, ed⟩ : ∃ d, d = madeD x0 := ⟨_, rfl⟩
  rw [← ed] at OH OJ ok ml mm mh ⊢
  clear ed
  have sn := starts_one ok
  have h24 := ok.h2
  refine XO.alloc fun b7 => ?_
  refine XO.st rfl rfl rfl ?_
  refine XO.done ?_
  refine XK.seq ?_
  refine XK.region rfl ?_
  refine XO.q (Q.ldA [_, _, _, _, _, _, _, _] rfl rfl rfl) ?_
  refine XO.call Try.call15 rfl rfl rfl (Starts_spec d vh vj kh kj) fun v27 s27 R27 => ?_
  obtain ⟨vo, ho, us, K, rfl, rfl, OO, RS⟩ := R27
  dsimp only [List.cons_append, List.nil_append]
  have kc : kcheck d = 0 := kcheck_iff.2 ok
  rw [kc, if_pos rfl] at RS
  rw [kc]
  have RL := RS.1
  refine XO.q (Q.move rfl) ?_
  refine XO.q (Q.extract rfl rfl) ?_
  refine XO.q (Q.extract rfl rfl) ?_
  refine XO.q (Q.assign rfl) ?_
  refine XO.q (Q.assign rfl) ?_
  refine XO.done ?_
  refine XK.seq ?_
  refine XK.seq ?_
  refine XK.region rfl ?_
  refine XO.q (Q.move rfl) ?_
  refine XO.q (Q.neq rfl rfl) ?_
  refine XO.q (Q.move rfl) ?_
  refine XO.q (Quiet.guardF rfl rfl fun g33 p33 => Q.move rfl) ?_
  refine XO.q (Quiet.guardF rfl rfl fun g34 p34 => Q.len (lzv g34 rfl)) ?_
  refine XO.q (Quiet.guardF rfl rfl fun g35 p35 => Q.lss (lzv g35 rfl) rfl) ?_
  refine XO.q (Q.or rfl (fun hp => lzv hp rfl)) ?_
  refine XO.done ?_
  refine XK.if rfl (fun c0 => ?_) (fun c0 => ?_)
  · have _t0 := True.intro
    exact absurd c0 (by omega)
  · have _t0 := True.intro
    have hi0 : ((((n1 : Nat) : Int) % (us.length : Int))).toNat < us.length := by have := Int.emod_nonneg ((n1 : Nat) : Int) (show (us.length : Int) ≠ 0 by omega); have := Int.emod_lt_of_pos ((n1 : Nat) : Int) (show 0 < (us.length : Int) by omega); omega
    have as0 := RS.2 ((((n1 : Nat) : Int) % (us.length : Int))).toNat (by omega)
    have sm := at_mem (d := d) (j := ((((n1 : Nat) : Int) % (us.length : Int))).toNat) (by omega)
    have so := starts_ok sm
    refine XK.skip ?_
    refine XK.seq ?_
    refine XK.meet (X := Nat × Value × PHeap) [10, 11, 37, 38, 39, 40, 41, 42, 43, 44, 45, 46, 47, 48, 49, 50] (fun ⟨b10, vc, kc1⟩ => [(10, some (ptr b10 0)), (11, some (.bool (someP d ((startsL d).getD ((((n1 : Nat) : Int) % (us.length : Int))).toNat default) x2).2))]) (fun ⟨b10, vc, kc1⟩ => [blk b10 [(us.getD ((((n1 : Nat) : Int) % (us.length : Int))).toNat default), vc, .int .i64 0] 32, kc1]) (fun ⟨b10, vc, kc1⟩ => OArr vc encI 1 3 kc1 (someP d ((startsL d).getD ((((n1 : Nat) : Int) % (us.length : Int))).toNat default) x2).1.charge) [] ?_ ?_
    · rintro ⟨b10, vc, kc1⟩ OC
      dsimp only [List.cons_append, List.nil_append]
      obtain ⟨ch, ec⟩ : ∃ c, (someP d ((startsL d).getD ((((n1 : Nat) : Int) % (us.length : Int))).toNat default) x2).1.charge = c := ⟨_, rfl⟩
      obtain ⟨bk, ebk⟩ : ∃ b, (someP d ((startsL d).getD ((((n1 : Nat) : Int) % (us.length : Int))).toNat default) x2).2 = b := ⟨_, rfl⟩
      rw [ec] at OC
      rw [ebk]
      have sf := some_plan ok sm ec
      rw [ebk] at sf
      obtain ⟨s, es⟩ : ∃ s, s = ((startsL d).getD ((((n1 : Nat) : Int) % (us.length : Int))).toNat default) := ⟨_, rfl⟩
      obtain ⟨vs, evs⟩ : ∃ v, v = (us.getD ((((n1 : Nat) : Int) % (us.length : Int))).toNat default) := ⟨_, rfl⟩
      rw [← es] at as0 sm so sf
      rw [← evs] at as0
      rw [← evs]
      clear es evs ec ebk
      refine XK.seq ?_
      refine XK.seq ?_
      refine XK.region rfl ?_
      refine XO.q (Q.move rfl) ?_
      refine XO.q (Q.not rfl) ?_
      refine XO.done ?_
      refine XK.if rfl (fun c1 => ?_) (fun c1 => ?_)
      · have _t1 := True.intro
        refine XK.seq ?_
        refine XK.region rfl ?_
        refine XO.call Try.call12 rfl rfl rfl (awake10) fun v53 s53 R53 => ?_
        obtain ⟨rfl, rfl⟩ := R53
        dsimp only [List.cons_append, List.nil_append]
        refine XO.q (Q.assign rfl) ?_
        refine XO.done ?_
        refine XK.rt [] Try.func7 Try.results7 (.t rfl .n) ?_
        exact ⟨rfl, rfl⟩
      · have _t1 := True.intro
        have sf := sf (by cases bk <;> simp_all)
        refine XK.skip ?_
        refine XK.seq ?_
        refine XK.region rfl ?_
        refine XO.q (Q.ldA [_, _, _, _, _, _, _, _] rfl rfl rfl) ?_
        refine XO.q (Q.ldA [_, _, _] rfl rfl rfl) ?_
        refine XO.call Try.call27 rfl rfl rfl (Ledger_spec d vh vj kh kj (⟨s, ch, 0⟩ : KPlan) vs vc K kc1) fun v57 s57 R57 => ?_
        obtain ⟨vr, hr, rfl, rfl, OR⟩ := R57
        dsimp only [List.cons_append, List.nil_append]
        rw [led_err]
        refine XO.q (Q.move rfl) ?_
        refine XO.q (Q.extract rfl rfl) ?_
        refine XO.q (Q.extract rfl rfl) ?_
        refine XO.q (Q.extract rfl rfl) ?_
        refine XO.alloc fun b13 => ?_
        refine XO.q (Q.assign rfl) ?_
        refine XO.st rfl rfl rfl ?_
        refine XO.q (Q.assign rfl) ?_
        refine XO.done ?_
        refine XK.seq ?_
        refine XK.region rfl ?_
        refine XO.q (Q.ldA [_, _, _, _, _, _, _, _] rfl rfl rfl) ?_
        refine XO.q (Q.ldA [_, _, _] rfl rfl rfl) ?_
        refine XO.call Try.call17 rfl rfl rfl (Cost_spec d vh vj kh kj (⟨s, ch, 0⟩ : KPlan) vs vc K kc1) fun v64 s64 R64 => ?_
        obtain ⟨rfl, rfl⟩ := R64
        dsimp only [List.cons_append, List.nil_append]
        rw [cost_err]
        refine XO.q (Q.move rfl) ?_
        refine XO.q (Q.extract rfl rfl) ?_
        refine XO.q (Q.extract rfl rfl) ?_
        refine XO.q (Q.assign rfl) ?_
        refine XO.q (Q.assign rfl) ?_
        refine XO.done ?_
        refine XK.seq ?_
        refine XK.seq ?_
        refine XK.region rfl ?_
        refine XO.q (Q.move rfl) ?_
        refine XO.q (Q.move rfl) ?_
        refine XO.q (Q.neq rfl rfl) ?_
        refine XO.q (Q.move rfl) ?_
        refine XO.q (Quiet.guardF rfl rfl fun g71 p71 => Q.move rfl) ?_
        refine XO.q (Quiet.guardF rfl rfl fun g72 p72 => Q.neq (lzv g72 rfl) rfl) ?_
        refine XO.q (Q.or rfl (fun hp => lzv hp rfl)) ?_
        refine XO.done ?_
        refine XK.if rfl (fun c2 => ?_) (fun c2 => ?_)
        · have _t2 := True.intro
          have sf2 : (formG d (⟨s, ch, 0⟩ : KPlan)).2 = 120 := by
            rcases sf with sf | sf
            · simp [sf] at c2
            · rw [sf]
          rw [sf2]
          refine XK.seq ?_
          refine XK.region rfl ?_
          refine XO.q (Q.move rfl) ?_
          refine XO.q (Q.move rfl) ?_
          refine XO.q (Q.eql rfl rfl) ?_
          refine XO.q (Q.move rfl) ?_
          refine XO.q (Quiet.guardT rfl rfl fun g78 p78 => Q.move rfl) ?_
          refine XO.q (Quiet.guardT rfl rfl fun g79 p79 => Q.eql (lzv g79 rfl) rfl) ?_
          refine XO.q (Q.and rfl (fun hp => lzv hp rfl)) ?_
          refine XO.q (Q.move rfl) ?_
          refine XO.gcallT rfl rfl Try.call12 rfl (fun g82 => .n) rfl (fun g82 p82 => awake10) ?_
          refine XO.q (Q.and rfl (fun hp => lzv hp rfl)) ?_
          refine XO.q (Q.assign rfl) ?_
          refine XO.done ?_
          refine XK.rt [] Try.func7 Try.results7 (.t rfl .n) ?_
          exact ⟨rfl, rfl⟩
        · have _t2 := True.intro
          have sf0 : formG d (⟨s, ch, 0⟩ : KPlan) = (needsL d s, 0) := by
            rcases sf with sf | sf
            · exact sf
            · simp [sf] at c2
          clear c2 c1 c0 sf
          rw [led_yes sf0] at OR
          rw [led_yes sf0, cost_yes sf0, sf0]
          dsimp only at OR ⊢
          obtain ⟨po, _, _, cl, st, cr⟩ := plan_rng sf0
          obtain ⟨rows, er⟩ : ∃ r, r = (List.range d.hours.length).map (rowA d s ch) := ⟨_, rfl⟩
          rw [← er] at OR
          have rl : rows.length = d.hours.length := by rw [er, List.length_map, List.length_range]
          have ra : ∀ i, i < d.hours.length → rows.getD i default = rowA d s ch i := fun i hi => by rw [er]; exact range_getK hi
          have sr := sumRow_rng (n := d.hours.length) (f := rowA d s ch) (fun i hi => (row_is sf0 hi).small)
          clear er
          have sz : sumRow (rowA d s ch) 0 = ⟨0, 0, 0, 0, 0, 0, 0⟩ := rfl
          refine XK.skip ?_
          refine XK.seq ?_
          refine XK.region rfl ?_
          refine XO.alloc fun b16 => ?_
          refine XO.done ?_
          refine XK.seq ?_
          refine XK.drawn [0, 1, 2, 3, 4, 5] [b7] [] (.q 0 (.q 1 (.q 2 (.q 3 (.q 4 (.q 5 .done)))))) Try.mixed rfl (by kernel_rfl) ?_
          refine XT.q rfl rfl (Q.fieldAddr rfl) ?_
          refine XT.q rfl rfl (Q.fieldAddr rfl) ?_
          refine XT.q rfl rfl (Q.ld rfl rfl) ?_
          refine XT.q rfl rfl (Q.assign rfl) ?_
          refine XT.q rfl rfl (Q.assign rfl) ?_
          refine XT.q rfl rfl (Q.assign rfl) ?_
          refine XT.done ?_
          refine XK.seq ?_
          refine XK.seq ?_
          refine XK.region rfl ?_
          refine XO.q (Q.move rfl) ?_
          refine XO.len rfl fun l88 => ?_
          refine XO.q (Q.move rfl) ?_
          refine XO.done ?_
          refine XK.block ?_
          refine XK.while (X := Nat) [6, 17, 18, 19, 20, 21, 22, 89, 90, 91, 92, 93, 94, 95, 96, 97, 98, 99, 100, 101, 102, 103, 104, 105, 106, 107, 108, 109, 110, 111, 112, 113, 114, 115, 116, 117, 118, 119, 120, 121, 122, 123, 124, 125, 126, 127, 128, 129, 130, 131, 132, 133, 134, 135, 136, 137, 138, 139, 140, 141, 142, 143, 144, 145, 146, 147, 148, 149, 150, 151, 152, 153, 154, 155, 156, 157, 158, 159, 160, 161, 162, 163, 164, 165, 166, 167, 168, 169, 170, 171, 172, 173, 174, 175, 176, 177, 178, 179, 180, 181, 182, 183, 184, 185, 186, 187, 188, 189, 190, 191, 192, 193, 194, 195, 196, 197, 198, 199, 200, 201, 202, 203, 204, 205, 206, 207, 208, 209, 210, 211, 212, 213, 214, 215, 216, 217, 218, 219, 220, 221, 222, 223, 224] (fun i => [(89, some (.int .i64 (i : Nat))), (17, some (.int .i64 (peakTo (needsL d s) ch i))), (18, some (.int .i64 (costTo d (needsL d s) ch i))), (19, some (.int .i64 (energyTo d ch i)))]) (fun i => [blk b16 [.int .i64 (sumRow (rowA d s ch) i).bought, .int .i64 (sumRow (rowA d s ch) i).sold, .int .i64 (sumRow (rowA d s ch) i).made, .int .i64 (sumRow (rowA d s ch) i).used, .int .i64 (sumRow (rowA d s ch) i).stored, .int .i64 (sumRow (rowA d s ch) i).carbon, .int .i64 (sumRow (rowA d s ch) i).water] 72]) (fun i => i ≤ rows.length) (fun i => rows.length - i) (0) [blk b16 [.int .i64 0, .int .i64 0, .int .i64 0, .int .i64 0, .int .i64 0, .int .i64 0, .int .i64 0] 72] rfl (by omega) (.c rfl (.c rfl (.c rfl (.c rfl (.base 0 rfl rfl))))) ?_
          rintro i hi ih0
          dsimp only [List.cons_append, List.nil_append] at ih0 ⊢
          refine XK.seq ?_
          refine XK.region rfl ?_
          refine XO.q (Q.lss rfl rfl) ?_
          refine XO.done ?_
          refine XK.seq ?_
          refine XK.if rfl (fun c3 => ?_) (fun c3 => ?_)
          · have _t3 := True.intro
            have rr := row_is sf0 (show i < d.hours.length by omega)
            rw [← ra i (by omega)] at rr
            obtain ⟨q1, q2, q3, q4, q5, q6, q7, q8, q9, q10, q11, ⟨m1, m2, m3, m4, m5, m6, m7⟩, q12, q13⟩ := rr
            have sti := st i (by omega)
            have e0 := sti.e0
            have e1 := sti.e1
            have p0 := sti.m0
            have p1 := sti.m1
            have cri := cr i (by omega)
            obtain ⟨z1, z2, z3, z4, z5, z6, z7⟩ := sr i (by omega)
            have s2 := ok.store.f1
            have m1k := ok.m1
            have ss : (sumRow (rowA d s ch) (i + 1)) = addRow (sumRow (rowA d s ch) i) (rows.getD i default) := by rw [ra i (by omega)]; rfl
            refine XK.skip ?_
            refine XK.seq ?_
            refine XK.block ?_
            refine XK.seq ?_
            refine XK.region rfl ?_
            refine XO.q (Q.move rfl) ?_
            refine XO.ix rfl rfl (by omega) (by omega) fun i92 => ?_
            refine XO.q (Q.ldEA [_, _, _, _, _, _, _] rfl (by first | assumption | omega) rfl rfl) ?_
            refine XO.alloc fun b21 => ?_
            refine XO.q (Q.assign rfl) ?_
            refine XO.st rfl rfl rfl ?_
            refine XO.done ?_
            refine XK.seq ?_
            refine XK.region rfl ?_
            refine XO.q (Q.fieldAddr rfl) ?_
            refine XO.q (Q.ld rfl rfl) ?_
            refine XO.q (Q.move rfl) ?_
            refine XO.ix rfl rfl (by omega) (by omega) fun i97 => ?_
            refine XO.q (Q.ldEA [_, _, _, _, _, _] rfl (by first | assumption | omega) rfl rfl) ?_
            refine XO.alloc fun b22 => ?_
            refine XO.st rfl rfl rfl ?_
            refine XO.done ?_
            refine XK.seq ?_
            refine XK.seq ?_
            refine XK.region rfl ?_
            refine XO.q (Q.fieldAddr rfl) ?_
            refine XO.q (Q.ld rfl rfl) ?_
            refine XO.q (Q.fieldAddr rfl) ?_
            refine XO.q (Q.ld rfl rfl) ?_
            refine XO.q (Q.add rfl rfl ⟨by omega, by omega⟩) ?_
            refine XO.q (Q.fieldAddr rfl) ?_
            refine XO.q (Q.ld rfl rfl) ?_
            refine XO.q (Q.fieldAddr rfl) ?_
            refine XO.q (Q.ld rfl rfl) ?_
            refine XO.q (Q.add rfl rfl ⟨by omega, by omega⟩) ?_
            refine XO.q (Q.fieldAddr rfl) ?_
            refine XO.q (Q.ld rfl rfl) ?_
            refine XO.q (Q.add rfl rfl ⟨by omega, by omega⟩) ?_
            refine XO.q (Q.neq rfl rfl) ?_
            refine XO.q (Q.move rfl) ?_
            refine XO.q (Quiet.guardF rfl rfl fun g114 p114 => Q.fieldAddr rfl) ?_
            refine XO.q (Quiet.guardF rfl rfl fun g115 p115 => Q.ld (lzv g115 rfl) rfl) ?_
            refine XO.q (Quiet.guardF rfl rfl fun g116 p116 => Q.gtr (lzv g116 rfl) rfl) ?_
            refine XO.q (Quiet.guardF rfl rfl fun g117 p117 => Q.move (lzv g117 rfl)) ?_
            refine XO.q (Quiet.guard2 rfl rfl fun g118a g118b => have p118a := bpF g118a; have p118b := bpT g118b; Q.fieldAddr rfl) ?_
            refine XO.q (Quiet.guard2 rfl rfl fun g119a g119b => have p119a := bpF g119a; have p119b := bpT g119b; Q.ld (lzv g119b (lzv g119a rfl)) rfl) ?_
            refine XO.q (Quiet.guard2 rfl rfl fun g120a g120b => have p120a := bpF g120a; have p120b := bpT g120b; Q.gtr (lzv g120b (lzv g120a rfl)) rfl) ?_
            refine XO.q (Quiet.guardF rfl rfl fun g121 p121 => Q.and (lzv g121 rfl) (fun hp => (lzv hp (lzv g121 rfl)))) ?_
            refine XO.q (Q.or rfl (fun hp => lzv hp rfl)) ?_
            refine XO.q (Q.move rfl) ?_
            refine XO.q (Quiet.guardF rfl rfl fun g124 p124 => Q.fieldAddr rfl) ?_
            refine XO.q (Quiet.guardF rfl rfl fun g125 p125 => Q.ld (lzv g125 rfl) rfl) ?_
            refine XO.q (Quiet.guardF rfl rfl fun g126 p126 => Q.lss (lzv g126 rfl) rfl) ?_
            refine XO.q (Q.or rfl (fun hp => lzv hp rfl)) ?_
            refine XO.q (Q.move rfl) ?_
            refine XO.q (Quiet.guardF rfl rfl fun g129 p129 => Q.fieldAddr rfl) ?_
            refine XO.q (Quiet.guardF rfl rfl fun g130 p130 => Q.ld (lzv g130 rfl) rfl) ?_
            refine XO.q (Quiet.guardF rfl rfl fun g131 p131 => Q.lss (lzv g131 rfl) rfl) ?_
            refine XO.q (Q.or rfl (fun hp => lzv hp rfl)) ?_
            refine XO.q (Q.move rfl) ?_
            refine XO.q (Quiet.guardF rfl rfl fun g134 p134 => Q.fieldAddr rfl) ?_
            refine XO.q (Quiet.guardF rfl rfl fun g135 p135 => Q.ld (lzv g135 rfl) rfl) ?_
            refine XO.q (Quiet.guardF rfl rfl fun g136 p136 => Q.fieldAddr rfl) ?_
            refine XO.q (Quiet.guardF rfl rfl fun g137 p137 => Q.ld (lzv g137 rfl) rfl) ?_
            refine XO.q (Quiet.guardF rfl rfl fun g138 p138 => Q.neq (lzv g138 rfl) (lzv g138 rfl)) ?_
            refine XO.q (Q.or rfl (fun hp => lzv hp rfl)) ?_
            refine XO.q (Q.move rfl) ?_
            refine XO.q (Quiet.guardF rfl rfl fun g141 p141 => Q.fieldAddr rfl) ?_
            refine XO.q (Quiet.guardF rfl rfl fun g142 p142 => Q.ld (lzv g142 rfl) rfl) ?_
            refine XO.q (Quiet.guardF rfl rfl fun g143 p143 => Q.fieldAddr rfl) ?_
            refine XO.q (Quiet.guardF rfl rfl fun g144 p144 => Q.ld (lzv g144 rfl) rfl) ?_
            refine XO.q (Quiet.guardF rfl rfl fun g145 p145 => Q.lss (lzv g145 rfl) (lzv g145 rfl)) ?_
            refine XO.q (Q.or rfl (fun hp => lzv hp rfl)) ?_
            refine XO.q (Q.move rfl) ?_
            refine XO.q (Quiet.guardF rfl rfl fun g148 p148 => Q.fieldAddr rfl) ?_
            refine XO.q (Quiet.guardF rfl rfl fun g149 p149 => Q.ld (lzv g149 rfl) rfl) ?_
            refine XO.q (Quiet.guardF rfl rfl fun g150 p150 => Q.fieldAddr rfl) ?_
            refine XO.q (Quiet.guardF rfl rfl fun g151 p151 => Q.ld (lzv g151 rfl) rfl) ?_
            refine XO.q (Quiet.guardF rfl rfl fun g152 p152 => Q.fieldAddr rfl) ?_
            refine XO.q (Quiet.guardF rfl rfl fun g153 p153 => Q.ld (lzv g153 rfl) rfl) ?_
            refine XO.q (Quiet.guardF rfl rfl fun g154 p154 => Q.mul (lzv g154 rfl) (lzv g154 rfl) ⟨by omega, by omega⟩) ?_
            refine XO.q (Quiet.guardF rfl rfl fun g155 p155 => Q.neq (lzv g155 rfl) (lzv g155 rfl)) ?_
            refine XO.q (Q.or rfl (fun hp => lzv hp rfl)) ?_
            refine XO.q (Q.move rfl) ?_
            refine XO.q (Quiet.guardF rfl rfl fun g158 p158 => Q.fieldAddr rfl) ?_
            refine XO.q (Quiet.guardF rfl rfl fun g159 p159 => Q.ld (lzv g159 rfl) rfl) ?_
            refine XO.q (Quiet.guardF rfl rfl fun g160 p160 => Q.fieldAddr rfl) ?_
            refine XO.q (Quiet.guardF rfl rfl fun g161 p161 => Q.ld (lzv g161 rfl) rfl) ?_
            refine XO.q (Quiet.guardF rfl rfl fun g162 p162 => Q.fieldAddr rfl) ?_
            refine XO.q (Quiet.guardF rfl rfl fun g163 p163 => Q.ld (lzv g163 rfl) rfl) ?_
            refine XO.q (Quiet.guardF rfl rfl fun g164 p164 => Q.mul (lzv g164 rfl) (lzv g164 rfl) ⟨by omega, by omega⟩) ?_
            refine XO.q (Quiet.guardF rfl rfl fun g165 p165 => Q.neq (lzv g165 rfl) (lzv g165 rfl)) ?_
            refine XO.q (Q.or rfl (fun hp => lzv hp rfl)) ?_
            refine XO.done ?_
            refine XK.if rfl (fun c4 => ?_) (fun c4 => ?_)
            · have _t4 := True.intro
              exact absurd c4 (by omega)
            · have _t4 := True.intro
              refine XK.skip ?_
              refine XK.seq ?_
              refine XK.region rfl ?_
              refine XO.q (Q.fieldAddr rfl) ?_
              refine XO.q (Q.ld rfl rfl) ?_
              refine XO.q (Q.fieldAddr rfl) ?_
              refine XO.q (Q.ld rfl rfl) ?_
              refine XO.q (Q.add rfl rfl ⟨by omega, by omega⟩) ?_
              refine XO.q (Q.fieldAddr rfl) ?_
              refine XO.q (Q.ld rfl rfl) ?_
              refine XO.q (Q.fieldAddr rfl) ?_
              refine XO.q (Q.ld rfl rfl) ?_
              refine XO.q (Q.add rfl rfl ⟨by omega, by omega⟩) ?_
              refine XO.q (Q.fieldAddr rfl) ?_
              refine XO.q (Q.ld rfl rfl) ?_
              refine XO.q (Q.fieldAddr rfl) ?_
              refine XO.q (Q.ld rfl rfl) ?_
              refine XO.q (Q.add rfl rfl ⟨by omega, by omega⟩) ?_
              refine XO.q (Q.fieldAddr rfl) ?_
              refine XO.q (Q.ld rfl rfl) ?_
              refine XO.q (Q.fieldAddr rfl) ?_
              refine XO.q (Q.ld rfl rfl) ?_
              refine XO.q (Q.add rfl rfl ⟨by omega, by omega⟩) ?_
              refine XO.q (Q.fieldAddr rfl) ?_
              refine XO.q (Q.ld rfl rfl) ?_
              refine XO.q (Q.fieldAddr rfl) ?_
              refine XO.q (Q.ld rfl rfl) ?_
              refine XO.q (Q.add rfl rfl ⟨by omega, by omega⟩) ?_
              refine XO.q (Q.fieldAddr rfl) ?_
              refine XO.q (Q.ld rfl rfl) ?_
              refine XO.q (Q.fieldAddr rfl) ?_
              refine XO.q (Q.ld rfl rfl) ?_
              refine XO.q (Q.add rfl rfl ⟨by omega, by omega⟩) ?_
              refine XO.q (Q.fieldAddr rfl) ?_
              refine XO.q (Q.ld rfl rfl) ?_
              refine XO.q (Q.fieldAddr rfl) ?_
              refine XO.q (Q.ld rfl rfl) ?_
              refine XO.q (Q.add rfl rfl ⟨by omega, by omega⟩) ?_
              refine XO.q (Q.build [_, _, _, _, _, _, _] (.c 0 1 rfl rfl rfl (.c 1 1 rfl rfl rfl (.c 2 1 rfl rfl rfl (.c 3 1 rfl rfl rfl (.c 4 1 rfl rfl rfl (.c 5 1 rfl rfl rfl (.c 6 1 rfl rfl rfl (.n _))))))))) ?_
              refine XO.st rfl rfl rfl ?_
              refine XO.done ?_
              refine XK.seq ?_
              refine XK.region rfl ?_
              refine XO.q (Q.move rfl) ?_
              refine XO.q (Q.fieldAddr rfl) ?_
              refine XO.q (Q.ld rfl rfl) ?_
              refine XO.q (Q.max rfl rfl) ?_
              refine XO.q (Q.assign rfl) ?_
              refine XO.done ?_
              refine XK.seq ?_
              refine XK.region rfl ?_
              refine XO.q (Q.move rfl) ?_
              refine XO.q (Q.fieldAddr rfl) ?_
              refine XO.q (Q.ld rfl rfl) ?_
              refine XO.q (Q.fieldAddr rfl) ?_
              refine XO.q (Q.ld rfl rfl) ?_
              refine XO.q (Q.mul rfl rfl ⟨by omega, by omega⟩) ?_
              refine XO.q (Q.fieldAddr rfl) ?_
              refine XO.q (Q.ld rfl rfl) ?_
              refine XO.q (Q.fieldAddr rfl) ?_
              refine XO.q (Q.ld rfl rfl) ?_
              refine XO.q (Q.mul rfl rfl ⟨by omega, by omega⟩) ?_
              refine XO.q (Q.sub rfl rfl ⟨by omega, by omega⟩) ?_
              refine XO.q (Q.add rfl rfl ⟨by omega, by omega⟩) ?_
              refine XO.q (Q.assign rfl) ?_
              refine XO.done ?_
              refine XK.region rfl ?_
              refine XO.q (Q.move rfl) ?_
              refine XO.q (Q.fieldAddr rfl) ?_
              refine XO.q (Q.ld rfl rfl) ?_
              refine XO.q (Q.add rfl rfl ⟨by omega, by omega⟩) ?_
              refine XO.q (Q.assign rfl) ?_
              refine XO.done ?_
              refine XK.inBlock ?_
              refine XK.region rfl ?_
              refine XO.q (Q.add rfl rfl ⟨by omega, by omega⟩) ?_
              refine XO.q (Q.move rfl) ?_
              refine XO.done ?_
              rw [← q9, ← q10, ← q11]
              rw [show (sumRow (rowA d s ch) i).bought + (rows.getD i default).bought = (sumRow (rowA d s ch) (i + 1)).bought by rw [ss]; rfl]
              rw [show (sumRow (rowA d s ch) i).sold + (rows.getD i default).sold = (sumRow (rowA d s ch) (i + 1)).sold by rw [ss]; rfl]
              rw [show (sumRow (rowA d s ch) i).made + (rows.getD i default).made = (sumRow (rowA d s ch) (i + 1)).made by rw [ss]; rfl]
              rw [show (sumRow (rowA d s ch) i).used + (rows.getD i default).used = (sumRow (rowA d s ch) (i + 1)).used by rw [ss]; rfl]
              rw [show (sumRow (rowA d s ch) i).stored + (rows.getD i default).stored = (sumRow (rowA d s ch) (i + 1)).stored by rw [ss]; rfl]
              rw [show (sumRow (rowA d s ch) i).carbon + (rows.getD i default).carbon = (sumRow (rowA d s ch) (i + 1)).carbon by rw [ss]; rfl]
              rw [show (sumRow (rowA d s ch) i).water + (rows.getD i default).water = (sumRow (rowA d s ch) (i + 1)).water by rw [ss]; rfl]
              exact ih0 (i + 1) _ _ (by omega) (by first | omega | (dsimp only; omega)) (.c rfl (.c rfl (.c rfl (.c rfl (.base 289 rfl rfl))))) inferInstance
          · have _t3 := True.intro
            have hin : i = d.hours.length := by omega
            subst hin
            have sti := st _ (Nat.le_refl _)
            have e0 := sti.e0
            have e1 := sti.e1
            have p0 := sti.m0
            have p1 := sti.m1
            have cri := cr _ (Nat.le_refl _)
            have m1k := ok.m1
            have s2 := ok.store.f1
            have pk0 := ok.p0
            have pk1 := ok.p1
            have pp := mul_rng (a := peakTo (needsL d s) ch d.hours.length) (b := d.peak) (m := 40) (n := 1000) p0 (by omega) pk0 pk1 (by omega)
            refine XK.exit rfl ?_
            refine XK.seq ?_
            refine XK.region rfl ?_
            refine XO.q (Q.move rfl) ?_
            refine XO.len rfl fun l226 => ?_
            refine XO.q (Q.fieldAddr rfl) ?_
            refine XO.q (Q.ld rfl rfl) ?_
            refine XO.len rfl fun l229 => ?_
            refine XO.q (Q.eql rfl rfl) ?_
            refine XO.q (Q.move rfl) ?_
            refine XO.q (Quiet.guardT rfl rfl fun g232 p232 => Q.ldA [_, _, _, _, _, _, _] rfl rfl rfl) ?_
            refine XO.q (Quiet.guardT rfl rfl fun g233 p233 => Q.ldA [_, _, _, _, _, _, _] rfl rfl rfl) ?_
            refine XO.q (Quiet.guardT rfl rfl fun g234 p234 => Q.eqlS (us := [_, _, _, _, _, _, _]) (vs := [_, _, _, _, _, _, _]) (lzv g234 rfl) (lzv g234 rfl) inferInstance (by kernel_rfl) (by kernel_rfl) (.c rfl inferInstance inferInstance rfl rfl (.c rfl inferInstance inferInstance rfl rfl (.c rfl inferInstance inferInstance rfl rfl (.c rfl inferInstance inferInstance rfl rfl (.c rfl inferInstance inferInstance rfl rfl (.c rfl inferInstance inferInstance rfl rfl (.c rfl inferInstance inferInstance rfl rfl .n)))))))) ?_
            refine XO.q (Q.and rfl (fun hp => lzv hp rfl)) ?_
            refine XO.q (Q.move rfl) ?_
            refine XO.q (Quiet.guardT rfl rfl fun g237 p237 => Q.move rfl) ?_
            refine XO.q (Quiet.guardT rfl rfl fun g238 p238 => Q.move rfl) ?_
            refine XO.q (Quiet.guardT rfl rfl fun g239 p239 => Q.fieldAddr rfl) ?_
            refine XO.q (Quiet.guardT rfl rfl fun g240 p240 => Q.ld (lzv g240 rfl) rfl) ?_
            refine XO.q (Quiet.guardT rfl rfl fun g241 p241 => Q.mul (lzv g241 rfl) (lzv g241 rfl) ⟨by omega, by omega⟩) ?_
            refine XO.q (Quiet.guardT rfl rfl fun g242 p242 => Q.add (lzv g242 rfl) (lzv g242 rfl) ⟨by omega, by omega⟩) ?_
            refine XO.q (Quiet.guardT rfl rfl fun g243 p243 => Q.move rfl) ?_
            refine XO.q (Quiet.guardT rfl rfl fun g244 p244 => Q.eql (lzv g244 rfl) (lzv g244 rfl)) ?_
            refine XO.q (Q.and rfl (fun hp => lzv hp rfl)) ?_
            refine XO.q (Q.move rfl) ?_
            refine XO.q (Quiet.guardT rfl rfl fun g247 p247 => Q.move rfl) ?_
            refine XO.q (Quiet.guardT rfl rfl fun g248 p248 => Q.fieldAddr rfl) ?_
            refine XO.q (Quiet.guardT rfl rfl fun g249 p249 => Q.fieldAddr (lzv g249 rfl)) ?_
            refine XO.q (Quiet.guardT rfl rfl fun g250 p250 => Q.ld (lzv g250 rfl) rfl) ?_
            refine XO.q (Quiet.guardT rfl rfl fun g251 p251 => Q.geq (lzv g251 rfl) (lzv g251 rfl)) ?_
            refine XO.q (Q.and rfl (fun hp => lzv hp rfl)) ?_
            refine XO.q (Q.move rfl) ?_
            refine XO.gcallT rfl rfl Try.call12 rfl (fun g254 => .n) rfl (fun g254 p254 => awake10) ?_
            refine XO.q (Q.and rfl (fun hp => lzv hp rfl)) ?_
            refine XO.q (Q.assign rfl) ?_
            refine XO.done ?_
            refine XK.rt [] Try.func7 Try.results7 (.t rfl .n) ?_
            have pf : d.store.fin ≤ energyTo d ch d.hours.length := po.fin
            have e2 : costTo d (needsL d s) ch d.hours.length + peakTo (needsL d s) ch d.hours.length * d.peak = costL d (needsL d s) ch := by rw [costL, cl, Int.mul_comm]
            refine ⟨?_, rfl⟩
            simp [rl, e2, pf]
    · intro mtr5
      dsimp only [List.cons_append, List.nil_append] at mtr5
      refine XK.drawn [0, 1, 2, 3, 4, 5, 6, 7, 8, 9, 11, 12, 13, 16] [b7] [kh, kj, ho, K] (.q 0 (.q 1 (.q 2 (.q 3 (.q 4 (.q 5 (.q 6 (.q 7 (.q 8 (.q 9 (.br 10 true (.q 11 (.q 12 (.q 13 (.br 14 true (.br 15 true (.q 16 .done) .stop) .stop)))) (.br 14 true (.br 10 true (.q 11 (.q 12 (.q 13 (.br 15 true (.q 16 .done) .stop)))) .stop) .stop)))))))))))) Try.mixed rfl (by kernel_rfl) ?_
      refine XT.q rfl rfl (Q.ldA [_, _, _, _, _, _, _, _] rfl rfl rfl) ?_
      refine XT.q rfl rfl (Q.move rfl) ?_
      refine XT.q rfl rfl (Q.move rfl) ?_
      refine XT.q rfl rfl (Q.conv rfl) ?_
      rw [wrap64_of ⟨by omega, by omega⟩]
      refine XT.q rfl rfl (Q.move rfl) ?_
      refine XT.q rfl rfl (Q.len rfl) ?_
      refine XT.q rfl rfl (Q.rem rfl rfl (by omega) (by omega)) ?_
      refine XT.ix rfl rfl rfl rfl (by omega) (by omega) fun i45 => ?_
      refine XT.q rfl rfl (Q.ldE rfl (by first | assumption | omega) rfl) ?_
      refine XT.q rfl rfl (Q.move rfl) ?_
      refine XT.call rfl rfl Try.call16 rfl rfl rfl (some_spec d vh vj kh kj ((startsL d).getD ((((n1 : Nat) : Int) % (us.length : Int))).toNat default) (us.getD ((((n1 : Nat) : Int) % (us.length : Int))).toNat default) K v2 h2 x2 ok so) (fun v48 s48 R48 => ?_) ?_
      · skip
        obtain ⟨vc, kc1, rfl, rfl, OC⟩ := R48
        dsimp only [List.cons_append, List.nil_append]
        refine ⟨inferInstance, ?_⟩
        refine XT.q rfl rfl (Q.move rfl) ?_
        refine XT.q rfl rfl (Q.extract rfl rfl) ?_
        refine XT.q rfl rfl (Q.extract rfl rfl) ?_
        refine XT.alloc rfl rfl (fun b10 => ⟨inferInstance, ?_⟩) XT.stop
        refine XT.st rfl rfl rfl rfl rfl ⟨inferInstance, ?_⟩ XT.stop
        refine XT.q rfl rfl (Q.assign rfl) ?_
        refine XT.done ?_
        exact mtr5 ((b10, vc, kc1)) _ _ OC (.c rfl (.c rfl (.base 16 rfl rfl))) inferInstance
      · skip
        refine XT.alloc rfl rfl (fun b10 => ⟨inferInstance, ?_⟩) XT.stop
        refine XT.call rfl rfl Try.call16 rfl rfl rfl (some_spec d vh vj kh kj ((startsL d).getD ((((n1 : Nat) : Int) % (us.length : Int))).toNat default) (us.getD ((((n1 : Nat) : Int) % (us.length : Int))).toNat default) K v2 h2 x2 ok so) (fun v48 s48 R48 => ?_) XT.stop
        obtain ⟨vc, kc1, rfl, rfl, OC⟩ := R48
        dsimp only [List.cons_append, List.nil_append]
        refine ⟨inferInstance, ?_⟩
        refine XT.q rfl rfl (Q.move rfl) ?_
        refine XT.q rfl rfl (Q.extract rfl rfl) ?_
        refine XT.q rfl rfl (Q.extract rfl rfl) ?_
        refine XT.st rfl rfl rfl rfl rfl ⟨inferInstance, ?_⟩ XT.stop
        refine XT.q rfl rfl (Q.assign rfl) ?_
        refine XT.done ?_
        exact mtr5 ((b10, vc, kc1)) _ _ OC (.c rfl (.c rfl (.base 16 rfl rfl))) inferInstance
end Go.X
