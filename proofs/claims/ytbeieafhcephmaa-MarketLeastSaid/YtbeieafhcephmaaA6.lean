/- A part of the proof: a small program logic, plain laws and contracts of functions, each proved by a walk through its operations. No condition but those that stand in each theorem. -/
import Derived.Test.YtbeieafhcephmaaA5
set_option linter.unusedSimpArgs false
set_option linter.unusedVariables false
set_option maxRecDepth 20000
namespace Go.X
open Go.Proofs
set_option maxHeartbeats 4000000 in
set_option synthInstance.maxSize 1000 in
theorem MarketLeast_spec (v0 : Value) (h0 : PHeap) (x0 : List UInt8) [i0 : Arr v0 encU8 1 h0 x0] (n1 : Nat) (hn1 : n1 < 256) (v2 : Value) (h2 : PHeap) (x2 : List UInt8) [i2 : Arr v2 encU8 1 h2 x2] : Spec Try.prog 5 #[v0, .int .u8 (n1 : Nat), v2] [] [h0, h2] (fun v hs => v = .bool true ∧ hs = []) := by
  refine Spec.intro (fn := Try.f5) (N := 128) Try.func5 rfl Try.ntmps5 rfl fun B => ?_
  refine XK.seq ?_
  refine XK.region rfl ?_
  refine XO.q (Q.assign rfl) ?_
  refine XO.done ?_
  refine XK.seq ?_
  refine XK.region rfl ?_
  refine XO.q (Q.move rfl) ?_
  refine XO.call Try.call9 rfl rfl rfl (Made_spec v0 h0 x0) fun v19 s19 R19 => ?_
  obtain ⟨vh, vj, kh, kj, rfl, rfl, OH, OJ⟩ := R19
  dsimp only [List.cons_append, List.nil_append]
  have ok := made_ok x0
  have ml := made_len x0
  have mm := made_most x0
  have mh := fun i hi => made_hour x0 (i := i) hi
  obtain ⟨d, ed⟩ : ∃ d, d = madeD x0 := ⟨_, rfl⟩
  rw [← ed] at OH OJ ok ml mm mh ⊢
  clear ed
  have sn := starts_one ok
  have h24 := ok.h2
  refine XO.alloc fun b7 => ?_
  refine XO.st rfl rfl rfl ?_
  refine XO.done ?_
  refine XK.seq ?_
  refine XK.region rfl ?_
  refine XO.q (Q.ldA [_, _, _, _, _, _, _, _] rfl rfl rfl) ?_
  refine XO.call Try.call15 rfl rfl rfl (Starts_spec d vh vj kh kj) fun v22 s22 R22 => ?_
  obtain ⟨vo, ho, us, K, rfl, rfl, OO, RS⟩ := R22
  dsimp only [List.cons_append, List.nil_append]
  have kc : kcheck d = 0 := kcheck_iff.2 ok
  rw [kc, if_pos rfl] at RS
  rw [kc]
  have RL := RS.1
  refine XO.q (Q.move rfl) ?_
  refine XO.q (Q.extract rfl rfl) ?_
  refine XO.q (Q.extract rfl rfl) ?_
  refine XO.q (Q.assign rfl) ?_
  refine XO.q (Q.assign rfl) ?_
  refine XO.done ?_
  refine XK.seq ?_
  refine XK.seq ?_
  refine XK.region rfl ?_
  refine XO.q (Q.move rfl) ?_
  refine XO.q (Q.neq rfl rfl) ?_
  refine XO.q (Q.move rfl) ?_
  refine XO.q (Quiet.guardF rfl rfl fun g28 p28 => Q.move rfl) ?_
  refine XO.q (Quiet.guardF rfl rfl fun g29 p29 => Q.len (lzv g29 rfl)) ?_
  refine XO.q (Quiet.guardF rfl rfl fun g30 p30 => Q.lss (lzv g30 rfl) rfl) ?_
  refine XO.q (Q.or rfl (fun hp => lzv hp rfl)) ?_
  refine XO.done ?_
  refine XK.if rfl (fun c0 => ?_) (fun c0 => ?_)
  · have _t0 := True.intro
    exact absurd c0 (by omega)
  · have _t0 := True.intro
    have hi0 : ((((n1 : Nat) : Int) % (us.length : Int))).toNat < us.length := by have := Int.emod_nonneg ((n1 : Nat) : Int) (show (us.length : Int) ≠ 0 by omega); have := Int.emod_lt_of_pos ((n1 : Nat) : Int) (show 0 < (us.length : Int) by omega); omega
    have as0 := RS.2 ((((n1 : Nat) : Int) % (us.length : Int))).toNat (by omega)
    have sm := at_mem (d := d) (j := ((((n1 : Nat) : Int) % (us.length : Int))).toNat) (by omega)
    have so := starts_ok sm
    refine XK.skip ?_
    refine XK.seq ?_
    refine XK.meet (X := Nat × Value × PHeap) [10, 11, 32, 33, 34, 35, 36, 37, 38, 39, 40, 41, 42, 43, 44, 45] (fun ⟨b10, vc, kc1⟩ => [(10, some (ptr b10 0)), (11, some (.bool (someP d ((startsL d).getD ((((n1 : Nat) : Int) % (us.length : Int))).toNat default) x2).2))]) (fun ⟨b10, vc, kc1⟩ => [blk b10 [(us.getD ((((n1 : Nat) : Int) % (us.length : Int))).toNat default), vc, .int .i64 0] 32, kc1]) (fun ⟨b10, vc, kc1⟩ => OArr vc encI 1 3 kc1 (someP d ((startsL d).getD ((((n1 : Nat) : Int) % (us.length : Int))).toNat default) x2).1.charge) [] ?_ ?_
    · rintro ⟨b10, vc, kc1⟩ OC
      dsimp only [List.cons_append, List.nil_append]
      obtain ⟨ch, ec⟩ : ∃ c, (someP d ((startsL d).getD ((((n1 : Nat) : Int) % (us.length : Int))).toNat default) x2).1.charge = c := ⟨_, rfl⟩
      obtain ⟨bk, ebk⟩ : ∃ b, (someP d ((startsL d).getD ((((n1 : Nat) : Int) % (us.length : Int))).toNat default) x2).2 = b := ⟨_, rfl⟩
      rw [ec] at OC
      rw [ebk]
      have sf := some_plan ok sm ec
      rw [ebk] at sf
      obtain ⟨s, es⟩ : ∃ s, s = ((startsL d).getD ((((n1 : Nat) : Int) % (us.length : Int))).toNat default) := ⟨_, rfl⟩
      obtain ⟨vs, evs⟩ : ∃ v, v = (us.getD ((((n1 : Nat) : Int) % (us.length : Int))).toNat default) := ⟨_, rfl⟩
      rw [← es] at as0 sm so sf
      rw [← evs] at as0
      rw [← evs]
      clear es evs ec ebk
      refine XK.seq ?_
      refine XK.region rfl ?_
      refine XO.q (Q.assign rfl) ?_
      refine XO.q (Q.assign rfl) ?_
      refine XO.done ?_
      refine XK.seq ?_
      refine XK.seq ?_
      refine XK.region rfl ?_
      refine XO.q (Q.move rfl) ?_
      refine XO.done ?_
      refine XK.meet (X := Int × Int) [12, 13, 47, 48, 49, 50, 51, 52] (fun ⟨c, e⟩ => [(12, some (.int .i64 c)), (13, some (.int .i64 e))]) (fun ⟨c, e⟩ => []) (fun ⟨c, e⟩ => (e = 0 ∧ formG d (⟨s, ch, 0⟩ : KPlan) = (needsL d s, 0) ∧ c = (costL d (needsL d s) ch)) ∨ e = 120) [] ?_ ?_
      · rintro ⟨c, e⟩ pq
        dsimp only [List.cons_append, List.nil_append]
        refine XK.seq ?_
        refine XK.region rfl ?_
        refine XO.q (Q.ldA [_, _, _, _, _, _, _, _] rfl rfl rfl) ?_
        refine XO.call Try.call10 rfl rfl rfl (Best_spec d vh vj kh kj) fun v55 s55 R55 => ?_
        obtain ⟨vs2, vc2, vp, K2, kc2, kp, pus, KP, tabs, rfl, rfl, ow2, AS2, OC2, OP, RP, HT, _⟩ := R55
        dsimp only [List.cons_append, List.nil_append]
        refine XO.q (Q.move rfl) ?_
        refine XO.q (Q.extract rfl rfl) ?_
        refine XO.q (Q.extract rfl rfl) ?_
        refine XO.q (Q.extract rfl rfl) ?_
        refine XO.alloc fun b14 => ?_
        refine XO.st rfl rfl rfl ?_
        refine XO.q (Q.assign rfl) ?_
        refine XO.q (Q.assign rfl) ?_
        refine XO.done ?_
        refine XK.seq ?_
        refine XK.seq ?_
        refine XK.region rfl ?_
        refine XO.q (Q.move rfl) ?_
        refine XO.q (Q.eql rfl rfl) ?_
        refine XO.done ?_
        refine XK.if rfl (fun c2 => ?_) (fun c2 => ?_)
        · have _t2 := True.intro
          have he : e = 120 := by
            rcases pq with ⟨_, h, _⟩ | h
            · exact absurd (by rw [h]) (none_law ok c2 (p := (⟨s, ch, 0⟩ : KPlan)))
            · exact h
          rw [he]
          refine XK.seq ?_
          refine XK.region rfl ?_
          refine XO.q (Q.move rfl) ?_
          refine XO.q (Q.eql rfl rfl) ?_
          refine XO.q (Q.move rfl) ?_
          refine XO.gcallT rfl rfl Try.call12 rfl (fun g64 => .n) rfl (fun g64 p64 => awake10) ?_
          refine XO.q (Q.and rfl (fun hp => lzv hp rfl)) ?_
          refine XO.q (Q.assign rfl) ?_
          refine XO.done ?_
          refine XK.rt [] Try.func5 Try.results5 (.t rfl .n) ?_
          exact ⟨rfl, rfl⟩
        · have _t2 := True.intro
          have b0 : (bestG d).2 = 0 := (best_errs ok).resolve_right c2
          have HT := HT b0
          have tr : TabsR d tabs := ⟨HT.len, HT.tab⟩
          rw [b0]
          refine XK.skip ?_
          refine XK.seq ?_
          refine XK.region rfl ?_
          refine XO.q (Q.ldA [_, _, _, _, _, _, _, _] rfl rfl rfl) ?_
          refine XO.q (Q.ldA [_, _, _] rfl rfl rfl) ?_
          refine XO.call Try.call17 rfl rfl rfl (Cost_spec d vh vj kh kj (bestG d).1 vs2 vc2 K2 kc2) fun v69 s69 R69 => ?_
          obtain ⟨rfl, rfl⟩ := R69
          dsimp only [List.cons_append, List.nil_append]
          rw [cost_best ok b0]
          refine XO.q (Q.move rfl) ?_
          refine XO.q (Q.extract rfl rfl) ?_
          refine XO.q (Q.extract rfl rfl) ?_
          refine XO.q (Q.assign rfl) ?_
          refine XO.q (Q.assign rfl) ?_
          refine XO.done ?_
          refine XK.seq ?_
          refine XK.seq ?_
          refine XK.region rfl ?_
          refine XO.q (Q.move rfl) ?_
          refine XO.q (Q.neq rfl rfl) ?_
          refine XO.q (Q.move rfl) ?_
          refine XO.q (Quiet.guardF rfl rfl fun g75 p75 => Q.move rfl) ?_
          refine XO.q (Quiet.guardF rfl rfl fun g76 p76 => Q.neq (lzv g76 rfl) rfl) ?_
          refine XO.q (Q.or rfl (fun hp => lzv hp rfl)) ?_
          refine XO.q (Q.move rfl) ?_
          refine XO.q (Quiet.guardF rfl rfl fun g79 p79 => Q.move rfl) ?_
          refine XO.q (Quiet.guardF rfl rfl fun g80 p80 => Q.fieldAddr rfl) ?_
          refine XO.q (Quiet.guardF rfl rfl fun g81 p81 => Q.ld (lzv g81 rfl) rfl) ?_
          refine XO.q (Quiet.guardF rfl rfl fun g82 p82 => Q.neq (lzv g82 rfl) (lzv g82 rfl)) ?_
          refine XO.q (Q.or rfl (fun hp => lzv hp rfl)) ?_
          refine XO.q (Q.move rfl) ?_
          refine XO.q (Quiet.guardF rfl rfl fun g85 p85 => Q.ldA [_, _, _, _, _, _, _, _] rfl rfl rfl) ?_
          refine XO.q (Quiet.guardF rfl rfl fun g86 p86 => Q.ldA [_, _, _] rfl rfl rfl) ?_
          refine XO.q (Quiet.guardF rfl rfl fun g87 p87 => Q.move rfl) ?_
          refine XO.gcallF rfl rfl Try.call18 rfl (fun g88 => .c (lzv g88 rfl) (.c (lzv g88 rfl) (.c (lzv g88 rfl) .n))) rfl (fun g88 p88 => Verify_spec d vh vj kh kj (bestG d).1 vs2 vc2 K2 kc2 vp kp KP pus tabs RP) ?_
          refine XO.q (Quiet.guardF rfl rfl fun g89 p89 => Q.neq (lzv g89 rfl) rfl) ?_
          refine XO.q (Q.or rfl (fun hp => lzv hp rfl)) ?_
          refine XO.done ?_
          refine XK.if rfl (fun c3 => ?_) (fun c3 => ?_)
          · have _t3 := True.intro
            exact absurd c3 (by simp [verify_best ok b0 tr])
          · have _t3 := True.intro
            refine XK.skip ?_
            refine XK.seq ?_
            refine XK.seq ?_
            refine XK.region rfl ?_
            refine XO.q (Q.move rfl) ?_
            refine XO.q (Q.neq rfl rfl) ?_
            refine XO.done ?_
            refine XK.if rfl (fun c4 => ?_) (fun c4 => ?_)
            · have _t4 := True.intro
              have he : e = 120 := by
                rcases pq with ⟨h, _⟩ | h
                · exact absurd h c4
                · exact h
              rw [he]
              refine XK.seq ?_
              refine XK.region rfl ?_
              refine XO.q (Q.move rfl) ?_
              refine XO.q (Q.eql rfl rfl) ?_
              refine XO.q (Q.move rfl) ?_
              refine XO.gcallT rfl rfl Try.call12 rfl (fun g96 => .n) rfl (fun g96 p96 => awake10) ?_
              refine XO.q (Q.and rfl (fun hp => lzv hp rfl)) ?_
              refine XO.q (Q.assign rfl) ?_
              refine XO.done ?_
              refine XK.rt [] Try.func5 Try.results5 (.t rfl .n) ?_
              exact ⟨rfl, rfl⟩
            · have _t4 := True.intro
              obtain ⟨e0, f0, hc⟩ : e = 0 ∧ formG d (⟨s, ch, 0⟩ : KPlan) = (needsL d s, 0) ∧ c = (costL d (needsL d s) ch) := by
                rcases pq with h | h
                · exact h
                · omega
              obtain ⟨l1, l2⟩ := least_law ok b0 f0 hc tr
              refine XK.skip ?_
              refine XK.seq ?_
              refine XK.region rfl ?_
              refine XO.q (Q.move rfl) ?_
              refine XO.q (Q.fieldAddr rfl) ?_
              refine XO.st rfl rfl rfl ?_
              refine XO.done ?_
              refine XK.seq ?_
              refine XK.region rfl ?_
              refine XO.q (Q.ldA [_, _, _, _, _, _, _, _] rfl rfl rfl) ?_
              refine XO.q (Q.ldA [_, _, _] rfl rfl rfl) ?_
              refine XO.q (Q.move rfl) ?_
              refine XO.call Try.call18 rfl rfl rfl (Verify_spec d vh vj kh kj (⟨s, ch, c⟩ : KPlan) vs vc K kc1 vp kp KP pus tabs RP) fun v103 s103 R103 => ?_
              obtain ⟨rfl, rfl⟩ := R103
              dsimp only [List.cons_append, List.nil_append]
              refine XO.q (Q.assign rfl) ?_
              refine XO.done ?_
              refine XK.seq ?_
              refine XK.region rfl ?_
              refine XO.q (Q.move rfl) ?_
              refine XO.q (Q.fieldAddr rfl) ?_
              refine XO.q (Q.ld rfl rfl) ?_
              refine XO.q (Q.geq rfl rfl) ?_
              refine XO.q (Q.move rfl) ?_
              refine XO.q (Quiet.guardT rfl rfl fun g109 p109 => Q.move rfl) ?_
              refine XO.q (Quiet.guardT rfl rfl fun g110 p110 => Q.eql (lzv g110 rfl) rfl) ?_
              refine XO.q (Quiet.guardT rfl rfl fun g111 p111 => Q.move rfl) ?_
              refine XO.q (Quiet.guardT rfl rfl fun g112 p112 => Q.fieldAddr rfl) ?_
              refine XO.q (Quiet.guardT rfl rfl fun g113 p113 => Q.ld (lzv g113 rfl) rfl) ?_
              refine XO.q (Quiet.guardT rfl rfl fun g114 p114 => Q.eql (lzv g114 rfl) (lzv g114 rfl)) ?_
              refine XO.q (Quiet.guardT rfl rfl fun g115 p115 => Q.eqlB (lzv g115 rfl) (lzv g115 rfl)) ?_
              refine XO.q (Q.and rfl (fun hp => lzv hp rfl)) ?_
              refine XO.q (Q.move rfl) ?_
              refine XO.q (Quiet.guardT rfl rfl fun g118 p118 => Q.move rfl) ?_
              refine XO.q (Quiet.guardT rfl rfl fun g119 p119 => Q.eql (lzv g119 rfl) rfl) ?_
              refine XO.q (Quiet.guardT rfl rfl fun g120 p120 => Q.move (lzv g120 rfl)) ?_
              refine XO.q (Quiet.guard2 rfl rfl fun g121a g121b => have p121a := bpT g121a; have p121b := bpF g121b; Q.move rfl) ?_
              refine XO.q (Quiet.guard2 rfl rfl fun g122a g122b => have p122a := bpT g122a; have p122b := bpF g122b; Q.eql (lzv g122b (lzv g122a rfl)) rfl) ?_
              refine XO.q (Quiet.guardT rfl rfl fun g123 p123 => Q.or (lzv g123 rfl) (fun hp => (lzv hp (lzv g123 rfl)))) ?_
              refine XO.q (Q.and rfl (fun hp => lzv hp rfl)) ?_
              refine XO.q (Q.move rfl) ?_
              refine XO.gcallT rfl rfl Try.call12 rfl (fun g126 => .n) rfl (fun g126 p126 => awake10) ?_
              refine XO.q (Q.and rfl (fun hp => lzv hp rfl)) ?_
              refine XO.q (Q.assign rfl) ?_
              refine XO.done ?_
              refine XK.rt [] Try.func5 Try.results5 (.t rfl .n) ?_
              refine ⟨?_, rfl⟩
              rcases l2 with ⟨a, b⟩ | ⟨a, b⟩
              · rw [a]; simp [l1, b]
              · rw [a]; simp [l1, b]
      · intro mt1
        dsimp only [List.cons_append, List.nil_append] at mt1
        refine XK.if rfl (fun c1 => ?_) (fun c1 => ?_)
        · have _t1 := True.intro
          refine XK.region rfl ?_
          refine XO.q (Q.ldA [_, _, _, _, _, _, _, _] rfl rfl rfl) ?_
          refine XO.q (Q.ldA [_, _, _] rfl rfl rfl) ?_
          refine XO.call Try.call17 rfl rfl rfl (Cost_spec d vh vj kh kj (⟨s, ch, 0⟩ : KPlan) vs vc K kc1) fun v50 s50 R50 => ?_
          obtain ⟨rfl, rfl⟩ := R50
          dsimp only [List.cons_append, List.nil_append]
          rw [cost_err]
          refine XO.q (Q.move rfl) ?_
          refine XO.q (Q.extract rfl rfl) ?_
          refine XO.q (Q.extract rfl rfl) ?_
          refine XO.q (Q.assign rfl) ?_
          refine XO.q (Q.assign rfl) ?_
          refine XO.done ?_
          exact mt1 (((costG d (⟨s, ch, 0⟩ : KPlan)).1, (formG d (⟨s, ch, 0⟩ : KPlan)).2)) _ _ (by
            rcases sf (by cases bk <;> simp_all) with sf | sf
            · exact .inl ⟨by rw [sf], sf, by rw [cost_yes sf]⟩
            · exact .inr (by rw [sf])) (.c rfl (.c rfl (.base 8 rfl rfl))) inferInstance
        · have _t1 := True.intro
          refine XK.skip ?_
          exact mt1 ((0, 120)) _ _ (.inr rfl) (.c rfl (.c rfl (.base 0 rfl rfl))) inferInstance
    · intro mtr5
      dsimp only [List.cons_append, List.nil_append] at mtr5
      refine XK.drawn [0, 1, 2, 3, 4, 5, 6, 7, 8, 9, 11, 12, 13, 16] [b7] [kh, kj, ho, K] (.q 0 (.q 1 (.q 2 (.q 3 (.q 4 (.q 5 (.q 6 (.q 7 (.q 8 (.q 9 (.br 10 true (.q 11 (.q 12 (.q 13 (.br 14 true (.br 15 true (.q 16 .done) .stop) .stop)))) (.br 14 true (.br 10 true (.q 11 (.q 12 (.q 13 (.br 15 true (.q 16 .done) .stop)))) .stop) .stop)))))))))))) Try.mixed rfl (by kernel_rfl) ?_
      refine XT.q rfl rfl (Q.ldA [_, _, _, _, _, _, _, _] rfl rfl rfl) ?_
      refine XT.q rfl rfl (Q.move rfl) ?_
      refine XT.q rfl rfl (Q.move rfl) ?_
      refine XT.q rfl rfl (Q.conv rfl) ?_
      rw [wrap64_of ⟨by omega, by omega⟩]
      refine XT.q rfl rfl (Q.move rfl) ?_
      refine XT.q rfl rfl (Q.len rfl) ?_
      refine XT.q rfl rfl (Q.rem rfl rfl (by omega) (by omega)) ?_
      refine XT.ix rfl rfl rfl rfl (by omega) (by omega) fun i40 => ?_
      refine XT.q rfl rfl (Q.ldE rfl (by first | assumption | omega) rfl) ?_
      refine XT.q rfl rfl (Q.move rfl) ?_
      refine XT.call rfl rfl Try.call16 rfl rfl rfl (some_spec d vh vj kh kj ((startsL d).getD ((((n1 : Nat) : Int) % (us.length : Int))).toNat default) (us.getD ((((n1 : Nat) : Int) % (us.length : Int))).toNat default) K v2 h2 x2 ok so) (fun v43 s43 R43 => ?_) ?_
      · skip
        obtain ⟨vc, kc1, rfl, rfl, OC⟩ := R43
        dsimp only [List.cons_append, List.nil_append]
        refine ⟨inferInstance, ?_⟩
        refine XT.q rfl rfl (Q.move rfl) ?_
        refine XT.q rfl rfl (Q.extract rfl rfl) ?_
        refine XT.q rfl rfl (Q.extract rfl rfl) ?_
        refine XT.alloc rfl rfl (fun b10 => ⟨inferInstance, ?_⟩) XT.stop
        refine XT.st rfl rfl rfl rfl rfl ⟨inferInstance, ?_⟩ XT.stop
        refine XT.q rfl rfl (Q.assign rfl) ?_
        refine XT.done ?_
        exact mtr5 ((b10, vc, kc1)) _ _ OC (.c rfl (.c rfl (.base 16 rfl rfl))) inferInstance
      · skip
        refine XT.alloc rfl rfl (fun b10 => ⟨inferInstance, ?_⟩) XT.stop
        refine XT.call rfl rfl Try.call16 rfl rfl rfl (some_spec d vh vj kh kj ((startsL d).getD ((((n1 : Nat) : Int) % (us.length : Int))).toNat default) (us.getD ((((n1 : Nat) : Int) % (us.length : Int))).toNat default) K v2 h2 x2 ok so) (fun v43 s43 R43 => ?_) XT.stop
        obtain ⟨vc, kc1, rfl, rfl, OC⟩ := R43
        dsimp only [List.cons_append, List.nil_append]
        refine ⟨inferInstance, ?_⟩
        refine XT.q rfl rfl (Q.move rfl) ?_
        refine XT.q rfl rfl (Q.extract rfl rfl) ?_
        refine XT.q rfl rfl (Q.extract rfl rfl) ?_
        refine XT.st rfl rfl rfl rfl rfl ⟨inferInstance, ?_⟩ XT.stop
        refine XT.q rfl rfl (Q.assign rfl) ?_
        refine XT.done ?_
        exact mtr5 ((b10, vc, kc1)) _ _ OC (.c rfl (.c rfl (.base 16 rfl rfl))) inferInstance
end Go.X
