/- A part of the proof: a small program logic, plain laws and contracts of functions, each proved by a walk through its operations. No condition but those that stand in each theorem. -/
import Derived.Test.YtohdobhnbhcjhaaA3
set_option linter.unusedSimpArgs false
set_option linter.unusedVariables false
set_option maxRecDepth 20000
namespace Go.X
open Go.Proofs
def encTier (x : MTier) : List Value := [.int .i64 x.min, .int .i64 x.pct]
def encBill (x : MBill) : List Value := [.int .i64 x.energy, .int .i64 x.amount, .int .i64 x.credit, .int .i64 x.due]
def encUse (x : Value × MUse) : List Value := [x.1, .int .i64 x.2.out]
instance : Inhabited (Value × MUse) := ⟨(.slice none 0 0, default)⟩
theorem right_spec (t : MTariff) (vp vt : Value) (hp ht : PHeap) [jp : Arr vp encI 1 hp t.price] [jt : Arr vt encTier 2 ht t.tiers] : Spec Try.prog 46 #[.agg #[vp, .int .i64 t.base, vt, .int .i64 t.credit]] [] [hp, ht] (fun v hs => v = .int .i64 (rightG t) ∧ hs = []) := by
  have lp := jp.le
  have lt := jt.le
  refine Spec.intro (fn := Try.f46) (N := 91) Try.func46 rfl Try.ntmps46 rfl fun B => ?_
  refine XK.seq ?_
  refine XK.region rfl ?_
  refine XO.box rfl fun b1 => ?_
  refine XO.q (Q.assign rfl) ?_
  refine XO.done ?_
  refine XK.seq ?_
  refine XK.block ?_
  refine XK.seq ?_
  refine XK.region rfl ?_
  refine XO.q (Q.fieldAddr rfl) ?_
  refine XO.q (Q.fieldAddr rfl) ?_
  refine XO.q (Q.ld rfl rfl) ?_
  refine XO.len rfl fun l9 => ?_
  refine XO.q (Q.neq rfl rfl) ?_
  refine XO.q (Q.assign rfl) ?_
  refine XO.done ?_
  refine XK.if rfl (fun c0 => ?_) (fun c0 => ?_)
  · have _t0 := True.intro
    refine XK.seq ?_
    refine XK.region rfl ?_
    refine XO.q (Q.assign rfl) ?_
    refine XO.done ?_
    refine XK.rt [] Try.func46 Try.results46 (.t rfl .n) ?_
    exact ⟨by rw [rightG, if_pos c0], rfl⟩
  · have _t0 := True.intro
    refine XK.seq ?_
    refine XK.region rfl ?_
    refine XO.q (Q.fieldAddr rfl) ?_
    refine XO.q (Q.fieldAddr rfl) ?_
    refine XO.q (Q.ld rfl rfl) ?_
    refine XO.len rfl fun l15 => ?_
    refine XO.q (Q.gtr rfl rfl) ?_
    refine XO.q (Q.assign rfl) ?_
    refine XO.done ?_
    refine XK.if rfl (fun c1 => ?_) (fun c1 => ?_)
    · have _t1 := True.intro
      refine XK.seq ?_
      refine XK.region rfl ?_
      refine XO.q (Q.assign rfl) ?_
      refine XO.done ?_
      refine XK.rt [] Try.func46 Try.results46 (.t rfl .n) ?_
      exact ⟨by rw [rightG, if_neg c0, if_pos c1], rfl⟩
    · have _t1 := True.intro
      refine XK.seq ?_
      refine XK.region rfl ?_
      refine XO.q (Q.fieldAddr rfl) ?_
      refine XO.q (Q.fieldAddr rfl) ?_
      refine XO.q (Q.ld rfl rfl) ?_
      refine XO.call Try.call47 rfl rfl rfl (in_spec11 1000 vp hp t.price) fun v21 s21 R21 => ?_
      obtain ⟨rfl, rfl⟩ := R21
      dsimp only [List.cons_append, List.nil_append]
      refine XO.q (Q.not rfl) ?_
      refine XO.q (Q.move rfl) ?_
      refine XO.q (Quiet.guardF rfl rfl fun g24 p24 => Q.fieldAddr rfl) ?_
      refine XO.q (Quiet.guardF rfl rfl fun g25 p25 => Q.fieldAddr (lzv g25 rfl)) ?_
      refine XO.q (Quiet.guardF rfl rfl fun g26 p26 => Q.ld (lzv g26 rfl) rfl) ?_
      refine XO.lit1 [_] [_] [t.base] encI rfl rfl (by rfl) (by rfl) rfl (by rfl) (fun g27 => by exact .c 0 1 (lzv g27 rfl) rfl rfl (.n _)) (fun _ => rfl) (by rfl) rfl (fun _ => by infer_instance) rfl (fun v27 h27 O27 => ?_)
      refine XO.gcallF rfl rfl Try.call47 rfl (fun g28 => .c rfl (.c (lzv g28 rfl) .n)) rfl (fun g28 p28 => by haveI := O27 g28; exact in_spec11 1000000000 v27 h27 [t.base]) ?_
      refine XO.q (Quiet.guardF rfl rfl fun g29 p29 => Q.not (lzv g29 rfl)) ?_
      refine XO.q (Q.or rfl (fun hp => lzv hp rfl)) ?_
      refine XO.q (Q.move rfl) ?_
      refine XO.q (Quiet.guardF rfl rfl fun g32 p32 => Q.fieldAddr rfl) ?_
      refine XO.q (Quiet.guardF rfl rfl fun g33 p33 => Q.fieldAddr (lzv g33 rfl)) ?_
      refine XO.q (Quiet.guardF rfl rfl fun g34 p34 => Q.ld (lzv g34 rfl) rfl) ?_
      refine XO.lit1 [_] [_] [t.credit] encI rfl rfl (by rfl) (by rfl) rfl (by rfl) (fun g35 => by exact .c 0 1 (lzv g35 rfl) rfl rfl (.n _)) (fun _ => rfl) (by rfl) rfl (fun _ => by infer_instance) rfl (fun v35 h35 O35 => ?_)
      refine XO.gcallF rfl rfl Try.call47 rfl (fun g36 => .c rfl (.c (lzv g36 rfl) .n)) rfl (fun g36 p36 => by haveI := O35 g36; exact in_spec11 100 v35 h35 [t.credit]) ?_
      refine XO.q (Quiet.guardF rfl rfl fun g37 p37 => Q.not (lzv g37 rfl)) ?_
      refine XO.q (Q.or rfl (fun hp => lzv hp rfl)) ?_
      refine XO.q (Q.assign rfl) ?_
      refine XO.done ?_
      refine XK.if rfl (fun c2 => ?_) (fun c2 => ?_)
      · have _t2 := True.intro
        refine XK.seq ?_
        refine XK.region rfl ?_
        refine XO.q (Q.assign rfl) ?_
        refine XO.done ?_
        refine XK.rt [] Try.func46 Try.results46 (.t rfl .n) ?_
        exact ⟨by rw [rightG, if_neg c0, if_neg c1, if_pos c2], rfl⟩
      · have _t2 := True.intro
        refine XK.skip ?_
        refine XK.inBlock ?_
        refine XK.seq ?_
        refine XK.seq ?_
        refine XK.region rfl ?_
        refine XO.q (Q.fieldAddr rfl) ?_
        refine XO.q (Q.fieldAddr rfl) ?_
        refine XO.q (Q.ld rfl rfl) ?_
        refine XO.len rfl fun l42 => ?_
        refine XO.q (Q.move rfl) ?_
        refine XO.done ?_
        refine XK.block ?_
        refine XK.while (X := Nat) [2, 3, 4, 43, 44, 45, 46, 47, 48, 49, 50, 51, 52, 53, 54, 55, 56, 57, 58, 59, 60, 61, 62, 63, 64, 65, 66, 67, 68, 69, 70, 71, 72, 73, 74, 75, 76, 77, 78, 79, 80, 81, 82, 83, 84, 85, 86, 87, 88, 89, 90] (fun i => [(43, some (.int .i64 (i : Nat)))]) (fun i => []) (fun i => i ≤ t.tiers.length ∧ tiersOk t i = true) (fun i => t.tiers.length - i) (0) [] rfl ⟨by omega, rfl⟩ (.c rfl (.base 0 rfl rfl)) ?_
        rintro i ⟨hi, hall⟩ ih0
        dsimp only [List.cons_append, List.nil_append] at ih0 ⊢
        refine XK.seq ?_
        refine XK.region rfl ?_
        refine XO.q (Q.lss rfl rfl) ?_
        refine XO.done ?_
        refine XK.seq ?_
        refine XK.if rfl (fun c3 => ?_) (fun c3 => ?_)
        · have _t3 := True.intro
          refine XK.skip ?_
          refine XK.seq ?_
          refine XK.block ?_
          refine XK.seq ?_
          refine XK.region rfl ?_
          refine XO.q (Q.move rfl) ?_
          refine XO.ix rfl rfl (by omega) (by omega) fun i46 => ?_
          refine XO.q (Q.ldEA [_, _] rfl (by first | assumption | omega) rfl rfl) ?_
          refine XO.alloc fun b4 => ?_
          refine XO.q (Q.assign rfl) ?_
          refine XO.st rfl rfl rfl ?_
          refine XO.done ?_
          refine XK.seq ?_
          refine XK.drawn [0, 1, 4, 5, 6, 7, 10, 11, 12, 13, 14, 15, 16, 17, 18, 19, 20, 21, 22, 23, 24, 25, 26, 27, 28, 29, 30, 31, 32, 33, 34, 35, 36, 37, 38, 39, 40, 41] [b4, b1] [] (.q 0 (.q 1 (.br 2 true (.br 3 true (.q 4 (.q 5 (.q 6 (.q 7 (.br 8 true (.br 9 true (.q 10 (.q 11 (.q 12 (.q 13 (.q 14 (.q 15 (.q 16 (.q 17 (.q 18 (.q 19 (.q 20 (.q 21 (.q 22 (.q 23 (.q 24 (.q 25 (.q 26 (.q 27 (.q 28 (.q 29 (.q 30 (.q 31 (.q 32 (.q 33 (.q 34 (.q 35 (.q 36 (.q 37 (.q 38 (.q 39 (.q 40 (.q 41 .done)))))))))))))))))))))))))))))))) .stop) .stop))))) .stop) .stop))) Try.mixed rfl (by kernel_rfl) ?_
          refine XT.q rfl rfl (Q.fieldAddr rfl) ?_
          refine XT.q rfl rfl (Q.ld rfl rfl) ?_
          refine XT.lit [_] [_] [(t.tiers.getD i default).min] encI rfl rfl (by rfl) (by rfl) rfl (by rfl) (by exact .c 0 1 rfl rfl rfl (.n _)) (fun _ => rfl) (by rfl) rfl (by infer_instance) rfl (fun v50 h50 O50 => ⟨inferInstance, ?_⟩) XT.stop
          refine XT.call rfl rfl Try.call47 rfl rfl rfl (in_spec11 50000 v50 h50 [(t.tiers.getD i default).min]) (fun v51 s51 R51 => ?_) XT.stop
          obtain ⟨rfl, rfl⟩ := R51
          dsimp only [List.cons_append, List.nil_append]
          refine ⟨inferInstance, ?_⟩
          refine XT.q rfl rfl (Q.not rfl) ?_
          refine XT.q rfl rfl (Q.move rfl) ?_
          refine XT.q rfl rfl (Quiet.guardF rfl rfl fun g54 p54 => Q.fieldAddr rfl) ?_
          refine XT.q rfl rfl (Quiet.guardF rfl rfl fun g55 p55 => Q.ld (lzv g55 rfl) rfl) ?_
          refine XT.lit1 [_] [_] [(t.tiers.getD i default).pct] encI rfl rfl rfl rfl (by rfl) (by rfl) rfl (by rfl) (fun g56 => by exact .c 0 1 (lzv g56 rfl) rfl rfl (.n _)) (fun _ => rfl) (by rfl) rfl (fun _ => by infer_instance) rfl (fun v56 h56 O56 => ⟨inferInstance, ?_⟩) XT.stop
          refine XT.gcallF rfl rfl rfl rfl Try.call47 rfl (fun g57 => .c rfl (.c (lzv g57 rfl) .n)) rfl (fun g57 p57 => by haveI := O56 g57; exact in_spec11 100 v56 h56 [(t.tiers.getD i default).pct]) ⟨inferInstance, ?_⟩ XT.stop
          refine XT.q rfl rfl (Quiet.guardF rfl rfl fun g58 p58 => Q.not (lzv g58 rfl)) ?_
          refine XT.q rfl rfl (Q.or rfl (fun hp => lzv hp rfl)) ?_
          refine XT.q rfl rfl (Q.move rfl) ?_
          refine XT.q rfl rfl (Quiet.guardF rfl rfl fun g61 p61 => Q.move rfl) ?_
          refine XT.q rfl rfl (Quiet.guardF rfl rfl fun g62 p62 => Q.gtr (lzv g62 rfl) rfl) ?_
          refine XT.q rfl rfl (Quiet.guardF rfl rfl fun g63 p63 => Q.move (lzv g63 rfl)) ?_
          refine XT.q rfl rfl (Quiet.guard2 rfl rfl fun g64a g64b => have p64a := bpF g64a; have p64b := bpT g64b; Q.fieldAddr rfl) ?_
          refine XT.q rfl rfl (Quiet.guard2 rfl rfl fun g65a g65b => have p65a := bpF g65a; have p65b := bpT g65b; Q.ld (lzv g65b (lzv g65a rfl)) rfl) ?_
          refine XT.q rfl rfl (Quiet.guard2 rfl rfl fun g66a g66b => have p66a := bpF g66a; have p66b := bpT g66b; Q.fieldAddr rfl) ?_
          refine XT.q rfl rfl (Quiet.guard2 rfl rfl fun g67a g67b => have p67a := bpF g67a; have p67b := bpT g67b; Q.fieldAddr (lzv g67b (lzv g67a rfl))) ?_
          refine XT.q rfl rfl (Quiet.guard2 rfl rfl fun g68a g68b => have p68a := bpF g68a; have p68b := bpT g68b; Q.ld (lzv g68b (lzv g68a rfl)) rfl) ?_
          refine XT.q rfl rfl (Quiet.guard2 rfl rfl fun g69a g69b => have p69a := bpF g69a; have p69b := bpT g69b; Q.move rfl) ?_
          refine XT.q rfl rfl (Quiet.guard2 rfl rfl fun g70a g70b => have p70a := bpF g70a; have p70b := bpT g70b; Q.sub (lzv g70b (lzv g70a rfl)) rfl ⟨by omega, by omega⟩) ?_
          refine XT.q rfl rfl (Quiet.guard2 rfl rfl fun g71a g71b => have p71a := bpF g71a; have p71b := bpT g71b; Q.ix (lzv g71b (lzv g71a rfl)) (lzv g71b (lzv g71a rfl)) (by omega) (by omega)) ?_
          refine XT.q rfl rfl (Quiet.guard2 rfl rfl fun g72a g72b => have p72a := bpF g72a; have p72b := bpT g72b; Q.fieldQ (lzv g72b (lzv g72a rfl)) (by first | assumption | omega)) ?_
          refine XT.q rfl rfl (Quiet.guard2 rfl rfl fun g73a g73b => have p73a := bpF g73a; have p73b := bpT g73b; Q.ldE (lzv g73b (lzv g73a rfl)) (by first | assumption | omega) rfl) ?_
          refine XT.q rfl rfl (Quiet.guard2 rfl rfl fun g74a g74b => have p74a := bpF g74a; have p74b := bpT g74b; Q.leq (lzv g74b (lzv g74a rfl)) (lzv g74b (lzv g74a rfl))) ?_
          refine XT.q rfl rfl (Quiet.guard2 rfl rfl fun g75a g75b => have p75a := bpF g75a; have p75b := bpT g75b; Q.move (lzv g75b (lzv g75a rfl))) ?_
          refine XT.q rfl rfl (Quiet.guard3 rfl rfl fun g76a g76b g76c => have p76a := bpF g76a; have p76b := bpT g76b; have p76c := bpF g76c; Q.fieldAddr rfl) ?_
          refine XT.q rfl rfl (Quiet.guard3 rfl rfl fun g77a g77b g77c => have p77a := bpF g77a; have p77b := bpT g77b; have p77c := bpF g77c; Q.ld (lzv g77c (lzv g77b (lzv g77a rfl))) rfl) ?_
          refine XT.q rfl rfl (Quiet.guard3 rfl rfl fun g78a g78b g78c => have p78a := bpF g78a; have p78b := bpT g78b; have p78c := bpF g78c; Q.fieldAddr rfl) ?_
          refine XT.q rfl rfl (Quiet.guard3 rfl rfl fun g79a g79b g79c => have p79a := bpF g79a; have p79b := bpT g79b; have p79c := bpF g79c; Q.fieldAddr (lzv g79c (lzv g79b (lzv g79a rfl)))) ?_
          refine XT.q rfl rfl (Quiet.guard3 rfl rfl fun g80a g80b g80c => have p80a := bpF g80a; have p80b := bpT g80b; have p80c := bpF g80c; Q.ld (lzv g80c (lzv g80b (lzv g80a rfl))) rfl) ?_
          refine XT.q rfl rfl (Quiet.guard3 rfl rfl fun g81a g81b g81c => have p81a := bpF g81a; have p81b := bpT g81b; have p81c := bpF g81c; Q.move rfl) ?_
          refine XT.q rfl rfl (Quiet.guard3 rfl rfl fun g82a g82b g82c => have p82a := bpF g82a; have p82b := bpT g82b; have p82c := bpF g82c; Q.sub (lzv g82c (lzv g82b (lzv g82a rfl))) rfl ⟨by omega, by omega⟩) ?_
          refine XT.q rfl rfl (Quiet.guard3 rfl rfl fun g83a g83b g83c => have p83a := bpF g83a; have p83b := bpT g83b; have p83c := bpF g83c; Q.ix (lzv g83c (lzv g83b (lzv g83a rfl))) (lzv g83c (lzv g83b (lzv g83a rfl))) (by omega) (by omega)) ?_
          refine XT.q rfl rfl (Quiet.guard3 rfl rfl fun g84a g84b g84c => have p84a := bpF g84a; have p84b := bpT g84b; have p84c := bpF g84c; Q.fieldQ (lzv g84c (lzv g84b (lzv g84a rfl))) (by first | assumption | omega)) ?_
          refine XT.q rfl rfl (Quiet.guard3 rfl rfl fun g85a g85b g85c => have p85a := bpF g85a; have p85b := bpT g85b; have p85c := bpF g85c; Q.ldE (lzv g85c (lzv g85b (lzv g85a rfl))) (by first | assumption | omega) rfl) ?_
          refine XT.q rfl rfl (Quiet.guard3 rfl rfl fun g86a g86b g86c => have p86a := bpF g86a; have p86b := bpT g86b; have p86c := bpF g86c; Q.lss (lzv g86c (lzv g86b (lzv g86a rfl))) (lzv g86c (lzv g86b (lzv g86a rfl)))) ?_
          refine XT.q rfl rfl (Quiet.guard2 rfl rfl fun g87a g87b => have p87a := bpF g87a; have p87b := bpT g87b; Q.or (lzv g87b (lzv g87a rfl)) (fun hp => (lzv hp (lzv g87b (lzv g87a rfl))))) ?_
          refine XT.q rfl rfl (Quiet.guardF rfl rfl fun g88 p88 => Q.and (lzv g88 rfl) (fun hp => (lzv hp (lzv g88 rfl)))) ?_
          refine XT.q rfl rfl (Q.or rfl (fun hp => lzv hp rfl)) ?_
          refine XT.done ?_
          refine XK.if rfl (fun c4 => ?_) (fun c4 => ?_)
          · have _t4 := True.intro
            refine XK.seq ?_
            refine XK.region rfl ?_
            refine XO.q (Q.assign rfl) ?_
            refine XO.done ?_
            refine XK.rt [] Try.func46 Try.results46 (.t rfl .n) ?_
            exact ⟨by rw [rightG, if_neg c0, if_neg c1, if_neg c2, if_neg (by rw [tiersOk, allTo_false (s := i) (by omega) (by rw [Bool.not_eq_false', decide_eq_true_eq]; exact c4)]; decide)], rfl⟩
          · have _t4 := True.intro
            refine XK.skip ?_
            refine XK.inBlock ?_
            refine XK.region rfl ?_
            refine XO.q (Q.add rfl rfl ⟨by omega, by omega⟩) ?_
            refine XO.q (Q.move rfl) ?_
            refine XO.done ?_
            exact ih0 (i + 1) _ _ ⟨by omega, by rw [tiersOk, allTo_succ]; rw [tiersOk] at hall; rw [hall, Bool.true_and, Bool.not_eq_true', decide_eq_false_iff_not]; exact c4⟩ (by first | omega | (dsimp only; omega)) (.c rfl (.base 102 rfl rfl)) inferInstance
        · have _t3 := True.intro
          refine XK.exit rfl ?_
          refine XK.seq ?_
          refine XK.region rfl ?_
          refine XO.q (Q.assign rfl) ?_
          refine XO.done ?_
          refine XK.rt [] Try.func46 Try.results46 (.t rfl .n) ?_
          have hin : i = t.tiers.length := by omega
          rw [hin] at hall
          exact ⟨by rw [rightG, if_neg c0, if_neg c1, if_neg c2, if_pos hall], rfl⟩
theorem percent_spec (t : MTariff) (vp vt : Value) (hp ht : PHeap) [jp : Arr vp encI 1 hp t.price] [jt : Arr vt encTier 2 ht t.tiers] (out : Int) : Spec Try.prog 48 #[.agg #[vp, .int .i64 t.base, vt, .int .i64 t.credit], .int .i64 out] [] [hp, ht] (fun v hs => v = .int .i64 (percentL t out) ∧ hs = []) := by
  have lt := jt.le
  refine Spec.intro (fn := Try.f48) (N := 28) Try.func48 rfl Try.ntmps48 rfl fun B => ?_
  refine XK.seq ?_
  refine XK.region rfl ?_
  refine XO.box rfl fun b2 => ?_
  refine XO.q (Q.assign rfl) ?_
  refine XO.done ?_
  refine XK.seq ?_
  refine XK.region rfl ?_
  refine XO.q (Q.assign rfl) ?_
  refine XO.done ?_
  refine XK.seq ?_
  refine XK.seq ?_
  refine XK.region rfl ?_
  refine XO.q (Q.fieldAddr rfl) ?_
  refine XO.q (Q.fieldAddr rfl) ?_
  refine XO.q (Q.ld rfl rfl) ?_
  refine XO.len rfl fun l11 => ?_
  refine XO.q (Q.move rfl) ?_
  refine XO.done ?_
  refine XK.block ?_
  refine XK.while (X := Nat) [5, 7, 12, 13, 14, 15, 16, 17, 18, 19, 20, 21, 22] (fun i => [(12, some (.int .i64 (i : Nat))), (5, some (.int .i64 (pctTo t out i)))]) (fun i => []) (fun i => i ≤ t.tiers.length) (fun i => t.tiers.length - i) (0) [] rfl (by omega) (.c rfl (.c rfl (.base 0 rfl rfl))) ?_
  rintro i hi ih0
  dsimp only [List.cons_append, List.nil_append] at ih0 ⊢
  refine XK.seq ?_
  refine XK.region rfl ?_
  refine XO.q (Q.lss rfl rfl) ?_
  refine XO.done ?_
  refine XK.seq ?_
  refine XK.if rfl (fun c0 => ?_) (fun c0 => ?_)
  · have _t0 := True.intro
    refine XK.skip ?_
    refine XK.seq ?_
    refine XK.block ?_
    refine XK.seq ?_
    refine XK.region rfl ?_
    refine XO.ix rfl rfl (by omega) (by omega) fun i14 => ?_
    refine XO.q (Q.ldEA [_, _] rfl (by first | assumption | omega) rfl rfl) ?_
    refine XO.alloc fun b7 => ?_
    refine XO.st rfl rfl rfl ?_
    refine XO.done ?_
    refine XK.seq ?_
    refine XK.region rfl ?_
    refine XO.q (Q.fieldAddr rfl) ?_
    refine XO.q (Q.ld rfl rfl) ?_
    refine XO.q (Q.move rfl) ?_
    refine XO.q (Q.leq rfl rfl) ?_
    refine XO.done ?_
    refine XK.if rfl (fun c1 => ?_) (fun c1 => ?_)
    · have _t1 := True.intro
      refine XK.region rfl ?_
      refine XO.q (Q.fieldAddr rfl) ?_
      refine XO.q (Q.ld rfl rfl) ?_
      refine XO.q (Q.assign rfl) ?_
      refine XO.done ?_
      refine XK.inBlock ?_
      refine XK.region rfl ?_
      refine XO.q (Q.add rfl rfl ⟨by omega, by omega⟩) ?_
      refine XO.q (Q.move rfl) ?_
      refine XO.done ?_
      rw [show (t.tiers.getD i default).pct = pctTo t out (i + 1) by rw [pctTo, if_pos c1]]
      exact ih0 (i + 1) _ _ (by omega) (by first | omega | (dsimp only; omega)) (.c rfl (.c rfl (.base 28 rfl rfl))) inferInstance
    · have _t1 := True.intro
      refine XK.skip ?_
      refine XK.inBlock ?_
      refine XK.region rfl ?_
      refine XO.q (Q.add rfl rfl ⟨by omega, by omega⟩) ?_
      refine XO.q (Q.move rfl) ?_
      refine XO.done ?_
      rw [show pctTo t out i = pctTo t out (i + 1) by rw [pctTo, if_neg c1]]
      exact ih0 (i + 1) _ _ (by omega) (by first | omega | (dsimp only; omega)) (.c rfl (.c rfl (.base 25 rfl rfl))) inferInstance
  · have _t0 := True.intro
    refine XK.exit rfl ?_
    refine XK.seq ?_
    refine XK.region rfl ?_
    refine XO.q (Q.move rfl) ?_
    refine XO.q (Q.fieldAddr rfl) ?_
    refine XO.q (Q.fieldAddr rfl) ?_
    refine XO.q (Q.ld rfl rfl) ?_
    refine XO.q (Q.min rfl rfl) ?_
    refine XO.q (Q.assign rfl) ?_
    refine XO.done ?_
    refine XK.rt [] Try.func48 Try.results48 (.t rfl .n) ?_
    have hin : i = t.tiers.length := by omega
    rw [hin]
    exact ⟨rfl, rfl⟩
theorem Make_spec (t : MTariff) (vp vt : Value) (hp ht : PHeap) [jp : Arr vp encI 1 hp t.price] [jt : Arr vt encTier 2 ht t.tiers] (u : MUse) (vu : Value) (hu : PHeap) [ju : Arr vu encI 1 hu u.values] : Spec Try.prog 11 #[.agg #[vp, .int .i64 t.base, vt, .int .i64 t.credit], .agg #[vu, .int .i64 u.out]] [] [hp, ht, hu] (fun v hs => v = .tuple #[.agg #[.int .i64 (makeG t u).1.energy, .int .i64 (makeG t u).1.amount, .int .i64 (makeG t u).1.credit, .int .i64 (makeG t u).1.due], .int .i64 (makeG t u).2] ∧ hs = []) := by
  have lu := ju.le
  refine Spec.intro (fn := Try.f11) (N := 86) Try.func11 rfl Try.ntmps11 rfl fun B => ?_
  refine XK.seq ?_
  refine XK.region rfl ?_
  refine XO.box rfl fun b2 => ?_
  refine XO.box rfl fun b3 => ?_
  refine XO.alloc fun b4 => ?_
  refine XO.q (Q.assign rfl) ?_
  refine XO.done ?_
  refine XK.seq ?_
  refine XK.region rfl ?_
  refine XO.q (Q.ldA [_, _, _, _] rfl rfl rfl) ?_
  refine XO.q (Q.build [_, _, _, _] (.c 0 4 rfl rfl rfl (.n _))) ?_
  refine XO.alloc fun b6 => ?_
  refine XO.st rfl rfl rfl ?_
  refine XO.done ?_
  refine XK.seq ?_
  refine XK.seq ?_
  refine XK.region rfl ?_
  refine XO.q (Q.ldA [_, _, _, _] rfl rfl rfl) ?_
  refine XO.call Try.call46 rfl rfl rfl (right_spec t vp vt hp ht) fun v14 s14 R14 => ?_
  obtain ⟨rfl, rfl⟩ := R14
  dsimp only [List.cons_append, List.nil_append]
  refine XO.q (Q.assign rfl) ?_
  refine XO.done ?_
  refine XK.seq ?_
  refine XK.region rfl ?_
  refine XO.q (Q.move rfl) ?_
  refine XO.q (Q.neq rfl rfl) ?_
  refine XO.done ?_
  refine XK.if rfl (fun c0 => ?_) (fun c0 => ?_)
  · have _t0 := True.intro
    refine XK.seq ?_
    refine XK.region rfl ?_
    refine XO.q (Q.build [_, _, _, _] (.n _)) ?_
    refine XO.q (Q.move rfl) ?_
    refine XO.st rfl rfl rfl ?_
    refine XO.q (Q.assign rfl) ?_
    refine XO.done ?_
    refine XK.rt [] Try.func11 Try.results11 (.cell [_, _, _, _] rfl rfl rfl (.t rfl .n)) ?_
    have hw0 : makeG t u = (default, rightG t) := by rw [makeG, if_pos c0]
    rw [hw0]
    exact ⟨rfl, rfl⟩
  · have _t0 := True.intro
    have k := right_ok (Decidable.of_not_not c0)
    have pl := k.len
    have bs := k.base
    refine XK.skip ?_
    refine XK.seq ?_
    refine XK.block ?_
    refine XK.seq ?_
    refine XK.region rfl ?_
    refine XO.q (Q.fieldAddr rfl) ?_
    refine XO.q (Q.ld rfl rfl) ?_
    refine XO.len rfl fun l22 => ?_
    refine XO.q (Q.gtr rfl rfl) ?_
    refine XO.q (Q.assign rfl) ?_
    refine XO.done ?_
    refine XK.if rfl (fun c1 => ?_) (fun c1 => ?_)
    · have _t1 := True.intro
      refine XK.seq ?_
      refine XK.region rfl ?_
      refine XO.q (Q.build [_, _, _, _] (.n _)) ?_
      refine XO.st rfl rfl rfl ?_
      refine XO.q (Q.assign rfl) ?_
      refine XO.done ?_
      refine XK.rt [] Try.func11 Try.results11 (.cell [_, _, _, _] rfl rfl rfl (.t rfl .n)) ?_
      have hw0 : makeG t u = (default, 2) := by rw [makeG, if_neg c0, if_pos c1]
      rw [hw0]
      exact ⟨rfl, rfl⟩
    · have _t1 := True.intro
      refine XK.seq ?_
      refine XK.region rfl ?_
      refine XO.q (Q.fieldAddr rfl) ?_
      refine XO.q (Q.ld rfl rfl) ?_
      refine XO.call Try.call47 rfl rfl rfl (in_spec11 100000 vu hu u.values) fun v28 s28 R28 => ?_
      obtain ⟨rfl, rfl⟩ := R28
      dsimp only [List.cons_append, List.nil_append]
      refine XO.q (Q.not rfl) ?_
      refine XO.q (Q.move rfl) ?_
      refine XO.q (Quiet.guardF rfl rfl fun g31 p31 => Q.fieldAddr rfl) ?_
      refine XO.q (Quiet.guardF rfl rfl fun g32 p32 => Q.ld (lzv g32 rfl) rfl) ?_
      refine XO.lit1 [_] [_] [u.out] encI rfl rfl (by rfl) (by rfl) rfl (by rfl) (fun g33 => by exact .c 0 1 (lzv g33 rfl) rfl rfl (.n _)) (fun _ => rfl) (by rfl) rfl (fun _ => by infer_instance) rfl (fun v33 h33 O33 => ?_)
      refine XO.gcallF rfl rfl Try.call47 rfl (fun g34 => .c rfl (.c (lzv g34 rfl) .n)) rfl (fun g34 p34 => by haveI := O33 g34; exact in_spec11 50000 v33 h33 [u.out]) ?_
      refine XO.q (Quiet.guardF rfl rfl fun g35 p35 => Q.not (lzv g35 rfl)) ?_
      refine XO.q (Q.or rfl (fun hp => lzv hp rfl)) ?_
      refine XO.q (Q.assign rfl) ?_
      refine XO.done ?_
      refine XK.if rfl (fun c2 => ?_) (fun c2 => ?_)
      · have _t2 := True.intro
        refine XK.seq ?_
        refine XK.region rfl ?_
        refine XO.q (Q.build [_, _, _, _] (.n _)) ?_
        refine XO.st rfl rfl rfl ?_
        refine XO.q (Q.assign rfl) ?_
        refine XO.done ?_
        refine XK.rt [] Try.func11 Try.results11 (.cell [_, _, _, _] rfl rfl rfl (.t rfl .n)) ?_
        have hw0 : makeG t u = (default, 6) := by rw [makeG, if_neg c0, if_neg c1, if_pos c2]
        rw [hw0]
        exact ⟨rfl, rfl⟩
      · have _t2 := True.intro
        have q := make_use (t := t) c1 c2
        refine XK.skip ?_
        refine XK.inBlock ?_
        refine XK.seq ?_
        refine XK.region rfl ?_
        refine XO.q (Q.fieldAddr rfl) ?_
        refine XO.q (Q.fieldAddr rfl) ?_
        refine XO.q (Q.ld rfl rfl) ?_
        refine XO.q (Q.build [_, _, _, _] (.c 1 1 rfl rfl rfl (.n _))) ?_
        refine XO.alloc fun b8 => ?_
        refine XO.st rfl rfl rfl ?_
        refine XO.done ?_
        refine XK.seq ?_
        refine XK.seq ?_
        refine XK.region rfl ?_
        refine XO.q (Q.fieldAddr rfl) ?_
        refine XO.q (Q.ld rfl rfl) ?_
        refine XO.len rfl fun l44 => ?_
        refine XO.q (Q.move rfl) ?_
        refine XO.done ?_
        refine XK.block ?_
        refine XK.while (X := Nat) [9, 10, 45, 46, 47, 48, 49, 50, 51, 52, 53, 54, 55, 56, 57, 58, 59, 60, 61, 62, 63, 64, 65, 66, 67, 68] (fun i => [(45, some (.int .i64 (i : Nat)))]) (fun i => [blk b8 [.int .i64 (energyTo u.values i), .int .i64 (amtTo t u.values i), .int .i64 0, .int .i64 0] 37]) (fun i => i ≤ u.values.length) (fun i => u.values.length - i) (0) [blk b8 [.int .i64 0, .int .i64 t.base, .int .i64 0, .int .i64 0] 37] rfl (by omega) (.c rfl (.base 0 rfl rfl)) ?_
        rintro i hi ih0
        dsimp only [List.cons_append, List.nil_append] at ih0 ⊢
        refine XK.seq ?_
        refine XK.region rfl ?_
        refine XO.q (Q.lss rfl rfl) ?_
        refine XO.done ?_
        refine XK.seq ?_
        refine XK.if rfl (fun c3 => ?_) (fun c3 => ?_)
        · have _t3 := True.intro
          have cr := cost_rng k q.vals (n := i) (by omega)
          have ae := amtTo_eq t u.values i
          have er := energy_rng q.vals (n := i) (by omega)
          have co := cost_one k q.vals (i := i) (by omega)
          have va := vals_at q.vals (i := i) (by omega)
          have pa := price_at k i
          change 0 ≤ u.values.getD i default ∧ u.values.getD i default ≤ _ at va
          change 0 ≤ t.price.getD (i % 24) default ∧ t.price.getD (i % 24) default ≤ _ at pa
          change 0 ≤ u.values.getD i default * t.price.getD (i % 24) default ∧ u.values.getD i default * t.price.getD (i % 24) default ≤ _ at co
          refine XK.skip ?_
          refine XK.seq ?_
          refine XK.block ?_
          refine XK.seq ?_
          refine XK.region rfl ?_
          refine XO.q (Q.move rfl) ?_
          refine XO.ix rfl rfl (by omega) (by omega) fun i48 => ?_
          refine XO.q (Q.ldE rfl (by first | assumption | omega) rfl) ?_
          refine XO.q (Q.assign rfl) ?_
          refine XO.q (Q.assign rfl) ?_
          refine XO.done ?_
          refine XK.seq ?_
          refine XK.region rfl ?_
          refine XO.q (Q.fieldAddr rfl) ?_
          refine XO.q (Q.ld rfl rfl) ?_
          refine XO.q (Q.move rfl) ?_
          refine XO.q (Q.add rfl rfl ⟨by omega, by omega⟩) ?_
          rw [show (energyTo u.values i) + u.values.getD i default = energyTo u.values (i + 1) from rfl]
          refine XO.q (Q.fieldAddr rfl) ?_
          refine XO.st rfl rfl rfl ?_
          refine XO.done ?_
          refine XK.drawn [0, 1, 2, 3, 4, 5, 6, 7, 8, 9, 10, 11, 12] [b8, b6] [] (.q 0 (.q 1 (.q 2 (.q 3 (.q 4 (.q 5 (.q 6 (.q 7 (.q 8 (.q 9 (.q 10 (.q 11 (.q 12 (.br 13 false .done .stop)))))))))))))) Try.mixed rfl (by kernel_rfl) ?_
          refine XT.q rfl rfl (Q.fieldAddr rfl) ?_
          refine XT.q rfl rfl (Q.ld rfl rfl) ?_
          refine XT.q rfl rfl (Q.move rfl) ?_
          refine XT.q rfl rfl (Q.fieldAddr rfl) ?_
          refine XT.q rfl rfl (Q.fieldAddr rfl) ?_
          refine XT.q rfl rfl (Q.ld rfl rfl) ?_
          refine XT.q rfl rfl (Q.move rfl) ?_
          refine XT.q rfl rfl (Q.rem rfl rfl (by omega) (by omega)) ?_
          rw [show ((i : Int) % 24) = ((i % 24 : Nat) : Int) from rfl]
          refine XT.ix rfl rfl rfl rfl (by omega) (by omega) fun i63 => ?_
          refine XT.q rfl rfl (Q.ldE rfl (by first | assumption | omega) rfl) ?_
          refine XT.q rfl rfl (Q.mul rfl rfl ⟨by omega, by omega⟩) ?_
          refine XT.q rfl rfl (Q.add rfl rfl ⟨by omega, by omega⟩) ?_
          rw [show (amtTo t u.values i) + u.values.getD i default * t.price.getD (i % 24) default = amtTo t u.values (i + 1) from rfl]
          refine XT.q rfl rfl (Q.fieldAddr rfl) ?_
          refine XT.st rfl rfl rfl rfl rfl ⟨inferInstance, ?_⟩ XT.stop
          refine XT.done ?_
          refine XK.inBlock ?_
          refine XK.region rfl ?_
          refine XO.q (Q.add rfl rfl ⟨by omega, by omega⟩) ?_
          refine XO.q (Q.move rfl) ?_
          refine XO.done ?_
          exact ih0 (i + 1) _ _ (by omega) (by first | omega | (dsimp only; omega)) (.c rfl (.base 53 rfl rfl)) inferInstance
        · have _t3 := True.intro
          have hin : i = u.values.length := by omega
          rw [hin]
          rw [show amtTo t u.values u.values.length = amountL t u from amtTo_eq ..]
          have ar := amount_rng k q
          have crr := credit_rng k q
          clear ih0
          refine XK.exit rfl ?_
          refine XK.seq ?_
          refine XK.drawn [0, 1, 2, 3, 4, 6, 7, 8, 9] [b8, b6, b3] [] (.q 0 (.q 1 (.q 2 (.q 3 (.q 4 (.br 5 true (.q 6 (.q 7 (.q 8 (.q 9 (.br 10 false .done .stop))))) .stop)))))) Try.mixed rfl (by kernel_rfl) ?_
          refine XT.q rfl rfl (Q.fieldAddr rfl) ?_
          refine XT.q rfl rfl (Q.ld rfl rfl) ?_
          refine XT.q rfl rfl (Q.ldA [_, _, _, _] rfl rfl rfl) ?_
          refine XT.q rfl rfl (Q.fieldAddr rfl) ?_
          refine XT.q rfl rfl (Q.ld rfl rfl) ?_
          refine XT.call rfl rfl Try.call48 rfl rfl rfl (percent_spec t vp vt hp ht u.out) (fun v74 s74 R74 => ?_) XT.stop
          obtain ⟨rfl, rfl⟩ := R74
          dsimp only [List.cons_append, List.nil_append]
          refine ⟨inferInstance, ?_⟩
          refine XT.q rfl rfl (Q.mul rfl rfl ⟨by omega, by omega⟩) ?_
          refine XT.q rfl rfl (Q.add rfl rfl ⟨by omega, by omega⟩) ?_
          refine XT.q rfl rfl (Q.quo rfl rfl (by omega) (by omega) (by omega)) ?_
          rw [show (amountL t u * percentL t u.out + 50) / 100 = creditL t u from rfl]
          refine XT.q rfl rfl (Q.fieldAddr rfl) ?_
          refine XT.st rfl rfl rfl rfl rfl ⟨inferInstance, ?_⟩ XT.stop
          refine XT.done ?_
          refine XK.seq ?_
          refine XK.region rfl ?_
          refine XO.q (Q.fieldAddr rfl) ?_
          refine XO.q (Q.ld rfl rfl) ?_
          refine XO.q (Q.fieldAddr rfl) ?_
          refine XO.q (Q.ld rfl rfl) ?_
          refine XO.q (Q.sub rfl rfl ⟨by omega, by omega⟩) ?_
          refine XO.q (Q.fieldAddr rfl) ?_
          refine XO.st rfl rfl rfl ?_
          refine XO.done ?_
          refine XK.seq ?_
          refine XK.region rfl ?_
          refine XO.q (Q.ldA [_, _, _, _] rfl rfl rfl) ?_
          refine XO.st rfl rfl rfl ?_
          refine XO.q (Q.assign rfl) ?_
          refine XO.done ?_
          refine XK.rt [] Try.func11 Try.results11 (.cell [_, _, _, _] rfl rfl rfl (.t rfl .n)) ?_
          have hw0 : makeG t u = (billL t u, 0) := by rw [makeG, if_neg c0, if_neg c1, if_neg c2]
          rw [hw0]
          exact ⟨rfl, rfl⟩
theorem clip_spec (v : Value) (h : PHeap) (xs : List MBill) [s : Arr v encBill 4 h xs] : Spec Try.prog 49 #[v] [] [h] (fun v' hs => v' = clipv v 4 ∧ hs = []) := by
  refine Spec.intro (fn := Try.f49) (N := 9) Try.func49 rfl Try.ntmps49 rfl fun B => ?_
  refine XK.seq ?_
  refine XK.region rfl ?_
  refine XO.q (Q.assign rfl) ?_
  refine XO.done ?_
  refine XK.seq ?_
  refine XK.region rfl ?_
  refine XO.q (Q.move rfl) ?_
  refine XO.q (Q.move rfl) ?_
  refine XO.len rfl fun l5 => ?_
  refine XO.q (Q.move rfl) ?_
  refine XO.len rfl fun l7 => ?_
  refine XO.q (Q.clip rfl rfl rfl) ?_
  refine XO.q (Q.assign rfl) ?_
  refine XO.done ?_
  refine XK.rt [] Try.func49 Try.results49 (.t rfl .n) ?_
  exact ⟨rfl, rfl⟩
theorem map_snd_at {l : List (Value × MUse)} (i : Nat) : (l.map Prod.snd).getD i default = (l.getD i default).2 := by
  rw [List.getD_eq_getElem?_getD, List.getElem?_map, List.getD_eq_getElem?_getD]
  cases l[i]? <;> rfl
theorem bills_snoc (t : MTariff) (l : List MUse) (n : Nat) : (List.range (n + 1)).map (billAt t l) = (List.range n).map (billAt t l) ++ [billAt t l n] := by
  rw [List.range_succ, List.map_append]; rfl
theorem Total_spec (t : MTariff) (vp vt : Value) (hp ht : PHeap) [jp : Arr vp encI 1 hp t.price] [jt : Arr vt encTier 2 ht t.tiers] (l : List (Value × MUse)) (vl : Value) (hl hL : PHeap) [jl : Arr vl encUse 2 hl l] (aL : ∀ i, i < l.length → Arr (l.getD i default).1 encI 1 hL (l.getD i default).2.values) :
    Spec Try.prog 12 #[.agg #[vp, .int .i64 t.base, vt, .int .i64 t.credit], vl] [] [hp, ht, hl, hL] (fun v hs => ∃ v1 k1, v = .tuple #[v1, .agg #[.int .i64 (totalG t (l.map Prod.snd)).2.1.energy, .int .i64 (totalG t (l.map Prod.snd)).2.1.amount, .int .i64 (totalG t (l.map Prod.snd)).2.1.credit, .int .i64 (totalG t (l.map Prod.snd)).2.1.due], .int .i64 (totalG t (l.map Prod.snd)).2.2] ∧ hs = [k1] ∧ Arr v1 encBill 4 k1 (totalG t (l.map Prod.snd)).1) := by
  have hnil : OArr (.slice none 0 0) encBill 4 37 emp ([] : List MBill) := OArr.nil (fun _ => rfl)
  have ll := jl.le
  have hml : (l.map Prod.snd).length = l.length := List.length_map ..
  refine Spec.intro (fn := Try.f12) (N := 62) Try.func12 rfl Try.ntmps12 rfl fun B => ?_
  refine XK.seq ?_
  refine XK.region rfl ?_
  refine XO.box rfl fun b2 => ?_
  refine XO.q (Q.assign rfl) ?_
  refine XO.alloc fun b5 => ?_
  refine XO.q (Q.assign rfl) ?_
  refine XO.done ?_
  refine XK.seq ?_
  refine XK.seq ?_
  refine XK.region rfl ?_
  refine XO.q (Q.move rfl) ?_
  refine XO.len rfl fun l14 => ?_
  refine XO.q (Q.gtr rfl rfl) ?_
  refine XO.done ?_
  refine XK.if rfl (fun c0 => ?_) (fun c0 => ?_)
  · have _t0 := True.intro
    refine XK.seq ?_
    refine XK.region rfl ?_
    refine XO.q (Q.build [_, _, _, _] (.n _)) ?_
    refine XO.q (Q.assign rfl) ?_
    refine XO.st rfl rfl rfl ?_
    refine XO.q (Q.assign rfl) ?_
    refine XO.done ?_
    refine XK.rt [emp] Try.func12 Try.results12 (.t rfl (.cell [_, _, _, _] rfl rfl rfl (.t rfl .n))) ?_
    have hw0 : totalG t (l.map Prod.snd) = ([], default, 2) := by rw [totalG, if_pos (by omega)]
    rw [hw0]
    exact ⟨.slice none 0 0, emp, rfl, rfl, Arr.nil (fun _ => rfl)⟩
  · have _t0 := True.intro
    refine XK.skip ?_
    refine XK.seq ?_
    refine XK.region rfl ?_
    refine XO.q (Q.assign rfl) ?_
    refine XO.done ?_
    refine XK.seq ?_
    refine XK.region rfl ?_
    refine XO.alloc fun b8 => ?_
    refine XO.done ?_
    refine XK.seq ?_
    refine XK.seq ?_
    refine XK.region rfl ?_
    refine XO.q (Q.move rfl) ?_
    refine XO.len rfl fun l18 => ?_
    refine XO.q (Q.move rfl) ?_
    refine XO.done ?_
    refine XK.block ?_
    refine XK.while (X := Nat × Value × PHeap) [4, 6, 7, 10, 11, 12, 19, 20, 21, 22, 23, 24, 25, 26, 27, 28, 29, 30, 31, 32, 33, 34, 35, 36, 37, 38, 39, 40, 41, 42, 43, 44, 45, 46, 47, 48, 49, 50, 51, 52, 53, 54, 55, 56, 57, 58] (fun ⟨i, vo, ko⟩ => [(19, some (.int .i64 (i : Nat))), (7, some (vo))]) (fun ⟨i, vo, ko⟩ => [ko, blk b8 [.int .i64 (sumBill t (l.map Prod.snd) i).energy, .int .i64 (sumBill t (l.map Prod.snd) i).amount, .int .i64 (sumBill t (l.map Prod.snd) i).credit, .int .i64 (sumBill t (l.map Prod.snd) i).due] 37]) (fun ⟨i, vo, ko⟩ => i ≤ l.length ∧ OArr vo encBill 4 37 ko ((List.range i).map (billAt t (l.map Prod.snd))) ∧ errTo t (l.map Prod.snd) i = 0) (fun ⟨i, vo, ko⟩ => l.length - i) (0, .slice none 0 0, emp) [emp, blk b8 [.int .i64 0, .int .i64 0, .int .i64 0, .int .i64 0] 37] rfl ⟨by omega, hnil, rfl⟩ (.c rfl (.c rfl (.base 0 rfl rfl))) ?_
    rintro ⟨i, vo, ko⟩ ⟨hi, OO, he⟩ ih0
    dsimp only [List.cons_append, List.nil_append] at ih0 ⊢
    refine XK.seq ?_
    refine XK.region rfl ?_
    refine XO.q (Q.lss rfl rfl) ?_
    refine XO.done ?_
    refine XK.seq ?_
    refine XK.if rfl (fun c1 => ?_) (fun c1 => ?_)
    · have _t1 := True.intro
      have ai := aL i (by omega)
      have br := make_rng t (l.getD i default).2
      have b1 := br.e
      have b2 := br.a
      have b3 := br.c
      have b4 := br.d
      obtain ⟨s1, s2, s3, s4⟩ := sumBill_rng t (l.map Prod.snd) i
      have eb : billAt t (l.map Prod.snd) i = (makeG t (l.getD i default).2).1 := by rw [billAt, map_snd_at]
      refine XK.skip ?_
      refine XK.seq ?_
      refine XK.block ?_
      refine XK.seq ?_
      refine XK.region rfl ?_
      refine XO.ix rfl rfl (by omega) (by omega) fun i21 => ?_
      refine XO.q (Q.ldEA [_, _] rfl (by first | assumption | omega) rfl rfl) ?_
      refine XO.alloc fun b10 => ?_
      refine XO.st rfl rfl rfl ?_
      refine XO.done ?_
      refine XK.seq ?_
      refine XK.region rfl ?_
      refine XO.q (Q.ldA [_, _, _, _] rfl rfl rfl) ?_
      refine XO.q (Q.ldA [_, _] rfl rfl rfl) ?_
      refine XO.call Try.call11 rfl rfl rfl (Make_spec t vp vt hp ht (l.getD i default).2 (l.getD i default).1 hL) fun v26 s26 R26 => ?_
      obtain ⟨rfl, rfl⟩ := R26
      dsimp only [List.cons_append, List.nil_append]
      refine XO.q (Q.move rfl) ?_
      refine XO.q (Q.extract rfl rfl) ?_
      refine XO.q (Q.extract rfl rfl) ?_
      refine XO.alloc fun b11 => ?_
      refine XO.st rfl rfl rfl ?_
      refine XO.q (Q.assign rfl) ?_
      refine XO.done ?_
      refine XK.seq ?_
      refine XK.seq ?_
      refine XK.region rfl ?_
      refine XO.q (Q.move rfl) ?_
      refine XO.q (Q.neq rfl rfl) ?_
      refine XO.done ?_
      refine XK.if rfl (fun c2 => ?_) (fun c2 => ?_)
      · have _t2 := True.intro
        refine XK.seq ?_
        refine XK.region rfl ?_
        refine XO.q (Q.build [_, _, _, _] (.n _)) ?_
        refine XO.q (Q.move rfl) ?_
        refine XO.q (Q.assign rfl) ?_
        refine XO.st rfl rfl rfl ?_
        refine XO.q (Q.assign rfl) ?_
        refine XO.done ?_
        refine XK.rt [emp] Try.func12 Try.results12 (.t rfl (.cell [_, _, _, _] rfl rfl rfl (.t rfl .n))) ?_
        have hw0 : totalG t (l.map Prod.snd) = ([], default, (makeG t (l.getD i default).2).2) := by
          have e1 : errTo t (l.map Prod.snd) (i + 1) = (makeG t (l.getD i default).2).2 := by rw [errTo, he, if_neg (by decide), map_snd_at]
          have e2 : errTo t (l.map Prod.snd) (l.map Prod.snd).length = (makeG t (l.getD i default).2).2 := by rw [errTo_stay (n := i + 1) (by rw [e1]; exact c2) (by omega), e1]
          rw [totalG, if_neg (by omega), e2, if_pos c2]
        rw [hw0]
        exact ⟨.slice none 0 0, emp, rfl, rfl, Arr.nil (fun _ => rfl)⟩
      · have _t2 := True.intro
        refine XK.skip ?_
        refine XK.seq ?_
        refine XK.region rfl ?_
        refine XO.q (Q.move rfl) ?_
        refine XO.q (Q.ldA [_, _, _, _] rfl rfl rfl) ?_
        refine XO.lit [_, _, _, _] [_, _, _, _] [(makeG t (l.getD i default).2).1] encBill (by rfl) (by rfl) rfl (by rfl) (by exact .c 0 4 rfl rfl rfl (.n _)) (fun _ => rfl) (by rfl) rfl (by infer_instance) rfl fun v35 h35 O35 => ?_
        refine XO.append rfl rfl rfl rfl (by simp only [List.length_map, List.length_range, List.length_cons, List.length_nil]; omega) fun v36 h36 O36 => ?_
        refine XO.q (Q.assign rfl) ?_
        refine XO.done ?_
        refine XK.region rfl ?_
        refine XO.q (Q.fieldAddr rfl) ?_
        refine XO.q (Q.ld rfl rfl) ?_
        refine XO.q (Q.fieldAddr rfl) ?_
        refine XO.q (Q.ld rfl rfl) ?_
        refine XO.q (Q.add rfl rfl ⟨by omega, by omega⟩) ?_
        refine XO.q (Q.fieldAddr rfl) ?_
        refine XO.q (Q.ld rfl rfl) ?_
        refine XO.q (Q.fieldAddr rfl) ?_
        refine XO.q (Q.ld rfl rfl) ?_
        refine XO.q (Q.add rfl rfl ⟨by omega, by omega⟩) ?_
        refine XO.q (Q.fieldAddr rfl) ?_
        refine XO.q (Q.ld rfl rfl) ?_
        refine XO.q (Q.fieldAddr rfl) ?_
        refine XO.q (Q.ld rfl rfl) ?_
        refine XO.q (Q.add rfl rfl ⟨by omega, by omega⟩) ?_
        refine XO.q (Q.fieldAddr rfl) ?_
        refine XO.q (Q.ld rfl rfl) ?_
        refine XO.q (Q.fieldAddr rfl) ?_
        refine XO.q (Q.ld rfl rfl) ?_
        refine XO.q (Q.add rfl rfl ⟨by omega, by omega⟩) ?_
        refine XO.q (Q.build [_, _, _, _] (.c 0 1 rfl rfl rfl (.c 1 1 rfl rfl rfl (.c 2 1 rfl rfl rfl (.c 3 1 rfl rfl rfl (.n _)))))) ?_
        refine XO.st rfl rfl rfl ?_
        refine XO.done ?_
        refine XK.inBlock ?_
        refine XK.region rfl ?_
        refine XO.q (Q.add rfl rfl ⟨by omega, by omega⟩) ?_
        refine XO.q (Q.move rfl) ?_
        refine XO.done ?_
        rw [show (sumBill t (l.map Prod.snd) i).energy + (makeG t (l.getD i default).2).1.energy = (sumBill t (l.map Prod.snd) (i + 1)).energy by rw [← eb]; rfl, show (sumBill t (l.map Prod.snd) i).amount + (makeG t (l.getD i default).2).1.amount = (sumBill t (l.map Prod.snd) (i + 1)).amount by rw [← eb]; rfl, show (sumBill t (l.map Prod.snd) i).credit + (makeG t (l.getD i default).2).1.credit = (sumBill t (l.map Prod.snd) (i + 1)).credit by rw [← eb]; rfl, show (sumBill t (l.map Prod.snd) i).due + (makeG t (l.getD i default).2).1.due = (sumBill t (l.map Prod.snd) (i + 1)).due by rw [← eb]; rfl]
        exact ih0 (i + 1, v36, h36) _ _ ⟨by dsimp only; omega, by dsimp only; rw [bills_snoc, eb]; exact O36, by dsimp only; rw [errTo, he, if_neg (by decide), map_snd_at]; exact Decidable.of_not_not c2⟩ (by first | omega | (dsimp only; omega)) (.c rfl (.c rfl (.base 90 rfl rfl))) inferInstance
    · have _t1 := True.intro
      have hin : i = l.length := by omega
      subst hin
      have cA := Arr.clip (OArr.arr (s := OO))
      refine XK.exit rfl ?_
      refine XK.seq ?_
      refine XK.drawn [0, 2, 3, 5] [b8] [] (.q 0 (.q 2 (.br 1 true (.q 3 (.br 4 true (.q 5 .done) .stop)) .stop))) Try.mixed rfl (by kernel_rfl) ?_
      refine XT.q rfl rfl (Q.move rfl) ?_
      refine XT.q rfl rfl (Q.ldA [_, _, _, _] rfl rfl rfl) ?_
      refine XT.call rfl rfl Try.call49 rfl rfl rfl (clip_spec vo ko ((List.range l.length).map (billAt t (l.map Prod.snd)))) (fun v60 s60 R60 => ?_) XT.stop
      obtain ⟨rfl, rfl⟩ := R60
      dsimp only [List.cons_append, List.nil_append]
      refine ⟨inferInstance, ?_⟩
      refine XT.q rfl rfl (Q.assign rfl) ?_
      refine XT.st rfl rfl rfl rfl rfl ⟨inferInstance, ?_⟩ XT.stop
      refine XT.q rfl rfl (Q.assign rfl) ?_
      refine XT.done ?_
      refine XK.rt [ko] Try.func12 Try.results12 (.t rfl (.cell [_, _, _, _] rfl rfl rfl (.t rfl .n))) ?_
      have hw0 : totalG t (l.map Prod.snd) = ((List.range l.length).map (billAt t (l.map Prod.snd)), sumBill t (l.map Prod.snd) l.length, 0) := by rw [totalG, if_neg (by omega), hml, he, if_neg (by decide)]
      rw [hw0]
      exact ⟨_, ko, rfl, rfl, cA⟩
end Go.X

set_option linter.unusedSimpArgs false
set_option linter.unusedVariables false
set_option maxRecDepth 20000
namespace Go.X
open Go.Proofs
theorem in11 (n a b : Int) : Spec Try.prog 95 #[.int .i64 n, .int .i64 a, .int .i64 b] [] [] (fun v hs => v = .bool (inF n a b) ∧ hs = []) := by
  refine Spec.intro (fn := Try.f95) (N := 15) Try.func95 rfl Try.ntmps95 rfl fun B => ?_
  refine XK.seq ?_
  refine XK.region rfl ?_
  refine XO.q (Q.assign rfl) ?_
  refine XO.done ?_
  refine XK.seq ?_
  refine XK.region rfl ?_
  refine XO.q (Q.move rfl) ?_
  refine XO.q (Q.move rfl) ?_
  refine XO.q (Q.geq rfl rfl) ?_
  refine XO.q (Q.move rfl) ?_
  refine XO.q (Quiet.guardT rfl rfl fun g11 p11 => Q.move rfl) ?_
  refine XO.q (Quiet.guardT rfl rfl fun g12 p12 => Q.move rfl) ?_
  refine XO.q (Quiet.guardT rfl rfl fun g13 p13 => Q.leq (lzv g13 rfl) (lzv g13 rfl)) ?_
  refine XO.q (Q.and rfl (fun hp => lzv hp rfl)) ?_
  refine XO.q (Q.assign rfl) ?_
  refine XO.done ?_
  refine XK.rt [] Try.func95 Try.results95 (.t rfl .n) ?_
  exact ⟨rfl, rfl⟩
theorem rtariff11 (t : MTariff) (vp vt : Value) (hp ht : PHeap) [jp : Arr vp encI 1 hp t.price] [jt : Arr vt encTier 2 ht t.tiers] : Spec Try.prog 94 #[.agg #[vp, .int .i64 t.base, vt, .int .i64 t.credit]] [] [hp, ht] (fun v hs => v = .int .i64 (rightG t) ∧ hs = []) := by
  have lp := jp.le
  have lt := jt.le
  refine Spec.intro (fn := Try.f94) (N := 76) Try.func94 rfl Try.ntmps94 rfl fun B => ?_
  refine XK.seq ?_
  refine XK.region rfl ?_
  refine XO.box rfl fun b1 => ?_
  refine XO.q (Q.assign rfl) ?_
  refine XO.done ?_
  refine XK.seq ?_
  refine XK.seq ?_
  refine XK.region rfl ?_
  refine XO.q (Q.fieldAddr rfl) ?_
  refine XO.q (Q.ld rfl rfl) ?_
  refine XO.len rfl fun l9 => ?_
  refine XO.q (Q.neq rfl rfl) ?_
  refine XO.done ?_
  refine XK.if rfl (fun c0 => ?_) (fun c0 => ?_)
  · have _t0 := True.intro
    refine XK.seq ?_
    refine XK.region rfl ?_
    refine XO.q (Q.assign rfl) ?_
    refine XO.done ?_
    refine XK.rt [] Try.func94 Try.results94 (.t rfl .n) ?_
    exact ⟨by rw [rightG, if_pos c0], rfl⟩
  · have _t0 := True.intro
    refine XK.skip ?_
    refine XK.seq ?_
    refine XK.seq ?_
    refine XK.region rfl ?_
    refine XO.q (Q.fieldAddr rfl) ?_
    refine XO.q (Q.ld rfl rfl) ?_
    refine XO.len rfl fun l13 => ?_
    refine XO.q (Q.gtr rfl rfl) ?_
    refine XO.done ?_
    refine XK.if rfl (fun c1 => ?_) (fun c1 => ?_)
    · have _t1 := True.intro
      refine XK.seq ?_
      refine XK.region rfl ?_
      refine XO.q (Q.assign rfl) ?_
      refine XO.done ?_
      refine XK.rt [] Try.func94 Try.results94 (.t rfl .n) ?_
      exact ⟨by rw [rightG, if_neg c0, if_pos c1], rfl⟩
    · have _t1 := True.intro
      have pl : t.price.length = 24 := by omega
      refine XK.skip ?_
      refine XK.seq ?_
      refine XK.seq ?_
      refine XK.region rfl ?_
      refine XO.q (Q.assign rfl) ?_
      refine XO.done ?_
      refine XK.block ?_
      refine XK.while (X := Nat) [2, 3, 15, 16, 17, 18, 19, 20, 21, 22, 23, 24, 25] (fun i => [(3, some (.int .i64 (i : Nat)))]) (fun i => []) (fun i => i ≤ 24 ∧ ∀ j, j < i → 0 ≤ t.price.getD j 0 ∧ t.price.getD j 0 ≤ 1000) (fun i => 24 - i) (0) [] rfl ⟨by omega, fun j hj => by omega⟩ (.c rfl (.base 0 rfl rfl)) ?_
      rintro i ⟨hi, hv⟩ ih0
      dsimp only [List.cons_append, List.nil_append] at ih0 ⊢
      refine XK.seq ?_
      refine XK.seq ?_
      refine XK.region rfl ?_
      refine XO.q (Q.move rfl) ?_
      refine XO.q (Q.lss rfl rfl) ?_
      refine XO.done ?_
      refine XK.if rfl (fun c2 => ?_) (fun c2 => ?_)
      · have _t2 := True.intro
        refine XK.skip ?_
        refine XK.seq ?_
        refine XK.block ?_
        refine XK.seq ?_
        refine XK.region rfl ?_
        refine XO.q (Q.fieldAddr rfl) ?_
        refine XO.q (Q.ld rfl rfl) ?_
        refine XO.q (Q.move rfl) ?_
        refine XO.ix rfl rfl (by omega) (by omega) fun i22 => ?_
        refine XO.q (Q.ldE rfl (by first | assumption | omega) rfl) ?_
        refine XO.call Try.call95 rfl rfl rfl (in11 _ _ _) fun v24 s24 R24 => ?_
        obtain ⟨rfl, rfl⟩ := R24
        dsimp only [List.cons_append, List.nil_append]
        refine XO.q (Q.not rfl) ?_
        refine XO.done ?_
        refine XK.if rfl (fun c3 => ?_) (fun c3 => ?_)
        · have _t3 := True.intro
          refine XK.seq ?_
          refine XK.region rfl ?_
          refine XO.q (Q.assign rfl) ?_
          refine XO.done ?_
          refine XK.rt [] Try.func94 Try.results94 (.t rfl .n) ?_
          exact ⟨by rw [right_price c0 c1 (by omega) c3], rfl⟩
        · have _t3 := True.intro
          refine XK.skip ?_
          refine XK.inBlock ?_
          refine XK.region rfl ?_
          refine XO.q (Q.move rfl) ?_
          refine XO.q (Q.add rfl rfl ⟨by omega, by omega⟩) ?_
          refine XO.q (Q.assign rfl) ?_
          refine XO.done ?_
          exact ih0 (i + 1) _ _ ⟨by omega, fun j hj => (by rcases Nat.lt_or_ge j i with h3 | h3; exact hv j h3; obtain rfl : j = i := (by omega); exact inF_iff.1 (Decidable.of_not_not c3))⟩ (by first | omega | (dsimp only; omega)) (.c rfl (.base 26 rfl rfl)) inferInstance
      · have _t2 := True.intro
        have hi24 : i = 24 := by omega
        subst hi24
        refine XK.exit rfl ?_
        refine XK.seq ?_
        refine XK.region rfl ?_
        refine XO.q (Q.assign rfl) ?_
        refine XO.q (Q.assign rfl) ?_
        refine XO.done ?_
        refine XK.seq ?_
        refine XK.seq ?_
        refine XK.region rfl ?_
        refine XO.q (Q.assign rfl) ?_
        refine XO.done ?_
        refine XK.block ?_
        refine XK.while (X := Nat) [2, 4, 5, 6, 26, 27, 28, 29, 30, 31, 32, 33, 34, 35, 36, 37, 38, 39, 40, 41, 42, 43, 44, 45, 46, 47, 48, 49, 50, 51, 52, 53, 54, 55, 56, 57, 58, 59, 60, 61, 62, 63, 64, 65] (fun i => [(4, some (.int .i64 (pminT t i))), (5, some (.int .i64 (ppctT t i))), (6, some (.int .i64 (i : Nat)))]) (fun i => []) (fun i => i ≤ t.tiers.length ∧ tiersOk t i = true) (fun i => t.tiers.length - i) (0) [] rfl ⟨by omega, rfl⟩ (.c rfl (.c rfl (.c rfl (.base 0 rfl rfl)))) ?_
        rintro i ⟨hi, hall⟩ ih1
        dsimp only [List.cons_append, List.nil_append] at ih1 ⊢
        have pm := pm_ok hall
        refine XK.seq ?_
        refine XK.seq ?_
        refine XK.region rfl ?_
        refine XO.q (Q.move rfl) ?_
        refine XO.q (Q.fieldAddr rfl) ?_
        refine XO.q (Q.ld rfl rfl) ?_
        refine XO.len rfl fun l29 => ?_
        refine XO.q (Q.lss rfl rfl) ?_
        refine XO.done ?_
        refine XK.if rfl (fun c4 => ?_) (fun c4 => ?_)
        · have _t4 := True.intro
          refine XK.skip ?_
          refine XK.seq ?_
          refine XK.block ?_
          refine XK.seq ?_
          refine XK.seq ?_
          refine XK.region rfl ?_
          refine XO.q (Q.fieldAddr rfl) ?_
          refine XO.q (Q.ld rfl rfl) ?_
          refine XO.q (Q.move rfl) ?_
          refine XO.ix rfl rfl (by omega) (by omega) fun i36 => ?_
          refine XO.q (Q.fieldQ rfl (by first | assumption | omega)) ?_
          refine XO.q (Q.ldE rfl (by first | assumption | omega) rfl) ?_
          refine XO.q (Q.move rfl) ?_
          refine XO.q (Q.add rfl rfl ⟨by omega, by omega⟩) ?_
          refine XO.call Try.call95 rfl rfl rfl (in11 _ _ _) fun v41 s41 R41 => ?_
          obtain ⟨rfl, rfl⟩ := R41
          dsimp only [List.cons_append, List.nil_append]
          refine XO.q (Q.not rfl) ?_
          refine XO.q (Q.move rfl) ?_
          refine XO.q (Quiet.guardF rfl rfl fun g44 p44 => Q.fieldAddr rfl) ?_
          refine XO.q (Quiet.guardF rfl rfl fun g45 p45 => Q.ld (lzv g45 rfl) rfl) ?_
          refine XO.q (Quiet.guardF rfl rfl fun g46 p46 => Q.move rfl) ?_
          refine XO.q (Quiet.guardF rfl rfl fun g47 p47 => Q.ix (lzv g47 rfl) (lzv g47 rfl) (by omega) (by omega)) ?_
          refine XO.q (Quiet.guardF rfl rfl fun g48 p48 => Q.fieldQ (lzv g48 rfl) (by first | assumption | omega)) ?_
          refine XO.q (Quiet.guardF rfl rfl fun g49 p49 => Q.ldE (lzv g49 rfl) (by first | assumption | omega) rfl) ?_
          refine XO.q (Quiet.guardF rfl rfl fun g50 p50 => Q.move rfl) ?_
          refine XO.gcallF rfl rfl Try.call95 rfl (fun g51 => .c (lzv g51 rfl) (.c (lzv g51 rfl) (.c rfl .n))) rfl (fun g51 p51 => in11 _ _ _) ?_
          refine XO.q (Quiet.guardF rfl rfl fun g52 p52 => Q.not (lzv g52 rfl)) ?_
          refine XO.q (Q.or rfl (fun hp => lzv hp rfl)) ?_
          refine XO.done ?_
          refine XK.if rfl (fun c5 => ?_) (fun c5 => ?_)
          · have _t5 := True.intro
            refine XK.seq ?_
            refine XK.region rfl ?_
            refine XO.q (Q.assign rfl) ?_
            refine XO.done ?_
            refine XK.rt [] Try.func94 Try.results94 (.t rfl .n) ?_
            exact ⟨by rw [right_tier c0 c1 (by omega) ((tier_ref hall).1 c5)], rfl⟩
          · have _t5 := True.intro
            have nb : ¬ badTier t i := fun hb => c5 ((tier_ref hall).2 hb)
            refine XK.skip ?_
            refine XK.seq ?_
            refine XK.region rfl ?_
            refine XO.q (Q.fieldAddr rfl) ?_
            refine XO.q (Q.ld rfl rfl) ?_
            refine XO.q (Q.move rfl) ?_
            refine XO.ix rfl rfl (by omega) (by omega) fun i57 => ?_
            refine XO.q (Q.fieldQ rfl (by first | assumption | omega)) ?_
            refine XO.q (Q.ldE rfl (by first | assumption | omega) rfl) ?_
            refine XO.q (Q.assign rfl) ?_
            refine XO.done ?_
            refine XK.region rfl ?_
            refine XO.q (Q.fieldAddr rfl) ?_
            refine XO.q (Q.ld rfl rfl) ?_
            refine XO.q (Q.move rfl) ?_
            refine XO.ix rfl rfl (by omega) (by omega) fun i63 => ?_
            refine XO.q (Q.fieldQ rfl (by first | assumption | omega)) ?_
            refine XO.q (Q.ldE rfl (by first | assumption | omega) rfl) ?_
            refine XO.q (Q.assign rfl) ?_
            refine XO.done ?_
            refine XK.inBlock ?_
            refine XK.region rfl ?_
            refine XO.q (Q.move rfl) ?_
            refine XO.q (Q.add rfl rfl ⟨by omega, by omega⟩) ?_
            refine XO.q (Q.assign rfl) ?_
            refine XO.done ?_
            exact ih1 (i + 1) _ _ ⟨by omega, by rw [tiersOk, allTo_succ]; rw [tiersOk] at hall; rw [hall, Bool.true_and, Bool.not_eq_true', decide_eq_false_iff_not]; exact nb⟩ (by first | omega | (dsimp only; omega)) (.c rfl (.c rfl (.c rfl (.base 90 rfl rfl)))) inferInstance
        · have _t4 := True.intro
          refine XK.exit rfl ?_
          refine XK.seq ?_
          refine XK.seq ?_
          refine XK.region rfl ?_
          refine XO.q (Q.fieldAddr rfl) ?_
          refine XO.q (Q.ld rfl rfl) ?_
          refine XO.call Try.call95 rfl rfl rfl (in11 _ _ _) fun v68 s68 R68 => ?_
          obtain ⟨rfl, rfl⟩ := R68
          dsimp only [List.cons_append, List.nil_append]
          refine XO.q (Q.not rfl) ?_
          refine XO.q (Q.move rfl) ?_
          refine XO.q (Quiet.guardF rfl rfl fun g71 p71 => Q.fieldAddr rfl) ?_
          refine XO.q (Quiet.guardF rfl rfl fun g72 p72 => Q.ld (lzv g72 rfl) rfl) ?_
          refine XO.gcallF rfl rfl Try.call95 rfl (fun g73 => .c (lzv g73 rfl) (.c rfl (.c rfl .n))) rfl (fun g73 p73 => in11 _ _ _) ?_
          refine XO.q (Quiet.guardF rfl rfl fun g74 p74 => Q.not (lzv g74 rfl)) ?_
          refine XO.q (Q.or rfl (fun hp => lzv hp rfl)) ?_
          refine XO.done ?_
          refine XK.if rfl (fun c6 => ?_) (fun c6 => ?_)
          · have _t6 := True.intro
            refine XK.seq ?_
            refine XK.region rfl ?_
            refine XO.q (Q.assign rfl) ?_
            refine XO.done ?_
            refine XK.rt [] Try.func94 Try.results94 (.t rfl .n) ?_
            exact ⟨by rw [right_rest c0 c1 c6], rfl⟩
          · have _t6 := True.intro
            refine XK.skip ?_
            refine XK.seq ?_
            refine XK.region rfl ?_
            refine XO.q (Q.assign rfl) ?_
            refine XO.done ?_
            refine XK.rt [] Try.func94 Try.results94 (.t rfl .n) ?_
            have hin : i = t.tiers.length := by omega
            subst hin
            exact ⟨by rw [right_all c0 c1 (fun j hj => hv j (by omega)) hall c6], rfl⟩
theorem RMake_spec (t : MTariff) (vp vt : Value) (hp ht : PHeap) [jp : Arr vp encI 1 hp t.price] [jt : Arr vt encTier 2 ht t.tiers] (u : MUse) (vu : Value) (hu : PHeap) [ju : Arr vu encI 1 hu u.values] : Spec Try.prog 60 #[.agg #[vp, .int .i64 t.base, vt, .int .i64 t.credit], .agg #[vu, .int .i64 u.out]] [] [hp, ht, hu] (fun v hs => v = .tuple #[.agg #[.int .i64 (makeG t u).1.energy, .int .i64 (makeG t u).1.amount, .int .i64 (makeG t u).1.credit, .int .i64 (makeG t u).1.due], .int .i64 (makeG t u).2] ∧ hs = []) := by
  have lu := ju.le
  have lt := jt.le
  refine Spec.intro (fn := Try.f60) (N := 118) Try.func60 rfl Try.ntmps60 rfl fun B => ?_
  refine XK.seq ?_
  refine XK.region rfl ?_
  refine XO.box rfl fun b2 => ?_
  refine XO.box rfl fun b3 => ?_
  refine XO.alloc fun b4 => ?_
  refine XO.q (Q.assign rfl) ?_
  refine XO.done ?_
  refine XK.seq ?_
  refine XK.seq ?_
  refine XK.region rfl ?_
  refine XO.q (Q.ldA [_, _, _, _] rfl rfl rfl) ?_
  refine XO.call Try.call94 rfl rfl rfl (rtariff11 t vp vt hp ht) fun v12 s12 R12 => ?_
  obtain ⟨rfl, rfl⟩ := R12
  dsimp only [List.cons_append, List.nil_append]
  refine XO.q (Q.assign rfl) ?_
  refine XO.done ?_
  refine XK.seq ?_
  refine XK.region rfl ?_
  refine XO.q (Q.move rfl) ?_
  refine XO.q (Q.neq rfl rfl) ?_
  refine XO.done ?_
  refine XK.if rfl (fun c0 => ?_) (fun c0 => ?_)
  · have _t0 := True.intro
    refine XK.seq ?_
    refine XK.region rfl ?_
    refine XO.q (Q.build [_, _, _, _] (.n _)) ?_
    refine XO.q (Q.move rfl) ?_
    refine XO.st rfl rfl rfl ?_
    refine XO.q (Q.assign rfl) ?_
    refine XO.done ?_
    refine XK.rt [] Try.func60 Try.results60 (.cell [_, _, _, _] rfl rfl rfl (.t rfl .n)) ?_
    have hw0 : makeG t u = (default, rightG t) := by rw [makeG, if_pos c0]
    rw [hw0]
    exact ⟨rfl, rfl⟩
  · have _t0 := True.intro
    have k := right_ok (Decidable.of_not_not c0)
    have pl := k.len
    have bs := k.base
    have kc := k.credit
    refine XK.skip ?_
    refine XK.seq ?_
    refine XK.seq ?_
    refine XK.region rfl ?_
    refine XO.q (Q.fieldAddr rfl) ?_
    refine XO.q (Q.ld rfl rfl) ?_
    refine XO.len rfl fun l19 => ?_
    refine XO.q (Q.gtr rfl rfl) ?_
    refine XO.done ?_
    refine XK.if rfl (fun c1 => ?_) (fun c1 => ?_)
    · have _t1 := True.intro
      refine XK.seq ?_
      refine XK.region rfl ?_
      refine XO.q (Q.build [_, _, _, _] (.n _)) ?_
      refine XO.st rfl rfl rfl ?_
      refine XO.q (Q.assign rfl) ?_
      refine XO.done ?_
      refine XK.rt [] Try.func60 Try.results60 (.cell [_, _, _, _] rfl rfl rfl (.t rfl .n)) ?_
      have hw0 : makeG t u = (default, 2) := by rw [makeG, if_neg c0, if_pos c1]
      rw [hw0]
      exact ⟨rfl, rfl⟩
    · have _t1 := True.intro
      refine XK.skip ?_
      refine XK.seq ?_
      refine XK.region rfl ?_
      refine XO.q (Q.fieldAddr rfl) ?_
      refine XO.q (Q.ld rfl rfl) ?_
      refine XO.q (Q.build [_, _, _, _] (.c 1 1 rfl rfl rfl (.n _))) ?_
      refine XO.alloc fun b7 => ?_
      refine XO.st rfl rfl rfl ?_
      refine XO.done ?_
      refine XK.seq ?_
      refine XK.seq ?_
      refine XK.region rfl ?_
      refine XO.q (Q.assign rfl) ?_
      refine XO.done ?_
      refine XK.block ?_
      refine XK.while (X := Nat) [5, 8, 25, 26, 27, 28, 29, 30, 31, 32, 33, 34, 35, 36, 37, 38, 39, 40, 41, 42, 43, 44, 45, 46, 47, 48, 49, 50, 51, 52, 53, 54, 55, 56, 57, 58, 59, 60, 61, 62, 63, 64] (fun i => [(8, some (.int .i64 (i : Nat)))]) (fun i => [blk b7 [.int .i64 (energyTo u.values i), .int .i64 (amtTo t u.values i), .int .i64 0, .int .i64 0] 139]) (fun i => i ≤ u.values.length ∧ ∀ j, j < i → 0 ≤ u.values.getD j 0 ∧ u.values.getD j 0 ≤ 100000) (fun i => u.values.length - i) (0) [blk b7 [.int .i64 0, .int .i64 t.base, .int .i64 0, .int .i64 0] 139] rfl ⟨by omega, fun j hj => by omega⟩ (.c rfl (.base 0 rfl rfl)) ?_
      rintro i ⟨hi, hv⟩ ih0
      dsimp only [List.cons_append, List.nil_append] at ih0 ⊢
      refine XK.seq ?_
      refine XK.seq ?_
      refine XK.region rfl ?_
      refine XO.q (Q.move rfl) ?_
      refine XO.q (Q.fieldAddr rfl) ?_
      refine XO.q (Q.ld rfl rfl) ?_
      refine XO.len rfl fun l28 => ?_
      refine XO.q (Q.lss rfl rfl) ?_
      refine XO.done ?_
      refine XK.if rfl (fun c2 => ?_) (fun c2 => ?_)
      · have _t2 := True.intro
        refine XK.skip ?_
        refine XK.seq ?_
        refine XK.block ?_
        refine XK.seq ?_
        refine XK.seq ?_
        refine XK.region rfl ?_
        refine XO.q (Q.fieldAddr rfl) ?_
        refine XO.q (Q.ld rfl rfl) ?_
        refine XO.q (Q.move rfl) ?_
        refine XO.ix rfl rfl (by omega) (by omega) fun i35 => ?_
        refine XO.q (Q.ldE rfl (by first | assumption | omega) rfl) ?_
        refine XO.call Try.call95 rfl rfl rfl (in11 _ _ _) fun v37 s37 R37 => ?_
        obtain ⟨rfl, rfl⟩ := R37
        dsimp only [List.cons_append, List.nil_append]
        refine XO.q (Q.not rfl) ?_
        refine XO.done ?_
        refine XK.if rfl (fun c3 => ?_) (fun c3 => ?_)
        · have _t3 := True.intro
          refine XK.seq ?_
          refine XK.region rfl ?_
          refine XO.q (Q.build [_, _, _, _] (.n _)) ?_
          refine XO.st rfl rfl rfl ?_
          refine XO.q (Q.assign rfl) ?_
          refine XO.done ?_
          refine XK.rt [] Try.func60 Try.results60 (.cell [_, _, _, _] rfl rfl rfl (.t rfl .n)) ?_
          have hw0 : makeG t u = (default, 6) := make_bad_value c0 c1 (by omega) c3
          rw [hw0]
          exact ⟨rfl, rfl⟩
        · have _t3 := True.intro
          have xi := inF_iff.1 (Decidable.of_not_not c3)
          have rr := ref_rng k (n := i) hv
          have ro := ref_one k xi i
          change 0 ≤ u.values.getD i default * t.price.getD (i % 24) default ∧ u.values.getD i default * t.price.getD (i % 24) default ≤ _ at ro
          have ae := amtTo_eq t u.values i
          refine XK.skip ?_
          refine XK.seq ?_
          refine XK.drawn [0, 1, 2, 3, 4, 5, 6, 7, 8] [b7, b3] [] (.q 0 (.q 1 (.q 2 (.q 3 (.q 4 (.q 5 (.q 6 (.q 7 (.q 8 (.br 9 false .done .stop)))))))))) Try.mixed rfl (by kernel_rfl) ?_
          refine XT.q rfl rfl (Q.fieldAddr rfl) ?_
          refine XT.q rfl rfl (Q.ld rfl rfl) ?_
          refine XT.q rfl rfl (Q.fieldAddr rfl) ?_
          refine XT.q rfl rfl (Q.ld rfl rfl) ?_
          refine XT.q rfl rfl (Q.move rfl) ?_
          refine XT.ix rfl rfl rfl rfl (by omega) (by omega) fun i45 => ?_
          refine XT.q rfl rfl (Q.ldE rfl (by first | assumption | omega) rfl) ?_
          refine XT.q rfl rfl (Q.add rfl rfl ⟨by omega, by omega⟩) ?_
          rw [show (energyTo u.values i) + u.values.getD i default = energyTo u.values (i + 1) from rfl]
          refine XT.q rfl rfl (Q.fieldAddr rfl) ?_
          refine XT.st rfl rfl rfl rfl rfl ⟨inferInstance, ?_⟩ XT.stop
          refine XT.done ?_
          refine XK.drawn [0, 1, 2, 3, 4, 5, 6, 7, 8, 9, 10, 11, 12, 13, 14, 15] [b7, b3, b2] [] (.q 0 (.q 1 (.q 2 (.q 3 (.q 4 (.q 5 (.q 6 (.q 7 (.q 8 (.q 9 (.q 10 (.q 11 (.q 12 (.q 13 (.q 14 (.q 15 (.br 16 false .done .stop))))))))))))))))) Try.mixed rfl (by kernel_rfl) ?_
          refine XT.q rfl rfl (Q.fieldAddr rfl) ?_
          refine XT.q rfl rfl (Q.ld rfl rfl) ?_
          refine XT.q rfl rfl (Q.fieldAddr rfl) ?_
          refine XT.q rfl rfl (Q.ld rfl rfl) ?_
          refine XT.q rfl rfl (Q.move rfl) ?_
          refine XT.ix rfl rfl rfl rfl (by omega) (by omega) fun i54 => ?_
          refine XT.q rfl rfl (Q.ldE rfl (by first | assumption | omega) rfl) ?_
          refine XT.q rfl rfl (Q.fieldAddr rfl) ?_
          refine XT.q rfl rfl (Q.ld rfl rfl) ?_
          refine XT.q rfl rfl (Q.move rfl) ?_
          refine XT.q rfl rfl (Q.rem rfl rfl (by omega) (by omega)) ?_
          rw [show ((i : Int) % 24) = ((i % 24 : Nat) : Int) from rfl]
          refine XT.ix rfl rfl rfl rfl (by omega) (by omega) fun i60 => ?_
          refine XT.q rfl rfl (Q.ldE rfl (by first | assumption | omega) rfl) ?_
          refine XT.q rfl rfl (Q.mul rfl rfl ⟨by omega, by omega⟩) ?_
          refine XT.q rfl rfl (Q.add rfl rfl ⟨by omega, by omega⟩) ?_
          rw [show (amtTo t u.values i) + u.values.getD i default * t.price.getD (i % 24) default = amtTo t u.values (i + 1) from rfl]
          refine XT.q rfl rfl (Q.fieldAddr rfl) ?_
          refine XT.st rfl rfl rfl rfl rfl ⟨inferInstance, ?_⟩ XT.stop
          refine XT.done ?_
          refine XK.inBlock ?_
          refine XK.region rfl ?_
          refine XO.q (Q.move rfl) ?_
          refine XO.q (Q.add rfl rfl ⟨by omega, by omega⟩) ?_
          refine XO.q (Q.assign rfl) ?_
          refine XO.done ?_
          exact ih0 (i + 1) _ _ ⟨by omega, fun j hj => (by rcases Nat.lt_or_ge j i with h3 | h3; exact hv j h3; obtain rfl : j = i := (by omega); exact xi)⟩ (by first | omega | (dsimp only; omega)) (.c rfl (.base 83 rfl rfl)) inferInstance
      · have _t2 := True.intro
        have hin : i = u.values.length := by omega
        have uv := ref_vals (v := u.values) (by rw [hin] at hv; exact hv)
        rw [hin]
        rw [show amtTo t u.values u.values.length = amountL t u from amtTo_eq ..]
        clear ih0
        refine XK.exit rfl ?_
        refine XK.seq ?_
        refine XK.seq ?_
        refine XK.region rfl ?_
        refine XO.q (Q.fieldAddr rfl) ?_
        refine XO.q (Q.ld rfl rfl) ?_
        refine XO.call Try.call95 rfl rfl rfl (in11 _ _ _) fun v67 s67 R67 => ?_
        obtain ⟨rfl, rfl⟩ := R67
        dsimp only [List.cons_append, List.nil_append]
        refine XO.q (Q.not rfl) ?_
        refine XO.done ?_
        refine XK.if rfl (fun c4 => ?_) (fun c4 => ?_)
        · have _t4 := True.intro
          refine XK.seq ?_
          refine XK.region rfl ?_
          refine XO.q (Q.build [_, _, _, _] (.n _)) ?_
          refine XO.st rfl rfl rfl ?_
          refine XO.q (Q.assign rfl) ?_
          refine XO.done ?_
          refine XK.rt [] Try.func60 Try.results60 (.cell [_, _, _, _] rfl rfl rfl (.t rfl .n)) ?_
          have hw0 : makeG t u = (default, 6) := make_bad_out c0 c1 c4
          rw [hw0]
          exact ⟨rfl, rfl⟩
        · have _t4 := True.intro
          have q : UOk11 u := ⟨by omega, uv, inF_iff.1 (Decidable.of_not_not c4)⟩
          have ar := amount_rng k q
          have crr := credit_rng k q
          refine XK.skip ?_
          refine XK.seq ?_
          refine XK.region rfl ?_
          refine XO.q (Q.assign rfl) ?_
          refine XO.done ?_
          refine XK.seq ?_
          refine XK.seq ?_
          refine XK.region rfl ?_
          refine XO.q (Q.assign rfl) ?_
          refine XO.done ?_
          refine XK.block ?_
          refine XK.while (X := Nat) [9, 10, 70, 71, 72, 73, 74, 75, 76, 77, 78, 79, 80, 81, 82, 83, 84, 85, 86, 87, 88, 89, 90, 91, 92, 93, 94] (fun m => [(9, some (.int .i64 (pctR t u.out m))), (10, some (.int .i64 (m : Nat)))]) (fun m => []) (fun m => m ≤ t.tiers.length) (fun m => t.tiers.length - m) (0) [] rfl (by omega) (.c rfl (.c rfl (.base 0 rfl rfl))) ?_
          rintro m hm ih1
          dsimp only [List.cons_append, List.nil_append] at ih1 ⊢
          refine XK.seq ?_
          refine XK.seq ?_
          refine XK.region rfl ?_
          refine XO.q (Q.move rfl) ?_
          refine XO.q (Q.fieldAddr rfl) ?_
          refine XO.q (Q.ld rfl rfl) ?_
          refine XO.len rfl fun l73 => ?_
          refine XO.q (Q.lss rfl rfl) ?_
          refine XO.done ?_
          refine XK.if rfl (fun c5 => ?_) (fun c5 => ?_)
          · have _t5 := True.intro
            refine XK.skip ?_
            refine XK.seq ?_
            refine XK.block ?_
            refine XK.seq ?_
            refine XK.drawn [0, 1, 2, 3, 4, 5, 6, 7, 8] [b3, b2] [] (.q 0 (.q 1 (.q 2 (.q 3 (.q 4 (.q 5 (.q 6 (.q 7 (.q 8 .done))))))))) Try.mixed rfl (by kernel_rfl) ?_
            refine XT.q rfl rfl (Q.fieldAddr rfl) ?_
            refine XT.q rfl rfl (Q.ld rfl rfl) ?_
            refine XT.q rfl rfl (Q.fieldAddr rfl) ?_
            refine XT.q rfl rfl (Q.ld rfl rfl) ?_
            refine XT.q rfl rfl (Q.move rfl) ?_
            refine XT.ix rfl rfl rfl rfl (by omega) (by omega) fun i82 => ?_
            refine XT.q rfl rfl (Q.fieldQ rfl (by first | assumption | omega)) ?_
            refine XT.q rfl rfl (Q.ldE rfl (by first | assumption | omega) rfl) ?_
            refine XT.q rfl rfl (Q.geq rfl rfl) ?_
            refine XT.done ?_
            refine XK.if rfl (fun c6 => ?_) (fun c6 => ?_)
            · have _t6 := True.intro
              refine XK.drawn [0, 1, 2, 3, 4, 5, 6, 7, 8, 9] [b2] [] (.q 0 (.q 1 (.q 2 (.q 3 (.q 4 (.q 5 (.q 6 (.q 7 (.q 8 (.q 9 .done)))))))))) Try.mixed rfl (by kernel_rfl) ?_
              refine XT.q rfl rfl (Q.fieldAddr rfl) ?_
              refine XT.q rfl rfl (Q.ld rfl rfl) ?_
              refine XT.q rfl rfl (Q.move rfl) ?_
              refine XT.ix rfl rfl rfl rfl (by omega) (by omega) fun i89 => ?_
              refine XT.q rfl rfl (Q.fieldQ rfl (by first | assumption | omega)) ?_
              refine XT.q rfl rfl (Q.ldE rfl (by first | assumption | omega) rfl) ?_
              refine XT.q rfl rfl (Q.fieldAddr rfl) ?_
              refine XT.q rfl rfl (Q.ld rfl rfl) ?_
              refine XT.q rfl rfl (Q.min rfl rfl) ?_
              refine XT.q rfl rfl (Q.assign rfl) ?_
              refine XT.done ?_
              refine XK.inBlock ?_
              refine XK.region rfl ?_
              refine XO.q (Q.move rfl) ?_
              refine XO.q (Q.add rfl rfl ⟨by omega, by omega⟩) ?_
              refine XO.q (Q.assign rfl) ?_
              refine XO.done ?_
              rw [show min (t.tiers.getD m default).pct t.credit = pctR t u.out (m + 1) by rw [pctR, if_pos c6]]
              exact ih1 (m + 1) _ _ (by omega) (by first | omega | (dsimp only; omega)) (.c rfl (.c rfl (.base 56 rfl rfl))) inferInstance
            · have _t6 := True.intro
              refine XK.skip ?_
              refine XK.inBlock ?_
              refine XK.region rfl ?_
              refine XO.q (Q.move rfl) ?_
              refine XO.q (Q.add rfl rfl ⟨by omega, by omega⟩) ?_
              refine XO.q (Q.assign rfl) ?_
              refine XO.done ?_
              rw [show pctR t u.out m = pctR t u.out (m + 1) by rw [pctR, if_neg c6]]
              exact ih1 (m + 1) _ _ (by omega) (by first | omega | (dsimp only; omega)) (.c rfl (.c rfl (.base 46 rfl rfl))) inferInstance
          · have _t5 := True.intro
            have hin2 : m = t.tiers.length := by omega
            rw [hin2, pctR_all k]
            clear ih1
            refine XK.exit rfl ?_
            refine XK.seq ?_
            refine XK.region rfl ?_
            refine XO.q (Q.fieldAddr rfl) ?_
            refine XO.q (Q.ld rfl rfl) ?_
            refine XO.q (Q.move rfl) ?_
            refine XO.q (Q.mul rfl rfl ⟨by omega, by omega⟩) ?_
            refine XO.q (Q.quo rfl rfl (by omega) (by omega) (by omega)) ?_
            refine XO.q (Q.fieldAddr rfl) ?_
            refine XO.st rfl rfl rfl ?_
            refine XO.done ?_
            refine XK.seq ?_
            refine XK.seq ?_
            refine XK.region rfl ?_
            refine XO.q (Q.fieldAddr rfl) ?_
            refine XO.q (Q.ld rfl rfl) ?_
            refine XO.q (Q.move rfl) ?_
            refine XO.q (Q.mul rfl rfl ⟨by omega, by omega⟩) ?_
            refine XO.q (Q.rem rfl rfl (by omega) (by omega)) ?_
            refine XO.q (Q.geq rfl rfl) ?_
            refine XO.done ?_
            refine XK.if rfl (fun c7 => ?_) (fun c7 => ?_)
            · have _t7 := True.intro
              refine XK.region rfl ?_
              refine XO.q (Q.fieldAddr rfl) ?_
              refine XO.q (Q.ld rfl rfl) ?_
              refine XO.q (Q.add rfl rfl ⟨by omega, by omega⟩) ?_
              rw [credit_up crr.1 c7]
              refine XO.q (Q.fieldAddr rfl) ?_
              refine XO.st rfl rfl rfl ?_
              refine XO.done ?_
              refine XK.seq ?_
              refine XK.region rfl ?_
              refine XO.q (Q.fieldAddr rfl) ?_
              refine XO.q (Q.ld rfl rfl) ?_
              refine XO.q (Q.fieldAddr rfl) ?_
              refine XO.q (Q.ld rfl rfl) ?_
              refine XO.q (Q.sub rfl rfl ⟨by omega, by omega⟩) ?_
              refine XO.q (Q.fieldAddr rfl) ?_
              refine XO.st rfl rfl rfl ?_
              refine XO.done ?_
              refine XK.seq ?_
              refine XK.region rfl ?_
              refine XO.q (Q.ldA [_, _, _, _] rfl rfl rfl) ?_
              refine XO.st rfl rfl rfl ?_
              refine XO.q (Q.assign rfl) ?_
              refine XO.done ?_
              refine XK.rt [] Try.func60 Try.results60 (.cell [_, _, _, _] rfl rfl rfl (.t rfl .n)) ?_
              have hw0 : makeG t u = (billL t u, 0) := make_fine k q
              rw [hw0]
              exact ⟨rfl, rfl⟩
            · have _t7 := True.intro
              rw [credit_down crr.1 c7]
              refine XK.skip ?_
              refine XK.seq ?_
              refine XK.region rfl ?_
              refine XO.q (Q.fieldAddr rfl) ?_
              refine XO.q (Q.ld rfl rfl) ?_
              refine XO.q (Q.fieldAddr rfl) ?_
              refine XO.q (Q.ld rfl rfl) ?_
              refine XO.q (Q.sub rfl rfl ⟨by omega, by omega⟩) ?_
              refine XO.q (Q.fieldAddr rfl) ?_
              refine XO.st rfl rfl rfl ?_
              refine XO.done ?_
              refine XK.seq ?_
              refine XK.region rfl ?_
              refine XO.q (Q.ldA [_, _, _, _] rfl rfl rfl) ?_
              refine XO.st rfl rfl rfl ?_
              refine XO.q (Q.assign rfl) ?_
              refine XO.done ?_
              refine XK.rt [] Try.func60 Try.results60 (.cell [_, _, _, _] rfl rfl rfl (.t rfl .n)) ?_
              have hw0 : makeG t u = (billL t u, 0) := make_fine k q
              rw [hw0]
              exact ⟨rfl, rfl⟩
theorem RTotal_spec (t : MTariff) (vp vt : Value) (hp ht : PHeap) [jp : Arr vp encI 1 hp t.price] [jt : Arr vt encTier 2 ht t.tiers] (l : List (Value × MUse)) (vl : Value) (hl hL : PHeap) [jl : Arr vl encUse 2 hl l] (aL : ∀ i, i < l.length → Arr (l.getD i default).1 encI 1 hL (l.getD i default).2.values) :
    Spec Try.prog 61 #[.agg #[vp, .int .i64 t.base, vt, .int .i64 t.credit], vl] [] [hp, ht, hl, hL] (fun v hs => ∃ v1 k1, v = .tuple #[v1, .agg #[.int .i64 (totalG t (l.map Prod.snd)).2.1.energy, .int .i64 (totalG t (l.map Prod.snd)).2.1.amount, .int .i64 (totalG t (l.map Prod.snd)).2.1.credit, .int .i64 (totalG t (l.map Prod.snd)).2.1.due], .int .i64 (totalG t (l.map Prod.snd)).2.2] ∧ hs = [k1] ∧ OArr v1 encBill 4 139 k1 (totalG t (l.map Prod.snd)).1) := by
  have hnil : OArr (.slice none 0 0) encBill 4 139 emp ([] : List MBill) := OArr.nil (fun _ => rfl)
  have ll := jl.le
  have hml : (l.map Prod.snd).length = l.length := List.length_map ..
  refine Spec.intro (fn := Try.f61) (N := 62) Try.func61 rfl Try.ntmps61 rfl fun B => ?_
  refine XK.seq ?_
  refine XK.region rfl ?_
  refine XO.box rfl fun b2 => ?_
  refine XO.q (Q.assign rfl) ?_
  refine XO.alloc fun b5 => ?_
  refine XO.q (Q.assign rfl) ?_
  refine XO.done ?_
  refine XK.seq ?_
  refine XK.seq ?_
  refine XK.region rfl ?_
  refine XO.q (Q.move rfl) ?_
  refine XO.len rfl fun l13 => ?_
  refine XO.q (Q.gtr rfl rfl) ?_
  refine XO.done ?_
  refine XK.if rfl (fun c0 => ?_) (fun c0 => ?_)
  · have _t0 := True.intro
    refine XK.seq ?_
    refine XK.region rfl ?_
    refine XO.q (Q.build [_, _, _, _] (.n _)) ?_
    refine XO.q (Q.assign rfl) ?_
    refine XO.st rfl rfl rfl ?_
    refine XO.q (Q.assign rfl) ?_
    refine XO.done ?_
    refine XK.rt [emp] Try.func61 Try.results61 (.t rfl (.cell [_, _, _, _] rfl rfl rfl (.t rfl .n))) ?_
    have hw0 : totalG t (l.map Prod.snd) = ([], default, 2) := by rw [totalG, if_pos (by omega)]
    rw [hw0]
    exact ⟨.slice none 0 0, emp, rfl, rfl, OArr.nil (fun _ => rfl)⟩
  · have _t0 := True.intro
    refine XK.skip ?_
    refine XK.seq ?_
    refine XK.region rfl ?_
    refine XO.q (Q.assign rfl) ?_
    refine XO.done ?_
    refine XK.seq ?_
    refine XK.region rfl ?_
    refine XO.alloc fun b8 => ?_
    refine XO.done ?_
    refine XK.seq ?_
    refine XK.seq ?_
    refine XK.region rfl ?_
    refine XO.q (Q.assign rfl) ?_
    refine XO.done ?_
    refine XK.block ?_
    refine XK.while (X := Nat × Value × PHeap) [4, 6, 7, 9, 10, 11, 16, 17, 18, 19, 20, 21, 22, 23, 24, 25, 26, 27, 28, 29, 30, 31, 32, 33, 34, 35, 36, 37, 38, 39, 40, 41, 42, 43, 44, 45, 46, 47, 48, 49, 50, 51, 52, 53, 54, 55, 56, 57, 58, 59] (fun ⟨i, vo, ko⟩ => [(9, some (.int .i64 (i : Nat))), (7, some (vo))]) (fun ⟨i, vo, ko⟩ => [ko, blk b8 [.int .i64 (sumBill t (l.map Prod.snd) i).energy, .int .i64 (sumBill t (l.map Prod.snd) i).amount, .int .i64 (sumBill t (l.map Prod.snd) i).credit, .int .i64 (sumBill t (l.map Prod.snd) i).due] 139]) (fun ⟨i, vo, ko⟩ => i ≤ l.length ∧ OArr vo encBill 4 139 ko ((List.range i).map (billAt t (l.map Prod.snd))) ∧ errTo t (l.map Prod.snd) i = 0) (fun ⟨i, vo, ko⟩ => l.length - i) (0, .slice none 0 0, emp) [emp, blk b8 [.int .i64 0, .int .i64 0, .int .i64 0, .int .i64 0] 139] rfl ⟨by omega, hnil, rfl⟩ (.c rfl (.c rfl (.base 0 rfl rfl))) ?_
    rintro ⟨i, vo, ko⟩ ⟨hi, OO, he⟩ ih0
    dsimp only [List.cons_append, List.nil_append] at ih0 ⊢
    refine XK.seq ?_
    refine XK.seq ?_
    refine XK.region rfl ?_
    refine XO.q (Q.move rfl) ?_
    refine XO.q (Q.move rfl) ?_
    refine XO.len rfl fun l18 => ?_
    refine XO.q (Q.lss rfl rfl) ?_
    refine XO.done ?_
    refine XK.if rfl (fun c1 => ?_) (fun c1 => ?_)
    · have _t1 := True.intro
      have ai := aL i (by omega)
      have br := make_rng t (l.getD i default).2
      have br1 := br.e
      have br2 := br.a
      have br3 := br.c
      have br4 := br.d
      obtain ⟨s1, s2, s3, s4⟩ := sumBill_rng t (l.map Prod.snd) i
      have eb : billAt t (l.map Prod.snd) i = (makeG t (l.getD i default).2).1 := by rw [billAt, map_snd_at]
      refine XK.skip ?_
      refine XK.seq ?_
      refine XK.block ?_
      refine XK.seq ?_
      refine XK.meet (X := Nat) [10, 11, 22, 23, 24, 25, 26, 27, 28, 29, 30] (fun b10 => [(10, some (ptr b10 0)), (11, some (.int .i64 (makeG t (l.getD i default).2).2))]) (fun b10 => [blk b10 [.int .i64 (makeG t (l.getD i default).2).1.energy, .int .i64 (makeG t (l.getD i default).2).1.amount, .int .i64 (makeG t (l.getD i default).2).1.credit, .int .i64 (makeG t (l.getD i default).2).1.due] 139]) (fun b10 => True) [] ?_ ?_
      · rintro b10 _
        dsimp only [List.cons_append, List.nil_append]
        refine XK.seq ?_
        refine XK.seq ?_
        refine XK.region rfl ?_
        refine XO.q (Q.move rfl) ?_
        refine XO.q (Q.neq rfl rfl) ?_
        refine XO.done ?_
        refine XK.if rfl (fun c2 => ?_) (fun c2 => ?_)
        · have _t2 := True.intro
          refine XK.seq ?_
          refine XK.region rfl ?_
          refine XO.q (Q.build [_, _, _, _] (.n _)) ?_
          refine XO.q (Q.move rfl) ?_
          refine XO.q (Q.assign rfl) ?_
          refine XO.st rfl rfl rfl ?_
          refine XO.q (Q.assign rfl) ?_
          refine XO.done ?_
          refine XK.rt [emp] Try.func61 Try.results61 (.t rfl (.cell [_, _, _, _] rfl rfl rfl (.t rfl .n))) ?_
          have hw0 : totalG t (l.map Prod.snd) = ([], default, (makeG t (l.getD i default).2).2) := by
            have e1 : errTo t (l.map Prod.snd) (i + 1) = (makeG t (l.getD i default).2).2 := by rw [errTo, he, if_neg (by decide), map_snd_at]
            have e2 : errTo t (l.map Prod.snd) (l.map Prod.snd).length = (makeG t (l.getD i default).2).2 := by rw [errTo_stay (n := i + 1) (by rw [e1]; exact c2) (by omega), e1]
            rw [totalG, if_neg (by omega), e2, if_pos c2]
          rw [hw0]
          exact ⟨.slice none 0 0, emp, rfl, rfl, OArr.nil (fun _ => rfl)⟩
        · have _t2 := True.intro
          refine XK.skip ?_
          refine XK.seq ?_
          refine XK.region rfl ?_
          refine XO.q (Q.move rfl) ?_
          refine XO.q (Q.ldA [_, _, _, _] rfl rfl rfl) ?_
          refine XO.lit [_, _, _, _] [_, _, _, _] [(makeG t (l.getD i default).2).1] encBill (by rfl) (by rfl) rfl (by rfl) (by exact .c 0 4 rfl rfl rfl (.n _)) (fun _ => rfl) (by rfl) rfl (by infer_instance) rfl fun v37 h37 O37 => ?_
          refine XO.append rfl rfl rfl rfl (by simp only [List.length_map, List.length_range, List.length_cons, List.length_nil]; omega) fun v38 h38 O38 => ?_
          refine XO.q (Q.assign rfl) ?_
          refine XO.done ?_
          refine XK.region rfl ?_
          refine XO.q (Q.fieldAddr rfl) ?_
          refine XO.q (Q.ld rfl rfl) ?_
          refine XO.q (Q.fieldAddr rfl) ?_
          refine XO.q (Q.ld rfl rfl) ?_
          refine XO.q (Q.add rfl rfl ⟨by omega, by omega⟩) ?_
          refine XO.q (Q.fieldAddr rfl) ?_
          refine XO.q (Q.ld rfl rfl) ?_
          refine XO.q (Q.fieldAddr rfl) ?_
          refine XO.q (Q.ld rfl rfl) ?_
          refine XO.q (Q.add rfl rfl ⟨by omega, by omega⟩) ?_
          refine XO.q (Q.fieldAddr rfl) ?_
          refine XO.q (Q.ld rfl rfl) ?_
          refine XO.q (Q.fieldAddr rfl) ?_
          refine XO.q (Q.ld rfl rfl) ?_
          refine XO.q (Q.add rfl rfl ⟨by omega, by omega⟩) ?_
          refine XO.q (Q.fieldAddr rfl) ?_
          refine XO.q (Q.ld rfl rfl) ?_
          refine XO.q (Q.fieldAddr rfl) ?_
          refine XO.q (Q.ld rfl rfl) ?_
          refine XO.q (Q.add rfl rfl ⟨by omega, by omega⟩) ?_
          refine XO.q (Q.build [_, _, _, _] (.c 0 1 rfl rfl rfl (.c 1 1 rfl rfl rfl (.c 2 1 rfl rfl rfl (.c 3 1 rfl rfl rfl (.n _)))))) ?_
          refine XO.st rfl rfl rfl ?_
          refine XO.done ?_
          refine XK.inBlock ?_
          refine XK.region rfl ?_
          refine XO.q (Q.move rfl) ?_
          refine XO.q (Q.add rfl rfl ⟨by omega, by omega⟩) ?_
          refine XO.q (Q.assign rfl) ?_
          refine XO.done ?_
          rw [show (sumBill t (l.map Prod.snd) i).energy + (makeG t (l.getD i default).2).1.energy = (sumBill t (l.map Prod.snd) (i + 1)).energy by rw [← eb]; rfl, show (sumBill t (l.map Prod.snd) i).amount + (makeG t (l.getD i default).2).1.amount = (sumBill t (l.map Prod.snd) (i + 1)).amount by rw [← eb]; rfl, show (sumBill t (l.map Prod.snd) i).credit + (makeG t (l.getD i default).2).1.credit = (sumBill t (l.map Prod.snd) (i + 1)).credit by rw [← eb]; rfl, show (sumBill t (l.map Prod.snd) i).due + (makeG t (l.getD i default).2).1.due = (sumBill t (l.map Prod.snd) (i + 1)).due by rw [← eb]; rfl]
          exact ih0 (i + 1, v38, h38) _ _ ⟨by dsimp only; omega, by dsimp only; rw [bills_snoc, eb]; exact O38, by dsimp only; rw [errTo, he, if_neg (by decide), map_snd_at]; exact Decidable.of_not_not c2⟩ (by first | omega | (dsimp only; omega)) (.c rfl (.c rfl (.base 100 rfl rfl))) inferInstance
      · intro mtr8
        dsimp only [List.cons_append, List.nil_append] at mtr8
        refine XK.drawn [0, 1, 2, 3, 4, 6, 7, 8, 11] [b2] [] (.q 0 (.q 1 (.q 2 (.q 3 (.q 4 (.br 5 true (.q 6 (.q 7 (.q 8 (.br 9 true (.br 10 true (.q 11 .done) .stop) .stop)))) (.br 9 true (.br 5 true (.q 6 (.q 7 (.q 8 (.br 10 true (.q 11 .done) .stop)))) .stop) .stop))))))) Try.mixed rfl (by kernel_rfl) ?_
        refine XT.q rfl rfl (Q.ldA [_, _, _, _] rfl rfl rfl) ?_
        refine XT.q rfl rfl (Q.move rfl) ?_
        refine XT.q rfl rfl (Q.move rfl) ?_
        refine XT.ix rfl rfl rfl rfl (by omega) (by omega) fun i26 => ?_
        refine XT.q rfl rfl (Q.ldEA [_, _] rfl (by first | assumption | omega) rfl rfl) ?_
        refine XT.call rfl rfl Try.call60 rfl rfl rfl (RMake_spec t vp vt hp ht (l.getD i default).2 (l.getD i default).1 hL) (fun v28 s28 R28 => ?_) ?_
        · skip
          obtain ⟨rfl, rfl⟩ := R28
          dsimp only [List.cons_append, List.nil_append]
          refine ⟨inferInstance, ?_⟩
          refine XT.q rfl rfl (Q.move rfl) ?_
          refine XT.q rfl rfl (Q.extract rfl rfl) ?_
          refine XT.q rfl rfl (Q.extract rfl rfl) ?_
          refine XT.alloc rfl rfl (fun b10 => ⟨inferInstance, ?_⟩) XT.stop
          refine XT.st rfl rfl rfl rfl rfl ⟨inferInstance, ?_⟩ XT.stop
          refine XT.q rfl rfl (Q.assign rfl) ?_
          refine XT.done ?_
          exact mtr8 (b10) _ _ trivial (.c rfl (.c rfl (.base 11 rfl rfl))) inferInstance
        · skip
          refine XT.alloc rfl rfl (fun b10 => ⟨inferInstance, ?_⟩) XT.stop
          refine XT.call rfl rfl Try.call60 rfl rfl rfl (RMake_spec t vp vt hp ht (l.getD i default).2 (l.getD i default).1 hL) (fun v28 s28 R28 => ?_) XT.stop
          obtain ⟨rfl, rfl⟩ := R28
          dsimp only [List.cons_append, List.nil_append]
          refine ⟨inferInstance, ?_⟩
          refine XT.q rfl rfl (Q.move rfl) ?_
          refine XT.q rfl rfl (Q.extract rfl rfl) ?_
          refine XT.q rfl rfl (Q.extract rfl rfl) ?_
          refine XT.st rfl rfl rfl rfl rfl ⟨inferInstance, ?_⟩ XT.stop
          refine XT.q rfl rfl (Q.assign rfl) ?_
          refine XT.done ?_
          exact mtr8 (b10) _ _ trivial (.c rfl (.c rfl (.base 11 rfl rfl))) inferInstance
    · have _t1 := True.intro
      have hin : i = l.length := by omega
      subst hin
      refine XK.exit rfl ?_
      refine XK.seq ?_
      refine XK.drawn [0, 1, 2, 4] [b8] [] (.q 0 (.q 1 (.q 2 (.br 3 true (.q 4 .done) .stop)))) Try.mixed rfl (by kernel_rfl) ?_
      refine XT.q rfl rfl (Q.move rfl) ?_
      refine XT.q rfl rfl (Q.ldA [_, _, _, _] rfl rfl rfl) ?_
      refine XT.q rfl rfl (Q.assign rfl) ?_
      refine XT.st rfl rfl rfl rfl rfl ⟨inferInstance, ?_⟩ XT.stop
      refine XT.q rfl rfl (Q.assign rfl) ?_
      refine XT.done ?_
      refine XK.rt [ko] Try.func61 Try.results61 (.t rfl (.cell [_, _, _, _] rfl rfl rfl (.t rfl .n))) ?_
      have hw0 : totalG t (l.map Prod.snd) = ((List.range l.length).map (billAt t (l.map Prod.snd)), sumBill t (l.map Prod.snd) l.length, 0) := by rw [totalG, if_neg (by omega), hml, he, if_neg (by decide)]
      rw [hw0]
      exact ⟨_, ko, rfl, rfl, OO⟩
end Go.X

set_option linter.unusedSimpArgs false
set_option linter.unusedVariables false
set_option maxRecDepth 20000
namespace Go.X
open Go.Proofs
theorem sameInts (va vb : Value) (ha hb : PHeap) (a b : List Int) [ia : Arr va encI 1 ha a] [ib : Arr vb encI 1 hb b] : Spec Try.prog 118 #[va, vb] [] [ha, hb] (fun v hs => v = .bool (decide (a = b)) ∧ hs = []) := by
  have la := ia.le
  refine Spec.intro (fn := Try.f118) (N := 26) Try.func118 rfl Try.ntmps118 rfl fun B => ?_
  refine XK.seq ?_
  refine XK.region rfl ?_
  refine XO.q (Q.assign rfl) ?_
  refine XO.done ?_
  refine XK.seq ?_
  refine XK.seq ?_
  refine XK.region rfl ?_
  refine XO.q (Q.move rfl) ?_
  refine XO.len rfl fun l7 => ?_
  refine XO.q (Q.move rfl) ?_
  refine XO.len rfl fun l9 => ?_
  refine XO.q (Q.neq rfl rfl) ?_
  refine XO.done ?_
  refine XK.if rfl (fun c0 => ?_) (fun c0 => ?_)
  · have _t0 := True.intro
    refine XK.seq ?_
    refine XK.region rfl ?_
    refine XO.q (Q.assign rfl) ?_
    refine XO.done ?_
    refine XK.rt [] Try.func118 Try.results118 (.t rfl .n) ?_
    exact ⟨by rw [decide_eq_false (fun h => c0 (by rw [h]))], rfl⟩
  · have _t0 := True.intro
    refine XK.skip ?_
    refine XK.seq ?_
    refine XK.seq ?_
    refine XK.region rfl ?_
    refine XO.q (Q.assign rfl) ?_
    refine XO.done ?_
    refine XK.block ?_
    refine XK.while (X := Nat) [4, 5, 11, 12, 13, 14, 15, 16, 17, 18, 19, 20, 21, 22, 23, 24, 25] (fun i => [(5, some (.int .i64 (i : Nat)))]) (fun i => []) (fun i => i ≤ a.length ∧ a.take i = b.take i) (fun i => a.length - i) (0) [] rfl ⟨by omega, rfl⟩ (.c rfl (.base 0 rfl rfl)) ?_
    rintro i ⟨hi, ht⟩ ih0
    dsimp only [List.cons_append, List.nil_append] at ih0 ⊢
    refine XK.seq ?_
    refine XK.seq ?_
    refine XK.region rfl ?_
    refine XO.q (Q.move rfl) ?_
    refine XO.q (Q.move rfl) ?_
    refine XO.len rfl fun l13 => ?_
    refine XO.q (Q.lss rfl rfl) ?_
    refine XO.done ?_
    refine XK.if rfl (fun c1 => ?_) (fun c1 => ?_)
    · have _t1 := True.intro
      refine XK.skip ?_
      refine XK.seq ?_
      refine XK.block ?_
      refine XK.seq ?_
      refine XK.drawn [0, 1, 2, 3, 4, 5, 6, 7, 8] [] [] (.q 0 (.q 1 (.q 2 (.q 3 (.q 4 (.q 5 (.q 6 (.q 7 (.q 8 .done))))))))) Try.mixed rfl (by kernel_rfl) ?_
      refine XT.q rfl rfl (Q.move rfl) ?_
      refine XT.q rfl rfl (Q.move rfl) ?_
      refine XT.ix rfl rfl rfl rfl (by omega) (by omega) fun i19 => ?_
      refine XT.q rfl rfl (Q.ldE rfl (by first | assumption | omega) rfl) ?_
      refine XT.q rfl rfl (Q.move rfl) ?_
      refine XT.q rfl rfl (Q.move rfl) ?_
      refine XT.ix rfl rfl rfl rfl (by omega) (by omega) fun i23 => ?_
      refine XT.q rfl rfl (Q.ldE rfl (by first | assumption | omega) rfl) ?_
      refine XT.q rfl rfl (Q.neq rfl rfl) ?_
      refine XT.done ?_
      refine XK.if rfl (fun c2 => ?_) (fun c2 => ?_)
      · have _t2 := True.intro
        refine XK.seq ?_
        refine XK.region rfl ?_
        refine XO.q (Q.assign rfl) ?_
        refine XO.done ?_
        refine XK.rt [] Try.func118 Try.results118 (.t rfl .n) ?_
        exact ⟨by rw [decide_eq_false (fun h => c2 (by rw [h]))], rfl⟩
      · have _t2 := True.intro
        refine XK.skip ?_
        refine XK.inBlock ?_
        refine XK.region rfl ?_
        refine XO.q (Q.move rfl) ?_
        refine XO.q (Q.add rfl rfl ⟨by omega, by omega⟩) ?_
        refine XO.q (Q.assign rfl) ?_
        refine XO.done ?_
        exact ih0 (i + 1) _ _ ⟨by omega, take_step ht (by omega) (by omega) (Decidable.of_not_not c2)⟩ (by first | omega | (dsimp only; omega)) (.c rfl (.base 34 rfl rfl)) inferInstance
    · have _t1 := True.intro
      refine XK.exit rfl ?_
      refine XK.seq ?_
      refine XK.region rfl ?_
      refine XO.q (Q.assign rfl) ?_
      refine XO.done ?_
      refine XK.rt [] Try.func118 Try.results118 (.t rfl .n) ?_
      exact ⟨by rw [decide_eq_true (take_all ht c1 (by omega))], rfl⟩
theorem sameList (va vb : Value) (ha hb : PHeap) (a b : List Int) [ia : Arr va encI 1 ha a] [ib : Arr vb encI 1 hb b] : Spec Try.prog 89 #[va, vb] [] [ha, hb] (fun v hs => v = .bool (decide (a = b)) ∧ hs = []) := by
  refine Spec.intro (fn := Try.f89) (N := 8) Try.func89 rfl Try.ntmps89 rfl fun B => ?_
  refine XK.seq ?_
  refine XK.region rfl ?_
  refine XO.q (Q.assign rfl) ?_
  refine XO.done ?_
  refine XK.seq ?_
  refine XK.region rfl ?_
  refine XO.q (Q.move rfl) ?_
  refine XO.q (Q.move rfl) ?_
  refine XO.call Try.call118 rfl rfl rfl (sameInts va vb ha hb a b) fun v7 s7 R7 => ?_
  obtain ⟨rfl, rfl⟩ := R7
  dsimp only [List.cons_append, List.nil_append]
  refine XO.q (Q.assign rfl) ?_
  refine XO.done ?_
  refine XK.rt [] Try.func89 Try.results89 (.t rfl .n) ?_
  exact ⟨rfl, rfl⟩
theorem sameLists (va vb : Value) (ha hb Ka Kb : PHeap) (us ws : List Value) [ia : Arr va encV 1 ha us] [ib : Arr vb encV 1 hb ws] (a b : List (List Int)) (ra : RowsK us Ka a) (rb : RowsK ws Kb b) : Spec Try.prog 50 #[va, vb] [] [ha, hb, Ka, Kb] (fun v hs => v = .bool (decide (a = b)) ∧ hs = []) := by
  have la := ia.le
  have l1 := ra.1
  have l2 := rb.1
  refine Spec.intro (fn := Try.f50) (N := 27) Try.func50 rfl Try.ntmps50 rfl fun B => ?_
  refine XK.seq ?_
  refine XK.region rfl ?_
  refine XO.q (Q.assign rfl) ?_
  refine XO.done ?_
  refine XK.seq ?_
  refine XK.seq ?_
  refine XK.region rfl ?_
  refine XO.q (Q.move rfl) ?_
  refine XO.len rfl fun l7 => ?_
  refine XO.q (Q.move rfl) ?_
  refine XO.len rfl fun l9 => ?_
  refine XO.q (Q.neq rfl rfl) ?_
  refine XO.done ?_
  refine XK.if rfl (fun c0 => ?_) (fun c0 => ?_)
  · have _t0 := True.intro
    refine XK.seq ?_
    refine XK.region rfl ?_
    refine XO.q (Q.assign rfl) ?_
    refine XO.done ?_
    refine XK.rt [] Try.func50 Try.results50 (.t rfl .n) ?_
    exact ⟨by rw [decide_eq_false (fun h => c0 (by rw [l1, l2, h]))], rfl⟩
  · have _t0 := True.intro
    refine XK.skip ?_
    refine XK.seq ?_
    refine XK.seq ?_
    refine XK.region rfl ?_
    refine XO.q (Q.assign rfl) ?_
    refine XO.done ?_
    refine XK.block ?_
    refine XK.while (X := Nat) [4, 5, 11, 12, 13, 14, 15, 16, 17, 18, 19, 20, 21, 22, 23, 24, 25, 26] (fun i => [(5, some (.int .i64 (i : Nat)))]) (fun i => []) (fun i => i ≤ us.length ∧ a.take i = b.take i) (fun i => us.length - i) (0) [] rfl ⟨by omega, rfl⟩ (.c rfl (.base 0 rfl rfl)) ?_
    rintro i ⟨hi, ht⟩ ih0
    dsimp only [List.cons_append, List.nil_append] at ih0 ⊢
    refine XK.seq ?_
    refine XK.seq ?_
    refine XK.region rfl ?_
    refine XO.q (Q.move rfl) ?_
    refine XO.q (Q.move rfl) ?_
    refine XO.len rfl fun l13 => ?_
    refine XO.q (Q.lss rfl rfl) ?_
    refine XO.done ?_
    refine XK.if rfl (fun c1 => ?_) (fun c1 => ?_)
    · have _t1 := True.intro
      have aa := ra.2 i (by omega)
      have ab := rb.2 i (by omega)
      refine XK.skip ?_
      refine XK.seq ?_
      refine XK.block ?_
      refine XK.seq ?_
      refine XK.drawn [0, 1, 2, 3, 4, 5, 6, 7, 9] [] [] (.q 0 (.q 1 (.q 2 (.q 3 (.q 4 (.q 5 (.q 6 (.q 7 (.br 8 true (.q 9 .done) .stop))))))))) Try.mixed rfl (by kernel_rfl) ?_
      refine XT.q rfl rfl (Q.move rfl) ?_
      refine XT.q rfl rfl (Q.move rfl) ?_
      refine XT.ix rfl rfl rfl rfl (by omega) (by omega) fun i19 => ?_
      refine XT.q rfl rfl (Q.ldE rfl (by first | assumption | omega) rfl) ?_
      refine XT.q rfl rfl (Q.move rfl) ?_
      refine XT.q rfl rfl (Q.move rfl) ?_
      refine XT.ix rfl rfl rfl rfl (by omega) (by omega) fun i23 => ?_
      refine XT.q rfl rfl (Q.ldE rfl (by first | assumption | omega) rfl) ?_
      refine XT.call rfl rfl Try.call89 rfl rfl rfl (sameList (us.getD i default) (ws.getD i default) Ka Kb (a.getD i default) (b.getD i default)) (fun v25 s25 R25 => ?_) XT.stop
      obtain ⟨rfl, rfl⟩ := R25
      dsimp only [List.cons_append, List.nil_append]
      refine ⟨inferInstance, ?_⟩
      refine XT.q rfl rfl (Q.not rfl) ?_
      refine XT.done ?_
      refine XK.if rfl (fun c2 => ?_) (fun c2 => ?_)
      · have _t2 := True.intro
        refine XK.seq ?_
        refine XK.region rfl ?_
        refine XO.q (Q.assign rfl) ?_
        refine XO.done ?_
        refine XK.rt [] Try.func50 Try.results50 (.t rfl .n) ?_
        exact ⟨by rw [decide_eq_false (fun h => c2 (by rw [h]))], rfl⟩
      · have _t2 := True.intro
        refine XK.skip ?_
        refine XK.inBlock ?_
        refine XK.region rfl ?_
        refine XO.q (Q.move rfl) ?_
        refine XO.q (Q.add rfl rfl ⟨by omega, by omega⟩) ?_
        refine XO.q (Q.assign rfl) ?_
        refine XO.done ?_
        exact ih0 (i + 1) _ _ ⟨by omega, take_step ht (by omega) (by omega) (Decidable.of_not_not c2)⟩ (by first | omega | (dsimp only; omega)) (.c rfl (.base 36 rfl rfl)) inferInstance
    · have _t1 := True.intro
      refine XK.exit rfl ?_
      refine XK.seq ?_
      refine XK.region rfl ?_
      refine XO.q (Q.assign rfl) ?_
      refine XO.done ?_
      refine XK.rt [] Try.func50 Try.results50 (.t rfl .n) ?_
      exact ⟨by rw [decide_eq_true (take_all ht (by omega) (by omega))], rfl⟩
theorem mul64_one (n : Nat) (h : n ≤ 4294967295) : Spec Try.prog 104 #[.int .u64 1, .int .u64 (n : Nat)] [] [] (fun v hs => v = .tuple #[.int .u64 0, .int .u64 (n : Nat)] ∧ hs = []) := by
  have h1 : (1 : Int) % 4294967296 = 1 := by decide
  have h2 : (1 : Int) / 4294967296 = 0 := by decide
  have h3 : (n : Int) % 4294967296 = n := by omega
  have h4 : (n : Int) / 4294967296 = 0 := by omega
  have h5 : (0 : Int) % 4294967296 = 0 := by decide
  have h6 : (0 : Int) / 4294967296 = 0 := by decide
  refine Spec.intro (fn := Try.f104) (N := 51) Try.func104 rfl Try.ntmps104 rfl fun B => ?_
  refine XK.seq ?_
  refine XK.region rfl ?_
  refine XO.q (Q.assign rfl) ?_
  refine XO.q (Q.assign rfl) ?_
  refine XO.done ?_
  refine XK.seq ?_
  refine XK.region rfl ?_
  refine XO.q (Q.move rfl) ?_
  refine XO.q (Q.mask32 rfl rfl (by omega)) ?_
  rw [h1]
  refine XO.q (Q.assign rfl) ?_
  refine XO.done ?_
  refine XK.seq ?_
  refine XK.region rfl ?_
  refine XO.q (Q.move rfl) ?_
  refine XO.q (Q.shr32 rfl rfl) ?_
  rw [h2]
  refine XO.q (Q.assign rfl) ?_
  refine XO.done ?_
  refine XK.seq ?_
  refine XK.region rfl ?_
  refine XO.q (Q.move rfl) ?_
  refine XO.q (Q.mask32 rfl rfl (by omega)) ?_
  rw [h3]
  refine XO.q (Q.assign rfl) ?_
  refine XO.done ?_
  refine XK.seq ?_
  refine XK.region rfl ?_
  refine XO.q (Q.move rfl) ?_
  refine XO.q (Q.shr32 rfl rfl) ?_
  rw [h4]
  refine XO.q (Q.assign rfl) ?_
  refine XO.done ?_
  refine XK.seq ?_
  refine XK.region rfl ?_
  refine XO.q (Q.move rfl) ?_
  refine XO.q (Q.move rfl) ?_
  refine XO.q (Q.mulU rfl rfl (by omega)) ?_
  rw [Int.one_mul]
  refine XO.q (Q.assign rfl) ?_
  refine XO.done ?_
  refine XK.seq ?_
  refine XK.region rfl ?_
  refine XO.q (Q.move rfl) ?_
  refine XO.q (Q.move rfl) ?_
  refine XO.q (Q.mulU rfl rfl (by omega)) ?_
  rw [Int.zero_mul]
  refine XO.q (Q.move rfl) ?_
  refine XO.q (Q.shr32 rfl rfl) ?_
  rw [h4]
  refine XO.q (Q.addU rfl rfl (by omega)) ?_
  rw [Int.add_zero]
  refine XO.q (Q.assign rfl) ?_
  refine XO.done ?_
  refine XK.seq ?_
  refine XK.region rfl ?_
  refine XO.q (Q.move rfl) ?_
  refine XO.q (Q.mask32 rfl rfl (by omega)) ?_
  rw [h5]
  refine XO.q (Q.assign rfl) ?_
  refine XO.done ?_
  refine XK.seq ?_
  refine XK.region rfl ?_
  refine XO.q (Q.move rfl) ?_
  refine XO.q (Q.shr32 rfl rfl) ?_
  rw [h6]
  refine XO.q (Q.assign rfl) ?_
  refine XO.done ?_
  refine XK.seq ?_
  refine XK.region rfl ?_
  refine XO.q (Q.move rfl) ?_
  refine XO.q (Q.move rfl) ?_
  refine XO.q (Q.move rfl) ?_
  refine XO.q (Q.mulU rfl rfl (by omega)) ?_
  rw [Int.mul_zero]
  refine XO.q (Q.addU rfl rfl (by omega)) ?_
  rw [Int.add_zero]
  refine XO.q (Q.assign rfl) ?_
  refine XO.done ?_
  refine XK.seq ?_
  refine XK.region rfl ?_
  refine XO.q (Q.move rfl) ?_
  refine XO.q (Q.move rfl) ?_
  refine XO.q (Q.mulU rfl rfl (by omega)) ?_
  rw [Int.mul_zero]
  refine XO.q (Q.move rfl) ?_
  refine XO.q (Q.addU rfl rfl (by omega)) ?_
  rw [Int.add_zero]
  refine XO.q (Q.move rfl) ?_
  refine XO.q (Q.shr32 rfl rfl) ?_
  rw [h6]
  refine XO.q (Q.addU rfl rfl (by omega)) ?_
  rw [Int.add_zero]
  refine XO.q (Q.assign rfl) ?_
  refine XO.done ?_
  refine XK.seq ?_
  refine XK.region rfl ?_
  refine XO.q (Q.move rfl) ?_
  refine XO.q (Q.move rfl) ?_
  refine XO.q (Q.mulU rfl rfl (by omega)) ?_
  rw [Int.one_mul]
  refine XO.q (Q.assign rfl) ?_
  refine XO.done ?_
  refine XK.rt [] Try.func104 Try.results104 (.t rfl (.t rfl .n)) ?_
  exact ⟨rfl, rfl⟩
theorem mul_one' (n : Nat) (h : n ≤ 4294967295) : Spec Try.prog 82 #[.int .u64 1, .int .u64 (n : Nat)] [] [] (fun v hs => v = .tuple #[.int .u64 0, .int .u64 (n : Nat)] ∧ hs = []) := by
  refine Spec.intro (fn := Try.f82) (N := 30) Try.func82 rfl Try.ntmps82 rfl fun B => ?_
  refine XK.seq ?_
  refine XK.region rfl ?_
  refine XO.q (Q.assign rfl) ?_
  refine XO.q (Q.assign rfl) ?_
  refine XO.done ?_
  refine XK.seq ?_
  refine XK.if rfl (fun c0 => ?_) (fun c0 => ?_)
  · have _t0 := True.intro
    exact c0.elim
  · have _t0 := True.intro
    refine XK.skip ?_
    refine XK.seq ?_
    refine XK.region rfl ?_
    refine XO.q (Q.move rfl) ?_
    refine XO.q (Q.move rfl) ?_
    refine XO.call Try.call104 rfl rfl rfl (mul64_one n h) fun v25 s25 R25 => ?_
    obtain ⟨rfl, rfl⟩ := R25
    dsimp only [List.cons_append, List.nil_append]
    refine XO.q (Q.move rfl) ?_
    refine XO.q (Q.extract rfl rfl) ?_
    refine XO.q (Q.extract rfl rfl) ?_
    refine XO.q (Q.assign rfl) ?_
    refine XO.q (Q.assign rfl) ?_
    refine XO.done ?_
    refine XK.seq ?_
    refine XK.region rfl ?_
    refine XO.q (Q.move rfl) ?_
    refine XO.q (Q.move rfl) ?_
    refine XO.q (Q.assign rfl) ?_
    refine XO.q (Q.assign rfl) ?_
    refine XO.done ?_
    refine XK.rt [] Try.func82 Try.results82 (.t rfl (.t rfl .n)) ?_
    exact ⟨rfl, rfl⟩
theorem repeatI (v : Value) (h : PHeap) (x : Int) [s : Arr v encI 1 h [x]] (n : Nat) (hn : n ≤ 4294967295) : Spec Try.prog 40 #[v, .int .i64 (n : Nat)] [] [h] (fun v' hs => ∃ h', hs = [h'] ∧ OArr v' encI 1 3 h' (List.replicate n x)) := by
  have hw1 : IntKind.u64.wrap ((([x] : List Int).length : Nat) : Int) = 1 := rfl
  have hw2 : IntKind.u64.wrap ((n : Nat) : Int) = n := wrapu64 (by omega)
  have hw3 : IntKind.i64.wrap ((n : Nat) : Int) = n := wrap64_of ⟨by omega, by omega⟩
  have hl1 : ([x] : List Int).length = 1 := rfl
  refine Spec.intro (fn := Try.f40) (N := 48) Try.func40 rfl Try.ntmps40 rfl fun B => ?_
  refine XK.seq ?_
  refine XK.region rfl ?_
  refine XO.q (Q.assign rfl) ?_
  refine XO.done ?_
  refine XK.seq ?_
  refine XK.seq ?_
  refine XK.region rfl ?_
  refine XO.q (Q.move rfl) ?_
  refine XO.q (Q.lss rfl rfl) ?_
  refine XO.done ?_
  refine XK.if rfl (fun c0 => ?_) (fun c0 => ?_)
  · have _t0 := True.intro
    exact absurd c0 (by omega)
  · have _t0 := True.intro
    refine XK.skip ?_
    refine XK.seq ?_
    refine XK.region rfl ?_
    refine XO.q (Q.move rfl) ?_
    refine XO.len rfl fun l14 => ?_
    refine XO.q (Q.conv rfl) ?_
    rw [hw1]
    refine XO.q (Q.move rfl) ?_
    refine XO.q (Q.conv rfl) ?_
    rw [hw2]
    refine XO.call Try.call82 rfl rfl rfl (mul_one' n hn) fun v18 s18 R18 => ?_
    obtain ⟨rfl, rfl⟩ := R18
    dsimp only [List.cons_append, List.nil_append]
    refine XO.q (Q.move rfl) ?_
    refine XO.q (Q.extract rfl rfl) ?_
    refine XO.q (Q.extract rfl rfl) ?_
    refine XO.q (Q.assign rfl) ?_
    refine XO.q (Q.assign rfl) ?_
    refine XO.done ?_
    refine XK.seq ?_
    refine XK.seq ?_
    refine XK.region rfl ?_
    refine XO.q (Q.move rfl) ?_
    refine XO.q (Q.gtr rfl rfl) ?_
    refine XO.q (Q.move rfl) ?_
    refine XO.q (Quiet.guardF rfl rfl fun g24 p24 => Q.move rfl) ?_
    refine XO.q (Quiet.guardF rfl rfl fun g25 p25 => Q.gtr (lzv g25 rfl) rfl) ?_
    refine XO.q (Q.or rfl (fun hp => lzv hp rfl)) ?_
    refine XO.done ?_
    refine XK.if rfl (fun c1 => ?_) (fun c1 => ?_)
    · have _t1 := True.intro
      exact absurd c1 (by omega)
    · have _t1 := True.intro
      refine XK.skip ?_
      refine XK.seq ?_
      refine XK.region rfl ?_
      refine XO.q (Q.move rfl) ?_
      refine XO.q (Q.conv rfl) ?_
      rw [hw3]
      refine XO.make encI (0) rfl rfl rfl (by omega) (by omega) (fun _ => rfl) rfl rfl rfl (by dsimp only [encI]; infer_instance) fun v30 h30 O30 => ?_
      refine XO.q (Q.assign rfl) ?_
      refine XO.done ?_
      refine XK.seq ?_
      refine XK.region rfl ?_
      refine XO.q (Q.move rfl) ?_
      refine XO.q (Q.move rfl) ?_
      refine XO.copy rfl (tailv_zero (s := O30)).symm rfl (by omega) fun h33 O33 => ?_
      rw [show min ([x] : List Int).length ((List.replicate n (0 : Int)).length - 0) = min 1 n by simp]
      refine XO.q (Q.assign rfl) ?_
      refine XO.done ?_
      refine XK.seq ?_
      refine XK.block ?_
      refine XK.while (X := Nat × PHeap) [8, 34, 35, 36, 37, 38, 39, 40, 41, 42, 43, 44, 45, 46] (fun ⟨m, hM⟩ => [(8, some (.int .i64 (m : Nat)))]) (fun ⟨m, hM⟩ => [hM]) (fun ⟨m, hM⟩ => m ≤ n ∧ (0 < n → 0 < m) ∧ OArr v30 encI 1 3 hM (List.replicate m x ++ List.replicate (n - m) 0)) (fun ⟨m, hM⟩ => n - m) (min 1 n, h33) [h33] rfl ⟨by omega, by omega, by have := O33; rw [repeat_first] at this; exact this⟩ (.c rfl (.base 0 rfl rfl)) ?_
      rintro ⟨m, hM⟩ ⟨hm, hm0, OM⟩ ih0
      dsimp only [List.cons_append, List.nil_append] at ih0 ⊢
      have hlm : (List.replicate m x ++ List.replicate (n - m) 0).length = n := by rw [List.length_append, List.length_replicate, List.length_replicate]; omega
      have hmm : min (((List.replicate m x ++ List.replicate (n - m) (0 : Int)).drop 0).take (m - 0)).length ((List.replicate m x ++ List.replicate (n - m) (0 : Int)).length - m) = min m (n - m) := by
        rw [hlm, List.drop_zero, List.length_take, hlm]; omega
      refine XK.seq ?_
      refine XK.seq ?_
      refine XK.region rfl ?_
      refine XO.q (Q.move rfl) ?_
      refine XO.q (Q.move rfl) ?_
      refine XO.len rfl fun l36 => ?_
      refine XO.q (Q.lss rfl rfl) ?_
      refine XO.done ?_
      refine XK.if rfl (fun c2 => ?_) (fun c2 => ?_)
      · have _t2 := True.intro
        refine XK.skip ?_
        refine XK.block ?_
        refine XK.drawn [0, 1, 2, 3, 4, 5, 6, 8, 9] [] [] (.q 0 (.q 1 (.q 2 (.q 3 (.q 4 (.q 5 (.q 6 (.br 7 true (.q 8 (.q 9 .done)) .stop)))))))) Try.mixed rfl (by kernel_rfl) ?_
        refine XT.q rfl rfl (Q.move rfl) ?_
        refine XT.q rfl rfl (Q.move rfl) ?_
        refine XT.q rfl rfl (Q.move rfl) ?_
        refine XT.q rfl rfl (Q.tail (i := m) rfl (.s rfl (by omega)) (by omega)) ?_
        refine XT.q rfl rfl (Q.move rfl) ?_
        refine XT.q rfl rfl (Q.move rfl) ?_
        refine XT.q rfl rfl (Q.cut (i := 0) (j := m) rfl .n (.s rfl (by omega)) (by omega) (by omega)) ?_
        have A44 := Arr.cut (v := v30) (i := 0) (j := m) inferInstance (by omega) (by omega)
        refine XT.copy rfl rfl rfl rfl rfl (by omega) (fun h45 O45 => ⟨inferInstance, ?_⟩) XT.stop
        rw [hmm]
        refine XT.q rfl rfl (Q.add rfl rfl ⟨by omega, by omega⟩) ?_
        rw [show ((m : Int) + ((min m (n - m) : Nat) : Int)) = ((m + min m (n - m) : Nat) : Int) from rfl]
        refine XT.q rfl rfl (Q.assign rfl) ?_
        refine XT.done ?_
        refine XK.inBlock ?_
        exact ih0 (m + min m (n - m), h45) _ _ ⟨by omega, by omega, by have := O45; rw [repeat_step x 0 hm] at this; exact this⟩ (by first | omega | (dsimp only; omega)) (.c rfl (.base 29 rfl rfl)) inferInstance
      · have _t2 := True.intro
        refine XK.exit rfl ?_
        refine XK.seq ?_
        refine XK.region rfl ?_
        refine XO.q (Q.move rfl) ?_
        refine XO.q (Q.assign rfl) ?_
        refine XO.done ?_
        refine XK.rt [hM] Try.func40 Try.results40 (.t rfl .n) ?_
        have hmn : m = n := by omega
        subst hmn
        exact ⟨hM, rfl, by simpa using OM⟩
theorem example11 : Spec Try.prog 38 #[] [] [] (fun v hs => ∃ vn vv kn kv, v = .agg #[vn, vv] ∧ hs = [kn, kv] ∧ OArr vn encNode 3 97 kn exC.nodes ∧ OArr vv encI 1 3 kv exC.vals) := by
  refine Spec.intro (fn := Try.f38) (N := 7) Try.func38 rfl Try.ntmps38 rfl fun B => ?_
  refine XK.seq ?_
  refine XK.region rfl ?_
  refine XO.alloc fun b0 => ?_
  refine XO.done ?_
  refine XK.seq ?_
  refine XK.region rfl ?_
  refine XO.q (Q.build [_, _, _] (.c 0 1 rfl rfl rfl (.c 2 1 rfl rfl rfl (.n _)))) ?_
  refine XO.q (Q.build [_, _, _] (.n _)) ?_
  refine XO.q (Q.build [_, _, _] (.n _)) ?_
  refine XO.lit [_, _, _, _, _, _, _, _, _] [_, _, _, _, _, _, _, _, _] [⟨-1, 0, 5⟩, ⟨0, 0, 0⟩, ⟨0, 0, 0⟩] encNode (by rfl) (by rfl) rfl (by rfl) (by exact .c 0 3 rfl rfl rfl (.c 3 3 rfl rfl rfl (.c 6 3 rfl rfl rfl (.n _)))) (fun _ => rfl) (by rfl) rfl (by infer_instance) rfl fun v4 h4 O4 => ?_
  refine XO.lit [_, _, _] [_, _, _] [100, 60, 50] encI (by rfl) (by rfl) rfl (by rfl) (by exact .c 0 1 rfl rfl rfl (.c 1 1 rfl rfl rfl (.c 2 1 rfl rfl rfl (.n _)))) (fun _ => rfl) (by rfl) rfl (by infer_instance) rfl fun v5 h5 O5 => ?_
  refine XO.q (Q.build [_, _] (.c 0 1 rfl rfl rfl (.c 1 1 rfl rfl rfl (.n _)))) ?_
  refine XO.st rfl rfl rfl ?_
  refine XO.done ?_
  refine XK.rt [h4, h5] Try.func38 Try.results38 (.cell [_, _] rfl rfl rfl (.n)) ?_
  exact ⟨v4, v5, h4, h5, rfl, rfl, O4, O5⟩
theorem tariff11 : Spec Try.prog 39 #[] [] [] (fun v hs => ∃ vp vt kp kt, v = .agg #[vp, .int .i64 exT.base, vt, .int .i64 exT.credit] ∧ hs = [kp, kt] ∧ OArr vp encI 1 3 kp exT.price ∧ OArr vt encTier 2 33 kt exT.tiers) := by
  refine Spec.intro (fn := Try.f39) (N := 7) Try.func39 rfl Try.ntmps39 rfl fun B => ?_
  refine XK.seq ?_
  refine XK.region rfl ?_
  refine XO.alloc fun b0 => ?_
  refine XO.done ?_
  refine XK.seq ?_
  refine XK.region rfl ?_
  refine XO.lit [_] [_] [10] encI (by rfl) (by rfl) rfl (by rfl) (by exact .c 0 1 rfl rfl rfl (.n _)) (fun _ => rfl) (by rfl) rfl (by infer_instance) rfl fun v1 h1 O1 => ?_
  refine XO.call Try.call40 rfl rfl rfl (repeatI v1 h1 10 24 (by decide)) fun v2 s2 R2 => ?_
  obtain ⟨k2, rfl, O2⟩ := R2
  dsimp only [List.cons_append, List.nil_append]
  refine XO.q (Q.build [_, _] (.c 0 1 rfl rfl rfl (.c 1 1 rfl rfl rfl (.n _)))) ?_
  refine XO.q (Q.build [_, _] (.c 0 1 rfl rfl rfl (.c 1 1 rfl rfl rfl (.n _)))) ?_
  refine XO.lit [_, _, _, _] [_, _, _, _] [⟨30, 10⟩, ⟨120, 25⟩] encTier (by rfl) (by rfl) rfl (by rfl) (by exact .c 0 2 rfl rfl rfl (.c 2 2 rfl rfl rfl (.n _))) (fun _ => rfl) (by rfl) rfl (by infer_instance) rfl fun v5 h5 O5 => ?_
  refine XO.q (Q.build [_, _, _, _] (.c 0 1 rfl rfl rfl (.c 1 1 rfl rfl rfl (.c 2 1 rfl rfl rfl (.c 3 1 rfl rfl rfl (.n _)))))) ?_
  refine XO.st rfl rfl rfl ?_
  refine XO.done ?_
  refine XK.rt [k2, h5] Try.func39 Try.results39 (.cell [_, _, _, _] rfl rfl rfl (.n)) ?_
  exact ⟨v2, v5, k2, h5, rfl, rfl, O2, O5⟩
theorem awake11 : Spec Try.prog 13 #[] [] [] (fun v hs => v = .bool true ∧ hs = []) := by
  refine Spec.intro (fn := Try.f13) (N := 54) Try.func13 rfl Try.ntmps13 rfl fun B => ?_
  refine XK.seq ?_
  refine XK.region rfl ?_
  refine XO.q (Q.assign rfl) ?_
  refine XO.done ?_
  refine XK.seq ?_
  refine XK.region rfl ?_
  refine XO.call Try.call38 rfl rfl rfl (example11) fun v8 s8 R8 => ?_
  obtain ⟨vn8, vv8, kn8, kv8, rfl, rfl, On8, Ov8⟩ := R8
  dsimp only [List.cons_append, List.nil_append]
  refine XO.call Try.call16 rfl rfl rfl (Least_spec exC vn8 vv8 kn8 kv8 (fun _ s hs => steps3 s hs)) fun v9 s9 R9 => ?_
  obtain ⟨x9, y9, K9, us9, rfl, rfl, O9, R9⟩ := R9
  dsimp only [List.cons_append, List.nil_append]
  rw [exC_least] at R9 ⊢
  dsimp only at R9 ⊢
  refine XO.q (Q.move rfl) ?_
  refine XO.q (Q.extract rfl rfl) ?_
  refine XO.q (Q.extract rfl rfl) ?_
  refine XO.q (Q.assign rfl) ?_
  refine XO.q (Q.assign rfl) ?_
  refine XO.done ?_
  refine XK.seq ?_
  refine XK.region rfl ?_
  refine XO.call Try.call38 rfl rfl rfl (example11) fun v13 s13 R13 => ?_
  obtain ⟨vn13, vv13, kn13, kv13, rfl, rfl, On13, Ov13⟩ := R13
  dsimp only [List.cons_append, List.nil_append]
  refine XO.lit [_] [_] [1] encI (by rfl) (by rfl) rfl (by rfl) (by exact .c 0 1 rfl rfl rfl (.n _)) (fun _ => rfl) (by rfl) rfl (by infer_instance) rfl fun v14 h14 O14 => ?_
  refine XO.call Try.call17 rfl rfl rfl (Repair_spec exC vn13 vv13 kn13 kv13 [1] v14 h14) fun v15 s15 R15 => ?_
  obtain ⟨x15, y15, rfl, rfl, O15⟩ := R15
  dsimp only [List.cons_append, List.nil_append]
  rw [exC_repair] at O15 ⊢
  dsimp only at O15 ⊢
  refine XO.q (Q.move rfl) ?_
  refine XO.q (Q.extract rfl rfl) ?_
  refine XO.q (Q.extract rfl rfl) ?_
  refine XO.q (Q.assign rfl) ?_
  refine XO.q (Q.assign rfl) ?_
  refine XO.done ?_
  refine XK.seq ?_
  refine XK.region rfl ?_
  refine XO.call Try.call39 rfl rfl rfl (tariff11) fun v19 s19 R19 => ?_
  obtain ⟨vp, vt, kp, kt, rfl, rfl, Op, Ot⟩ := R19
  dsimp only [List.cons_append, List.nil_append]
  refine XO.lit [_] [_] [5] encI (by rfl) (by rfl) rfl (by rfl) (by exact .c 0 1 rfl rfl rfl (.n _)) (fun _ => rfl) (by rfl) rfl (by infer_instance) rfl fun v20 h20 O20 => ?_
  refine XO.call Try.call40 rfl rfl rfl (repeatI v20 h20 5 24 (by decide)) fun v21 s21 R21 => ?_
  obtain ⟨k21, rfl, O21⟩ := R21
  dsimp only [List.cons_append, List.nil_append]
  refine XO.q (Q.build [_, _] (.c 0 1 rfl rfl rfl (.c 1 1 rfl rfl rfl (.n _)))) ?_
  refine XO.call Try.call11 rfl rfl rfl (Make_spec exT vp vt kp kt exU v21 k21) fun v23 s23 R23 => ?_
  obtain ⟨rfl, rfl⟩ := R23
  dsimp only [List.cons_append, List.nil_append]
  rw [exT_make]
  dsimp only
  refine XO.q (Q.move rfl) ?_
  refine XO.q (Q.extract rfl rfl) ?_
  refine XO.q (Q.extract rfl rfl) ?_
  refine XO.alloc fun b5 => ?_
  refine XO.st rfl rfl rfl ?_
  refine XO.q (Q.assign rfl) ?_
  refine XO.done ?_
  refine XK.seq ?_
  refine XK.region rfl ?_
  refine XO.q (Q.move rfl) ?_
  refine XO.q (Q.eql rfl rfl) ?_
  refine XO.q (Q.move rfl) ?_
  refine XO.q (Quiet.guardT rfl rfl fun g29 p29 => Q.move rfl) ?_
  refine XO.q (Quiet.guardT rfl rfl fun g30 p30 => Q.eql (lzv rfl rfl) rfl) ?_
  refine XO.q (Q.and rfl (fun hp => lzv hp rfl)) ?_
  refine XO.q (Q.move rfl) ?_
  refine XO.q (Quiet.guardT rfl rfl fun g33 p33 => Q.move rfl) ?_
  refine XO.q (Quiet.guardT rfl rfl fun g34 p34 => Q.eql (lzv rfl rfl) rfl) ?_
  refine XO.q (Q.and rfl (fun hp => lzv hp rfl)) ?_
  refine XO.q (Q.move rfl) ?_
  refine XO.q (Quiet.guardT rfl rfl fun g37 p37 => Q.move rfl) ?_
  refine XO.litG [_] [_] [0] encI rfl rfl rfl (by rfl) (by rfl) rfl (by rfl) (by exact .c 0 1 rfl rfl rfl (.n _)) (fun _ => rfl) (by rfl) rfl (by infer_instance) rfl fun v38 h38 O38 => ?_
  refine XO.litG [_] [_] [1] encI rfl rfl rfl (by rfl) (by rfl) rfl (by rfl) (by exact .c 0 1 rfl rfl rfl (.n _)) (fun _ => rfl) (by rfl) rfl (by infer_instance) rfl fun v39 h39 O39 => ?_
  refine XO.litG [_] [_] [2] encI rfl rfl rfl (by rfl) (by rfl) rfl (by rfl) (by exact .c 0 1 rfl rfl rfl (.n _)) (fun _ => rfl) (by rfl) rfl (by infer_instance) rfl fun v40 h40 O40 => ?_
  refine XO.litG [_, _, _] [_, _, _] [v38, v39, v40] encV rfl rfl rfl (by rfl) (by rfl) rfl (by rfl) (by exact .c 0 1 rfl rfl rfl (.c 1 1 rfl rfl rfl (.c 2 1 rfl rfl rfl (.n _)))) (fun _ => rfl) (by rfl) rfl (by infer_instance) rfl fun v41 h41 O41 => ?_
  refine XO.cat h39 h40 fun l39 l40 => ?_
  refine XO.cat h38 (cat h39 h40) fun l38 l3940 => ?_
  have r41 : RowsK [v38, v39, v40] (cat h38 (cat h39 h40)) [[0], [1], [2]] := ⟨rfl, fun i hi => by
      match i, hi with
      | 0, _ => exact Arr.le_heap (OArr.arr (s := O38)) l38
      | 1, _ => exact Arr.le_heap (OArr.arr (s := O39)) (l39.trans l3940)
      | 2, _ => exact Arr.le_heap (OArr.arr (s := O40)) (l40.trans l3940)⟩
  refine XO.callS rfl rfl rfl Try.call50 rfl (.c (lzv rfl rfl) (.c rfl .n)) rfl (sameLists x9 v41 y9 h41 K9 (cat h38 (cat h39 h40)) us9 [v38, v39, v40] [[0], [1], [2]] [[0], [1], [2]] R9 r41) fun v42 s42 R42 => ?_
  obtain ⟨rfl, rfl⟩ := R42
  dsimp only [List.cons_append, List.nil_append]
  refine XO.q (Q.and rfl (fun _ => rfl)) ?_
  refine XO.q (Q.move rfl) ?_
  refine XO.q (Quiet.guardT rfl rfl fun g45 p45 => Q.move rfl) ?_
  refine XO.litG [_, _, _] [_, _, _] [100, 45, 50] encI rfl rfl rfl (by rfl) (by rfl) rfl (by rfl) (by exact .c 0 1 rfl rfl rfl (.c 1 1 rfl rfl rfl (.c 2 1 rfl rfl rfl (.n _)))) (fun _ => rfl) (by rfl) rfl (by infer_instance) rfl fun v46 h46 O46 => ?_
  refine XO.callS rfl rfl rfl Try.call51 rfl (.c (lzv rfl rfl) (.c rfl .n)) rfl (equalI x15 v46 y15 h46 [100, 45, 50] [100, 45, 50]) fun v47 s47 R47 => ?_
  obtain ⟨rfl, rfl⟩ := R47
  dsimp only [List.cons_append, List.nil_append]
  refine XO.q (Q.and rfl (fun _ => rfl)) ?_
  refine XO.q (Q.move rfl) ?_
  refine XO.q (Quiet.guardT rfl rfl fun g50 p50 => Q.ldA [_, _, _, _] rfl rfl rfl) ?_
  refine XO.q (Quiet.guardT rfl rfl fun g51 p51 => Q.build [_, _, _, _] (.c 0 1 rfl rfl rfl (.c 1 1 rfl rfl rfl (.c 2 1 rfl rfl rfl (.c 3 1 rfl rfl rfl (.n _)))))) ?_
  refine XO.q (Quiet.guardT rfl rfl fun g52 p52 => Q.eqlS (us := [_, _, _, _]) (vs := [_, _, _, _]) (lzv rfl rfl) (lzv rfl rfl) inferInstance (by kernel_rfl) (by kernel_rfl) (.c rfl inferInstance inferInstance rfl rfl (.c rfl inferInstance inferInstance rfl rfl (.c rfl inferInstance inferInstance rfl rfl (.c rfl inferInstance inferInstance rfl rfl .n))))) ?_
  refine XO.q (Q.and rfl (fun hp => lzv hp rfl)) ?_
  refine XO.q (Q.assign rfl) ?_
  refine XO.done ?_
  refine XK.rt [] Try.func13 Try.results13 (.t rfl .n) ?_
  exact ⟨rfl, rfl⟩
end Go.X

set_option linter.unusedSimpArgs false
set_option linter.unusedVariables false
set_option maxRecDepth 20000
namespace Go.X
open Go.Proofs
deriving instance DecidableEq for MTier
theorem tier_ne (x y : MTier) : (!(decide (x.min = y.min) && (decide (x.pct = y.pct) && true))) = decide (¬ x = y) := by
  cases x; cases y
  rw [Bool.eq_iff_iff]
  simp
theorem tier_eq (x y : MTier) : (decide (x.min = y.min) && (decide (x.pct = y.pct) && true)) = decide (x = y) := by
  cases x; cases y
  rw [Bool.eq_iff_iff]
  simp
theorem bill_ne (x y : MBill) : (!(decide (x.energy = y.energy) && (decide (x.amount = y.amount) && (decide (x.credit = y.credit) && (decide (x.due = y.due) && true))))) = decide (¬ x = y) := by
  cases x; cases y
  rw [Bool.eq_iff_iff]
  simp
theorem bill_eq (x y : MBill) : (decide (x.energy = y.energy) && (decide (x.amount = y.amount) && (decide (x.credit = y.credit) && (decide (x.due = y.due) && true)))) = decide (x = y) := by
  cases x; cases y
  rw [Bool.eq_iff_iff]
  simp
theorem equalT (v1 v2 : Value) (h1 h2 : PHeap) (xs ys : List MTier) [s1 : Arr v1 encTier 2 h1 xs] [s2 : Arr v2 encTier 2 h2 ys] :
    Spec Try.prog 64 #[v1, v2] [] [h1, h2] (fun v hs => v = .bool (decide (xs = ys)) ∧ hs = []) := by
  refine Spec.intro (fn := Try.f64) (N := 26) Try.func64 rfl Try.ntmps64 rfl fun B => ?_
  refine XK.seq ?_
  refine XK.region rfl ?_
  refine XO.q (Q.assign rfl) ?_
  refine XO.done ?_
  refine XK.seq ?_
  refine XK.seq ?_
  refine XK.region rfl ?_
  refine XO.q (Q.move rfl) ?_
  refine XO.len rfl fun l7 => ?_
  refine XO.q (Q.move rfl) ?_
  refine XO.len rfl fun l9 => ?_
  refine XO.q (Q.neq rfl rfl) ?_
  refine XO.done ?_
  refine XK.if rfl (fun c0 => ?_) (fun c0 => ?_)
  · have _t0 := True.intro
    refine XK.seq ?_
    refine XK.region rfl ?_
    refine XO.q (Q.assign rfl) ?_
    refine XO.done ?_
    refine XK.rt [] Try.func64 Try.results64 (.t rfl .n) ?_
    exact ⟨by rw [decide_eq_false (fun h => c0 (by rw [h]))], rfl⟩
  · have _t0 := True.intro
    refine XK.skip ?_
    refine XK.seq ?_
    refine XK.seq ?_
    refine XK.region rfl ?_
    refine XO.q (Q.move rfl) ?_
    refine XO.len rfl fun l12 => ?_
    refine XO.q (Q.move rfl) ?_
    refine XO.done ?_
    refine XK.block ?_
    refine XK.while (X := Nat) [4, 5, 13, 14, 15, 16, 17, 18, 19, 20, 21, 22, 23, 24, 25] (fun i => [(13, some (.int .i64 (i : Nat)))]) (fun i => []) (fun i => i ≤ xs.length ∧ xs.take i = ys.take i) (fun i => xs.length - i) (0) [] rfl ⟨by omega, rfl⟩ (.c rfl (.base 0 rfl rfl)) ?_
    rintro i ⟨hi, ht⟩ ih0
    dsimp only [List.cons_append, List.nil_append] at ih0 ⊢
    refine XK.seq ?_
    refine XK.region rfl ?_
    refine XO.q (Q.lss rfl rfl) ?_
    refine XO.done ?_
    refine XK.seq ?_
    refine XK.if rfl (fun c1 => ?_) (fun c1 => ?_)
    · have _t1 := True.intro
      refine XK.skip ?_
      refine XK.seq ?_
      refine XK.block ?_
      refine XK.seq ?_
      refine XK.region rfl ?_
      refine XO.q (Q.move rfl) ?_
      refine XO.q (Q.assign rfl) ?_
      refine XO.done ?_
      refine XK.seq ?_
      refine XK.drawn [0, 1, 2, 3, 4, 5, 6, 7, 8] [] [] (.q 0 (.q 1 (.q 2 (.q 3 (.q 4 (.q 5 (.q 6 (.q 7 (.q 8 .done))))))))) Try.mixed rfl (by kernel_rfl) ?_
      refine XT.q rfl rfl (Q.move rfl) ?_
      refine XT.q rfl rfl (Q.move rfl) ?_
      refine XT.ix rfl rfl rfl rfl (by omega) (by omega) fun i18 => ?_
      refine XT.q rfl rfl (Q.ldEA [_, _] rfl (by first | assumption | omega) rfl rfl) ?_
      refine XT.q rfl rfl (Q.move rfl) ?_
      refine XT.q rfl rfl (Q.move rfl) ?_
      refine XT.ix rfl rfl rfl rfl (by omega) (by omega) fun i22 => ?_
      refine XT.q rfl rfl (Q.ldEA [_, _] rfl (by first | assumption | omega) rfl rfl) ?_
      refine XT.q rfl rfl (Q.neqS (us := [_, _]) (vs := [_, _]) rfl rfl inferInstance (by kernel_rfl) (by kernel_rfl) (.c rfl inferInstance inferInstance rfl rfl (.c rfl inferInstance inferInstance rfl rfl .n))) ?_
      rw [tier_ne]
      refine XT.done ?_
      refine XK.if rfl (fun c2 => ?_) (fun c2 => ?_)
      · have _t2 := True.intro
        refine XK.seq ?_
        refine XK.region rfl ?_
        refine XO.q (Q.assign rfl) ?_
        refine XO.done ?_
        refine XK.rt [] Try.func64 Try.results64 (.t rfl .n) ?_
        exact ⟨by rw [decide_eq_false (fun h => c2 (by rw [h]))], rfl⟩
      · have _t2 := True.intro
        refine XK.skip ?_
        refine XK.inBlock ?_
        refine XK.region rfl ?_
        refine XO.q (Q.add rfl rfl ⟨by omega, by omega⟩) ?_
        refine XO.q (Q.move rfl) ?_
        refine XO.done ?_
        exact ih0 (i + 1) _ _ ⟨by omega, take_step ht (by omega) (by omega) (Decidable.of_not_not c2)⟩ (by first | omega | (dsimp only; omega)) (.c rfl (.base 30 rfl rfl)) inferInstance
    · have _t1 := True.intro
      refine XK.exit rfl ?_
      refine XK.seq ?_
      refine XK.region rfl ?_
      refine XO.q (Q.assign rfl) ?_
      refine XO.done ?_
      refine XK.rt [] Try.func64 Try.results64 (.t rfl .n) ?_
      exact ⟨by rw [decide_eq_true (take_all ht c1 (by omega))], rfl⟩
theorem sameBill (x y : MBill) : Spec Try.prog 63 #[.agg #[.int .i64 x.energy, .int .i64 x.amount, .int .i64 x.credit, .int .i64 x.due], .agg #[.int .i64 y.energy, .int .i64 y.amount, .int .i64 y.credit, .int .i64 y.due]] [] [] (fun v hs => v = .bool (decide (x = y)) ∧ hs = []) := by
  refine Spec.intro (fn := Try.f63) (N := 8) Try.func63 rfl Try.ntmps63 rfl fun B => ?_
  refine XK.seq ?_
  refine XK.region rfl ?_
  refine XO.box rfl fun b2 => ?_
  refine XO.box rfl fun b3 => ?_
  refine XO.q (Q.assign rfl) ?_
  refine XO.done ?_
  refine XK.seq ?_
  refine XK.region rfl ?_
  refine XO.q (Q.ldA [_, _, _, _] rfl rfl rfl) ?_
  refine XO.q (Q.ldA [_, _, _, _] rfl rfl rfl) ?_
  refine XO.q (Q.eqlS (us := [_, _, _, _]) (vs := [_, _, _, _]) rfl rfl inferInstance (by kernel_rfl) (by kernel_rfl) (.c rfl inferInstance inferInstance rfl rfl (.c rfl inferInstance inferInstance rfl rfl (.c rfl inferInstance inferInstance rfl rfl (.c rfl inferInstance inferInstance rfl rfl .n))))) ?_
  rw [bill_eq]
  refine XO.q (Q.assign rfl) ?_
  refine XO.done ?_
  refine XK.rt [] Try.func63 Try.results63 (.t rfl .n) ?_
  exact ⟨rfl, rfl⟩
theorem equalBF (v1 v2 : Value) (h1 h2 : PHeap) (xs ys : List MBill) [s1 : Arr v1 encBill 4 h1 xs] [s2 : Arr v2 encBill 4 h2 ys] :
    Spec Try.prog 62 #[v1, v2, .func (.func 63) #[] #[]] [] [h1, h2] (fun v hs => v = .bool (decide (xs = ys)) ∧ hs = []) := by
  have l1 := s1.le
  refine Spec.intro (fn := Try.f62) (N := 32) Try.func62 rfl Try.ntmps62 rfl fun B => ?_
  refine XK.seq ?_
  refine XK.region rfl ?_
  refine XO.q (Q.assign rfl) ?_
  refine XO.done ?_
  refine XK.seq ?_
  refine XK.seq ?_
  refine XK.region rfl ?_
  refine XO.q (Q.move rfl) ?_
  refine XO.len rfl fun l11 => ?_
  refine XO.q (Q.move rfl) ?_
  refine XO.len rfl fun l13 => ?_
  refine XO.q (Q.neq rfl rfl) ?_
  refine XO.done ?_
  refine XK.if rfl (fun c0 => ?_) (fun c0 => ?_)
  · have _t0 := True.intro
    refine XK.seq ?_
    refine XK.region rfl ?_
    refine XO.q (Q.assign rfl) ?_
    refine XO.done ?_
    refine XK.rt [] Try.func62 Try.results62 (.t rfl .n) ?_
    exact ⟨by rw [decide_eq_false (fun h => c0 (by rw [h]))], rfl⟩
  · have _t0 := True.intro
    refine XK.skip ?_
    refine XK.seq ?_
    refine XK.seq ?_
    refine XK.region rfl ?_
    refine XO.q (Q.move rfl) ?_
    refine XO.len rfl fun l16 => ?_
    refine XO.q (Q.move rfl) ?_
    refine XO.done ?_
    refine XK.block ?_
    refine XK.while (X := Nat) [6, 7, 8, 9, 17, 18, 19, 20, 21, 22, 23, 24, 25, 26, 27, 28, 29, 30, 31] (fun i => [(17, some (.int .i64 (i : Nat)))]) (fun i => []) (fun i => i ≤ xs.length ∧ xs.take i = ys.take i) (fun i => xs.length - i) (0) [] rfl ⟨by omega, rfl⟩ (.c rfl (.base 0 rfl rfl)) ?_
    rintro i ⟨hi, ht⟩ ih0
    dsimp only [List.cons_append, List.nil_append] at ih0 ⊢
    refine XK.seq ?_
    refine XK.region rfl ?_
    refine XO.q (Q.lss rfl rfl) ?_
    refine XO.done ?_
    refine XK.seq ?_
    refine XK.if rfl (fun c1 => ?_) (fun c1 => ?_)
    · have _t1 := True.intro
      refine XK.skip ?_
      refine XK.seq ?_
      refine XK.block ?_
      refine XK.seq ?_
      refine XK.region rfl ?_
      refine XO.q (Q.move rfl) ?_
      refine XO.ix rfl rfl (by omega) (by omega) fun i20 => ?_
      refine XO.q (Q.ldEA [_, _, _, _] rfl (by first | assumption | omega) rfl rfl) ?_
      refine XO.alloc fun b8 => ?_
      refine XO.q (Q.assign rfl) ?_
      refine XO.st rfl rfl rfl ?_
      refine XO.done ?_
      refine XK.seq ?_
      refine XK.region rfl ?_
      refine XO.q (Q.move rfl) ?_
      refine XO.q (Q.move rfl) ?_
      refine XO.ix rfl rfl (by omega) (by omega) fun i24 => ?_
      refine XO.q (Q.ldEA [_, _, _, _] rfl (by first | assumption | omega) rfl rfl) ?_
      refine XO.alloc fun b9 => ?_
      refine XO.st rfl rfl rfl ?_
      refine XO.done ?_
      refine XK.seq ?_
      refine XK.region rfl ?_
      refine XO.q (Q.move rfl) ?_
      refine XO.q (Q.ldA [_, _, _, _] rfl rfl rfl) ?_
      refine XO.q (Q.ldA [_, _, _, _] rfl rfl rfl) ?_
      refine XO.call Try.call63 rfl rfl rfl (sameBill _ _) fun v29 s29 R29 => ?_
      obtain ⟨rfl, rfl⟩ := R29
      dsimp only [List.cons_append, List.nil_append]
      refine XO.q (Q.not rfl) ?_
      refine XO.done ?_
      refine XK.if rfl (fun c2 => ?_) (fun c2 => ?_)
      · have _t2 := True.intro
        refine XK.seq ?_
        refine XK.region rfl ?_
        refine XO.q (Q.assign rfl) ?_
        refine XO.done ?_
        refine XK.rt [] Try.func62 Try.results62 (.t rfl .n) ?_
        exact ⟨by rw [decide_eq_false (fun h => c2 (by rw [h]))], rfl⟩
      · have _t2 := True.intro
        refine XK.skip ?_
        refine XK.inBlock ?_
        refine XK.region rfl ?_
        refine XO.q (Q.add rfl rfl ⟨by omega, by omega⟩) ?_
        refine XO.q (Q.move rfl) ?_
        refine XO.done ?_
        exact ih0 (i + 1) _ _ ⟨by omega, take_step ht (by omega) (by omega) (by simpa using c2)⟩ (by first | omega | (dsimp only; omega)) (.c rfl (.base 38 rfl rfl)) inferInstance
    · have _t1 := True.intro
      refine XK.exit rfl ?_
      refine XK.seq ?_
      refine XK.region rfl ?_
      refine XO.q (Q.assign rfl) ?_
      refine XO.done ?_
      refine XK.rt [] Try.func62 Try.results62 (.t rfl .n) ?_
      exact ⟨by rw [decide_eq_true (take_all ht (by omega) (by omega))], rfl⟩
theorem cloneT (v : Value) (h : PHeap) (xs : List MTier) [s : Arr v encTier 2 h xs] (hl : xs.length ≤ 68719476736) :
    Spec Try.prog 59 #[v] [] [h] (fun v' hs => ∃ h', hs = [h'] ∧ OArr v' encTier 2 33 h' xs) := by
  refine Spec.intro (fn := Try.f59) (N := 8) Try.func59 rfl Try.ntmps59 rfl fun B => ?_
  refine XK.seq ?_
  refine XK.region rfl ?_
  refine XO.q (Q.assign rfl) ?_
  refine XO.done ?_
  refine XK.seq ?_
  refine XK.seq ?_
  refine XK.region rfl ?_
  refine XO.q (Q.move rfl) ?_
  refine XO.eqNil rfl fun z4 hz4 => ?_
  refine XO.done ?_
  refine XK.if rfl (fun c0 => ?_) (fun c0 => ?_)
  · have _t0 := True.intro
    refine XK.seq ?_
    refine XK.region rfl ?_
    refine XO.q (Q.assign rfl) ?_
    refine XO.done ?_
    refine XK.rt [emp] Try.func59 Try.results59 (.t rfl .n) ?_
    exact ⟨emp, rfl, by rw [(hz4 c0).1]; exact OArr.nil (fun _ => rfl)⟩
  · have _t0 := True.intro
    refine XK.skip ?_
    refine XK.seq ?_
    refine XK.region rfl ?_
    refine XO.lit [] [] [] encTier (by rfl) (by rfl) rfl (by rfl) (by exact .n _) (fun _ => rfl) (by rfl) rfl (by infer_instance) rfl fun v5 h5 O5 => ?_
    refine XO.q (Q.move rfl) ?_
    refine XO.append rfl rfl rfl rfl (by first | omega | (simp; omega)) fun v7 h7 O7 => ?_
    refine XO.q (Q.assign rfl) ?_
    refine XO.done ?_
    refine XK.rt [h7] Try.func59 Try.results59 (.t rfl .n) ?_
    exact ⟨h7, rfl, O7⟩
def UsesK (ms : List (Value × MUse)) (K : PHeap) (l : List MUse) : Prop := ms.map Prod.snd = l ∧ ∀ i, i < ms.length → Arr (ms.getD i default).1 encI 1 K (ms.getD i default).2.values
theorem UsesK.nil {K : PHeap} : UsesK [] K [] := ⟨rfl, fun i hi => absurd hi (Nat.not_lt_zero i)⟩
theorem UsesK.mono {ms : List (Value × MUse)} {K K' : PHeap} {l : List MUse} (hl : leH K K') (r : UsesK ms K l) : UsesK ms K' l := ⟨r.1, fun i hi => Arr.le_heap (r.2 i hi) hl⟩
theorem UsesK.snoc {ms : List (Value × MUse)} {K : PHeap} {l : List MUse} {v : Value} {u : MUse} (r : UsesK ms K l) (a : Arr v encI 1 K u.values) : UsesK (ms ++ [(v, u)]) K (l ++ [u]) := ⟨by rw [List.map_append, r.1]; rfl, fun i hi => by
  rw [List.length_append] at hi
  rw [rowsK_getD]
  by_cases hc : i < ms.length
  · rw [if_pos hc]; exact r.2 i hc
  · rw [if_neg hc, if_pos (by simp at hi; omega)]; exact a⟩
theorem UsesK.len {ms : List (Value × MUse)} {K : PHeap} {l : List MUse} (r : UsesK ms K l) : ms.length = l.length := by rw [← r.1, List.length_map]
theorem UsesK.at {ms : List (Value × MUse)} {K : PHeap} {l : List MUse} (r : UsesK ms K l) (i : Nat) : (ms.getD i default).2 = l.getD i default := by rw [← map_snd_at, r.1]
theorem take_snocU {l : List (Value × MUse)} {i : Nat} (hi : i < l.length) : (l.map Prod.snd).take (i + 1) = (l.map Prod.snd).take i ++ [(l.getD i default).2] := by
  rw [← map_snd_at, List.take_add_one, List.getElem?_eq_getElem (by rw [List.length_map]; exact hi), List.getD_eq_getElem?_getD, List.getElem?_eq_getElem (by rw [List.length_map]; exact hi)]; rfl
theorem take_snocT {l : List MTier} {i : Nat} (hi : i < l.length) : l.take (i + 1) = l.take i ++ [l.getD i default] := by
  rw [List.take_add_one, List.getElem?_eq_getElem hi, List.getD_eq_getElem?_getD, List.getElem?_eq_getElem hi]; rfl
set_option maxHeartbeats 2000000 in
set_option synthInstance.maxSize 1000 in
theorem bills_spec (t : MTariff) (vp vt : Value) (hp ht : PHeap) [jp : Arr vp encI 1 hp t.price] [jt : Arr vt encTier 2 ht t.tiers] (l : List (Value × MUse)) (vl : Value) (hl hL : PHeap) [jl : Arr vl encUse 2 hl l] (aL : ∀ i, i < l.length → Arr (l.getD i default).1 encI 1 hL (l.getD i default).2.values)
    (nl : l.length ≤ 70) (np : t.price.length ≤ 30) (nt : t.tiers.length ≤ 12) (nv : ∀ i, i < l.length → (l.getD i default).2.values.length ≤ 5000) :
    Spec Try.prog 21 #[.agg #[vp, .int .i64 t.base, vt, .int .i64 t.credit], vl] [] [hp, ht, hl, hL] (fun v hs => v = .bool true ∧ hs = []) := by
  have hnT : OArr (.slice none 0 0) encTier 2 136 emp ([] : List MTier) := OArr.nil (fun _ => rfl)
  have hnU : OArr (.slice none 0 0) encUse 2 138 emp ([] : List (Value × MUse)) := OArr.nil (fun _ => rfl)
  refine Spec.intro (fn := Try.f21) (N := 156) Try.func21 rfl Try.ntmps21 rfl fun B => ?_
  refine XK.seq ?_
  refine XK.region rfl ?_
  refine XO.box rfl fun b2 => ?_
  refine XO.q (Q.assign rfl) ?_
  refine XO.done ?_
  refine XK.seq ?_
  refine XK.meet (X := Nat × Value × Value × PHeap × PHeap) [5, 24, 25, 26, 27, 28, 29, 30, 31, 32, 33, 34] (fun ⟨b5, v26, v31, k26, k31⟩ => [(5, some (ptr b5 0))]) (fun ⟨b5, v26, v31, k26, k31⟩ => [blk b5 [v26, .int .i64 t.base, v31, .int .i64 t.credit] 27, k26, k31]) (fun ⟨b5, v26, v31, k26, k31⟩ => OArr v26 encI 1 3 k26 t.price ∧ OArr v31 encTier 2 33 k31 t.tiers) [] ?_ ?_
  · rintro ⟨b5, v26, v31, k26, k31⟩ ⟨O26, O31⟩
    dsimp only [List.cons_append, List.nil_append]
    refine XK.seq ?_
    refine XK.meet (X := Nat × Value × PHeap) [6, 35, 36, 37, 38, 39, 40, 41, 42] (fun ⟨b6, v37, k37⟩ => [(6, some (ptr b6 0))]) (fun ⟨b6, v37, k37⟩ => [blk b6 [v37, .int .i64 t.base, .slice none 0 0, .int .i64 t.credit] 135, k37]) (fun ⟨b6, v37, k37⟩ => OArr v37 encI 1 3 k37 t.price) [] ?_ ?_
    · rintro ⟨b6, v37, k37⟩ O37
      dsimp only [List.cons_append, List.nil_append]
      refine XK.seq ?_
      refine XK.seq ?_
      refine XK.region rfl ?_
      refine XO.q (Q.fieldAddr rfl) ?_
      refine XO.q (Q.ld rfl rfl) ?_
      refine XO.len rfl fun l45 => ?_
      refine XO.q (Q.move rfl) ?_
      refine XO.done ?_
      refine XK.block ?_
      refine XK.while (X := Nat × Value × PHeap) [8, 46, 47, 48, 49, 50, 51, 52, 53, 54, 55, 56] (fun ⟨i, w, kw⟩ => [(46, some (.int .i64 (i : Nat)))]) (fun ⟨i, w, kw⟩ => [blk b6 [v37, .int .i64 t.base, w, .int .i64 t.credit] 135, kw]) (fun ⟨i, w, kw⟩ => i ≤ t.tiers.length ∧ OArr w encTier 2 136 kw (t.tiers.take i)) (fun ⟨i, w, kw⟩ => t.tiers.length - i) (0, .slice none 0 0, emp) [blk b6 [v37, .int .i64 t.base, .slice none 0 0, .int .i64 t.credit] 135, emp] rfl ⟨by omega, hnT⟩ (.c rfl (.base 0 rfl rfl)) ?_
      rintro ⟨i, w, kw⟩ ⟨hi, OT⟩ ih0
      dsimp only [List.cons_append, List.nil_append] at ih0 ⊢
      have el : (t.tiers.take i).length = i := by rw [List.length_take]; omega
      refine XK.seq ?_
      refine XK.region rfl ?_
      refine XO.q (Q.lss rfl rfl) ?_
      refine XO.done ?_
      refine XK.seq ?_
      refine XK.if rfl (fun c0 => ?_) (fun c0 => ?_)
      · have _t0 := True.intro
        refine XK.skip ?_
        refine XK.seq ?_
        refine XK.block ?_
        refine XK.seq ?_
        refine XK.region rfl ?_
        refine XO.ix rfl rfl (by omega) (by omega) fun i48 => ?_
        refine XO.q (Q.ldEA [_, _] rfl (by first | assumption | omega) rfl rfl) ?_
        refine XO.alloc fun b8 => ?_
        refine XO.st rfl rfl rfl ?_
        refine XO.done ?_
        refine XK.region rfl ?_
        refine XO.q (Q.fieldAddr rfl) ?_
        refine XO.q (Q.ld rfl rfl) ?_
        refine XO.q (Q.ldA [_, _] rfl rfl rfl) ?_
        refine XO.lit [_, _] [_, _] [t.tiers.getD i default] encTier (by rfl) (by rfl) rfl (by rfl) (by exact .c 0 2 rfl rfl rfl (.n _)) (fun _ => rfl) (by rfl) rfl (by infer_instance) rfl fun v53 h53 O53 => ?_
        refine XO.append rfl rfl rfl rfl (by first | omega | (simp; omega)) fun v54 h54 O54 => ?_
        refine XO.q (Q.fieldAddr rfl) ?_
        refine XO.st rfl rfl rfl ?_
        refine XO.done ?_
        refine XK.inBlock ?_
        refine XK.region rfl ?_
        refine XO.q (Q.add rfl rfl ⟨by omega, by omega⟩) ?_
        refine XO.q (Q.move rfl) ?_
        refine XO.done ?_
        exact ih0 (i + 1, v54, h54) _ _ ⟨by dsimp only; omega, by dsimp only; rw [take_snocT (by omega)]; exact O54⟩ (by first | omega | (dsimp only; omega)) (.c rfl (.base 25 rfl rfl)) inferInstance
      · have _t0 := True.intro
        have hin : i = t.tiers.length := by omega
        subst hin
        rw [List.take_length] at OT
        clear ih0
        refine XK.exit rfl ?_
        refine XK.seq ?_
        refine XK.region rfl ?_
        refine XO.q (Q.assign rfl) ?_
        refine XO.done ?_
        refine XK.seq ?_
        refine XK.seq ?_
        refine XK.region rfl ?_
        refine XO.q (Q.move rfl) ?_
        refine XO.len rfl fun l58 => ?_
        refine XO.q (Q.move rfl) ?_
        refine XO.done ?_
        refine XK.block ?_
        refine XK.while (X := Nat × Value × PHeap × PHeap × List (Value × MUse)) [9, 11, 59, 60, 61, 62, 63, 64, 65, 66, 67, 68, 69, 70, 71, 72] (fun ⟨i, vm, km, K, ms⟩ => [(9, some (vm)), (59, some (.int .i64 (i : Nat)))]) (fun ⟨i, vm, km, K, ms⟩ => [km, K]) (fun ⟨i, vm, km, K, ms⟩ => i ≤ l.length ∧ OArr vm encUse 2 138 km ms ∧ UsesK ms K ((l.map Prod.snd).take i)) (fun ⟨i, vm, km, K, ms⟩ => l.length - i) (0, .slice none 0 0, emp, emp, []) [emp, emp] rfl ⟨by omega, hnU, UsesK.nil⟩ (.c rfl (.c rfl (.base 0 rfl rfl))) ?_
        rintro ⟨i, vm, km, K, ms⟩ ⟨hi, OU, UU⟩ ih1
        dsimp only [List.cons_append, List.nil_append] at ih1 ⊢
        refine XK.seq ?_
        refine XK.region rfl ?_
        refine XO.q (Q.lss rfl rfl) ?_
        refine XO.done ?_
        refine XK.seq ?_
        refine XK.if rfl (fun c1 => ?_) (fun c1 => ?_)
        · have _t1 := True.intro
          have ai := aL i (by omega)
          have ni := nv i (by omega)
          have ul := UU.len
          rw [List.length_take, List.length_map] at ul
          refine XK.skip ?_
          refine XK.seq ?_
          refine XK.block ?_
          refine XK.seq ?_
          refine XK.region rfl ?_
          refine XO.ix rfl rfl (by omega) (by omega) fun i61 => ?_
          refine XO.q (Q.ldEA [_, _] rfl (by first | assumption | omega) rfl rfl) ?_
          refine XO.alloc fun b11 => ?_
          refine XO.st rfl rfl rfl ?_
          refine XO.done ?_
          refine XK.drawn [0, 1, 2, 4, 5, 6, 9] [b11] [] (.q 0 (.q 1 (.q 2 (.q 4 (.q 5 (.br 3 true (.q 6 (.br 7 true (.br 8 true (.q 9 .done) .stop) .stop)) .stop)))))) Try.mixed rfl (by kernel_rfl) ?_
          refine XT.q rfl rfl (Q.move rfl) ?_
          refine XT.q rfl rfl (Q.fieldAddr rfl) ?_
          refine XT.q rfl rfl (Q.ld rfl rfl) ?_
          refine XT.q rfl rfl (Q.fieldAddr rfl) ?_
          refine XT.q rfl rfl (Q.ld rfl rfl) ?_
          refine XT.call rfl rfl Try.call20 rfl rfl rfl (cloneI (l.getD i default).1 hL (l.getD i default).2.values (by omega)) (fun v66 s66 R66 => ?_) XT.stop
          obtain ⟨k66, rfl, O66⟩ := R66
          dsimp only [List.cons_append, List.nil_append]
          refine ⟨inferInstance, ?_⟩
          refine XT.q rfl rfl (Q.build [_, _] (.c 0 1 rfl rfl rfl (.c 1 1 rfl rfl rfl (.n _)))) ?_
          refine XT.lit [_, _] [_, _] [(v66, (l.getD i default).2)] encUse rfl rfl (by rfl) (by rfl) rfl (by rfl) (by exact .c 0 2 rfl rfl rfl (.n _)) (fun _ => rfl) (by rfl) rfl (by infer_instance) rfl (fun v70 h70 O70 => ⟨inferInstance, ?_⟩) XT.stop
          refine XT.append rfl rfl rfl rfl rfl rfl (by first | omega | (simp; omega)) (fun v71 h71 O71 => ⟨inferInstance, ?_⟩) XT.stop
          refine XT.q rfl rfl (Q.assign rfl) ?_
          refine XT.done ?_
          refine XK.inBlock ?_
          refine XK.region rfl ?_
          refine XO.q (Q.add rfl rfl ⟨by omega, by omega⟩) ?_
          refine XO.q (Q.move rfl) ?_
          refine XO.done ?_
          refine XK.cat K k66 fun l1 l2 => ?_
          exact ih1 (i + 1, v71, h71, cat K k66, ms ++ [(v66, (l.getD i default).2)]) _ _ ⟨by dsimp only; omega, O71, by dsimp only; rw [take_snocU (by omega)]; exact (UU.mono l1).snoc (Arr.le_heap (OArr.arr (s := O66)) l2)⟩ (by first | omega | (dsimp only; omega)) (.c rfl (.c rfl (.base 34 rfl rfl))) inferInstance
        · have _t1 := True.intro
          have hin : i = l.length := by omega
          subst hin
          rw [show (l.map Prod.snd).take l.length = l.map Prod.snd by rw [← List.length_map (f := Prod.snd), List.take_length]] at UU
          have ul := UU.len
          rw [List.length_map] at ul
          clear ih1
          refine XK.exit rfl ?_
          refine XK.seq ?_
          refine XK.seq ?_
          refine XK.region rfl ?_
          refine XO.q (Q.move rfl) ?_
          refine XO.len rfl fun l74 => ?_
          refine XO.q (Q.move rfl) ?_
          refine XO.done ?_
          refine XK.block ?_
          refine XK.while (X := Nat) [4, 12, 13, 14, 15, 16, 17, 75, 76, 77, 78, 79, 80, 81, 82, 83, 84, 85, 86, 87, 88, 89, 90, 91, 92, 93, 94, 95, 96, 97, 98, 99, 100, 101, 102, 103, 104, 105, 106, 107, 108, 109, 110, 111, 112, 113, 114] (fun i => [(75, some (.int .i64 (i : Nat)))]) (fun i => []) (fun i => i ≤ l.length) (fun i => l.length - i) (0) [] rfl (by omega) (.c rfl (.base 0 rfl rfl)) ?_
          rintro i hi ih2
          dsimp only [List.cons_append, List.nil_append] at ih2 ⊢
          refine XK.seq ?_
          refine XK.region rfl ?_
          refine XO.q (Q.lss rfl rfl) ?_
          refine XO.done ?_
          refine XK.seq ?_
          refine XK.if rfl (fun c2 => ?_) (fun c2 => ?_)
          · have _t2 := True.intro
            have ai := aL i (by omega)
            have ni := nv i (by omega)
            have mi := UU.2 i (by omega)
            have eu : (ms.getD i default).2 = (l.getD i default).2 := by rw [UU.at, map_snd_at]
            refine XK.skip ?_
            refine XK.seq ?_
            refine XK.block ?_
            refine XK.seq ?_
            refine XK.region rfl ?_
            refine XO.q (Q.move rfl) ?_
            refine XO.ix rfl rfl (by omega) (by omega) fun i78 => ?_
            refine XO.q (Q.ldEA [_, _] rfl (by first | assumption | omega) rfl rfl) ?_
            refine XO.alloc fun b13 => ?_
            refine XO.q (Q.assign rfl) ?_
            refine XO.st rfl rfl rfl ?_
            refine XO.done ?_
            refine XK.seq ?_
            refine XK.region rfl ?_
            refine XO.q (Q.ldA [_, _, _, _] rfl rfl rfl) ?_
            refine XO.q (Q.ldA [_, _] rfl rfl rfl) ?_
            refine XO.call Try.call11 rfl rfl rfl (Make_spec t v26 v31 k26 k31 (l.getD i default).2 (l.getD i default).1 hL) fun v83 s83 R83 => ?_
            obtain ⟨rfl, rfl⟩ := R83
            dsimp only [List.cons_append, List.nil_append]
            refine XO.q (Q.move rfl) ?_
            refine XO.q (Q.extract rfl rfl) ?_
            refine XO.q (Q.extract rfl rfl) ?_
            refine XO.alloc fun b14 => ?_
            refine XO.st rfl rfl rfl ?_
            refine XO.q (Q.assign rfl) ?_
            refine XO.done ?_
            refine XK.seq ?_
            refine XK.meet (X := Nat) [16, 17, 86, 87, 88, 89, 90, 91, 92, 93, 94] (fun b16 => [(16, some (ptr b16 0)), (17, some (.int .i64 (makeG t (l.getD i default).2).2))]) (fun b16 => [blk b16 [.int .i64 (makeG t (l.getD i default).2).1.energy, .int .i64 (makeG t (l.getD i default).2).1.amount, .int .i64 (makeG t (l.getD i default).2).1.credit, .int .i64 (makeG t (l.getD i default).2).1.due] 139]) (fun b16 => True) [] ?_ ?_
            · rintro b16 _
              dsimp only [List.cons_append, List.nil_append]
              refine XK.seq ?_
              refine XK.drawn [0, 1, 2, 3, 4, 5, 6, 7, 8, 9, 10, 11, 12, 13, 14, 15, 17, 18] [b14, b16, b13] [km] (.q 0 (.q 1 (.q 2 (.q 3 (.q 4 (.q 5 (.q 6 (.q 7 (.q 8 (.q 9 (.q 10 (.q 11 (.q 12 (.q 13 (.q 14 (.q 15 (.br 16 true (.q 17 (.q 18 .done)) .stop))))))))))))))))) Try.mixed rfl (by kernel_rfl) ?_
              refine XT.q rfl rfl (Q.ldA [_, _, _, _] rfl rfl rfl) ?_
              refine XT.q rfl rfl (Q.ldA [_, _, _, _] rfl rfl rfl) ?_
              refine XT.q rfl rfl (Q.neqS (us := [_, _, _, _]) (vs := [_, _, _, _]) rfl rfl inferInstance (by kernel_rfl) (by kernel_rfl) (.c rfl inferInstance inferInstance rfl rfl (.c rfl inferInstance inferInstance rfl rfl (.c rfl inferInstance inferInstance rfl rfl (.c rfl inferInstance inferInstance rfl rfl .n))))) ?_
              rw [bill_ne]
              refine XT.q rfl rfl (Q.move rfl) ?_
              refine XT.q rfl rfl (Quiet.guardF rfl rfl fun g99 p99 => Q.move rfl) ?_
              refine XT.q rfl rfl (Quiet.guardF rfl rfl fun g100 p100 => Q.move rfl) ?_
              refine XT.q rfl rfl (Quiet.guardF rfl rfl fun g101 p101 => Q.neq (lzv g101 rfl) (lzv g101 rfl)) ?_
              refine XT.q rfl rfl (Q.or rfl (fun hp => lzv hp rfl)) ?_
              refine XT.q rfl rfl (Q.move rfl) ?_
              refine XT.q rfl rfl (Quiet.guardF rfl rfl fun g104 p104 => Q.fieldAddr rfl) ?_
              refine XT.q rfl rfl (Quiet.guardF rfl rfl fun g105 p105 => Q.ld (lzv g105 rfl) rfl) ?_
              refine XT.q rfl rfl (Quiet.guardF rfl rfl fun g106 p106 => Q.move rfl) ?_
              refine XT.q rfl rfl (Quiet.guardF rfl rfl fun g107 p107 => Q.move rfl) ?_
              refine XT.q rfl rfl (Quiet.guardF rfl rfl fun g108 p108 => Q.ix (lzv g108 rfl) (lzv g108 rfl) (by omega) (by omega)) ?_
              refine XT.q rfl rfl (Quiet.guardF rfl rfl fun g109 p109 => Q.fieldQ (lzv g109 rfl) (by first | assumption | omega)) ?_
              refine XT.q rfl rfl (Quiet.guardF rfl rfl fun g110 p110 => Q.ldE (lzv g110 rfl) (by first | assumption | omega) rfl) ?_
              refine XT.gcallF rfl rfl rfl rfl Try.call51 rfl (fun g111 => .c (lzv g111 rfl) (.c (lzv g111 rfl) .n)) rfl (fun g111 p111 => equalI (l.getD i default).1 (ms.getD i default).1 hL K (l.getD i default).2.values (ms.getD i default).2.values) ⟨inferInstance, ?_⟩ XT.stop
              refine XT.q rfl rfl (Quiet.guardF rfl rfl fun g112 p112 => Q.not (lzv g112 rfl)) ?_
              refine XT.q rfl rfl (Q.or rfl (fun hp => lzv hp rfl)) ?_
              refine XT.done ?_
              refine XK.if rfl (fun c3 => ?_) (fun c3 => ?_)
              · have _t3 := True.intro
                rw [eu] at c3
                exact absurd c3 (by simp)
              · have _t3 := True.intro
                refine XK.skip ?_
                refine XK.inBlock ?_
                refine XK.region rfl ?_
                refine XO.q (Q.add rfl rfl ⟨by omega, by omega⟩) ?_
                refine XO.q (Q.move rfl) ?_
                refine XO.done ?_
                exact ih2 (i + 1) _ _ (by omega) (by first | omega | (dsimp only; omega)) (.c rfl (.base 96 rfl rfl)) inferInstance
            · intro mtr18
              dsimp only [List.cons_append, List.nil_append] at mtr18
              refine XK.drawn [0, 1, 2, 3, 4, 6, 7, 8, 11] [b6] [km] (.q 0 (.q 1 (.q 2 (.q 3 (.q 4 (.br 5 true (.q 6 (.q 7 (.q 8 (.br 9 true (.br 10 true (.q 11 .done) .stop) .stop)))) (.br 9 true (.br 5 true (.q 6 (.q 7 (.q 8 (.br 10 true (.q 11 .done) .stop)))) .stop) .stop))))))) Try.mixed rfl (by kernel_rfl) ?_
              refine XT.q rfl rfl (Q.ldA [_, _, _, _] rfl rfl rfl) ?_
              refine XT.q rfl rfl (Q.move rfl) ?_
              refine XT.q rfl rfl (Q.move rfl) ?_
              refine XT.ix rfl rfl rfl rfl (by omega) (by omega) fun i90 => ?_
              refine XT.q rfl rfl (Q.ldEA [_, _] rfl (by first | assumption | omega) rfl rfl) ?_
              refine XT.call rfl rfl Try.call60 rfl rfl rfl (RMake_spec t v37 w k37 kw (ms.getD i default).2 (ms.getD i default).1 K) (fun v92 s92 R92 => ?_) ?_
              · skip
                obtain ⟨rfl, rfl⟩ := R92
                dsimp only [List.cons_append, List.nil_append]
                refine ⟨inferInstance, ?_⟩
                rw [eu]
                refine XT.q rfl rfl (Q.move rfl) ?_
                refine XT.q rfl rfl (Q.extract rfl rfl) ?_
                refine XT.q rfl rfl (Q.extract rfl rfl) ?_
                refine XT.alloc rfl rfl (fun b16 => ⟨inferInstance, ?_⟩) XT.stop
                refine XT.st rfl rfl rfl rfl rfl ⟨inferInstance, ?_⟩ XT.stop
                refine XT.q rfl rfl (Q.assign rfl) ?_
                refine XT.done ?_
                exact mtr18 (b16) _ _ trivial (.c rfl (.c rfl (.base 11 rfl rfl))) inferInstance
              · skip
                refine XT.alloc rfl rfl (fun b16 => ⟨inferInstance, ?_⟩) XT.stop
                refine XT.call rfl rfl Try.call60 rfl rfl rfl (RMake_spec t v37 w k37 kw (ms.getD i default).2 (ms.getD i default).1 K) (fun v92 s92 R92 => ?_) XT.stop
                obtain ⟨rfl, rfl⟩ := R92
                dsimp only [List.cons_append, List.nil_append]
                refine ⟨inferInstance, ?_⟩
                rw [eu]
                refine XT.q rfl rfl (Q.move rfl) ?_
                refine XT.q rfl rfl (Q.extract rfl rfl) ?_
                refine XT.q rfl rfl (Q.extract rfl rfl) ?_
                refine XT.st rfl rfl rfl rfl rfl ⟨inferInstance, ?_⟩ XT.stop
                refine XT.q rfl rfl (Q.assign rfl) ?_
                refine XT.done ?_
                exact mtr18 (b16) _ _ trivial (.c rfl (.c rfl (.base 11 rfl rfl))) inferInstance
          · have _t2 := True.intro
            refine XK.exit rfl ?_
            refine XK.seq ?_
            refine XK.region rfl ?_
            refine XO.q (Q.ldA [_, _, _, _] rfl rfl rfl) ?_
            refine XO.q (Q.move rfl) ?_
            refine XO.call Try.call12 rfl rfl rfl (Total_spec t v26 v31 k26 k31 l vl hl hL aL) fun v118 s118 R118 => ?_
            obtain ⟨vo, ko, rfl, rfl, AO⟩ := R118
            dsimp only [List.cons_append, List.nil_append]
            obtain ⟨r, er⟩ : ∃ r, r = (totalG t (l.map Prod.snd)) := ⟨_, rfl⟩
            rw [← er] at AO ⊢
            refine XO.q (Q.move rfl) ?_
            refine XO.q (Q.extract rfl rfl) ?_
            refine XO.q (Q.extract rfl rfl) ?_
            refine XO.q (Q.extract rfl rfl) ?_
            refine XO.alloc fun b19 => ?_
            refine XO.q (Q.assign rfl) ?_
            refine XO.st rfl rfl rfl ?_
            refine XO.q (Q.assign rfl) ?_
            refine XO.done ?_
            refine XK.seq ?_
            refine XK.region rfl ?_
            refine XO.q (Q.ldA [_, _, _, _] rfl rfl rfl) ?_
            refine XO.q (Q.move rfl) ?_
            refine XO.call Try.call61 rfl rfl rfl (RTotal_spec t v37 w k37 kw ms vm km K UU.2) fun v125 s125 R125 => ?_
            obtain ⟨vo2, ko2, rfl, rfl, AO2⟩ := R125
            dsimp only [List.cons_append, List.nil_append]
            rw [UU.1, ← er] at AO2 ⊢
            refine XO.q (Q.move rfl) ?_
            refine XO.q (Q.extract rfl rfl) ?_
            refine XO.q (Q.extract rfl rfl) ?_
            refine XO.q (Q.extract rfl rfl) ?_
            refine XO.alloc fun b22 => ?_
            refine XO.q (Q.assign rfl) ?_
            refine XO.st rfl rfl rfl ?_
            refine XO.q (Q.assign rfl) ?_
            refine XO.done ?_
            refine XK.seq ?_
            refine XK.region rfl ?_
            refine XO.q (Q.move rfl) ?_
            refine XO.q (Q.move rfl) ?_
            refine XO.q (Q.eql rfl rfl) ?_
            refine XO.q (Q.move rfl) ?_
            refine XO.q (Quiet.guardT rfl rfl fun g133 p133 => Q.ldA [_, _, _, _] rfl rfl rfl) ?_
            refine XO.q (Quiet.guardT rfl rfl fun g134 p134 => Q.ldA [_, _, _, _] rfl rfl rfl) ?_
            refine XO.q (Quiet.guardT rfl rfl fun g135 p135 => Q.eqlS (us := [_, _, _, _]) (vs := [_, _, _, _]) (lzv g135 rfl) (lzv g135 rfl) inferInstance (by kernel_rfl) (by kernel_rfl) (.c rfl inferInstance inferInstance rfl rfl (.c rfl inferInstance inferInstance rfl rfl (.c rfl inferInstance inferInstance rfl rfl (.c rfl inferInstance inferInstance rfl rfl .n))))) ?_
            rw [bill_eq]
            refine XO.q (Q.and rfl (fun hp => lzv hp rfl)) ?_
            refine XO.q (Q.move rfl) ?_
            refine XO.q (Quiet.guardT rfl rfl fun g138 p138 => Q.move rfl) ?_
            refine XO.q (Quiet.guardT rfl rfl fun g139 p139 => Q.move rfl) ?_
            refine XO.gcallT rfl rfl Try.call62 rfl (fun g140 => .c (lzv g140 rfl) (.c (lzv g140 rfl) (.c rfl .n))) rfl (fun g140 p140 => equalBF vo vo2 ko ko2 r.1 r.1) ?_
            refine XO.q (Q.and rfl (fun hp => lzv hp rfl)) ?_
            refine XO.q (Q.move rfl) ?_
            refine XO.q (Quiet.guardT rfl rfl fun g143 p143 => Q.fieldAddr rfl) ?_
            refine XO.q (Quiet.guardT rfl rfl fun g144 p144 => Q.ld (lzv g144 rfl) rfl) ?_
            refine XO.q (Quiet.guardT rfl rfl fun g145 p145 => Q.fieldAddr rfl) ?_
            refine XO.q (Quiet.guardT rfl rfl fun g146 p146 => Q.ld (lzv g146 rfl) rfl) ?_
            refine XO.gcallT rfl rfl Try.call51 rfl (fun g147 => .c (lzv g147 rfl) (.c (lzv g147 rfl) .n)) rfl (fun g147 p147 => equalI v26 vp k26 hp t.price t.price) ?_
            refine XO.q (Q.and rfl (fun hp => lzv hp rfl)) ?_
            refine XO.q (Q.move rfl) ?_
            refine XO.q (Quiet.guardT rfl rfl fun g150 p150 => Q.fieldAddr rfl) ?_
            refine XO.q (Quiet.guardT rfl rfl fun g151 p151 => Q.ld (lzv g151 rfl) rfl) ?_
            refine XO.q (Quiet.guardT rfl rfl fun g152 p152 => Q.fieldAddr rfl) ?_
            refine XO.q (Quiet.guardT rfl rfl fun g153 p153 => Q.ld (lzv g153 rfl) rfl) ?_
            refine XO.gcallT rfl rfl Try.call64 rfl (fun g154 => .c (lzv g154 rfl) (.c (lzv g154 rfl) .n)) rfl (fun g154 p154 => equalT v31 vt k31 ht t.tiers t.tiers) ?_
            refine XO.q (Q.and rfl (fun hp => lzv hp rfl)) ?_
            refine XO.q (Q.assign rfl) ?_
            refine XO.done ?_
            refine XK.rt [] Try.func21 Try.results21 (.t rfl .n) ?_
            exact ⟨by simp, rfl⟩
    · intro mtr2
      dsimp only [List.cons_append, List.nil_append] at mtr2
      refine XK.drawn [0, 1, 3, 4, 5, 6, 7] [b2] [] (.q 0 (.q 1 (.q 3 (.q 4 (.q 5 (.q 6 (.br 2 true (.q 7 (.br 8 true (.br 9 false .done .stop) .stop)) (.br 8 true (.br 2 true (.q 7 (.br 9 false .done .stop)) .stop) .stop)))))))) Try.mixed rfl (by kernel_rfl) ?_
      refine XT.q rfl rfl (Q.fieldAddr rfl) ?_
      refine XT.q rfl rfl (Q.ld rfl rfl) ?_
      refine XT.q rfl rfl (Q.fieldAddr rfl) ?_
      refine XT.q rfl rfl (Q.ld rfl rfl) ?_
      refine XT.q rfl rfl (Q.fieldAddr rfl) ?_
      refine XT.q rfl rfl (Q.ld rfl rfl) ?_
      refine XT.call rfl rfl Try.call20 rfl rfl rfl (cloneI vp hp t.price (by omega)) (fun v37 s37 R37 => ?_) ?_
      · skip
        obtain ⟨k37, rfl, O37⟩ := R37
        dsimp only [List.cons_append, List.nil_append]
        refine ⟨inferInstance, ?_⟩
        refine XT.q rfl rfl (Q.build [_, _, _, _] (.c 0 1 rfl rfl rfl (.c 1 1 rfl rfl rfl (.c 3 1 rfl rfl rfl (.n _))))) ?_
        refine XT.alloc rfl rfl (fun b6 => ⟨inferInstance, ?_⟩) XT.stop
        refine XT.st rfl rfl rfl rfl rfl ⟨inferInstance, ?_⟩ XT.stop
        refine XT.done ?_
        exact mtr2 ((b6, v37, k37)) _ _ O37 (.c rfl (.base 9 rfl rfl)) inferInstance
      · skip
        refine XT.alloc rfl rfl (fun b6 => ⟨inferInstance, ?_⟩) XT.stop
        refine XT.call rfl rfl Try.call20 rfl rfl rfl (cloneI vp hp t.price (by omega)) (fun v37 s37 R37 => ?_) XT.stop
        obtain ⟨k37, rfl, O37⟩ := R37
        dsimp only [List.cons_append, List.nil_append]
        refine ⟨inferInstance, ?_⟩
        refine XT.q rfl rfl (Q.build [_, _, _, _] (.c 0 1 rfl rfl rfl (.c 1 1 rfl rfl rfl (.c 3 1 rfl rfl rfl (.n _))))) ?_
        refine XT.st rfl rfl rfl rfl rfl ⟨inferInstance, ?_⟩ XT.stop
        refine XT.done ?_
        exact mtr2 ((b6, v37, k37)) _ _ O37 (.c rfl (.base 9 rfl rfl)) inferInstance
  · intro mtr1
    dsimp only [List.cons_append, List.nil_append] at mtr1
    refine XK.drawn [0, 1, 3, 4, 5, 6, 8, 9, 10] [b2] [] (.q 0 (.q 1 (.q 3 (.q 4 (.q 5 (.q 6 (.q 8 (.q 9 (.br 2 true (.br 7 true (.q 10 (.br 11 true (.br 12 false .done .stop) .stop)) (.br 11 true (.br 7 true (.q 10 (.br 12 false .done .stop)) .stop) .stop)) (.br 11 true (.br 2 true (.br 7 true (.q 10 (.br 12 false .done .stop)) .stop) .stop) .stop)))))))))) Try.mixed rfl (by kernel_rfl) ?_
    refine XT.q rfl rfl (Q.fieldAddr rfl) ?_
    refine XT.q rfl rfl (Q.ld rfl rfl) ?_
    refine XT.q rfl rfl (Q.fieldAddr rfl) ?_
    refine XT.q rfl rfl (Q.ld rfl rfl) ?_
    refine XT.q rfl rfl (Q.fieldAddr rfl) ?_
    refine XT.q rfl rfl (Q.ld rfl rfl) ?_
    refine XT.q rfl rfl (Q.fieldAddr rfl) ?_
    refine XT.q rfl rfl (Q.ld rfl rfl) ?_
    refine XT.call rfl rfl Try.call20 rfl rfl rfl (cloneI vp hp t.price (by omega)) (fun v26 s26 R26 => ?_) ?_
    · skip
      obtain ⟨k26, rfl, O26⟩ := R26
      dsimp only [List.cons_append, List.nil_append]
      refine ⟨inferInstance, ?_⟩
      refine XT.call rfl rfl Try.call59 rfl rfl rfl (cloneT vt ht t.tiers (by omega)) (fun v31 s31 R31 => ?_) ?_
      · skip
        obtain ⟨k31, rfl, O31⟩ := R31
        dsimp only [List.cons_append, List.nil_append]
        refine ⟨inferInstance, ?_⟩
        refine XT.q rfl rfl (Q.build [_, _, _, _] (.c 0 1 rfl rfl rfl (.c 1 1 rfl rfl rfl (.c 2 1 rfl rfl rfl (.c 3 1 rfl rfl rfl (.n _)))))) ?_
        refine XT.alloc rfl rfl (fun b5 => ⟨inferInstance, ?_⟩) XT.stop
        refine XT.st rfl rfl rfl rfl rfl ⟨inferInstance, ?_⟩ XT.stop
        refine XT.done ?_
        exact mtr1 ((b5, v26, v31, k26, k31)) _ _ ⟨O26, O31⟩ (.c rfl (.base 12 rfl rfl)) inferInstance
      · skip
        refine XT.alloc rfl rfl (fun b5 => ⟨inferInstance, ?_⟩) XT.stop
        refine XT.call rfl rfl Try.call59 rfl rfl rfl (cloneT vt ht t.tiers (by omega)) (fun v31 s31 R31 => ?_) XT.stop
        obtain ⟨k31, rfl, O31⟩ := R31
        dsimp only [List.cons_append, List.nil_append]
        refine ⟨inferInstance, ?_⟩
        refine XT.q rfl rfl (Q.build [_, _, _, _] (.c 0 1 rfl rfl rfl (.c 1 1 rfl rfl rfl (.c 2 1 rfl rfl rfl (.c 3 1 rfl rfl rfl (.n _)))))) ?_
        refine XT.st rfl rfl rfl rfl rfl ⟨inferInstance, ?_⟩ XT.stop
        refine XT.done ?_
        exact mtr1 ((b5, v26, v31, k26, k31)) _ _ ⟨O26, O31⟩ (.c rfl (.base 12 rfl rfl)) inferInstance
    · skip
      refine XT.alloc rfl rfl (fun b5 => ⟨inferInstance, ?_⟩) XT.stop
      refine XT.call rfl rfl Try.call20 rfl rfl rfl (cloneI vp hp t.price (by omega)) (fun v26 s26 R26 => ?_) XT.stop
      obtain ⟨k26, rfl, O26⟩ := R26
      dsimp only [List.cons_append, List.nil_append]
      refine ⟨inferInstance, ?_⟩
      refine XT.call rfl rfl Try.call59 rfl rfl rfl (cloneT vt ht t.tiers (by omega)) (fun v31 s31 R31 => ?_) XT.stop
      obtain ⟨k31, rfl, O31⟩ := R31
      dsimp only [List.cons_append, List.nil_append]
      refine ⟨inferInstance, ?_⟩
      refine XT.q rfl rfl (Q.build [_, _, _, _] (.c 0 1 rfl rfl rfl (.c 1 1 rfl rfl rfl (.c 2 1 rfl rfl rfl (.c 3 1 rfl rfl rfl (.n _)))))) ?_
      refine XT.st rfl rfl rfl rfl rfl ⟨inferInstance, ?_⟩ XT.stop
      refine XT.done ?_
      exact mtr1 ((b5, v26, v31, k26, k31)) _ _ ⟨O26, O31⟩ (.c rfl (.base 12 rfl rfl)) inferInstance
end Go.X

set_option linter.unusedSimpArgs false
set_option linter.unusedVariables false
set_option maxRecDepth 20000
namespace Go.X
open Go.Proofs
theorem term_le {f : Nat → Int} {n : Nat} (h : ∀ j, j < n → 0 ≤ f j) {i : Nat} (hi : i < n) : f i ≤ sumTo f n := by
  induction n with
  | zero => omega
  | succ n ih =>
    rw [sumTo]
    have hn := h n (by omega)
    rcases Nat.lt_or_ge i n with h2 | h2
    · have := ih (fun j hj => h j (by omega)) h2; omega
    · obtain rfl : i = n := by omega
      have := sum_nonneg (f := f) (n := i) (fun j hj => h j (by omega)); omega
theorem MeterBills_spec (t : MTariff) (vp vt : Value) (hp ht : PHeap) [jp : Arr vp encI 1 hp t.price] [jt : Arr vt encTier 2 ht t.tiers] (l : List (Value × MUse)) (vl : Value) (hl hL : PHeap) [jl : Arr vl encUse 2 hl l] (aL : ∀ i, i < l.length → Arr (l.getD i default).1 encI 1 hL (l.getD i default).2.values) :
    Spec Try.prog 5 #[.agg #[vp, .int .i64 t.base, vt, .int .i64 t.credit], vl] [] [hp, ht, hl, hL] (fun v hs => v = .bool true ∧ hs = []) := by
  have ll := jl.le
  have lp := jp.le
  have lt := jt.le
  have lv : ∀ j, j < l.length → 0 ≤ (fun j => (((l.getD j default).2.values.length : Nat) : Int)) j ∧ (fun j => (((l.getD j default).2.values.length : Nat) : Int)) j ≤ 140737488355328 := fun j hj => by
    have := (aL j hj).le
    dsimp only; omega
  refine Spec.intro (fn := Try.f5) (N := 47) Try.func5 rfl Try.ntmps5 rfl fun B => ?_
  refine XK.seq ?_
  refine XK.region rfl ?_
  refine XO.box rfl fun b2 => ?_
  refine XO.q (Q.assign rfl) ?_
  refine XO.done ?_
  refine XK.seq ?_
  refine XK.region rfl ?_
  refine XO.q (Q.assign rfl) ?_
  refine XO.done ?_
  refine XK.seq ?_
  refine XK.seq ?_
  refine XK.region rfl ?_
  refine XO.q (Q.move rfl) ?_
  refine XO.len rfl fun l9 => ?_
  refine XO.q (Q.move rfl) ?_
  refine XO.done ?_
  refine XK.block ?_
  refine XK.while (X := Nat × Int) [5, 7, 10, 11, 12, 13, 14, 15, 16, 17, 18, 19] (fun ⟨i, n⟩ => [(5, some (.int .i64 n)), (10, some (.int .i64 (i : Nat)))]) (fun ⟨i, n⟩ => []) (fun ⟨i, n⟩ => i ≤ l.length ∧ (i ≤ 70 → n = sumTo (fun j => (((l.getD j default).2.values.length : Nat) : Int)) i)) (fun ⟨i, n⟩ => l.length - i) (0, 0) [] rfl ⟨by omega, fun _ => rfl⟩ (.c rfl (.c rfl (.base 0 rfl rfl))) ?_
  rintro ⟨i, n⟩ ⟨hi, hn⟩ ih0
  dsimp only [List.cons_append, List.nil_append] at ih0 ⊢
  refine XK.seq ?_
  refine XK.region rfl ?_
  refine XO.q (Q.lss rfl rfl) ?_
  refine XO.done ?_
  refine XK.seq ?_
  refine XK.if rfl (fun c0 => ?_) (fun c0 => ?_)
  · have _t0 := True.intro
    have ai := aL i (by omega)
    refine XK.skip ?_
    refine XK.seq ?_
    refine XK.block ?_
    refine XK.seq ?_
    refine XK.region rfl ?_
    refine XO.ix rfl rfl (by omega) (by omega) fun i12 => ?_
    refine XO.q (Q.ldEA [_, _] rfl (by first | assumption | omega) rfl rfl) ?_
    refine XO.alloc fun b7 => ?_
    refine XO.st rfl rfl rfl ?_
    refine XO.done ?_
    refine XK.region rfl ?_
    refine XO.q (Q.move rfl) ?_
    refine XO.q (Q.fieldAddr rfl) ?_
    refine XO.q (Q.ld rfl rfl) ?_
    refine XO.len rfl fun l17 => ?_
    refine XO.q (Q.addW rfl rfl) ?_
    refine XO.q (Q.assign rfl) ?_
    refine XO.done ?_
    refine XK.inBlock ?_
    refine XK.region rfl ?_
    refine XO.q (Q.add rfl rfl ⟨by omega, by omega⟩) ?_
    refine XO.q (Q.move rfl) ?_
    refine XO.done ?_
    exact ih0 (i + 1, IntKind.wrap .i64 (n + (((l.getD i default).2.values.length : Nat) : Int))) _ _ ⟨by dsimp only; omega, fun h7 => by
                have e := hn (by omega)
                have a1 := sum_nonneg (f := (fun j => (((l.getD j default).2.values.length : Nat) : Int))) (n := i) (fun j hj => (lv j (by omega)).1)
                have a2 := sum_le (f := (fun j => (((l.getD j default).2.values.length : Nat) : Int))) (n := i) (fun j hj => (lv j (by omega)).2)
                have a3 := lv i (by omega)
                dsimp only at a3 h7 ⊢
                rw [wrap64_of ⟨by omega, by omega⟩, sumTo, e]⟩ (by first | omega | (dsimp only; omega)) (.c rfl (.c rfl (.base 26 rfl rfl))) inferInstance
  · have _t0 := True.intro
    have hin : i = l.length := by omega
    subst hin
    clear ih0
    refine XK.exit rfl ?_
    refine XK.seq ?_
    refine XK.region rfl ?_
    refine XO.q (Q.move rfl) ?_
    refine XO.len rfl fun l21 => ?_
    refine XO.q (Q.gtr rfl rfl) ?_
    refine XO.q (Q.move rfl) ?_
    refine XO.q (Quiet.guardF rfl rfl fun g24 p24 => Q.move rfl) ?_
    refine XO.q (Quiet.guardF rfl rfl fun g25 p25 => Q.gtr (lzv g25 rfl) rfl) ?_
    refine XO.q (Q.or rfl (fun hp => lzv hp rfl)) ?_
    refine XO.q (Q.move rfl) ?_
    refine XO.q (Quiet.guardF rfl rfl fun g28 p28 => Q.fieldAddr rfl) ?_
    refine XO.q (Quiet.guardF rfl rfl fun g29 p29 => Q.ld (lzv g29 rfl) rfl) ?_
    refine XO.q (Quiet.guardF rfl rfl fun g30 p30 => Q.len (lzv g30 rfl)) ?_
    refine XO.q (Quiet.guardF rfl rfl fun g31 p31 => Q.gtr (lzv g31 rfl) rfl) ?_
    refine XO.q (Q.or rfl (fun hp => lzv hp rfl)) ?_
    refine XO.q (Q.move rfl) ?_
    refine XO.q (Quiet.guardF rfl rfl fun g34 p34 => Q.fieldAddr rfl) ?_
    refine XO.q (Quiet.guardF rfl rfl fun g35 p35 => Q.ld (lzv g35 rfl) rfl) ?_
    refine XO.q (Quiet.guardF rfl rfl fun g36 p36 => Q.len (lzv g36 rfl)) ?_
    refine XO.q (Quiet.guardF rfl rfl fun g37 p37 => Q.gtr (lzv g37 rfl) rfl) ?_
    refine XO.q (Q.or rfl (fun hp => lzv hp rfl)) ?_
    refine XO.q (Q.move rfl) ?_
    refine XO.q (Quiet.guardF rfl rfl fun g40 p40 => Q.ldA [_, _, _, _] rfl rfl rfl) ?_
    refine XO.q (Quiet.guardF rfl rfl fun g41 p41 => Q.move rfl) ?_
    refine XO.gcallF rfl rfl Try.call21 rfl (fun g42 => .c (lzv g42 rfl) (.c (lzv g42 rfl) .n)) rfl (fun g42 p42 => bills_spec t vp vt hp ht l vl hl hL aL (by have := p42; omega) (by have := p42; omega) (by have := p42; omega) (fun i hi => by have p := p42; have hn2 := hn (by omega); have t1 := term_le (fun j hj => (lv j (by omega)).1) hi; (try dsimp only at t1); omega)) ?_
    refine XO.q (Q.or rfl (fun hp => lzv hp rfl)) ?_
    refine XO.q (Q.move rfl) ?_
    refine XO.gcallT rfl rfl Try.call13 rfl (fun g45 => .n) rfl (fun g45 p45 => awake11) ?_
    refine XO.q (Q.and rfl (fun hp => lzv hp rfl)) ?_
    refine XO.q (Q.assign rfl) ?_
    refine XO.done ?_
    refine XK.rt [] Try.func5 Try.results5 (.t rfl .n) ?_
    exact ⟨by simp, rfl⟩
end Go.X
