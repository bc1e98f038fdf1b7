/- A part of the proof: a small program logic, plain laws and contracts of functions, each proved by a walk through its operations. No condition but those that stand in each theorem. -/
import Derived.Test.YtohdobhnbhcjhaaA3
set_option linter.unusedSimpArgs false
set_option linter.unusedVariables false
set_option maxRecDepth 20000
namespace Go.X
open Go.Proofs
def encTier (x : MTier) : List Value := [.int .i64 x.min, .int .i64 x.pct]
def encBill (x : MBill) : List Value := [.int .i64 x.energy, .int .i64 x.amount, .int .i64 x.credit, .int .i64 x.due]
def encUse (x : Value × MUse) : List Value := [x.1, .int .i64 x.2.out]
instance : Inhabited (Value × MUse) := ⟨(.slice none 0 0, default)⟩
theorem right_spec (t : MTariff) (vp vt : Value) (hp ht : PHeap) [jp : Arr vp encI 1 hp t.price] [jt : Arr vt encTier 2 ht t.tiers] : Spec Try.prog 46 #[.agg #[vp, .int .i64 t.base, vt, .int .i64 t.credit]] [] [hp, ht] (fun v hs => v = .int .i64 (rightG t) ∧ hs = []) := by
  have lp := jp.le
  have lt := jt.le
  refine Spec.intro (fn := Try.f46) (N := 91) Try.func46 rfl Try.ntmps46 rfl fun B => ?_
  refine XK.seq ?_
  refine XK.region rfl ?_
  refine XO.box rfl fun b1 => ?_
  refine XO.q (Q.assign rfl) ?_
  refine XO.done ?_
  refine XK.seq ?_
  refine XK.block ?_
  refine XK.seq ?_
  refine XK.region rfl ?_
  refine XO.q (Q.fieldAddr rfl) ?_
  refine XO.q (Q.fieldAddr rfl) ?_
  refine XO.q (Q.ld rfl rfl) ?_
  refine XO.len rfl fun l9 => ?_
  refine XO.q (Q.neq rfl rfl) ?_
  refine XO.q (Q.assign rfl) ?_
  refine XO.done ?_
  refine XK.if rfl (fun c0 => ?_) (fun c0 => ?_)
  · have _t0 := True.intro
    refine XK.seq ?_
    refine XK.region rfl ?_
    refine XO.q (Q.assign rfl) ?_
    refine XO.done ?_
    refine XK.rt [] Try.func46 Try.results46 (.t rfl .n) ?_
    exact ⟨by rw [rightG, if_pos c0], rfl⟩
  · have _t0 := True.intro
    refine XK.seq ?_
    refine XK.region rfl ?_
    refine XO.q (Q.fieldAddr rfl) ?_
    refine XO.q (Q.fieldAddr rfl) ?_
    refine XO.q (Q.ld rfl rfl) ?_
    refine XO.len rfl fun l15 => ?_
    refine XO.q (Q.gtr rfl rfl) ?_
    refine XO.q (Q.assign rfl) ?_
    refine XO.done ?_
    refine XK.if rfl (fun c1 => ?_) (fun c1 => ?_)
    · have _t1 := True.intro
      refine XK.seq ?_
      refine XK.region rfl ?_
      refine XO.q (Q.assign rfl) ?_
      refine XO.done ?_
      refine XK.rt [] Try.func46 Try.results46 (.t rfl .n) ?_
      exact ⟨by rw [rightG, if_neg c0, if_pos c1], rfl⟩
    · have _t1 := True.intro
      refine XK.seq ?_
      refine XK.region rfl ?_
      refine XO.q (Q.fieldAddr rfl) ?_
      refine XO.q (Q.fieldAddr rfl) ?_
      refine XO.q (Q.ld rfl rfl) ?_
      refine XO.call Try.call47 rfl rfl rfl (in_spec11 1000 vp hp t.price) fun v21 s21 R21 => ?_
      obtain ⟨rfl, rfl⟩ := R21
      dsimp only [List.cons_append, List.nil_append]
      refine XO.q (Q.not rfl) ?_
      refine XO.q (Q.move rfl) ?_
      refine XO.q (Quiet.guardF rfl rfl fun g24 p24 => Q.fieldAddr rfl) ?_
      refine XO.q (Quiet.guardF rfl rfl fun g25 p25 => Q.fieldAddr (lzv g25 rfl)) ?_
      refine XO.q (Quiet.guardF rfl rfl fun g26 p26 => Q.ld (lzv g26 rfl) rfl) ?_
      refine XO.lit1 [_] [_] [t.base] encI rfl rfl (by rfl) (by rfl) rfl (by rfl) (fun g27 => by exact .c 0 1 (lzv g27 rfl) rfl rfl (.n _)) (fun _ => rfl) (by rfl) rfl (fun _ => by infer_instance) rfl (fun v27 h27 O27 => ?_)
      refine XO.gcallF rfl rfl Try.call47 rfl (fun g28 => .c rfl (.c (lzv g28 rfl) .n)) rfl (fun g28 p28 => by haveI := O27 g28; exact in_spec11 1000000000 v27 h27 [t.base]) ?_
      refine XO.q (Quiet.guardF rfl rfl fun g29 p29 => Q.not (lzv g29 rfl)) ?_
      refine XO.q (Q.or rfl (fun hp => lzv hp rfl)) ?_
      refine XO.q (Q.move rfl) ?_
      refine XO.q (Quiet.guardF rfl rfl fun g32 p32 => Q.fieldAddr rfl) ?_
      refine XO.q (Quiet.guardF rfl rfl fun g33 p33 => Q.fieldAddr (lzv g33 rfl)) ?_
      refine XO.q (Quiet.guardF rfl rfl fun g34 p34 => Q.ld (lzv g34 rfl) rfl) ?_
      refine XO.lit1 [_] [_] [t.credit] encI rfl rfl (by rfl) (by rfl) rfl (by rfl) (fun g35 => by exact .c 0 1 (lzv g35 rfl) rfl rfl (.n _)) (fun _ => rfl) (by rfl) rfl (fun _ => by infer_instance) rfl (fun v35 h35 O35 => ?_)
      refine XO.gcallF rfl rfl Try.call47 rfl (fun g36 => .c rfl (.c (lzv g36 rfl) .n)) rfl (fun g36 p36 => by haveI := O35 g36; exact in_spec11 100 v35 h35 [t.credit]) ?_
      refine XO.q (Quiet.guardF rfl rfl fun g37 p37 => Q.not (lzv g37 rfl)) ?_
      refine XO.q (Q.or rfl (fun hp => lzv hp rfl)) ?_
      refine XO.q (Q.assign rfl) ?_
      refine XO.done ?_
      refine XK.if rfl (fun c2 => ?_) (fun c2 => ?_)
      · have _t2 := True.intro
        refine XK.seq ?_
        refine XK.region rfl ?_
        refine XO.q (Q.assign rfl) ?_
        refine XO.done ?_
        refine XK.rt [] Try.func46 Try.results46 (.t rfl .n) ?_
        exact ⟨by rw [rightG, if_neg c0, if_neg c1, if_pos c2], rfl⟩
      · have _t2 := True.intro
        refine XK.skip ?_
        refine XK.inBlock ?_
        refine XK.seq ?_
        refine XK.seq ?_
        refine XK.region rfl ?_
        refine XO.q (Q.fieldAddr rfl) ?_
        refine XO.q (Q.fieldAddr rfl) ?_
        refine XO.q (Q.ld rfl rfl) ?_
        refine XO.len rfl fun l42 => ?_
        refine XO.q (Q.move rfl) ?_
        refine XO.done ?_
        refine XK.block ?_
        refine XK.while (X := Nat) [2, 3, 4, 43, 44, 45, 46, 47, 48, 49, 50, 51, 52, 53, 54, 55, 56, 57, 58, 59, 60, 61, 62, 63, 64, 65, 66, 67, 68, 69, 70, 71, 72, 73, 74, 75, 76, 77, 78, 79, 80, 81, 82, 83, 84, 85, 86, 87, 88, 89, 90] (fun i => [(43, some (.int .i64 (i : Nat)))]) (fun i => []) (fun i => i ≤ t.tiers.length ∧ tiersOk t i = true) (fun i => t.tiers.length - i) (0) [] rfl ⟨by omega, rfl⟩ (.c rfl (.base 0 rfl rfl)) ?_
        rintro i ⟨hi, hall⟩ ih0
        dsimp only [List.cons_append, List.nil_append] at ih0 ⊢
        refine XK.seq ?_
        refine XK.region rfl ?_
        refine XO.q (Q.lss rfl rfl) ?_
        refine XO.done ?_
        refine XK.seq ?_
        refine XK.if rfl (fun c3 => ?_) (fun c3 => ?_)
        · have _t3 := True.intro
          refine XK.skip ?_
          refine XK.seq ?_
          refine XK.block ?_
          refine XK.seq ?_
          refine XK.region rfl ?_
          refine XO.q (Q.move rfl) ?_
          refine XO.ix rfl rfl (by omega) (by omega) fun i46 => ?_
          refine XO.q (Q.ldEA [_, _] rfl (by first | assumption | omega) rfl rfl) ?_
          refine XO.alloc fun b4 => ?_
          refine XO.q (Q.assign rfl) ?_
          refine XO.st rfl rfl rfl ?_
          refine XO.done ?_
          refine XK.seq ?_
          refine XK.drawn [0, 1, 4, 5, 6, 7, 10, 11, 12, 13, 14, 15, 16, 17, 18, 19, 20, 21, 22, 23, 24, 25, 26, 27, 28, 29, 30, 31, 32, 33, 34, 35, 36, 37, 38, 39, 40, 41] [b4, b1] [] (.q 0 (.q 1 (.br 2 true (.br 3 true (.q 4 (.q 5 (.q 6 (.q 7 (.br 8 true (.br 9 true (.q 10 (.q 11 (.q 12 (.q 13 (.q 14 (.q 15 (.q 16 (.q 17 (.q 18 (.q 19 (.q 20 (.q 21 (.q 22 (.q 23 (.q 24 (.q 25 (.q 26 (.q 27 (.q 28 (.q 29 (.q 30 (.q 31 (.q 32 (.q 33 (.q 34 (.q 35 (.q 36 (.q 37 (.q 38 (.q 39 (.q 40 (.q 41 .done)))))))))))))))))))))))))))))))) .stop) .stop))))) .stop) .stop))) Try.mixed rfl (by kernel_rfl) ?_
          refine XT.q rfl rfl (Q.fieldAddr rfl) ?_
          refine XT.q rfl rfl (Q.ld rfl rfl) ?_
          refine XT.lit [_] [_] [(t.tiers.getD i default).min] encI rfl rfl (by rfl) (by rfl) rfl (by rfl) (by exact .c 0 1 rfl rfl rfl (.n _)) (fun _ => rfl) (by rfl) rfl (by infer_instance) rfl (fun v50 h50 O50 => ⟨inferInstance, ?_⟩) XT.stop
          refine XT.call rfl rfl Try.call47 rfl rfl rfl (in_spec11 50000 v50 h50 [(t.tiers.getD i default).min]) (fun v51 s51 R51 => ?_) XT.stop
          obtain ⟨rfl, rfl⟩ := R51
          dsimp only [List.cons_append, List.nil_append]
          refine ⟨inferInstance, ?_⟩
          refine XT.q rfl rfl (Q.not rfl) ?_
          refine XT.q rfl rfl (Q.move rfl) ?_
          refine XT.q rfl rfl (Quiet.guardF rfl rfl fun g54 p54 => Q.fieldAddr rfl) ?_
          refine XT.q rfl rfl (Quiet.guardF rfl rfl fun g55 p55 => Q.ld (lzv g55 rfl) rfl) ?_
          refine XT.lit1 [_] [_] [(t.tiers.getD i default).pct] encI rfl rfl rfl rfl (by rfl) (by rfl) rfl (by rfl) (fun g56 => by exact .c 0 1 (lzv g56 rfl) rfl rfl (.n _)) (fun _ => rfl) (by rfl) rfl (fun _ => by infer_instance) rfl (fun v56 h56 O56 => ⟨inferInstance, ?_⟩) XT.stop
          refine XT.gcallF rfl rfl rfl rfl Try.call47 rfl (fun g57 => .c rfl (.c (lzv g57 rfl) .n)) rfl (fun g57 p57 => by haveI := O56 g57; exact in_spec11 100 v56 h56 [(t.tiers.getD i default).pct]) ⟨inferInstance, ?_⟩ XT.stop
          refine XT.q rfl rfl (Quiet.guardF rfl rfl fun g58 p58 => Q.not (lzv g58 rfl)) ?_
          refine XT.q rfl rfl (Q.or rfl (fun hp => lzv hp rfl)) ?_
          refine XT.q rfl rfl (Q.move rfl) ?_
          refine XT.q rfl rfl (Quiet.guardF rfl rfl fun g61 p61 => Q.move rfl) ?_
          refine XT.q rfl rfl (Quiet.guardF rfl rfl fun g62 p62 => Q.gtr (lzv g62 rfl) rfl) ?_
          refine XT.q rfl rfl (Quiet.guardF rfl rfl fun g63 p63 => Q.move (lzv g63 rfl)) ?_
          refine XT.q rfl rfl (Quiet.guard2 rfl rfl fun g64a g64b => have p64a := bpF g64a; have p64b := bpT g64b; Q.fieldAddr rfl) ?_
          refine XT.q rfl rfl (Quiet.guard2 rfl rfl fun g65a g65b => have p65a := bpF g65a; have p65b := bpT g65b; Q.ld (lzv g65b (lzv g65a rfl)) rfl) ?_
          refine XT.q rfl rfl (Quiet.guard2 rfl rfl fun g66a g66b => have p66a := bpF g66a; have p66b := bpT g66b; Q.fieldAddr rfl) ?_
          refine XT.q rfl rfl (Quiet.guard2 rfl rfl fun g67a g67b => have p67a := bpF g67a; have p67b := bpT g67b; Q.fieldAddr (lzv g67b (lzv g67a rfl))) ?_
          refine XT.q rfl rfl (Quiet.guard2 rfl rfl fun g68a g68b => have p68a := bpF g68a; have p68b := bpT g68b; Q.ld (lzv g68b (lzv g68a rfl)) rfl) ?_
          refine XT.q rfl rfl (Quiet.guard2 rfl rfl fun g69a g69b => have p69a := bpF g69a; have p69b := bpT g69b; Q.move rfl) ?_
          refine XT.q rfl rfl (Quiet.guard2 rfl rfl fun g70a g70b => have p70a := bpF g70a; have p70b := bpT g70b; Q.sub (lzv g70b (lzv g70a rfl)) rfl ⟨by omega, by omega⟩) ?_
          refine XT.q rfl rfl (Quiet.guard2 rfl rfl fun g71a g71b => have p71a := bpF g71a; have p71b := bpT g71b; Q.ix (lzv g71b (lzv g71a rfl)) (lzv g71b (lzv g71a rfl)) (by omega) (by omega)) ?_
          refine XT.q rfl rfl (Quiet.guard2 rfl rfl fun g72a g72b => have p72a := bpF g72a; have p72b := bpT g72b; Q.fieldQ (lzv g72b (lzv g72a rfl)) (by first | assumption | omega)) ?_
          refine XT.q rfl rfl (Quiet.guard2 rfl rfl fun g73a g73b => have p73a := bpF g73a; have p73b := bpT g73b; Q.ldE (lzv g73b (lzv g73a rfl)) (by first | assumption | omega) rfl) ?_
          refine XT.q rfl rfl (Quiet.guard2 rfl rfl fun g74a g74b => have p74a := bpF g74a; have p74b := bpT g74b; Q.leq (lzv g74b (lzv g74a rfl)) (lzv g74b (lzv g74a rfl))) ?_
          refine XT.q rfl rfl (Quiet.guard2 rfl rfl fun g75a g75b => have p75a := bpF g75a; have p75b := bpT g75b; Q.move (lzv g75b (lzv g75a rfl))) ?_
          refine XT.q rfl rfl (Quiet.guard3 rfl rfl fun g76a g76b g76c => have p76a := bpF g76a; have p76b := bpT g76b; have p76c := bpF g76c; Q.fieldAddr rfl) ?_
          refine XT.q rfl rfl (Quiet.guard3 rfl rfl fun g77a g77b g77c => have p77a := bpF g77a; have p77b := bpT g77b; have p77c := bpF g77c; Q.ld (lzv g77c (lzv g77b (lzv g77a rfl))) rfl) ?_
          refine XT.q rfl rfl (Quiet.guard3 rfl rfl fun g78a g78b g78c => have p78a := bpF g78a; have p78b := bpT g78b; have p78c := bpF g78c; Q.fieldAddr rfl) ?_
          refine XT.q rfl rfl (Quiet.guard3 rfl rfl fun g79a g79b g79c => have p79a := bpF g79a; have p79b := bpT g79b; have p79c := bpF g79c; Q.fieldAddr (lzv g79c (lzv g79b (lzv g79a rfl)))) ?_
          refine XT.q rfl rfl (Quiet.guard3 rfl rfl fun g80a g80b g80c => have p80a := bpF g80a; have p80b := bpT g80b; have p80c := bpF g80c; Q.ld (lzv g80c (lzv g80b (lzv g80a rfl))) rfl) ?_
          refine XT.q rfl rfl (Quiet.guard3 rfl rfl fun g81a g81b g81c => have p81a := bpF g81a; have p81b := bpT g81b; have p81c := bpF g81c; Q.move rfl) ?_
          refine XT.q rfl rfl (Quiet.guard3 rfl rfl fun g82a g82b g82c => have p82a := bpF g82a; have p82b := bpT g82b; have p82c := bpF g82c; Q.sub (lzv g82c (lzv g82b (lzv g82a rfl))) rfl ⟨by omega, by omega⟩) ?_
          refine XT.q rfl rfl (Quiet.guard3 rfl rfl fun g83a g83b g83c => have p83a := bpF g83a; have p83b := bpT g83b; have p83c := bpF g83c; Q.ix (lzv g83c (lzv g83b (lzv g83a rfl))) (lzv g83c (lzv g83b (lzv g83a rfl))) (by omega) (by omega)) ?_
          refine XT.q rfl rfl (Quiet.guard3 rfl rfl fun g84a g84b g84c => have p84a := bpF g84a; have p84b := bpT g84b; have p84c := bpF g84c; Q.fieldQ (lzv g84c (lzv g84b (lzv g84a rfl))) (by first | assumption | omega)) ?_
          refine XT.q rfl rfl (Quiet.guard3 rfl rfl fun g85a g85b g85c => have p85a := bpF g85a; have p85b := bpT g85b; have p85c := bpF g85c; Q.ldE (lzv g85c (lzv g85b (lzv g85a rfl))) (by first | assumption | omega) rfl) ?_
          refine XT.q rfl rfl (Quiet.guard3 rfl rfl fun g86a g86b g86c => have p86a := bpF g86a; have p86b := bpT g86b; have p86c := bpF g86c; Q.lss (lzv g86c (lzv g86b (lzv g86a rfl))) (lzv g86c (lzv g86b (lzv g86a rfl)))) ?_
          refine XT.q rfl rfl (Quiet.guard2 rfl rfl fun g87a g87b => have p87a := bpF g87a; have p87b := bpT g87b; Q.or (lzv g87b (lzv g87a rfl)) (fun hp => (lzv hp (lzv g87b (lzv g87a rfl))))) ?_
          refine XT.q rfl rfl (Quiet.guardF rfl rfl fun g88 p88 => Q.and (lzv g88 rfl) (fun hp => (lzv hp (lzv g88 rfl)))) ?_
          refine XT.q rfl rfl (Q.or rfl (fun hp => lzv hp rfl)) ?_
          refine XT.done ?_
          refine XK.if rfl (fun c4 => ?_) (fun c4 => ?_)
          · have _t4 := True.intro
            refine XK.seq ?_
            refine XK.region rfl ?_
            refine XO.q (Q.assign rfl) ?_
            refine XO.done ?_
            refine XK.rt [] Try.func46 Try.results46 (.t rfl .n) ?_
            exact ⟨by rw [rightG, if_neg c0, if_neg c1, if_neg c2, if_neg (by rw [tiersOk, allTo_false (s := i) (by omega) (by rw [Bool.not_eq_false', decide_eq_true_eq]; exact c4)]; decide)], rfl⟩
          · have _t4 := True.intro
            refine XK.skip ?_
            refine XK.inBlock ?_
            refine XK.region rfl ?_
            refine XO.q (Q.add rfl rfl ⟨by omega, by omega⟩) ?_
            refine XO.q (Q.move rfl) ?_
            refine XO.done ?_
            exact ih0 (i + 1) _ _ ⟨by omega, by rw [tiersOk, allTo_succ]; rw [tiersOk] at hall; rw [hall, Bool.true_and, Bool.not_eq_true', decide_eq_false_iff_not]; exact c4⟩ (by first | omega | (dsimp only; omega)) (.c rfl (.base 102 rfl rfl)) inferInstance
        · have _t3 := True.intro
          refine XK.exit rfl ?_
          refine XK.seq ?_
          refine XK.region rfl ?_
          refine XO.q (Q.assign rfl) ?_
          refine XO.done ?_
          refine XK.rt [] Try.func46 Try.results46 (.t rfl .n) ?_
          have hin : i = t.tiers.length := by omega
          rw [hin] at hall
          exact ⟨by rw [rightG, if_neg c0, if_neg c1, if_neg c2, if_pos hall], rfl⟩
theorem percent_spec (t : MTariff) (vp vt : Value) (hp ht : PHeap) [jp : Arr vp encI 1 hp t.price] [jt : Arr vt encTier 2 ht t.tiers] (out : Int) : Spec Try.prog 48 #[.agg #[vp, .int .i64 t.base, vt, .int .i64 t.credit], .int .i64 out] [] [hp, ht] (fun v hs => v = .int .i64 (percentL t out) ∧ hs = []) := by
  have lt := jt.le
  refine Spec.intro (fn := Try.f48) (N := 28) Try.func48 rfl Try.ntmps48 rfl fun B => ?_
  refine XK.seq ?_
  refine XK.region rfl ?_
  refine XO.box rfl fun b2 => ?_
  refine XO.q (Q.assign rfl) ?_
  refine XO.done ?_
  refine XK.seq ?_
  refine XK.region rfl ?_
  refine XO.q (Q.assign rfl) ?_
  refine XO.done ?_
  refine XK.seq ?_
  refine XK.seq ?_
  refine XK.region rfl ?_
  refine XO.q (Q.fieldAddr rfl) ?_
  refine XO.q (Q.fieldAddr rfl) ?_
  refine XO.q (Q.ld rfl rfl) ?_
  refine XO.len rfl fun l11 => ?_
  refine XO.q (Q.move rfl) ?_
  refine XO.done ?_
  refine XK.block ?_
  refine XK.while (X := Nat) [5, 7, 12, 13, 14, 15, 16, 17, 18, 19, 20, 21, 22] (fun i => [(12, some (.int .i64 (i : Nat))), (5, some (.int .i64 (pctTo t out i)))]) (fun i => []) (fun i => i ≤ t.tiers.length) (fun i => t.tiers.length - i) (0) [] rfl (by omega) (.c rfl (.c rfl (.base 0 rfl rfl))) ?_
  rintro i hi ih0
  dsimp only [List.cons_append, List.nil_append] at ih0 ⊢
  refine XK.seq ?_
  refine XK.region rfl ?_
  refine XO.q (Q.lss rfl rfl) ?_
  refine XO.done ?_
  refine XK.seq ?_
  refine XK.if rfl (fun c0 => ?_) (fun c0 => ?_)
  · have _t0 := True.intro
    refine XK.skip ?_
    refine XK.seq ?_
    refine XK.block ?_
    refine XK.seq ?_
    refine XK.region rfl ?_
    refine XO.ix rfl rfl (by omega) (by omega) fun i14 => ?_
    refine XO.q (Q.ldEA [_, _] rfl (by first | assumption | omega) rfl rfl) ?_
    refine XO.alloc fun b7 => ?_
    refine XO.st rfl rfl rfl ?_
    refine XO.done ?_
    refine XK.seq ?_
    refine XK.region rfl ?_
    refine XO.q (Q.fieldAddr rfl) ?_
    refine XO.q (Q.ld rfl rfl) ?_
    refine XO.q (Q.move rfl) ?_
    refine XO.q (Q.leq rfl rfl) ?_
    refine XO.done ?_
    refine XK.if rfl (fun c1 => ?_) (fun c1 => ?_)
    · have _t1 := True.intro
      refine XK.region rfl ?_
      refine XO.q (Q.fieldAddr rfl) ?_
      refine XO.q (Q.ld rfl rfl) ?_
      refine XO.q (Q.assign rfl) ?_
      refine XO.done ?_
      refine XK.inBlock ?_
      refine XK.region rfl ?_
      refine XO.q (Q.add rfl rfl ⟨by omega, by omega⟩) ?_
      refine XO.q (Q.move rfl) ?_
      refine XO.done ?_
      rw [show (t.tiers.getD i default).pct = pctTo t out (i + 1) by rw [pctTo, if_pos c1]]
      exact ih0 (i + 1) _ _ (by omega) (by first | omega | (dsimp only; omega)) (.c rfl (.c rfl (.base 28 rfl rfl))) inferInstance
    · have _t1 := True.intro
      refine XK.skip ?_
      refine XK.inBlock ?_
      refine XK.region rfl ?_
      refine XO.q (Q.add rfl rfl ⟨by omega, by omega⟩) ?_
      refine XO.q (Q.move rfl) ?_
      refine XO.done ?_
      rw [show pctTo t out i = pctTo t out (i + 1) by rw [pctTo, if_neg c1]]
      exact ih0 (i + 1) _ _ (by omega) (by first | omega | (dsimp only; omega)) (.c rfl (.c rfl (.base 25 rfl rfl))) inferInstance
  · have _t0 := True.intro
    refine XK.exit rfl ?_
    refine XK.seq ?_
    refine XK.region rfl ?_
    refine XO.q (Q.move rfl) ?_
    refine XO.q (Q.fieldAddr rfl) ?_
    refine XO.q (Q.fieldAddr rfl) ?_
    refine XO.q (Q.ld rfl rfl) ?_
    refine XO.q (Q.min rfl rfl) ?_
    refine XO.q (Q.assign rfl) ?_
    refine XO.done ?_
    refine XK.rt [] Try.func48 Try.results48 (.t rfl .n) ?_
    have hin : i = t.tiers.length := by omega
    rw [hin]
    exact ⟨rfl, rfl⟩
theorem Make_spec (t : MTariff) (vp vt : Value) (hp ht : PHeap) [jp : Arr vp encI 1 hp t.price] [jt : Arr vt encTier 2 ht t.tiers] (u : MUse) (vu : Value) (hu : PHeap) [ju : Arr vu encI 1 hu u.values] : Spec Try.prog 11 #[.agg #[vp, .int .i64 t.base, vt, .int .i64 t.credit], .agg #[vu, .int .i64 u.out]] [] [hp, ht, hu] (fun v hs => v = .tuple #[.agg #[.int .i64 (makeG t u).1.energy, .int .i64 (makeG t u).1.amount, .int .i64 (makeG t u).1.credit, .int .i64 (makeG t u).1.due], .int .i64 (makeG t u).2] ∧ hs = []) := by
  have lu := ju.le
  refine Spec.intro (fn := Try.f11) (N := 86) Try.func11 rfl Try.ntmps11 rfl fun B => ?_
  refine XK.seq ?_
  refine XK.region rfl ?_
  refine XO.box rfl fun b2 => ?_
  refine XO.box rfl fun b3 => ?_
  refine XO.alloc fun b4 => ?_
  refine XO.q (Q.assign rfl) ?_
  refine XO.done ?_
  refine XK.seq ?_
  refine XK.region rfl ?_
  refine XO.q (Q.ldA [_, _, _, _] rfl rfl rfl) ?_
  refine XO.q (Q.build [_, _, _, _] (.c 0 4 rfl rfl rfl (.n _))) ?_
  refine XO.alloc fun b6 => ?_
  refine XO.st rfl rfl rfl ?_
  refine XO.done ?_
  refine XK.seq ?_
  refine XK.seq ?_
  refine XK.region rfl ?_
  refine XO.q (Q.ldA [_, _, _, _] rfl rfl rfl) ?_
  refine XO.call Try.call46 rfl rfl rfl (right_spec t vp vt hp ht) fun v14 s14 R14 => ?_
  obtain ⟨rfl, rfl⟩ := R14
  dsimp only [List.cons_append, List.nil_append]
  refine XO.q (Q.assign rfl) ?_
  refine XO.done ?_
  refine XK.seq ?_
  refine XK.region rfl ?_
  refine XO.q (Q.move rfl) ?_
  refine XO.q (Q.neq rfl rfl) ?_
  refine XO.done ?_
  refine XK.if rfl (fun c0 => ?_) (fun c0 => ?_)
  · have _t0 := True.intro
    refine XK.seq ?_
    refine XK.region rfl ?_
    refine XO.q (Q.build [_, _, _, _] (.n _)) ?_
    refine XO.q (Q.move rfl) ?_
    refine XO.st rfl rfl rfl ?_
    refine XO.q (Q.assign rfl) ?_
    refine XO.done ?_
    refine XK.rt [] Try.func11 Try.results11 (.cell [_, _, _, _] rfl rfl rfl (.t rfl .n)) ?_
    have hw0 : makeG t u = (default, rightG t) := by rw [makeG, if_pos c0]
    rw [hw0]
    exact ⟨rfl, rfl⟩
  · have _t0 := True.intro
    have k := right_ok (Decidable.of_not_not c0)
    have pl := k.len
    have bs := k.base
    refine XK.skip ?_
    refine XK.seq ?_
    refine XK.block ?_
    refine XK.seq ?_
    refine XK.region rfl ?_
    refine XO.q (Q.fieldAddr rfl) ?_
    refine XO.q (Q.ld rfl rfl) ?_
    refine XO.len rfl fun l22 => ?_
    refine XO.q (Q.gtr rfl rfl) ?_
    refine XO.q (Q.assign rfl) ?_
    refine XO.done ?_
    refine XK.if rfl (fun c1 => ?_) (fun c1 => ?_)
    · have _t1 := True.intro
      refine XK.seq ?_
      refine XK.region rfl ?_
      refine XO.q (Q.build [_, _, _, _] (.n _)) ?_
      refine XO.st rfl rfl rfl ?_
      refine XO.q (Q.assign rfl) ?_
      refine XO.done ?_
      refine XK.rt [] Try.func11 Try.results11 (.cell [_, _, _, _] rfl rfl rfl (.t rfl .n)) ?_
      have hw0 : makeG t u = (default, 2) := by rw [makeG, if_neg c0, if_pos c1]
      rw [hw0]
      exact ⟨rfl, rfl⟩
    · have _t1 := True.intro
      refine XK.seq ?_
      refine XK.region rfl ?_
      refine XO.q (Q.fieldAddr rfl) ?_
      refine XO.q (Q.ld rfl rfl) ?_
      refine XO.call Try.call47 rfl rfl rfl (in_spec11 100000 vu hu u.values) fun v28 s28 R28 => ?_
      obtain ⟨rfl, rfl⟩ := R28
      dsimp only [List.cons_append, List.nil_append]
      refine XO.q (Q.not rfl) ?_
      refine XO.q (Q.move rfl) ?_
      refine XO.q (Quiet.guardF rfl rfl fun g31 p31 => Q.fieldAddr rfl) ?_
      refine XO.q (Quiet.guardF rfl rfl fun g32 p32 => Q.ld (lzv g32 rfl) rfl) ?_
      refine XO.lit1 [_] [_] [u.out] encI rfl rfl (by rfl) (by rfl) rfl (by rfl) (fun g33 => by exact .c 0 1 (lzv g33 rfl) rfl rfl (.n _)) (fun _ => rfl) (by rfl) rfl (fun _ => by infer_instance) rfl (fun v33 h33 O33 => ?_)
      refine XO.gcallF rfl rfl Try.call47 rfl (fun g34 => .c rfl (.c (lzv g34 rfl) .n)) rfl (fun g34 p34 => by haveI := O33 g34; exact in_spec11 50000 v33 h33 [u.out]) ?_
      refine XO.q (Quiet.guardF rfl rfl fun g35 p35 => Q.not (lzv g35 rfl)) ?_
      refine XO.q (Q.or rfl (fun hp => lzv hp rfl)) ?_
      refine XO.q (Q.assign rfl) ?_
      refine XO.done ?_
      refine XK.if rfl (fun c2 => ?_) (fun c2 => ?_)
      · have _t2 := True.intro
        refine XK.seq ?_
        refine XK.region rfl ?_
        refine XO.q (Q.build [_, _, _, _] (.n _)) ?_
        refine XO.st rfl rfl rfl ?_
        refine XO.q (Q.assign rfl) ?_
        refine XO.done ?_
        refine XK.rt [] Try.func11 Try.results11 (.cell [_, _, _, _] rfl rfl rfl (.t rfl .n)) ?_
        have hw0 : makeG t u = (default, 6) := by rw [makeG, if_neg c0, if_neg c1, if_pos c2]
        rw [hw0]
        exact ⟨rfl, rfl⟩
      · have _t2 := True.intro
        have q := make_use (t := t) c1 c2
        refine XK.skip ?_
        refine XK.inBlock ?_
        refine XK.seq ?_
        refine XK.region rfl ?_
        refine XO.q (Q.fieldAddr rfl) ?_
        refine XO.q (Q.fieldAddr rfl) ?_
        refine XO.q (Q.ld rfl rfl) ?_
        refine XO.q (Q.build [_, _, _, _] (.c 1 1 rfl rfl rfl (.n _))) ?_
        refine XO.alloc fun b8 => ?_
        refine XO.st rfl rfl rfl ?_
        refine XO.done ?_
        refine XK.seq ?_
        refine XK.seq ?_
        refine XK.region rfl ?_
        refine XO.q (Q.fieldAddr rfl) ?_
        refine XO.q (Q.ld rfl rfl) ?_
        refine XO.len rfl fun l44 => ?_
        refine XO.q (Q.move rfl) ?_
        refine XO.done ?_
        refine XK.block ?_
        refine XK.while (X := Nat) [9, 10, 45, 46, 47, 48, 49, 50, 51, 52, 53, 54, 55, 56, 57, 58, 59, 60, 61, 62, 63, 64, 65, 66, 67, 68] (fun i => [(45, some (.int .i64 (i : Nat)))]) (fun i => [blk b8 [.int .i64 (energyTo u.values i), .int .i64 (amtTo t u.values i), .int .i64 0, .int .i64 0] 37]) (fun i => i ≤ u.values.length) (fun i => u.values.length - i) (0) [blk b8 [.int .i64 0, .int .i64 t.base, .int .i64 0, .int .i64 0] 37] rfl (by omega) (.c rfl (.base 0 rfl rfl)) ?_
        rintro i hi ih0
        dsimp only [List.cons_append, List.nil_append] at ih0 ⊢
        refine XK.seq ?_
        refine XK.region rfl ?_
        refine XO.q (Q.lss rfl rfl) ?_
        refine XO.done ?_
        refine XK.seq ?_
        refine XK.if rfl (fun c3 => ?_) (fun c3 => ?_)
        · have _t3 := True.intro
          have cr := cost_rng k q.vals (n := i) (by omega)
          have ae := amtTo_eq t u.values i
          have er := energy_rng q.vals (n := i) (by omega)
          have co := cost_one k q.vals (i := i) (by omega)
          have va := vals_at q.vals (i := i) (by omega)
          have pa := price_at k i
          change 0 ≤ u.values.getD i default ∧ u.values.getD i default ≤ _ at va
          change 0 ≤ t.price.getD (i % 24) default ∧ t.price.getD (i % 24) default ≤ _ at pa
          change 0 ≤ u.values.getD i default * t.price.getD (i % 24) default ∧ u.values.getD i default * t.price.getD (i % 24) default ≤ _ at co
          refine XK.skip ?_
          refine XK.seq ?_
          refine XK.block ?_
          refine XK.seq ?_
          refine XK.region rfl ?_
          refine XO.q (Q.move rfl) ?_
          refine XO.ix rfl rfl (by omega) (by omega) fun i48 => ?_
          refine XO.q (Q.ldE rfl (by first | assumption | omega) rfl) ?_
          refine XO.q (Q.assign rfl) ?_
          refine XO.q (Q.assign rfl) ?_
          refine XO.done ?_
          refine XK.seq ?_
          refine XK.region rfl ?_
          refine XO.q (Q.fieldAddr rfl) ?_
          refine XO.q (Q.ld rfl rfl) ?_
          refine XO.q (Q.move rfl) ?_
          refine XO.q (Q.add rfl rfl ⟨by omega, by omega⟩) ?_
          rw [show (energyTo u.values i) + u.values.getD i default = energyTo u.values (i + 1) from rfl]
          refine XO.q (Q.fieldAddr rfl) ?_
          refine XO.st rfl rfl rfl ?_
          refine XO.done ?_
          refine XK.drawn [0, 1, 2, 3, 4, 5, 6, 7, 8, 9, 10, 11, 12] [b8, b6] [] (.q 0 (.q 1 (.q 2 (.q 3 (.q 4 (.q 5 (.q 6 (.q 7 (.q 8 (.q 9 (.q 10 (.q 11 (.q 12 (.br 13 false .done .stop)))))))))))))) Try.mixed rfl (by kernel_rfl) ?_
          refine XT.q rfl rfl (Q.fieldAddr rfl) ?_
          refine XT.q rfl rfl (Q.ld rfl rfl) ?_
          refine XT.q rfl rfl (Q.move rfl) ?_
          refine XT.q rfl rfl (Q.fieldAddr rfl) ?_
          refine XT.q rfl rfl (Q.fieldAddr rfl) ?_
          refine XT.q rfl rfl (Q.ld rfl rfl) ?_
          refine XT.q rfl rfl (Q.move rfl) ?_
          refine XT.q rfl rfl (Q.rem rfl rfl (by omega) (by omega)) ?_
          rw [show ((i : Int) % 24) = ((i % 24 : Nat) : Int) from rfl]
          refine XT.ix rfl rfl rfl rfl (by omega) (by omega) fun i63 => ?_
          refine XT.q rfl rfl (Q.ldE rfl (by first | assumption | omega) rfl) ?_
          refine XT.q rfl rfl (Q.mul rfl rfl ⟨by omega, by omega⟩) ?_
          refine XT.q rfl rfl (Q.add rfl rfl ⟨by omega, by omega⟩) ?_
          rw [show (amtTo t u.values i) + u.values.getD i default * t.price.getD (i % 24) default = amtTo t u.values (i + 1) from rfl]
          refine XT.q rfl rfl (Q.fieldAddr rfl) ?_
          refine XT.st rfl rfl rfl rfl rfl ⟨inferInstance, ?_⟩ XT.stop
          refine XT.done ?_
          refine XK.inBlock ?_
          refine XK.region rfl ?_
          refine XO.q (Q.add rfl rfl ⟨by omega, by omega⟩) ?_
          refine XO.q (Q.move rfl) ?_
          refine XO.done ?_
          exact ih0 (i + 1) _ _ (by omega) (by first | omega | (dsimp only; omega)) (.c rfl (.base 53 rfl rfl)) inferInstance
        · have _t3 := True.intro
          have hin : i = u.values.length := by omega
          rw [hin]
          rw [show amtTo t u.values u.values.length = amountL t u from amtTo_eq ..]
          have ar := amount_rng k q
          have crr := credit_rng k q
          clear ih0
          refine XK.exit rfl ?_
          refine XK.seq ?_
          refine XK.drawn [0, 1, 2, 3, 4, 6, 7, 8, 9] [b8, b6, b3] [] (.q 0 (.q 1 (.q 2 (.q 3 (.q 4 (.br 5 true (.q 6 (.q 7 (.q 8 (.q 9 (.br 10 false .done .stop))))) .stop)))))) Try.mixed rfl (by kernel_rfl) ?_
          refine XT.q rfl rfl (Q.fieldAddr rfl) ?_
          refine XT.q rfl rfl (Q.ld rfl rfl) ?_
          refine XT.q rfl rfl (Q.ldA [_, _, _, _] rfl rfl rfl) ?_
          refine XT.q rfl rfl (Q.fieldAddr rfl) ?_
          refine XT.q rfl rfl (Q.ld rfl rfl) ?_
          refine XT.call rfl rfl Try.call48 rfl rfl rfl (percent_spec t vp vt hp ht u.out) (fun v74 s74 R74 => ?_) XT.stop
          obtain ⟨rfl, rfl⟩ := R74
          dsimp only [List.cons_append, List.nil_append]
          refine ⟨inferInstance, ?_⟩
          refine XT.q rfl rfl (Q.mul rfl rfl ⟨by omega, by omega⟩) ?_
          refine XT.q rfl rfl (Q.add rfl rfl ⟨by omega, by omega⟩) ?_
          refine XT.q rfl rfl (Q.quo rfl rfl (by omega) (by omega) (by omega)) ?_
          rw [show (amountL t u * percentL t u.out + 50) / 100 = creditL t u from rfl]
          refine XT.q rfl rfl (Q.fieldAddr rfl) ?_
          refine XT.st rfl rfl rfl rfl rfl ⟨inferInstance, ?_⟩ XT.stop
          refine XT.done ?_
          refine XK.seq ?_
          refine XK.region rfl ?_
          refine XO.q (Q.fieldAddr rfl) ?_
          refine XO.q (Q.ld rfl rfl) ?_
          refine XO.q (Q.fieldAddr rfl) ?_
          refine XO.q (Q.ld rfl rfl) ?_
          refine XO.q (Q.sub rfl rfl ⟨by omega, by omega⟩) ?_
          refine XO.q (Q.fieldAddr rfl) ?_
          refine XO.st rfl rfl rfl ?_
          refine XO.done ?_
          refine XK.seq ?_
          refine XK.region rfl ?_
          refine XO.q (Q.ldA [_, _, _, _] rfl rfl rfl) ?_
          refine XO.st rfl rfl rfl ?_
          refine XO.q (Q.assign rfl) ?_
          refine XO.done ?_
          refine XK.rt [] Try.func11 Try.results11 (.cell [_, _, _, _] rfl rfl rfl (.t rfl .n)) ?_
          have hw0 : makeG t u = (billL t u, 0) := by rw [makeG, if_neg c0, if_neg c1, if_neg c2]
          rw [hw0]
          exact ⟨rfl, rfl⟩
theorem clip_spec (v : Value) (h : PHeap) (xs : List MBill) [s : Arr v encBill 4 h xs] : Spec Try.prog 49 #[v] [] [h] (fun v' hs => v' = clipv v 4 ∧ hs = []) := by
  refine Spec.intro (fn := Try.f49) (N := 9) Try.func49 rfl Try.ntmps49 rfl fun B => ?_
  refine XK.seq ?_
  refine XK.region rfl ?_
  refine XO.q (Q.assign rfl) ?_
  refine XO.done ?_
  refine XK.seq ?_
  refine XK.region rfl ?_
  refine XO.q (Q.move rfl) ?_
  refine XO.q (Q.move rfl) ?_
  refine XO.len rfl fun l5 => ?_
  refine XO.q (Q.move rfl) ?_
  refine XO.len rfl fun l7 => ?_
  refine XO.q (Q.clip rfl rfl rfl) ?_
  refine XO.q (Q.assign rfl) ?_
  refine XO.done ?_
  refine XK.rt [] Try.func49 Try.results49 (.t rfl .n) ?_
  exact ⟨rfl, rfl⟩
theorem map_snd_at {l : List (Value × MUse)} (i : Nat) : (l.map Prod.snd).getD i default = (l.getD i default).2 := by
  rw [List.getD_eq_getElem?_getD, List.getElem?_map, List.getD_eq_getElem?_getD]
  cases l[i]? <;> rfl
theorem bills_snoc (t : MTariff) (l : List MUse) (n : Nat) : (List.range (n + 1)).map (billAt t l) = (List.range n).map (billAt t l) ++ [billAt t l n] := by
  rw [List.range_succ, List.map_append]; rfl
theorem Total_spec (t : MTariff) (vp vt : Value) (hp ht : PHeap) [jp : Arr vp encI 1 hp t.price] [jt : Arr vt encTier 2 ht t.tiers] (l : List (Value × MUse)) (vl : Value) (hl hL : PHeap) [jl : Arr vl encUse 2 hl l] (aL : ∀ i, i < l.length → Arr (l.getD i default).1 encI 1 hL (l.getD i default).2.values) :
    Spec Try.prog 12 #[.agg #[vp, .int .i64 t.base, vt, .int .i64 t.credit], vl] [] [hp, ht, hl, hL] (fun v hs => ∃ v1 k1, v = .tuple #[v1, .agg #[.int .i64 (totalG t (l.map Prod.snd)).2.1.energy, .int .i64 (totalG t (l.map Prod.snd)).2.1.amount, .int .i64 (totalG t (l.map Prod.snd)).2.1.credit, .int .i64 (totalG t (l.map Prod.snd)).2.1.due], .int .i64 (totalG t (l.map Prod.snd)).2.2] ∧ hs = [k1] ∧ Arr v1 encBill 4 k1 (totalG t (l.map Prod.snd)).1) := by
  have hnil : OArr (.slice none 0 0) encBill 4 37 emp ([] : List MBill) := OArr.nil (fun _ => rfl)
  have ll := jl.le
  have hml : (l.map Prod.snd).length = l.length := List.length_map ..
  refine Spec.intro (fn := Try.f12) (N := 62) Try.func12 rfl Try.ntmps12 rfl fun B => ?_
  refine XK.seq ?_
  refine XK.region rfl ?_
  refine XO.box rfl fun b2 => ?_
  refine XO.q (Q.assign rfl) ?_
  refine XO.alloc fun b5 => ?_
  refine XO.q (Q.assign rfl) ?_
  refine XO.done ?_
  refine XK.seq ?_
  refine XK.seq ?_
  refine XK.region rfl ?_
  refine XO.q (Q.move rfl) ?_
  refine XO.len rfl fun l14 => ?_
  refine XO.q (Q.gtr rfl rfl) ?_
  refine XO.done ?_
  refine XK.if rfl (fun c0 => ?_) (fun c0 => ?_)
  · have _t0 := True.intro
    refine XK.seq ?_
    refine XK.region rfl ?_
    refine XO.q (Q.build [_, _, _, _] (.n _)) ?_
    refine XO.q (Q.assign rfl) ?_
    refine XO.st rfl rfl rfl ?_
    refine XO.q (Q.assign rfl) ?_
    refine XO.done ?_
    refine XK.rt [emp] Try.func12 Try.results12 (.t rfl (.cell [_, _, _, _] rfl rfl rfl (.t rfl .n))) ?_
    have hw0 : totalG t (l.map Prod.snd) = ([], default, 2) := by rw [totalG, if_pos (by omega)]
    rw [hw0]
    exact ⟨.slice none 0 0, emp, rfl, rfl, Arr.nil (fun _ => rfl)⟩
  · have _t0 := True.intro
    refine XK.skip ?_
    refine XK.seq ?_
    refine XK.region rfl ?_
    refine XO.q (Q.assign rfl) ?_
    refine XO.done ?_
    refine XK.seq ?_
    refine XK.region rfl ?_
    refine XO.alloc fun b8 => ?_
    refine XO.done ?_
    refine XK.seq ?_
    refine XK.seq ?_
    refine XK.region rfl ?_
    refine XO.q (Q.move rfl) ?_
    refine XO.len rfl fun l18 => ?_
    refine XO.q (Q.move rfl) ?_
    refine XO.done ?_
    refine XK.block ?_
    refine XK.while (X := Nat × Value × PHeap) [4, 6, 7, 10, 11, 12, 19, 20, 21, 22, 23, 24, 25, 26, 27, 28, 29, 30, 31, 32, 33, 34, 35, 36, 37, 38, 39, 40, 41, 42, 43, 44, 45, 46, 47, 48, 49, 50, 51, 52, 53, 54, 55, 56, 57, 58] (fun ⟨i, vo, ko⟩ => [(19, some (.int .i64 (i : Nat))), (7, some (vo))]) (fun ⟨i, vo, ko⟩ => [ko, blk b8 [.int .i64 (sumBill t (l.map Prod.snd) i).energy, .int .i64 (sumBill t (l.map Prod.snd) i).amount, .int .i64 (sumBill t (l.map Prod.snd) i).credit, .int .i64 (sumBill t (l.map Prod.snd) i).due] 37]) (fun ⟨i, vo, ko⟩ => i ≤ l.length ∧ OArr vo encBill 4 37 ko ((List.range i).map (billAt t (l.map Prod.snd))) ∧ errTo t (l.map Prod.snd) i = 0) (fun ⟨i, vo, ko⟩ => l.length - i) (0, .slice none 0 0, emp) [emp, blk b8 [.int .i64 0, .int .i64 0, .int .i64 0, .int .i64 0] 37] rfl ⟨by omega, hnil, rfl⟩ (.c rfl (.c rfl (.base 0 rfl rfl))) ?_
    rintro ⟨i, vo, ko⟩ ⟨hi, OO, he⟩ ih0
    dsimp only [List.cons_append, List.nil_append] at ih0 ⊢
    refine XK.seq ?_
    refine XK.region rfl ?_
    refine XO.q (Q.lss rfl rfl) ?_
    refine XO.done ?_
    refine XK.seq ?_
    refine XK.if rfl (fun c1 => ?_) (fun c1 => ?_)
    · have _t1 := True.intro
      have ai := aL i (by omega)
      have br := make_rng t (l.getD i default).2
      have b1 := br.e
      have b2 := br.a
      have b3 := br.c
      have b4 := br.d
      obtain ⟨s1, s2, s3, s4⟩ := sumBill_rng t (l.map Prod.snd) i
      have eb : billAt t (l.map Prod.snd) i = (makeG t (l.getD i default).2).1 := by rw [billAt, map_snd_at]
      refine XK.skip ?_
      refine XK.seq ?_
      refine XK.block ?_
      refine XK.seq ?_
      refine XK.region rfl ?_
      refine XO.ix rfl rfl (by omega) (by omega) fun i21 => ?_
      refine XO.q (Q.ldEA [_, _] rfl (by first | assumption | omega) rfl rfl) ?_
      refine XO.alloc fun b10 => ?_
      refine XO.st rfl rfl rfl ?_
      refine XO.done ?_
      refine XK.seq ?_
      refine XK.region rfl ?_
      refine XO.q (Q.ldA [_, _, _, _] rfl rfl rfl) ?_
      refine XO.q (Q.ldA [_, _] rfl rfl rfl) ?_
      refine XO.call Try.call11 rfl rfl rfl (Make_spec t vp vt hp ht (l.getD i default).2 (l.getD i default).1 hL) fun v26 s26 R26 => ?_
      obtain ⟨rfl, rfl⟩ := R26
      dsimp only [List.cons_append, List.nil_append]
      refine XO.q (Q.move rfl) ?_
      refine XO.q (Q.extract rfl rfl) ?_
      refine XO.q (Q.extract rfl rfl) ?_
      refine XO.alloc fun b11 => ?_
      refine XO.st rfl rfl rfl ?_
      refine XO.q (Q.assign rfl) ?_
      refine XO.done ?_
      refine XK.seq ?_
      refine XK.seq ?_
      refine XK.region rfl ?_
      refine XO.q (Q.move rfl) ?_
      refine XO.q (Q.neq rfl rfl) ?_
      refine XO.done ?_
      refine XK.if rfl (fun c2 => ?_) (fun c2 => ?_)
      · have _t2 := True.intro
        refine XK.seq ?_
        refine XK.region rfl ?_
        refine XO.q (Q.build [_, _, _, _] (.n _)) ?_
        refine XO.q (Q.move rfl) ?_
        refine XO.q (Q.assign rfl) ?_
        refine XO.st rfl rfl rfl ?_
        refine XO.q (Q.assign rfl) ?_
        refine XO.done ?_
        refine XK.rt [emp] Try.func12 Try.results12 (.t rfl (.cell [_, _, _, _] rfl rfl rfl (.t rfl .n))) ?_
        have hw0 : totalG t (l.map Prod.snd) = ([], default, (makeG t (l.getD i default).2).2) := by
          have e1 : errTo t (l.map Prod.snd) (i + 1) = (makeG t (l.getD i default).2).2 := by rw [errTo, he, if_neg (by decide), map_snd_at]
          have e2 : errTo t (l.map Prod.snd) (l.map Prod.snd).length = (makeG t (l.getD i default).2).2 := by rw [errTo_stay (n := i + 1) (by rw [e1]; exact c2) (by omega), e1]
          rw [totalG, if_neg (by omega), e2, if_pos c2]
        rw [hw0]
        exact ⟨.slice none 0 0, emp, rfl, rfl, Arr.nil (fun _ => rfl)⟩
      · have _t2 := True.intro
        refine XK.skip ?_
        refine XK.seq ?_
        refine XK.region rfl ?_
        refine XO.q (Q.move rfl) ?_
        refine XO.q (Q.ldA [_, _, _, _] rfl rfl rfl) ?_
        refine XO.lit [_, _, _, _] [_, _, _, _] [(makeG t (l.getD i default).2).1] encBill (by rfl) (by rfl) rfl (by rfl) (by exact .c 0 4 rfl rfl rfl (.n _)) (fun _ => rfl) (by rfl) rfl (by infer_instance) rfl fun v35 h35 O35 => ?_
        refine XO.append rfl rfl rfl rfl (by simp only [List.length_map, List.length_range, List.length_cons, List.length_nil]; omega) fun v36 h36 O36 => ?_
        refine XO.q (Q.assign rfl) ?_
        refine XO.done ?_
        refine XK.region rfl ?_
        refine XO.q (Q.fieldAddr rfl) ?_
        refine XO.q (Q.ld rfl rfl) ?_
        refine XO.q (Q.fieldAddr rfl) ?_
        refine XO.q (Q.ld rfl rfl) ?_
        refine XO.q (Q.add rfl rfl ⟨by omega, by omega⟩) ?_
        refine XO.q (Q.fieldAddr rfl) ?_
        refine XO.q (Q.ld rfl rfl) ?_
        refine XO.q (Q.fieldAddr rfl) ?_
        refine XO.q (Q.ld rfl rfl) ?_
        refine XO.q (Q.add rfl rfl ⟨by omega, by omega⟩) ?_
        refine XO.q (Q.fieldAddr rfl) ?_
        refine XO.q (Q.ld rfl rfl) ?_
        refine XO.q (Q.fieldAddr rfl) ?_
        refine XO.q (Q.ld rfl rfl) ?_
        refine XO.q (Q.add rfl rfl ⟨by omega, by omega⟩) ?_
        refine XO.q (Q.fieldAddr rfl) ?_
        refine XO.q (Q.ld rfl rfl) ?_
        refine XO.q (Q.fieldAddr rfl) ?_
        refine XO.q (Q.ld rfl rfl) ?_
        refine XO.q (Q.add rfl rfl ⟨by omega, by omega⟩) ?_
        refine XO.q (Q.build [_, _, _, _] (.c 0 1 rfl rfl rfl (.c 1 1 rfl rfl rfl (.c 2 1 rfl rfl rfl (.c 3 1 rfl rfl rfl (.n _)))))) ?_
        refine XO.st rfl rfl rfl ?_
        refine XO.done ?_
        refine XK.inBlock ?_
        refine XK.region rfl ?_
        refine XO.q (Q.add rfl rfl ⟨by omega, by omega⟩) ?_
        refine XO.q (Q.move rfl) ?_
        refine XO.done ?_
        rw [show (sumBill t (l.map Prod.snd) i).energy + (makeG t (l.getD i default).2).1.energy = (sumBill t (l.map Prod.snd) (i + 1)).energy by rw [← eb]; rfl, show (sumBill t (l.map Prod.snd) i).amount + (makeG t (l.getD i default).2).1.amount = (sumBill t (l.map Prod.snd) (i + 1)).amount by rw [← eb]; rfl, show (sumBill t (l.map Prod.snd) i).credit + (makeG t (l.getD i default).2).1.credit = (sumBill t (l.map Prod.snd) (i + 1)).credit by rw [← eb]; rfl, show (sumBill t (l.map Prod.snd) i).due + (makeG t (l.getD i default).2).1.due = (sumBill t (l.map Prod.snd) (i + 1)).due by rw [← eb]; rfl]
        exact ih0 (i + 1, v36, h36) _ _ ⟨by dsimp only; omega, by dsimp only; rw [bills_snoc, eb]; exact O36, by dsimp only; rw [errTo, he, if_neg (by decide), map_snd_at]; exact Decidable.of_not_not c2⟩ (by first | omega | (dsimp only; omega)) (.c rfl (.c rfl (.base 90 rfl rfl))) inferInstance
    · have _t1 := True.intro
      have hin : i = l.length := by omega
      subst hin
      have cA := Arr.clip (OArr.arr (s := OO))
      refine XK.exit rfl ?_
      refine XK.seq ?_
      refine XK.drawn [0, 2, 3, 5] [b8] [] (.q 0 (.q 2 (.br 1 true (.q 3 (.br 4 true (.q 5 .done) .stop)) .stop))) Try.mixed rfl (by kernel_rfl) ?_
      refine XT.q rfl rfl (Q.move rfl) ?_
      refine XT.q rfl rfl (Q.ldA [_, _, _, _] rfl rfl rfl) ?_
      refine XT.call rfl rfl Try.call49 rfl rfl rfl (clip_spec vo ko ((List.range l.length).map (billAt t (l.map Prod.snd)))) (fun v60 s60 R60 => ?_) XT.stop
      obtain ⟨rfl, rfl⟩ := R60
      dsimp only [List.cons_append, List.nil_append]
      refine ⟨inferInstance, ?_⟩
      refine XT.q rfl rfl (Q.assign rfl) ?_
      refine XT.st rfl rfl rfl rfl rfl ⟨inferInstance, ?_⟩ XT.stop
      refine XT.q rfl rfl (Q.assign rfl) ?_
      refine XT.done ?_
      refine XK.rt [ko] Try.func12 Try.results12 (.t rfl (.cell [_, _, _, _] rfl rfl rfl (.t rfl .n))) ?_
      have hw0 : totalG t (l.map Prod.snd) = ((List.range l.length).map (billAt t (l.map Prod.snd)), sumBill t (l.map Prod.snd) l.length, 0) := by rw [totalG, if_neg (by omega), hml, he, if_neg (by decide)]
      rw [hw0]
      exact ⟨_, ko, rfl, rfl, cA⟩
end Go.X

set_option linter.unusedSimpArgs false
set_option linter.unusedVariables false
set_option maxRecDepth 20000
namespace Go.X
open Go.Proofs
theorem sameInts (va vb : Value) (ha hb : PHeap) (a b : List Int) [ia : Arr va encI 1 ha a] [ib : Arr vb encI 1 hb b] : Spec Try.prog 118 #[va, vb] [] [ha, hb] (fun v hs => v = .bool (decide (a = b)) ∧ hs = []) := by
  have la := ia.le
  refine Spec.intro (fn := Try.f118) (N := 26) Try.func118 rfl Try.ntmps118 rfl fun B => ?_
  refine XK.seq ?_
  refine XK.region rfl ?_
  refine XO.q (Q.assign rfl) ?_
  refine XO.done ?_
  refine XK.seq ?_
  refine XK.seq ?_
  refine XK.region rfl ?_
  refine XO.q (Q.move rfl) ?_
  refine XO.len rfl fun l7 => ?_
  refine XO.q (Q.move rfl) ?_
  refine XO.len rfl fun l9 => ?_
  refine XO.q (Q.neq rfl rfl) ?_
  refine XO.done ?_
  refine XK.if rfl (fun c0 => ?_) (fun c0 => ?_)
  · have _t0 := True.intro
    refine XK.seq ?_
    refine XK.region rfl ?_
    refine XO.q (Q.assign rfl) ?_
    refine XO.done ?_
    refine XK.rt [] Try.func118 Try.results118 (.t rfl .n) ?_
    exact ⟨by rw [decide_eq_false (fun h => c0 (by rw [h]))], rfl⟩
  · have _t0 := True.intro
    refine XK.skip ?_
    refine XK.seq ?_
    refine XK.seq ?_
    refine XK.region rfl ?_
    refine XO.q (Q.assign rfl) ?_
    refine XO.done ?_
    refine XK.block ?_
    refine XK.while (X := Nat) [4, 5, 11, 12, 13, 14, 15, 16, 17, 18, 19, 20, 21, 22, 23, 24, 25] (fun i => [(5, some (.int .i64 (i : Nat)))]) (fun i => []) (fun i => i ≤ a.length ∧ a.take i = b.take i) (fun i => a.length - i) (0) [] rfl ⟨by omega, rfl⟩ (.c rfl (.base 0 rfl rfl)) ?_
    rintro i ⟨hi, ht⟩ ih0
    dsimp only [List.cons_append, List.nil_append] at ih0 ⊢
    refine XK.seq ?_
    refine XK.seq ?_
    refine XK.region rfl ?_
    refine XO.q (Q.move rfl) ?_
    refine XO.q (Q.move rfl) ?_
    refine XO.len rfl fun l13 => ?_
    refine XO.q (Q.lss rfl rfl) ?_
    refine XO.done ?_
    refine XK.if rfl (fun c1 => ?_) (fun c1 => ?_)
    · have _t1 := True.intro
      refine XK.skip ?_
      refine XK.seq ?_
      refine XK.block ?_
      refine XK.seq ?_
      refine XK.drawn [0, 1, 2, 3, 4, 5, 6, 7, 8] [] [] (.q 0 (.q 1 (.q 2 (.q 3 (.q 4 (.q 5 (.q 6 (.q 7 (.q 8 .done))))))))) Try.mixed rfl (by kernel_rfl) ?_
      refine XT.q rfl rfl (Q.move rfl) ?_
      refine XT.q rfl rfl (Q.move rfl) ?_
      refine XT.ix rfl rfl rfl rfl (by omega) (by omega) fun i19 => ?_
      refine XT.q rfl rfl (Q.ldE rfl (by first | assumption | omega) rfl) ?_
      refine XT.q rfl rfl (Q.move rfl) ?_
      refine XT.q rfl rfl (Q.move rfl) ?_
      refine XT.ix rfl rfl rfl rfl (by omega) (by omega) fun i23 => ?_
      refine XT.q rfl rfl (Q.ldE rfl (by first | assumption | omega) rfl) ?_
      refine XT.q rfl rfl (Q.neq rfl rfl) ?_
      refine XT.done ?_
      refine XK.if rfl (fun c2 => ?_) (fun c2 => ?_)
      · have _t2 := True.intro
        refine XK.seq ?_
        refine XK.region rfl ?_
        refine XO.q (Q.assign rfl) ?_
        refine XO.done ?_
        refine XK.rt [] Try.func118 Try.results118 (.t rfl .n) ?_
        exact ⟨by rw [decide_eq_false (fun h => c2 (by rw [h]))], rfl⟩
      · have _t2 := True.intro
        refine XK.skip ?_
        refine XK.inBlock ?_
        refine XK.region rfl ?_
        refine XO.q (Q.move rfl) ?_
        refine XO.q (Q.add rfl rfl ⟨by omega, by omega⟩) ?_
        refine XO.q (Q.assign rfl) ?_
        refine XO.done ?_
        exact ih0 (i + 1) _ _ ⟨by omega, take_step ht (by omega) (by omega) (Decidable.of_not_not c2)⟩ (by first | omega | (dsimp only; omega)) (.c rfl (.base 34 rfl rfl)) inferInstance
    · have _t1 := True.intro
      refine XK.exit rfl ?_
      refine XK.seq ?_
      refine XK.region rfl ?_
      refine XO.q (Q.assign rfl) ?_
      refine XO.done ?_
      refine XK.rt [] Try.func118 Try.results118 (.t rfl .n) ?_
      exact ⟨by rw [decide_eq_true (take_all ht c1 (by omega))], rfl⟩
theorem sameList (va vb : Value) (ha hb : PHeap) (a b : List Int) [ia : Arr va encI 1 ha a] [ib : Arr vb encI 1 hb b] : Spec Try.prog 89 #[va, vb] [] [ha, hb] (fun v hs => v = .bool (decide (a = b)) ∧ hs = []) := by
  refine Spec.intro (fn := Try.f89) (N := 8) Try.func89 rfl Try.ntmps89 rfl fun B => ?_
  refine XK.seq ?_
  refine XK.region rfl ?_
  refine XO.q (Q.assign rfl) ?_
  refine XO.done ?_
  refine XK.seq ?_
  refine XK.region rfl ?_
  refine XO.q (Q.move rfl) ?_
  refine XO.q (Q.move rfl) ?_
  refine XO.call Try.call118 rfl rfl rfl (sameInts va vb ha hb a b) fun v7 s7 R7 => ?_
  obtain ⟨rfl, rfl⟩ := R7
  dsimp only [List.cons_append, List.nil_append]
  refine XO.q (Q.assign rfl) ?_
  refine XO.done ?_
  refine XK.rt [] Try.func89 Try.results89 (.t rfl .n) ?_
  exact ⟨rfl, rfl⟩
theorem sameLists (va vb : Value) (ha hb Ka Kb : PHeap) (us ws : List Value) [ia : Arr va encV 1 ha us] [ib : Arr vb encV 1 hb ws] (a b : List (List Int)) (ra : RowsK us Ka a) (rb : RowsK ws Kb b) : Spec Try.prog 50 #[va, vb] [] [ha, hb, Ka, Kb] (fun v hs => v = .bool (decide (a = b)) ∧ hs = []) := by
  have la := ia.le
  have l1 := ra.1
  have l2 := rb.1
  refine Spec.intro (fn := Try.f50) (N := 27) Try.func50 rfl Try.ntmps50 rfl fun B => ?_
  refine XK.seq ?_
  refine XK.region rfl ?_
  refine XO.q (Q.assign rfl) ?_
  refine XO.done ?_
  refine XK.seq ?_
  refine XK.seq ?_
  refine XK.region rfl ?_
  refine XO.q (Q.move rfl) ?_
  refine XO.len rfl fun l7 => ?_
  refine XO.q (Q.move rfl) ?_
  refine XO.len rfl fun l9 => ?_
  refine XO.q (Q.neq rfl rfl) ?_
  refine XO.done ?_
  refine XK.if rfl (fun c0 => ?_) (fun c0 => ?_)
  · have _t0 := True.intro
    refine XK.seq ?_
    refine XK.region rfl ?_
    refine XO.q (Q.assign rfl) ?_
    refine XO.done ?_
    refine XK.rt [] Try.func50 Try.results50 (.t rfl .n) ?_
    exact ⟨by rw [decide_eq_false (fun h => c0 (by rw [l1, l2, h]))], rfl⟩
  · have _t0 := True.intro
    refine XK.skip ?_
    refine XK.seq ?_
    refine XK.seq ?_
    refine XK.region rfl ?_
    refine XO.q (Q.assign rfl) ?_
    refine XO.done ?_
    refine XK.block ?_
    refine XK.while (X := Nat) [4, 5, 11, 12, 13, 14, 15, 16, 17, 18, 19, 20, 21, 22, 23, 24, 25, 26] (fun i => [(5, some (.int .i64 (i : Nat)))]) (fun i => []) (fun i => i ≤ us.length ∧ a.take i = b.take i) (fun i => us.length - i) (0) [] rfl ⟨by omega, rfl⟩ (.c rfl (.base 0 rfl rfl)) ?_
    rintro i ⟨hi, ht⟩ ih0
    dsimp only [List.cons_append, List.nil_append] at ih0 ⊢
    refine XK.seq ?_
    refine XK.seq ?_
    refine XK.region rfl ?_
    refine XO.q (Q.move rfl) ?_
    refine XO.q (Q.move rfl) ?_
    refine XO.len rfl fun l13 => ?_
    refine XO.q (Q.lss rfl rfl) ?_
    refine XO.done ?_
    refine XK.if rfl (fun c1 => ?_) (fun c1 => ?_)
    · have _t1 := True.intro
      have aa := ra.2 i (by omega)
      have ab := rb.2 i (by omega)
      refine XK.skip ?_
      refine XK.seq ?_
      refine XK.block ?_
      refine XK.seq ?_
      refine XK.drawn [0, 1, 2, 3, 4, 5, 6, 7, 9] [] [] (.q 0 (.q 1 (.q 2 (.q 3 (.q 4 (.q 5 (.q 6 (.q 7 (.br 8 true (.q 9 .done) .stop))))))))) Try.mixed rfl (by kernel_rfl) ?_
      refine XT.q rfl rfl (Q.move rfl) ?_
      refine XT.q rfl rfl (Q.move rfl) ?_
      refine XT.ix rfl rfl rfl rfl (by omega) (by omega) fun i19 => ?_
      refine XT.q rfl rfl (Q.ldE rfl (by first | assumption | omega) rfl) ?_
      refine XT.q rfl rfl (Q.move rfl) ?_
      refine XT.q rfl rfl (Q.move rfl) ?_
      refine XT.ix rfl rfl rfl rfl (by omega) (by omega) fun i23 => ?_
      refine XT.q rfl rfl (Q.ldE rfl (by first | assumption | omega) rfl) ?_
      refine XT.call rfl rfl Try.call89 rfl rfl rfl (sameList (us.getD i default) (ws.getD i default) Ka Kb (a.getD i default) (b.getD i default)) (fun v25 s25 R25 => ?_) XT.stop
      obtain ⟨rfl, rfl⟩ := R25
      dsimp only [List.cons_append, List.nil_append]
      refine ⟨inferInstance, ?_⟩
      refine XT.q rfl rfl (Q.not rfl) ?_
      refine XT.done ?_
      refine XK.if rfl (fun c2 => ?_) (fun c2 => ?_)
      · have _t2 := True.intro
        refine XK.seq ?_
        refine XK.region rfl ?_
        refine XO.q (Q.assign rfl) ?_
        refine XO.done ?_
        refine XK.rt [] Try.func50 Try.results50 (.t rfl .n) ?_
        exact ⟨by rw [decide_eq_false (fun h => c2 (by rw [h]))], rfl⟩
      · have _t2 := True.intro
        refine XK.skip ?_
        refine XK.inBlock ?_
        refine XK.region rfl ?_
        refine XO.q (Q.move rfl) ?_
        refine XO.q (Q.add rfl rfl ⟨by omega, by omega⟩) ?_
        refine XO.q (Q.assign rfl) ?_
        refine XO.done ?_
        exact ih0 (i + 1) _ _ ⟨by omega, take_step ht (by omega) (by omega) (Decidable.of_not_not c2)⟩ (by first | omega | (dsimp only; omega)) (.c rfl (.base 36 rfl rfl)) inferInstance
    · have _t1 := True.intro
      refine XK.exit rfl ?_
      refine XK.seq ?_
      refine XK.region rfl ?_
      refine XO.q (Q.assign rfl) ?_
      refine XO.done ?_
      refine XK.rt [] Try.func50 Try.results50 (.t rfl .n) ?_
      exact ⟨by rw [decide_eq_true (take_all ht (by omega) (by omega))], rfl⟩
theorem mul64_one (n : Nat) (h : n ≤ 4294967295) : Spec Try.prog 104 #[.int .u64 1, .int .u64 (n : Nat)] [] [] (fun v hs => v = .tuple #[.int .u64 0, .int .u64 (n : Nat)] ∧ hs = []) := by
  have h1 : (1 : Int) % 4294967296 = 1 := by decide
  have h2 : (1 : Int) / 4294967296 = 0 := by decide
  have h3 : (n : Int) % 4294967296 = n := by omega
  have h4 : (n : Int) / 4294967296 = 0 := by omega
  have h5 : (0 : Int) % 4294967296 = 0 := by decide
  have h6 : (0 : Int) / 4294967296 = 0 := by decide
  refine Spec.intro (fn := Try.f104) (N := 51) Try.func104 rfl Try.ntmps104 rfl fun B => ?_
  refine XK.seq ?_
  refine XK.region rfl ?_
  refine XO.q (Q.assign rfl) ?_
  refine XO.q (Q.assign rfl) ?_
  refine XO.done ?_
  refine XK.seq ?_
  refine XK.region rfl ?_
  refine XO.q (Q.move rfl) ?_
  refine XO.q (Q.mask32 rfl rfl (by omega)) ?_
  rw [h1]
  refine XO.q (Q.assign rfl) ?_
  refine XO.done ?_
  refine XK.seq ?_
  refine XK.region rfl ?_
  refine XO.q (Q.move rfl) ?_
  refine XO.q (Q.shr32 rfl rfl) ?_
  rw [h2]
  refine XO.q (Q.assign rfl) ?_
  refine XO.done ?_
  refine XK.seq ?_
  refine XK.region rfl ?_
  refine XO.q (Q.move rfl) ?_
  refine XO.q (Q.mask32 rfl rfl (by omega)) ?_
  rw [h3]
  refine XO.q (Q.assign rfl) ?_
  refine XO.done ?_
  refine XK.seq ?_
  refine XK.region rfl ?_
  refine XO.q (Q.move rfl) ?_
  refine XO.q (Q.shr32 rfl rfl) ?_
  rw [h4]
  refine XO.q (Q.assign rfl) ?_
  refine XO.done ?_
  refine XK.seq ?_
  refine XK.region rfl ?_
  refine XO.q (Q.move rfl) ?_
  refine XO.q (Q.move rfl) ?_
  refine XO.q (Q.mulU rfl rfl (by omega)) ?_
  rw [Int.one_mul]
  refine XO.q (Q.assign rfl) ?_
  refine XO.done ?_
  refine XK.seq ?_
  refine XK.region rfl ?_
  refine XO.q (Q.move rfl) ?_
  refine XO.q (Q.move rfl) ?_
  refine XO.q (Q.mulU rfl rfl (by omega)) ?_
  rw [Int.zero_mul]
  refine XO.q (Q.move rfl) ?_
  refine XO.q (Q.shr32 rfl rfl) ?_
  rw [h4]
  refine XO.q (Q.addU rfl rfl (by omega)) ?_
  rw [Int.add_zero]
  refine XO.q (Q.assign rfl) ?_
  refine XO.done ?_
  refine XK.seq ?_
  refine XK.region rfl ?_
  refine XO.q (Q.move rfl) ?_
  refine XO.q (Q.mask32 rfl rfl (by omega)) ?_
  rw [h5]
  refine XO.q (Q.assign rfl) ?_
  refine XO.done ?_
  refine XK.seq ?_
  refine XK.region rfl ?_
  refine XO.q (Q.move rfl) ?_
  refine XO.q (Q.shr32 rfl rfl) ?_
  rw [h6]
  refine XO.q (Q.assign rfl) ?_
  refine XO.done ?_
  refine XK.seq ?_
  refine XK.region rfl ?_
  refine XO.q (Q.move rfl) ?_
  refine XO.q (Q.move rfl) ?_
  refine XO.q (Q.move rfl) ?_
  refine XO.q (Q.mulU rfl rfl (by omega)) ?_
  rw [Int.mul_zero]
  refine XO.q (Q.addU rfl rfl (by omega)) ?_
  rw [Int.add_zero]
  refine XO.q (Q.assign rfl) ?_
  refine XO.done ?_
  refine XK.seq ?_
  refine XK.region rfl ?_
  refine XO.q (Q.move rfl) ?_
  refine XO.q (Q.move rfl) ?_
  refine XO.q (Q.mulU rfl rfl (by omega)) ?_
  rw [Int.mul_zero]
  refine XO.q (Q.move rfl) ?_
  refine XO.q (Q.addU rfl rfl (by omega)) ?_
  rw [Int.add_zero]
  refine XO.q (Q.move rfl) ?_
  refine XO.q (Q.shr32 rfl rfl) ?_
  rw [h6]
  refine XO.q (Q.addU rfl rfl (by omega)) ?_
  rw [Int.add_zero]
  refine XO.q (Q.assign rfl) ?_
  refine XO.done ?_
  refine XK.seq ?_
  refine XK.region rfl ?_
  refine XO.q (Q.move rfl) ?_
  refine XO.q (Q.move rfl) ?_
  refine XO.q (Q.mulU rfl rfl (by omega)) ?_
  rw [Int.one_mul]
  refine XO.q (Q.assign rfl) ?_
  refine XO.done ?_
  refine XK.rt [] Try.func104 Try.results104 (.t rfl (.t rfl .n)) ?_
  exact ⟨rfl, rfl⟩
theorem mul_one' (n : Nat) (h : n ≤ 4294967295) : Spec Try.prog 82 #[.int .u64 1, .int .u64 (n : Nat)] [] [] (fun v hs => v = .tuple #[.int .u64 0, .int .u64 (n : Nat)] ∧ hs = []) := by
  refine Spec.intro (fn := Try.f82) (N := 30) Try.func82 rfl Try.ntmps82 rfl fun B => ?_
  refine XK.seq ?_
  refine XK.region rfl ?_
  refine XO.q (Q.assign rfl) ?_
  refine XO.q (Q.assign rfl) ?_
  refine XO.done ?_
  refine XK.seq ?_
  refine XK.if rfl (fun c0 => ?_) (fun c0 => ?_)
  · have _t0 := True.intro
    exact c0.elim
  · have _t0 := True.intro
    refine XK.skip ?_
    refine XK.seq ?_
    refine XK.region rfl ?_
    refine XO.q (Q.move rfl) ?_
    refine XO.q (Q.move rfl) ?_
    refine XO.call Try.call104 rfl rfl rfl (mul64_one n h) fun v25 s25 R25 => ?_
    obtain ⟨rfl, rfl⟩ := R25
    dsimp only [List.cons_append, List.nil_append]
    refine XO.q (Q.move rfl) ?_
    refine XO.q (Q.extract rfl rfl) ?_
    refine XO.q (Q.extract rfl rfl) ?_
    refine XO.q (Q.assign rfl) ?_
    refine XO.q (Q.assign rfl) ?_
    refine XO.done ?_
    refine XK.seq ?_
    refine XK.region rfl ?_
    refine XO.q (Q.move rfl) ?_
    refine XO.q (Q.move rfl) ?_
    refine XO.q (Q.assign rfl) ?_
    refine XO.q (Q.assign rfl) ?_
    refine XO.done ?_
    refine XK.rt [] Try.func82 Try.results82 (.t rfl (.t rfl .n)) ?_
    exact ⟨rfl, rfl⟩
theorem repeatI (v : Value) (h : PHeap) (x : Int) [s : Arr v encI 1 h [x]] (n : Nat) (hn : n ≤ 4294967295) : Spec Try.prog 40 #[v, .int .i64 (n : Nat)] [] [h] (fun v' hs => ∃ h', hs = [h'] ∧ OArr v' encI 1 3 h' (List.replicate n x)) := by
  have hw1 : IntKind.u64.wrap ((([x] : List Int).length : Nat) : Int) = 1 := rfl
  have hw2 : IntKind.u64.wrap ((n : Nat) : Int) = n := wrapu64 (by omega)
  have hw3 : IntKind.i64.wrap ((n : Nat) : Int) = n := wrap64_of ⟨by omega, by omega⟩
  have hl1 : ([x] : List Int).length = 1 := rfl
  refine Spec.intro (fn := Try.f40) (N := 48) Try.func40 rfl Try.ntmps40 rfl fun B => ?_
  refine XK.seq ?_
  refine XK.region rfl ?_
  refine XO.q (Q.assign rfl) ?_
  refine XO.done ?_
  refine XK.seq ?_
  refine XK.seq ?_
  refine XK.region rfl ?_
  refine XO.q (Q.move rfl) ?_
  refine XO.q (Q.lss rfl rfl) ?_
  refine XO.done ?_
  refine XK.if rfl (fun c0 => ?_) (fun c0 => ?_)
  · have _t0 := True.intro
    exact absurd c0 (by omega)
  · have _t0 := True.intro
    refine XK.skip ?_
    refine XK.seq ?_
    refine XK.region rfl ?_
    refine XO.q (Q.move rfl) ?_
    refine XO.len rfl fun l14 => ?_
    refine XO.q (Q.conv rfl) ?_
    rw [hw1]
    refine XO.q (Q.move rfl) ?_
    refine XO.q (Q.conv rfl) ?_
    rw [hw2]
    refine XO.call Try.call82 rfl rfl rfl (mul_one' n hn) fun v18 s18 R18 => ?_
    obtain ⟨rfl, rfl⟩ := R18
    dsimp only [List.cons_append, List.nil_append]
    refine XO.q (Q.move rfl) ?_
    refine XO.q (Q.extract rfl rfl) ?_
    refine XO.q (Q.extract rfl rfl) ?_
    refine XO.q (Q.assign rfl) ?_
    refine XO.q (Q.assign rfl) ?_
    refine XO.done ?_
    refine XK.seq ?_
    refine XK.seq ?_
    refine XK.region rfl ?_
    refine XO.q (Q.move rfl) ?_
    refine XO.q (Q.gtr rfl rfl) ?_
    refine XO.q (Q.move rfl) ?_
    refine XO.q (Quiet.guardF rfl rfl fun g24 p24 => Q.move rfl) ?_
    refine XO.q (Quiet.guardF rfl rfl fun g25 p25 => Q.gtr (lzv g25 rfl) rfl) ?_
    refine XO.q (Q.or rfl (fun hp => lzv hp rfl)) ?_
    refine XO.done ?_
    refine XK.if rfl (fun c1 => ?_) (fun c1 => ?_)
    · have _t1 := True.intro
      exact absurd c1 (by omega)
    · have _t1 := True.intro
      refine XK.skip ?_
      refine XK.seq ?_
      refine XK.region rfl ?_
      refine XO.q (Q.move rfl) ?_
      refine XO.q (Q.conv rfl) ?_
      rw [hw3]
      refine XO.make encI (0) rfl rfl rfl (by omega) (by omega) (fun _ => rfl) rfl rfl rfl (by dsimp only [encI]; infer_instance) fun v30 h30 O30 => ?_
      refine XO.q (Q.assign rfl) ?_
      refine XO.done ?_
      refine XK.seq ?_
      refine XK.region rfl ?_
      refine XO.q (Q.move rfl) ?_
      refine XO.q (Q.move rfl) ?_
      refine XO.copy rfl (tailv_zero (s := O30)).symm rfl (by omega) fun h33 O33 => ?_
      rw [show min ([x] : List Int).length ((List.replicate n (0 : Int)).length - 0) = min 1 n by simp]
      refine XO.q (Q.assign rfl) ?_
      refine XO.done ?_
      refine XK.seq ?_
      refine XK.block ?_
      refine XK.while (X := Nat × PHeap) [8, 34, 35, 36, 37, 38, 39, 40, 41, 42, 43, 44, 45, 46] (fun ⟨m, hM⟩ => [(8, some (.int .i64 (m : Nat)))]) (fun ⟨m, hM⟩ => [hM]) (fun ⟨m, hM⟩ => m ≤ n ∧ (0 < n → 0 < m) ∧ OArr v30 encI 1 3 hM (List.replicate m x ++ List.replicate (n - m) 0)) (fun ⟨m, hM⟩ => n - m) (min 1 n, h33) [h33] rfl ⟨by omega, by omega, by have := O33; rw [repeat_first] at this; exact this⟩ (.c rfl (.base 0 rfl rfl)) ?_
      rintro ⟨m, hM⟩ ⟨hm, hm0, OM⟩ ih0
      dsimp only [List.cons_append, List.nil_append] at ih0 ⊢
      have hlm : (List.replicate m x ++ List.replicate (n - m) 0).length = n := by rw [List.length_append, List.length_replicate, List.length_replicate]; omega
      have hmm : min (((List.replicate m x ++ List.replicate (n - m) (0 : Int)).drop 0).take (m - 0)).length ((List.replicate m x ++ List.replicate (n - m) (0 : Int)).length - m) = min m (n - m) := by
        rw [hlm, List.drop_zero, List.length_take, hlm]; omega
      refine XK.seq ?_
      refine XK.seq ?_
      refine XK.region rfl ?_
      refine XO.q (Q.move rfl) ?_
      refine XO.q (Q.move rfl) ?_
      refine XO.len rfl fun l36 => ?_
      refine XO.q (Q.lss rfl rfl) ?_
      refine XO.done ?_
      refine XK.if rfl (fun c2 => ?_) (fun c2 => ?_)
      · have _t2 := True.intro
        refine XK.skip ?_
        refine XK.block ?_
        refine XK.drawn [0, 1, 2, 3, 4, 5, 6, 8, 9] [] [] (.q 0 (.q 1 (.q 2 (.q 3 (.q 4 (.q 5 (.q 6 (.br 7 true (.q 8 (.q 9 .done)) .stop)))))))) Try.mixed rfl (by kernel_rfl) ?_
        refine XT.q rfl rfl (Q.move rfl) ?_
        refine XT.q rfl rfl (Q.move rfl) ?_
        refine XT.q rfl rfl (Q.move rfl) ?_
        refine XT.q rfl rfl (Q.tail (i := m) rfl (.s rfl (by omega)) (by omega)) ?_
        refine XT.q rfl rfl (Q.move rfl) ?_
        refine XT.q rfl rfl (Q.move rfl) ?_
        refine XT.q rfl rfl (Q.cut (i := 0) (j := m) rfl .n (.s rfl (by omega)) (by omega) (by omega)) ?_
        have A44 := Arr.cut (v := v30) (i := 0) (j := m) inferInstance (by omega) (by omega)
        refine XT.copy rfl rfl rfl rfl rfl (by omega) (fun h45 O45 => ⟨inferInstance, ?_⟩) XT.stop
        rw [hmm]
        refine XT.q rfl rfl (Q.add rfl rfl ⟨by omega, by omega⟩) ?_
        rw [show ((m : Int) + ((min m (n - m) : Nat) : Int)) = ((m + min m (n - m) : Nat) : Int) from rfl]
        refine XT.q rfl rfl (Q.assign rfl) ?_
        refine XT.done ?_
        refine XK.inBlock ?_
        exact ih0 (m + min m (n - m), h45) _ _ ⟨by omega, by omega, by have := O45; rw [repeat_step x 0 hm] at this; exact this⟩ (by first | omega | (dsimp only; omega)) (.c rfl (.base 29 rfl rfl)) inferInstance
      · have _t2 := True.intro
        refine XK.exit rfl ?_
        refine XK.seq ?_
        refine XK.region rfl ?_
        refine XO.q (Q.move rfl) ?_
        refine XO.q (Q.assign rfl) ?_
        refine XO.done ?_
        refine XK.rt [hM] Try.func40 Try.results40 (.t rfl .n) ?_
        have hmn : m = n := by omega
        subst hmn
        exact ⟨hM, rfl, by simpa using OM⟩
theorem example11 : Spec Try.prog 38 #[] [] [] (fun v hs => ∃ vn vv kn kv, v = .agg #[vn, vv] ∧ hs = [kn, kv] ∧ OArr vn encNode 3 97 kn exC.nodes ∧ OArr vv encI 1 3 kv exC.vals) := by
  refine Spec.intro (fn := Try.f38) (N := 7) Try.func38 rfl Try.ntmps38 rfl fun B => ?_
  refine XK.seq ?_
  refine XK.region rfl ?_
  refine XO.alloc fun b0 => ?_
  refine XO.done ?_
  refine XK.seq ?_
  refine XK.region rfl ?_
  refine XO.q (Q.build [_, _, _] (.c 0 1 rfl rfl rfl (.c 2 1 rfl rfl rfl (.n _)))) ?_
  refine XO.q (Q.build [_, _, _] (.n _)) ?_
  refine XO.q (Q.build [_, _, _] (.n _)) ?_
  refine XO.lit [_, _, _, _, _, _, _, _, _] [_, _, _, _, _, _, _, _, _] [⟨-1, 0, 5⟩, ⟨0, 0, 0⟩, ⟨0, 0, 0⟩] encNode (by rfl) (by rfl) rfl (by rfl) (by exact .c 0 3 rfl rfl rfl (.c 3 3 rfl rfl rfl (.c 6 3 rfl rfl rfl (.n _)))) (fun _ => rfl) (by rfl) rfl (by infer_instance) rfl fun v4 h4 O4 => ?_
  refine XO.lit [_, _, _] [_, _, _] [100, 60, 50] encI (by rfl) (by rfl) rfl (by rfl) (by exact .c 0 1 rfl rfl rfl (.c 1 1 rfl rfl rfl (.c 2 1 rfl rfl rfl (.n _)))) (fun _ => rfl) (by rfl) rfl (by infer_instance) rfl fun v5 h5 O5 => ?_
  refine XO.q (Q.build [_, _] (.c 0 1 rfl rfl rfl (.c 1 1 rfl rfl rfl (.n _)))) ?_
  refine XO.st rfl rfl rfl ?_
  refine XO.done ?_
  refine XK.rt [h4, h5] Try.func38 Try.results38 (.cell [_, _] rfl rfl rfl (.n)) ?_
  exact ⟨v4, v5, h4, h5, rfl, rfl, O4, O5⟩
theorem tariff11 : Spec Try.prog 39 #[] [] [] (fun v hs => ∃ vp vt kp kt, v = .agg #[vp, .int .i64 exT.base, vt, .int .i64 exT.credit] ∧ hs = [kp, kt] ∧ OArr vp encI 1 3 kp exT.price ∧ OArr vt encTier 2 33 kt exT.tiers) := by
  refine Spec.intro (fn := Try.f39) (N := 7) Try.func39 rfl Try.ntmps39 rfl fun B => ?_
  refine XK.seq ?_
  refine XK.region rfl ?_
  refine XO.alloc fun b0 => ?_
  refine XO.done ?_
  refine XK.seq ?_
  refine XK.region rfl ?_
  refine XO.lit [_] [_] [10] encI (by rfl) (by rfl) rfl (by rfl) (by exact .c 0 1 rfl rfl rfl (.n _)) (fun _ => rfl) (by rfl) rfl (by infer_instance) rfl fun v1 h1 O1 => ?_
  refine XO.call Try.call40 rfl rfl rfl (repeatI v1 h1 10 24 (by decide)) fun v2 s2 R2 => ?_
  obtain ⟨k2, rfl, O2⟩ := R2
  dsimp only [List.cons_append, List.nil_append]
  refine XO.q (Q.build [_, _] (.c 0 1 rfl rfl rfl (.c 1 1 rfl rfl rfl (.n _)))) ?_
  refine XO.q (Q.build [_, _] (.c 0 1 rfl rfl rfl (.c 1 1 rfl rfl rfl (.n _)))) ?_
  refine XO.lit [_, _, _, _] [_, _, _, _] [⟨30, 10⟩, ⟨120, 25⟩] encTier (by rfl) (by rfl) rfl (by rfl) (by exact .c 0 2 rfl rfl rfl (.c 2 2 rfl rfl rfl (.n _))) (fun _ => rfl) (by rfl) rfl (by infer_instance) rfl fun v5 h5 O5 => ?_
  refine XO.q (Q.build [_, _, _, _] (.c 0 1 rfl rfl rfl (.c 1 1 rfl rfl rfl (.c 2 1 rfl rfl rfl (.c 3 1 rfl rfl rfl (.n _)))))) ?_
  refine XO.st rfl rfl rfl ?_
  refine XO.done ?_
  refine XK.rt [k2, h5] Try.func39 Try.results39 (.cell [_, _, _, _] rfl rfl rfl (.n)) ?_
  exact ⟨v2, v5, k2, h5, rfl, rfl, O2, O5⟩
theorem awake11 : Spec Try.prog 13 #[] [] [] (fun v hs => v = .bool true ∧ hs = []) := by
  refine Spec.intro (fn := Try.f13) (N := 54) Try.func13 rfl Try.ntmps13 rfl fun B => ?_
  refine XK.seq ?_
  refine XK.region rfl ?_
  refine XO.q (Q.assign rfl) ?_
  refine XO.done ?_
  refine XK.seq ?_
  refine XK.region rfl ?_
  refine XO.call Try.call38 rfl rfl rfl (example11) fun v8 s8 R8 => ?_
  obtain ⟨vn8, vv8, kn8, kv8, rfl, rfl, On8, Ov8⟩ := R8
  dsimp only [List.cons_append, List.nil_append]
  refine XO.call Try.call16 rfl rfl rfl (Least_spec exC vn8 vv8 kn8 kv8 (fun _ s hs => steps3 s hs)) fun v9 s9 R9 => ?_
  obtain ⟨x9, y9, K9, us9, rfl, rfl, O9, R9⟩ := R9
  dsimp only [List.cons_append, List.nil_append]
  rw [exC_least] at R9 ⊢
  dsimp only at R9 ⊢
  refine XO.q (Q.move rfl) ?_
  refine XO.q (Q.extract rfl rfl) ?_
  refine XO.q (Q.extract rfl rfl) ?_
  refine XO.q (Q.assign rfl) ?_
  refine XO.q (Q.assign rfl) ?_
  refine XO.done ?_
  refine XK.seq ?_
  refine XK.region rfl ?_
  refine XO.call Try.call38 rfl rfl rfl (example11) fun v13 s13 R13 => ?_
  obtain ⟨vn13, vv13, kn13, kv13, rfl, rfl, On13, Ov13⟩ := R13
  dsimp only [List.cons_append, List.nil_append]
  refine XO.lit [_] [_] [1] encI (by rfl) (by rfl) rfl (by rfl) (by exact .c 0 1 rfl rfl rfl (.n _)) (fun _ => rfl) (by rfl) rfl (by infer_instance) rfl fun v14 h14 O14 => ?_
  refine XO.call Try.call17 rfl rfl rfl (Repair_spec exC vn13 vv13 kn13 kv13 [1] v14 h14) fun v15 s15 R15 => ?_
  obtain ⟨x15, y15, rfl, rfl, O15⟩ := R15
  dsimp only [List.cons_append, List.nil_append]
  rw [exC_repair] at O15 ⊢
  dsimp only at O15 ⊢
  refine XO.q (Q.move rfl) ?_
  refine XO.q (Q.extract rfl rfl) ?_
  refine XO.q (Q.extract rfl rfl) ?_
  refine XO.q (Q.assign rfl) ?_
  refine XO.q (Q.assign rfl) ?_
  refine XO.done ?_
  refine XK.seq ?_
  refine XK.region rfl ?_
  refine XO.call Try.call39 rfl rfl rfl (tariff11) fun v19 s19 R19 => ?_
  obtain ⟨vp, vt, kp, kt, rfl, rfl, Op, Ot⟩ := R19
  dsimp only [List.cons_append, List.nil_append]
  refine XO.lit [_] [_] [5] encI (by rfl) (by rfl) rfl (by rfl) (by exact .c 0 1 rfl rfl rfl (.n _)) (fun _ => rfl) (by rfl) rfl (by infer_instance) rfl fun v20 h20 O20 => ?_
  refine XO.call Try.call40 rfl rfl rfl (repeatI v20 h20 5 24 (by decide)) fun v21 s21 R21 => ?_
  obtain ⟨k21, rfl, O21⟩ := R21
  dsimp only [List.cons_append, List.nil_append]
  refine XO.q (Q.build [_, _] (.c 0 1 rfl rfl rfl (.c 1 1 rfl rfl rfl (.n _)))) ?_
  refine XO.call Try.call11 rfl rfl rfl (Make_spec exT vp vt kp kt exU v21 k21) fun v23 s23 R23 => ?_
  obtain ⟨rfl, rfl⟩ := R23
  dsimp only [List.cons_append, List.nil_append]
  rw [exT_make]
  dsimp only
  refine XO.q (Q.move rfl) ?_
  refine XO.q (Q.extract rfl rfl) ?_
  refine XO.q (Q.extract rfl rfl) ?_
  refine XO.alloc fun b5 => ?_
  refine XO.st rfl rfl rfl ?_
  refine XO.q (Q.assign rfl) ?_
  refine XO.done ?_
  refine XK.seq ?_
  refine XK.region rfl ?_
  refine XO.q (Q.move rfl) ?_
  refine XO.q (Q.eql rfl rfl) ?_
  refine XO.q (Q.move rfl) ?_
  refine XO.q (Quiet.guardT rfl rfl fun g29 p29 => Q.move rfl) ?_
  refine XO.q (Quiet.guardT rfl rfl fun g30 p30 => Q.eql (lzv rfl rfl) rfl) ?_
  refine XO.q (Q.and rfl (fun hp => lzv hp rfl)) ?_
  refine XO.q (Q.move rfl) ?_
  refine XO.q (Quiet.guardT rfl rfl fun g33 p33 => Q.move rfl) ?_
  refine XO.q (Quiet.guardT rfl rfl fun g34 p34 => Q.eql (lzv rfl rfl) rfl) ?_
  refine XO.q (Q.and rfl (fun hp => lzv hp rfl)) ?_
  refine XO.q (Q.move rfl) ?_
  refine XO.q (Quiet.guardT rfl rfl fun g37 p37 => Q.move rfl) ?_
  refine XO.litG [_] [_] [0] encI rfl rfl rfl (by rfl) (by rfl) rfl (by rfl) (by exact .c 0 1 rfl rfl rfl (.n _)) (fun _ => rfl) (by rfl) rfl (by infer_instance) rfl fun v38 h38 O38 => ?_
  refine XO.litG [_] [_] [1] encI rfl rfl rfl (by rfl) (by rfl) rfl (by rfl) (by exact .c 0 1 rfl rfl rfl (.n _)) (fun _ => rfl) (by rfl) rfl (by infer_instance) rfl fun v39 h39 O39 => ?_
  refine XO.litG [_] [_] [2] encI rfl rfl rfl (by rfl) (by rfl) rfl (by rfl) (by exact .c 0 1 rfl rfl rfl (.n _)) (fun _ => rfl) (by rfl) rfl (by infer_instance) rfl fun v40 h40 O40 => ?_
  refine XO.litG [_, _, _] [_, _, _] [v38, v39, v40] encV rfl rfl rfl (by rfl) (by rfl) rfl (by rfl) (by exact .c 0 1 rfl rfl rfl (.c 1 1 rfl rfl rfl (.c 2 1 rfl rfl rfl (.n _)))) (fun _ => rfl) (by rfl) rfl (by infer_instance) rfl fun v41 h41 O41 => ?_
  refine XO.cat h39 h40 fun l39 l40 => ?_
  refine XO.cat h38 (cat h39 h40) fun l38 l3940 => ?_
  have r41 : RowsK [v38, v39, v40] (cat h38 (cat h39 h40)) [[0], [1], [2]] := ⟨rfl, fun i hi => by
      match i, hi with
      | 0, _ => exact Arr.le_heap (OArr.arr (s := O38)) l38
      | 1, _ => exact Arr.le_heap (OArr.arr (s := O39)) (l39.trans l3940)
      | 2, _ => exact Arr.le_heap (OArr.arr (s := O40)) (l40.trans l3940)⟩
  refine XO.callS rfl rfl rfl Try.call50 rfl (.c (lzv rfl rfl) (.c rfl .n)) rfl (sameLists x9 v41 y9 h41 K9 (cat h38 (cat h39 h40)) us9 [v38, v39, v40] [[0], [1], [2]] [[0], [1], [2]] R9 r41) fun v42 s42 R42 => ?_
  obtain ⟨rfl, rfl⟩ := R42
  dsimp only [List.cons_append, List.nil_append]
  refine XO.q (Q.and rfl (fun _ => rfl)) ?_
  refine XO.q (Q.move rfl) ?_
  refine XO.q (Quiet.guardT rfl rfl fun g45 p45 => Q.move rfl) ?_
  refine XO.litG [_, _, _] [_, _, _] [100, 45, 50] encI rfl rfl rfl (by rfl) (by rfl) rfl (by rfl) (by exact .c 0 1 rfl rfl rfl (.c 1 1 rfl rfl rfl (.c 2 1 rfl rfl rfl (.n _)))) (fun _ => rfl) (by rfl) rfl (by infer_instance) rfl fun v46 h46 O46 => ?_
  refine XO.callS rfl rfl rfl Try.call51 rfl (.c (lzv rfl rfl) (.c rfl .n)) rfl (equalI x15 v46 y15 h46 [100, 45, 50] [100, 45, 50]) fun v47 s47 R47 => ?_
  obtain ⟨rfl, rfl⟩ := R47
  dsimp only [List.cons_append, List.nil_append]
  refine XO.q (Q.and rfl (fun _ => rfl)) ?_
  refine XO.q (Q.move rfl) ?_
  refine XO.q (Quiet.guardT rfl rfl fun g50 p50 => Q.ldA [_, _, _, _] rfl rfl rfl) ?_
  refine XO.q (Quiet.guardT rfl rfl fun g51 p51 => Q.build [_, _, _, _] (.c 0 1 rfl rfl rfl (.c 1 1 rfl rfl rfl (.c 2 1 rfl rfl rfl (.c 3 1 rfl rfl rfl (.n _)))))) ?_
  refine XO.q (Quiet.guardT rfl rfl fun g52 p52 => Q.eqlS (us := [_, _, _, _]) (vs := [_, _, _, _]) (lzv rfl rfl) (lzv rfl rfl) inferInstance (by kernel_rfl) (by kernel_rfl) (.c rfl inferInstance inferInstance rfl rfl (.c rfl inferInstance inferInstance rfl rfl (.c rfl inferInstance inferInstance rfl rfl (.c rfl inferInstance inferInstance rfl rfl .n))))) ?_
  refine XO.q (Q.and rfl (fun hp => lzv hp rfl)) ?_
  refine XO.q (Q.assign rfl) ?_
  refine XO.done ?_
  refine XK.rt [] Try.func13 Try.results13 (.t rfl .n) ?_
  exact ⟨rfl, rfl⟩
end Go.X

set_option linter.unusedSimpArgs false
set_option linter.unusedVariables false
set_option maxRecDepth 20000
namespace Go.X
open Go.Proofs
theorem next11 (b : Nat) (vl : Value) (hl : PHeap) (l : List UInt8) [sl : Arr vl encU8 1 hl l] (i n : Nat) (hi : i ≤ 1000000000) (hn : 0 < n) (hn2 : n ≤ 1000000) : Spec Try.prog 10 #[ptr b 0, .int .i64 (n : Nat)] [blk b [vl, .int .i64 (i : Nat)] 30] [hl]
    (fun v hs => hs = [blk b [vl, .int .i64 ((i + 1 : Nat) : Int)] 30] ∧ ∃ r : Nat, v = .int .i64 (r : Nat) ∧ r < n) := by
  refine Spec.intro (fn := Try.f10) (N := 36) Try.func10 rfl Try.ntmps10 rfl fun B => ?_
  refine XK.seq ?_
  refine XK.region rfl ?_
  refine XO.q (Q.assign rfl) ?_
  refine XO.done ?_
  refine XK.seq ?_
  refine XK.region rfl ?_
  refine XO.q (Q.move rfl) ?_
  refine XO.q (Q.nilCheck rfl) ?_
  refine XO.q (Q.fieldAddr rfl) ?_
  refine XO.q (Q.ld rfl rfl) ?_
  refine XO.q (Q.add rfl rfl ⟨by omega, by omega⟩) ?_
  rw [show ((i : Int) + 1) = ((i + 1 : Nat) : Int) from rfl]
  refine XO.q (Q.nilCheck rfl) ?_
  refine XO.q (Q.fieldAddr rfl) ?_
  refine XO.st rfl rfl rfl ?_
  refine XO.done ?_
  refine XK.seq ?_
  refine XK.seq ?_
  refine XK.drawn [0, 1, 2, 3, 4, 5, 6, 7, 8, 9] [b] [] (.q 0 (.q 1 (.q 2 (.q 3 (.q 4 (.q 5 (.q 6 (.q 7 (.q 8 (.q 9 .done)))))))))) Try.mixed rfl (by kernel_rfl) ?_
  refine XT.q rfl rfl (Q.move rfl) ?_
  refine XT.q rfl rfl (Q.nilCheck rfl) ?_
  refine XT.q rfl rfl (Q.fieldAddr rfl) ?_
  refine XT.q rfl rfl (Q.ld rfl rfl) ?_
  refine XT.q rfl rfl (Q.move rfl) ?_
  refine XT.q rfl rfl (Q.nilCheck rfl) ?_
  refine XT.q rfl rfl (Q.fieldAddr rfl) ?_
  refine XT.q rfl rfl (Q.ld rfl rfl) ?_
  refine XT.q rfl rfl (Q.len rfl) ?_
  refine XT.q rfl rfl (Q.gtr rfl rfl) ?_
  refine XT.done ?_
  refine XK.if rfl (fun c0 => ?_) (fun c0 => ?_)
  · have _t0 := True.intro
    refine XK.seq ?_
    refine XK.region rfl ?_
    refine XO.q (Q.assign rfl) ?_
    refine XO.done ?_
    refine XK.rt [blk b [vl, .int .i64 ((i + 1 : Nat) : Int)] 30] Try.func10 Try.results10 (.t rfl .n) ?_
    exact ⟨rfl, 0, rfl, hn⟩
  · have _t0 := True.intro
    refine XK.skip ?_
    refine XK.seq ?_
    refine XK.drawn [0, 1, 2, 3, 4, 5, 6, 7, 8, 9, 10, 11, 12, 13, 14] [b] [] (.q 0 (.q 1 (.q 2 (.q 3 (.q 4 (.q 5 (.q 6 (.q 7 (.q 8 (.q 9 (.q 10 (.q 11 (.q 12 (.q 13 (.q 14 .done))))))))))))))) Try.mixed rfl (by kernel_rfl) ?_
    refine XT.q rfl rfl (Q.move rfl) ?_
    refine XT.q rfl rfl (Q.nilCheck rfl) ?_
    refine XT.q rfl rfl (Q.fieldAddr rfl) ?_
    refine XT.q rfl rfl (Q.ld rfl rfl) ?_
    refine XT.q rfl rfl (Q.move rfl) ?_
    refine XT.q rfl rfl (Q.nilCheck rfl) ?_
    refine XT.q rfl rfl (Q.fieldAddr rfl) ?_
    refine XT.q rfl rfl (Q.ld rfl rfl) ?_
    refine XT.q rfl rfl (Q.sub rfl rfl ⟨by omega, by omega⟩) ?_
    rw [show (((i + 1 : Nat) : Int) - 1) = (i : Int) by omega]
    refine XT.ix rfl rfl rfl rfl (by omega) (by omega) fun i31 => ?_
    refine XT.q rfl rfl (Q.ldE rfl (by first | assumption | omega) rfl) ?_
    refine XT.q rfl rfl (Q.conv rfl) ?_
    have hu := (l.getD i default).toNat_lt
    rw [wrap64_of ⟨by omega, by omega⟩]
    refine XT.q rfl rfl (Q.move rfl) ?_
    refine XT.q rfl rfl (Q.rem rfl rfl (by omega) (by omega)) ?_
    rw [show ((((l.getD i default).toNat : Nat) : Int) % (n : Int)) = (((l.getD i default).toNat % n : Nat) : Int) from rfl]
    refine XT.q rfl rfl (Q.assign rfl) ?_
    refine XT.done ?_
    refine XK.rt [blk b [vl, .int .i64 ((i + 1 : Nat) : Int)] 30] Try.func10 Try.results10 (.t rfl .n) ?_
    exact ⟨rfl, (l.getD i default).toNat % n, rfl, Nat.mod_lt _ hn⟩
end Go.X

set_option linter.unusedSimpArgs false
set_option linter.unusedVariables false
set_option maxRecDepth 20000
namespace Go.X
open Go.Proofs
theorem lost_rng {c : MCase} (ok : MOk c) {i : Nat} (hi : i < c.nodes.length) {n : Nat} (hn : n ≤ (sonsN c i).length) : -14000000000 ≤ lostAt c i n ∧ lostAt c i n ≤ 1000000000 := by
  have hs : ∀ q, q < n → 0 ≤ c.vals.getD ((sonsN c i).getD q 0) 0 ∧ c.vals.getD ((sonsN c i).getD q 0) 0 ≤ 1000000000 := fun q hq => by
    obtain ⟨a, _, _⟩ := ok.son (getD_mem0 (l := sonsN c i) (j := q) (by omega))
    exact (ok.node _ a).2.1
  have h1 : 0 ≤ sumV c c.vals i n := sum_nonneg fun q hq => (hs q hq).1
  have h2 : sumV c c.vals i n ≤ n * 1000000000 := sum_le fun q hq => (hs q hq).2
  have h3 := (ok.node i hi).2.1
  have h4 : (sonsN c i).length ≤ c.nodes.length := sonsTo_len
  have h5 := ok.n2
  unfold lostAt; omega
theorem Broken_spec (c : MCase) (vn vv : Value) (hn hv : PHeap) [jn : Arr vn encNode 3 hn c.nodes] [jv : Arr vv encI 1 hv c.vals] : Spec Try.prog 18 #[.agg #[vn, vv]] [] [hn, hv] (fun v hs => ∃ v1 k1, v = .tuple #[v1, .int .i64 (brokenG c).2] ∧ hs = [k1] ∧ OArr v1 encI 1 3 k1 (brokenG c).1) := by
  have nI : OArr (.slice none 0 0) encI 1 3 emp ([] : List Int) := OArr.nil (fun _ => rfl)
  refine Spec.intro (fn := Try.f18) (N := 68) Try.func18 rfl Try.ntmps18 rfl fun B => ?_
  refine XK.seq ?_
  refine XK.region rfl ?_
  refine XO.box rfl fun b1 => ?_
  refine XO.q (Q.assign rfl) ?_
  refine XO.q (Q.assign rfl) ?_
  refine XO.done ?_
  refine XK.seq ?_
  refine XK.seq ?_
  refine XK.region rfl ?_
  refine XO.q (Q.ldA [_, _] rfl rfl rfl) ?_
  refine XO.call Try.call54 rfl rfl rfl (Check_spec11 c vn vv hn hv) fun v13 s13 R13 => ?_
  obtain ⟨rfl, rfl⟩ := R13
  dsimp only [List.cons_append, List.nil_append]
  refine XO.q (Q.assign rfl) ?_
  refine XO.done ?_
  refine XK.seq ?_
  refine XK.region rfl ?_
  refine XO.q (Q.move rfl) ?_
  refine XO.q (Q.neq rfl rfl) ?_
  refine XO.done ?_
  refine XK.if rfl (fun c0 => ?_) (fun c0 => ?_)
  · have _t0 := True.intro
    refine XK.seq ?_
    refine XK.region rfl ?_
    refine XO.q (Q.move rfl) ?_
    refine XO.q (Q.assign rfl) ?_
    refine XO.q (Q.assign rfl) ?_
    refine XO.done ?_
    refine XK.rt [emp] Try.func18 Try.results18 (.t rfl (.t rfl .n)) ?_
    have hw0 : brokenG c = ([], mcheck c) := by rw [brokenG, if_pos c0]
    rw [hw0]
    exact ⟨.slice none 0 0, emp, rfl, rfl, OArr.nil (fun _ => rfl)⟩
  · have _t0 := True.intro
    have ok := mcheck_ok (Decidable.of_not_not c0)
    have vl := ok.vl
    refine XK.skip ?_
    refine XK.seq ?_
    refine XK.region rfl ?_
    refine XO.q (Q.assign rfl) ?_
    refine XO.done ?_
    refine XK.seq ?_
    refine XK.seq ?_
    refine XK.region rfl ?_
    refine XO.q (Q.fieldAddr rfl) ?_
    refine XO.q (Q.ld rfl rfl) ?_
    refine XO.len rfl fun l19 => ?_
    refine XO.q (Q.move rfl) ?_
    refine XO.done ?_
    refine XK.block ?_
    refine XK.while (X := Nat × Value × PHeap) [5, 6, 7, 8, 9, 11, 20, 21, 22, 23, 24, 25, 26, 27, 28, 29, 30, 31, 32, 33, 34, 35, 36, 37, 38, 39, 40, 41, 42, 43, 44, 45, 46, 47, 48, 49, 50, 51, 52, 53, 54, 55, 56, 57, 58, 59, 60, 61, 62, 63, 64, 65, 66] (fun ⟨i, vo, ko⟩ => [(20, some (.int .i64 (i : Nat))), (5, some (vo))]) (fun ⟨i, vo, ko⟩ => [ko]) (fun ⟨i, vo, ko⟩ => i ≤ c.nodes.length ∧ OArr vo encI 1 3 ko (ints (brokenTo c i))) (fun ⟨i, vo, ko⟩ => c.nodes.length - i) (0, .slice none 0 0, emp) [emp] rfl ⟨by omega, nI⟩ (.c rfl (.c rfl (.base 0 rfl rfl))) ?_
    rintro ⟨i, vo, ko⟩ ⟨hi, OO⟩ ih0
    dsimp only [List.cons_append, List.nil_append] at ih0 ⊢
    refine XK.seq ?_
    refine XK.region rfl ?_
    refine XO.q (Q.lss rfl rfl) ?_
    refine XO.done ?_
    refine XK.seq ?_
    refine XK.if rfl (fun c1 => ?_) (fun c1 => ?_)
    · have _t1 := True.intro
      have il := ints_len (l := (sonsN c i))
      have nd := (ok.node i (by omega)).2.1
      have bl := brokenTo_len c i
      have n2 := ok.n2
      refine XK.skip ?_
      refine XK.seq ?_
      refine XK.block ?_
      refine XK.seq ?_
      refine XK.region rfl ?_
      refine XO.q (Q.move rfl) ?_
      refine XO.ix rfl rfl (by omega) (by omega) fun i23 => ?_
      refine XO.q (Q.ldEA [_, _, _] rfl (by first | assumption | omega) rfl rfl) ?_
      refine XO.alloc fun b7 => ?_
      refine XO.q (Q.assign rfl) ?_
      refine XO.st rfl rfl rfl ?_
      refine XO.done ?_
      refine XK.seq ?_
      refine XK.region rfl ?_
      refine XO.q (Q.ldA [_, _] rfl rfl rfl) ?_
      refine XO.q (Q.move rfl) ?_
      refine XO.call Try.call57 rfl rfl rfl (sons_spec c vn vv hn ok.n2 (i : Nat)) fun v27 s27 R27 => ?_
      obtain ⟨k27, rfl, O27⟩ := R27
      dsimp only [List.cons_append, List.nil_append]
      change OArr v27 encI 1 3 k27 (ints (sonsN c i)) at O27
      refine XO.q (Q.assign rfl) ?_
      refine XO.done ?_
      refine XK.seq ?_
      refine XK.region rfl ?_
      refine XO.q (Q.fieldAddr rfl) ?_
      refine XO.q (Q.ld rfl rfl) ?_
      refine XO.q (Q.move rfl) ?_
      refine XO.ix rfl rfl (by omega) (by omega) fun i31 => ?_
      refine XO.q (Q.ldE rfl (by first | assumption | omega) rfl) ?_
      rw [show c.vals.getD i default = lostAt c i 0 by rw [lostAt, sumV, sumTo, Int.sub_zero]; rfl]
      refine XO.q (Q.assign rfl) ?_
      refine XO.done ?_
      refine XK.seq ?_
      refine XK.seq ?_
      refine XK.region rfl ?_
      refine XO.q (Q.move rfl) ?_
      refine XO.len rfl fun l34 => ?_
      rw [il]
      refine XO.q (Q.move rfl) ?_
      refine XO.done ?_
      refine XK.block ?_
      refine XK.while (X := Nat) [9, 11, 35, 36, 37, 38, 39, 40, 41, 42, 43, 44, 45, 46] (fun j => [(35, some (.int .i64 (j : Nat))), (9, some (.int .i64 (lostAt c i j)))]) (fun j => []) (fun j => j ≤ (sonsN c i).length) (fun j => (sonsN c i).length - j) (0) [] rfl (by omega) (.c rfl (.c rfl (.base 0 rfl rfl))) ?_
      rintro j hj ih1
      dsimp only [List.cons_append, List.nil_append] at ih1 ⊢
      refine XK.seq ?_
      refine XK.region rfl ?_
      refine XO.q (Q.lss rfl rfl) ?_
      refine XO.done ?_
      refine XK.seq ?_
      refine XK.if rfl (fun c2 => ?_) (fun c2 => ?_)
      · have _t2 := True.intro
        have lr := lost_rng ok (i := i) (by omega) (n := j) (by omega)
        have lr2 := lost_rng ok (i := i) (by omega) (n := j + 1) (by omega)
        have lr3 : -14000000000 ≤ c.vals.getD i 0 := by omega
        refine XK.skip ?_
        refine XK.seq ?_
        refine XK.block ?_
        refine XK.seq ?_
        refine XK.region rfl ?_
        refine XO.ix rfl rfl (by omega) (by omega) fun i37 => ?_
        refine XO.q (Q.ldE rfl (by first | assumption | omega) rfl) ?_
        rw [ints_at (by omega)]
        obtain ⟨k, ek⟩ : ∃ k, k = (sonsN c i).getD j 0 := ⟨_, rfl⟩
        rw [← ek]
        obtain ⟨k1, k2, k3⟩ := ok.son (i := i) (k := k) (by rw [ek]; exact getD_mem0 (by omega))
        have vk : 0 ≤ c.vals.getD k default ∧ c.vals.getD k default ≤ 1000000000 := (ok.node k k1).2.1
        refine XO.q (Q.assign rfl) ?_
        refine XO.done ?_
        refine XK.region rfl ?_
        refine XO.q (Q.move rfl) ?_
        refine XO.q (Q.fieldAddr rfl) ?_
        refine XO.q (Q.ld rfl rfl) ?_
        refine XO.q (Q.move rfl) ?_
        refine XO.ix rfl rfl (by omega) (by omega) fun i43 => ?_
        refine XO.q (Q.ldE rfl (by first | assumption | omega) rfl) ?_
        refine XO.q (Q.sub rfl rfl ⟨by omega, by omega⟩) ?_
        rw [show (lostAt c i j) - c.vals.getD k default = (lostAt c i (j + 1)) by rw [lostAt, lostAt, sumV, sumV, sumTo, ← ek, ← Int.sub_sub]; rfl]
        refine XO.q (Q.assign rfl) ?_
        refine XO.done ?_
        refine XK.inBlock ?_
        refine XK.region rfl ?_
        refine XO.q (Q.add rfl rfl ⟨by omega, by omega⟩) ?_
        refine XO.q (Q.move rfl) ?_
        refine XO.done ?_
        exact ih1 (j + 1) _ _ (by omega) (by first | omega | (dsimp only; omega)) (.c rfl (.c rfl (.base 30 rfl rfl))) inferInstance
      · have _t2 := True.intro
        have hjn : j = (sonsN c i).length := by omega
        subst hjn
        refine XK.exit rfl ?_
        refine XK.seq ?_
        refine XK.region rfl ?_
        refine XO.q (Q.move rfl) ?_
        refine XO.len rfl fun l48 => ?_
        rw [il]
        refine XO.q (Q.gtr rfl rfl) ?_
        refine XO.q (Q.move rfl) ?_
        refine XO.q (Quiet.guardT rfl rfl fun g51 p51 => Q.move rfl) ?_
        refine XO.q (Quiet.guardT rfl rfl fun g52 p52 => Q.fieldAddr rfl) ?_
        refine XO.q (Quiet.guardT rfl rfl fun g53 p53 => Q.ld (lzv g53 rfl) rfl) ?_
        refine XO.q (Quiet.guardT rfl rfl fun g54 p54 => Q.lss (lzv g54 rfl) (lzv g54 rfl)) ?_
        refine XO.q (Quiet.guardT rfl rfl fun g55 p55 => Q.move (lzv g55 rfl)) ?_
        refine XO.q (Quiet.guard2 rfl rfl fun g56a g56b => have p56a := bpT g56a; have p56b := bpF g56b; Q.move rfl) ?_
        refine XO.q (Quiet.guard2 rfl rfl fun g57a g57b => have p57a := bpT g57a; have p57b := bpF g57b; Q.fieldAddr rfl) ?_
        refine XO.q (Quiet.guard2 rfl rfl fun g58a g58b => have p58a := bpT g58a; have p58b := bpF g58b; Q.ld (lzv g58b (lzv g58a rfl)) rfl) ?_
        refine XO.q (Quiet.guard2 rfl rfl fun g59a g59b => have p59a := bpT g59a; have p59b := bpF g59b; Q.gtr (lzv g59b (lzv g59a rfl)) (lzv g59b (lzv g59a rfl))) ?_
        refine XO.q (Quiet.guardT rfl rfl fun g60 p60 => Q.or (lzv g60 rfl) (fun hp => (lzv hp (lzv g60 rfl)))) ?_
        refine XO.q (Q.and rfl (fun hp => lzv hp rfl)) ?_
        refine XO.done ?_
        refine XK.if rfl (fun c3 => ?_) (fun c3 => ?_)
        · have _t3 := True.intro
          refine XK.region rfl ?_
          refine XO.q (Q.move rfl) ?_
          refine XO.q (Q.move rfl) ?_
          refine XO.lit [_] [_] [((i : Nat) : Int)] encI (by rfl) (by rfl) rfl (by rfl) (by exact .c 0 1 rfl rfl rfl (.n _)) (fun _ => rfl) (by rfl) rfl (by infer_instance) rfl fun v64 h64 O64 => ?_
          refine XO.append rfl rfl rfl rfl (by simp only [ints_len, List.length_cons, List.length_nil]; omega) fun v65 h65 O65 => ?_
          refine XO.q (Q.assign rfl) ?_
          refine XO.done ?_
          refine XK.inBlock ?_
          refine XK.region rfl ?_
          refine XO.q (Q.add rfl rfl ⟨by omega, by omega⟩) ?_
          refine XO.q (Q.move rfl) ?_
          refine XO.done ?_
          exact ih0 (i + 1, v65, h65) _ _ ⟨by dsimp only; omega, by dsimp only; rw [brokenTo, if_pos (show isBroken c i from c3), ints_snoc]; exact O65⟩ (by first | omega | (dsimp only; omega)) (.c rfl (.c rfl (.base 113 rfl rfl))) inferInstance
        · have _t3 := True.intro
          refine XK.skip ?_
          refine XK.inBlock ?_
          refine XK.region rfl ?_
          refine XO.q (Q.add rfl rfl ⟨by omega, by omega⟩) ?_
          refine XO.q (Q.move rfl) ?_
          refine XO.done ?_
          exact ih0 (i + 1, vo, ko) _ _ ⟨by dsimp only; omega, by dsimp only; rw [brokenTo, if_neg (show ¬ isBroken c i from c3)]; exact OO⟩ (by first | omega | (dsimp only; omega)) (.c rfl (.c rfl (.base 108 rfl rfl))) inferInstance
    · have _t1 := True.intro
      refine XK.exit rfl ?_
      refine XK.seq ?_
      refine XK.region rfl ?_
      refine XO.q (Q.move rfl) ?_
      refine XO.q (Q.assign rfl) ?_
      refine XO.q (Q.assign rfl) ?_
      refine XO.done ?_
      refine XK.rt [ko] Try.func18 Try.results18 (.t rfl (.t rfl .n)) ?_
      have hin : i = c.nodes.length := by omega
      subst hin
      have hw0 : brokenG c = (ints (brokenTo c c.nodes.length), 0) := by rw [brokenG, if_neg c0]
      rw [hw0]
      exact ⟨vo, ko, rfl, rfl, OO⟩
theorem set_getN {l : List MNode} {k : Nat} {x : MNode} (hk : k < l.length) : (l.set k x).getD k default = x := by
  rw [List.getD_eq_getElem?_getD, List.getElem?_set, if_pos rfl, if_pos hk]; rfl
theorem rep_get0 (n j : Nat) : (List.replicate n (0 : Int)).getD j 0 = 0 := by
  rw [List.getD_eq_getElem?_getD, List.getElem?_replicate]; split <;> rfl
theorem made11 (vl : Value) (hl : PHeap) (l : List UInt8) [sl : Arr vl encU8 1 hl l] : Spec Try.prog 14 #[vl] [] [hl]
    (fun v hs => ∃ (c : MCase) (vn vv : Value) (kn kv : PHeap), v = .agg #[vn, vv] ∧ hs = [kn, kv] ∧ OArr vn encNode 3 97 kn c.nodes ∧ OArr vv encI 1 3 kv c.vals ∧ MOk c ∧ Sol c [] c.vals ∧ c.nodes.length ≤ 9) := by
  refine Spec.intro (fn := Try.f14) (N := 117) Try.func14 rfl Try.ntmps14 rfl fun B => ?_
  refine XK.seq ?_
  refine XK.region rfl ?_
  refine XO.alloc fun b2 => ?_
  refine XO.done ?_
  refine XK.seq ?_
  refine XK.region rfl ?_
  refine XO.q (Q.move rfl) ?_
  refine XO.q (Q.build [_, _] (.c 0 1 rfl rfl rfl (.n _))) ?_
  refine XO.box rfl fun b13 => ?_
  refine XO.q (Q.assign rfl) ?_
  refine XO.done ?_
  refine XK.seq ?_
  refine XK.region rfl ?_
  refine XO.q (Q.move rfl) ?_
  refine XO.callB b13 Try.call10 rfl rfl rfl (next11 b13 vl hl l (0) (9) (by omega) (by omega) (by omega)) fun v15 s15 R15 => ?_
  obtain ⟨rfl, n15, rfl, h15⟩ := R15
  dsimp only [List.cons_append, List.nil_append]
  refine XO.q (Q.add rfl rfl ⟨by omega, by omega⟩) ?_
  rw [show ((1 : Int) + (n15 : Int)) = ((1 + n15 : Nat) : Int) from rfl]
  obtain ⟨n, en⟩ : ∃ n, n = 1 + n15 := ⟨_, rfl⟩
  rw [← en]
  have hn9 : n ≤ 9 := by omega
  refine XO.q (Q.assign rfl) ?_
  refine XO.done ?_
  refine XK.seq ?_
  refine XK.meet (X := Nat × Value × Value × PHeap × PHeap) [5, 17, 18, 19, 20, 21] (fun ⟨b5, vN, vV, kN, kV⟩ => [(5, some (ptr b5 0))]) (fun ⟨b5, vN, vV, kN, kV⟩ => [blk b5 [vN, vV] 50, kN, kV]) (fun ⟨b5, vN, vV, kN, kV⟩ => OArr vN encNode 3 97 kN (List.replicate n (⟨0, 0, 0⟩ : MNode)) ∧ OArr vV encI 1 3 kV (List.replicate n 0)) [] ?_ ?_
  · rintro ⟨b5, vN, vV, kN, kV⟩ ⟨ON0, OV0⟩
    dsimp only [List.cons_append, List.nil_append]
    refine XK.seq ?_
    refine XK.region rfl ?_
    refine XO.q (Q.move rfl) ?_
    refine XO.make encB (false) rfl rfl rfl (by omega) (by omega) (fun _ => rfl) rfl rfl rfl (by dsimp only [encB]; infer_instance) fun v23 h23 O23 => ?_
    refine XO.q (Q.assign rfl) ?_
    refine XO.done ?_
    refine XK.seq ?_
    refine XK.seq ?_
    refine XK.region rfl ?_
    refine XO.q (Q.move rfl) ?_
    refine XO.q (Q.move rfl) ?_
    refine XO.done ?_
    refine XK.block ?_
    refine XK.while (X := Nat × Nat × List MNode × PHeap × List Bool × PHeap) [7, 8, 25, 26, 27, 28, 29, 30, 31, 32, 33, 34, 35, 36, 37, 38, 39, 40, 41, 42, 43, 44, 45, 46, 47, 48, 49, 50, 51, 52, 53, 54, 55, 56, 57, 58, 59, 60, 61] (fun ⟨i, q, N, kn, B, kb⟩ => [(25, some (.int .i64 (i : Nat)))]) (fun ⟨i, q, N, kn, B, kb⟩ => [blk b13 [vl, .int .i64 ((q : Nat) : Int)] 30, kn, kb]) (fun ⟨i, q, N, kn, B, kb⟩ => i ≤ n ∧ q ≤ 1 + i * 4 ∧ MkN n i N B ∧ OArr vN encNode 3 97 kn N ∧ OArr v23 encB 1 4 kb B) (fun ⟨i, q, N, kn, B, kb⟩ => n - i) (0, 0 + 1, _, kN, _, h23) [blk b13 [vl, .int .i64 ((0 + 1 : Nat) : Int)] 30, kN, h23] rfl ⟨by omega, by omega, MkN.start n, ON0, O23⟩ (.c rfl (.base 0 rfl rfl)) ?_
    rintro ⟨i, q, N, kn, B, kb⟩ ⟨hi, hq, mk, ON, OB⟩ ih0
    dsimp only [List.cons_append, List.nil_append] at ih0 ⊢
    refine XK.seq ?_
    refine XK.region rfl ?_
    refine XO.q (Q.lss rfl rfl) ?_
    refine XO.done ?_
    refine XK.seq ?_
    refine XK.if rfl (fun c0 => ?_) (fun c0 => ?_)
    · have _t0 := True.intro
      have nl := mk.nl
      have bl := mk.bl
      refine XK.skip ?_
      refine XK.seq ?_
      refine XK.block ?_
      refine XK.seq ?_
      refine XK.region rfl ?_
      refine XO.q (Q.move rfl) ?_
      refine XO.q (Q.assign rfl) ?_
      refine XO.done ?_
      refine XK.seq ?_
      refine XK.region rfl ?_
      refine XO.q (Q.move rfl) ?_
      refine XO.callB b13 Try.call10 rfl rfl rfl (next11 b13 vl hl l (q) (4) (by omega) (by omega) (by omega)) fun v29 s29 R29 => ?_
      obtain ⟨rfl, n29, rfl, h29⟩ := R29
      dsimp only [List.cons_append, List.nil_append]
      refine XO.q (Q.move rfl) ?_
      refine XO.callB b13 Try.call10 rfl rfl rfl (next11 b13 vl hl l (q + 1) (2) (by omega) (by omega) (by omega)) fun v31 s31 R31 => ?_
      obtain ⟨rfl, n31, rfl, h31⟩ := R31
      dsimp only [List.cons_append, List.nil_append]
      have hm : n29 * n31 ≤ 3 * 1 := Nat.mul_le_mul (by omega) (by omega)
      have em : (n29 : Int) * (n31 : Int) = ((n29 * n31 : Nat) : Int) := (Int.natCast_mul ..).symm
      refine XO.q (Q.mul rfl rfl ⟨by omega, by omega⟩) ?_
      refine XO.q (Q.assign rfl) ?_
      refine XO.done ?_
      refine XK.seq ?_
      refine XK.drawn [0, 1, 2, 3, 4, 5, 7, 8, 9] [b5] [] (.q 0 (.q 1 (.q 2 (.q 3 (.q 4 (.q 5 (.br 6 true (.q 7 (.q 8 (.q 9 (.br 10 false .done .stop)))) .stop))))))) Try.mixed rfl (by kernel_rfl) ?_
      refine XT.q rfl rfl (Q.fieldAddr rfl) ?_
      refine XT.q rfl rfl (Q.ld rfl rfl) ?_
      refine XT.q rfl rfl (Q.move rfl) ?_
      refine XT.q rfl rfl (Q.move rfl) ?_
      refine XT.q rfl rfl (Q.move rfl) ?_
      refine XT.q rfl rfl (Q.move rfl) ?_
      refine XT.callB b13 rfl rfl Try.call10 rfl rfl rfl (next11 b13 vl hl l (q + 1 + 1) (6) (by omega) (by omega) (by omega)) (fun v39 s39 R39 => ?_) XT.stop
      obtain ⟨rfl, n39, rfl, h39⟩ := R39
      dsimp only [List.cons_append, List.nil_append]
      refine ⟨inferInstance, ?_⟩
      refine XT.q rfl rfl (Q.add rfl rfl ⟨by omega, by omega⟩) ?_
      refine XT.q rfl rfl (Q.build [_, _, _] (.c 0 1 rfl rfl rfl (.c 1 1 rfl rfl rfl (.c 2 1 rfl rfl rfl (.n _))))) ?_
      refine XT.ix rfl rfl rfl rfl (by omega) (by omega) fun i42 => ?_
      refine XT.stE ⟨-1, (n29 : Int) * (n31 : Int), (n29 : Int) * (n31 : Int) + (n39 : Int)⟩ rfl rfl rfl rfl rfl (by assumption) rfl rfl (fun h9_10 O9_10 => ⟨inferInstance, ?_⟩) XT.stop
      have nl2 : (N.set i ⟨-1, (n29 : Int) * (n31 : Int), (n29 : Int) * (n31 : Int) + (n39 : Int)⟩).length = n := by rw [List.length_set]; exact nl
      refine XT.done ?_
      refine XK.seq ?_
      refine XK.region rfl ?_
      refine XO.q (Q.move rfl) ?_
      refine XO.q (Q.gtr rfl rfl) ?_
      refine XO.done ?_
      refine XK.if rfl (fun c1 => ?_) (fun c1 => ?_)
      · have _t1 := True.intro
        refine XK.seq ?_
        refine XK.drawn [0, 1, 2, 3, 4, 6, 7] [b5] [] (.q 0 (.q 1 (.q 2 (.q 3 (.q 4 (.br 5 true (.q 6 (.q 7 (.br 8 true .done .stop))) .stop)))))) Try.mixed rfl (by kernel_rfl) ?_
        refine XT.q rfl rfl (Q.fieldAddr rfl) ?_
        refine XT.q rfl rfl (Q.ld rfl rfl) ?_
        refine XT.q rfl rfl (Q.move rfl) ?_
        refine XT.q rfl rfl (Q.move rfl) ?_
        refine XT.q rfl rfl (Q.move rfl) ?_
        refine XT.callB b13 rfl rfl Try.call10 rfl rfl rfl (next11 b13 vl hl l (q + 1 + 1 + 1) (i) (by omega) (by omega) (by omega)) (fun v50 s50 R50 => ?_) XT.stop
        obtain ⟨rfl, n50, rfl, h50⟩ := R50
        dsimp only [List.cons_append, List.nil_append]
        refine ⟨inferInstance, ?_⟩
        refine XT.ix rfl rfl rfl rfl (by omega) (by omega) fun i51 => ?_
        refine XT.q rfl rfl (Q.fieldQ rfl (by first | assumption | omega)) ?_
        refine XT.stE ⟨((n50 : Nat) : Int), _, _⟩ rfl rfl rfl rfl rfl (by assumption) rfl rfl (fun h11_8 O11_8 => ⟨inferInstance, ?_⟩) XT.stop
        rw [set_getN (by omega)] at O11_8
        dsimp only at O11_8
        rw [List.set_set] at O11_8
        have nl3 : (N.set i ⟨((n50 : Nat) : Int), (n29 : Int) * (n31 : Int), (n29 : Int) * (n31 : Int) + (n39 : Int)⟩).length = n := by rw [List.length_set]; exact nl
        refine XT.done ?_
        refine XK.region rfl ?_
        refine XO.q (Q.move rfl) ?_
        refine XO.q (Q.fieldAddr rfl) ?_
        refine XO.q (Q.ld rfl rfl) ?_
        refine XO.q (Q.move rfl) ?_
        refine XO.ix rfl rfl (by omega) (by omega) fun i57 => ?_
        refine XO.q (Q.fieldQ rfl (by first | assumption | omega)) ?_
        refine XO.q (Q.ldE rfl (by first | assumption | omega) rfl) ?_
        rw [show ((N.set i ⟨((n50 : Nat) : Int), (n29 : Int) * (n31 : Int), (n29 : Int) * (n31 : Int) + (n39 : Int)⟩).getD i default).up = ((n50 : Nat) : Int) by rw [set_getN (by omega)]]
        refine XO.ix rfl rfl (by omega) (by omega) fun i60 => ?_
        refine XO.stE true rfl rfl rfl (by assumption) rfl rfl fun h12_8 O12_8 => ?_
        refine XO.done ?_
        refine XK.inBlock ?_
        refine XK.region rfl ?_
        refine XO.q (Q.add rfl rfl ⟨by omega, by omega⟩) ?_
        refine XO.q (Q.move rfl) ?_
        refine XO.done ?_
        exact ih0 (i + 1, q + 1 + 1 + 1 + 1, _, h11_8, _, h12_8) _ _ ⟨by dsimp only; omega, by dsimp only; omega, mk.more (by omega) (by omega) (by omega) (by omega) (by omega) (by omega) (by omega), O11_8, O12_8⟩ (by first | omega | (dsimp only; omega)) (.c rfl (.base 79 rfl rfl)) inferInstance
      · have _t1 := True.intro
        refine XK.skip ?_
        refine XK.inBlock ?_
        refine XK.region rfl ?_
        refine XO.q (Q.add rfl rfl ⟨by omega, by omega⟩) ?_
        refine XO.q (Q.move rfl) ?_
        refine XO.done ?_
        exact ih0 (i + 1, q + 1 + 1 + 1, _, h9_10, B, kb) _ _ ⟨by dsimp only; omega, by dsimp only; omega, by
            have hi0 : i = 0 := by omega
            subst hi0
            exact mk.root (by omega) (by omega) (by omega) (by omega) (by omega), O9_10, OB⟩ (by first | omega | (dsimp only; omega)) (.c rfl (.base 63 rfl rfl)) inferInstance
    · have _t0 := True.intro
      have hin : i = n := by omega
      rw [hin] at mk
      have nl := mk.nl
      have bl := mk.bl
      clear ih0
      refine XK.exit rfl ?_
      refine XK.seq ?_
      refine XK.seq ?_
      refine XK.region rfl ?_
      refine XO.q (Q.move rfl) ?_
      refine XO.q (Q.sub rfl rfl ⟨by omega, by omega⟩) ?_
      refine XO.q (Q.assign rfl) ?_
      refine XO.done ?_
      refine XK.block ?_
      refine XK.while (X := Nat × Nat × List Int × PHeap) [9, 10, 64, 65, 66, 67, 68, 69, 70, 71, 72, 73, 74, 75, 76, 77, 78, 79, 80, 81, 82, 83, 84, 85, 86, 87, 88, 89, 90, 91, 92, 93, 94, 95, 96, 97, 98, 99, 100, 101, 102, 103, 104, 105, 106, 107, 108, 109, 110, 111, 112, 113, 114, 115] (fun ⟨m, q, V, kv⟩ => [(9, some (.int .i64 ((m : Int) - 1)))]) (fun ⟨m, q, V, kv⟩ => [blk b13 [vl, .int .i64 ((q : Nat) : Int)] 30, kv]) (fun ⟨m, q, V, kv⟩ => m ≤ n ∧ q ≤ 100 + (n - m) ∧ MkV n m N B V ∧ OArr vV encI 1 3 kv V) (fun ⟨m, q, V, kv⟩ => m) (n, q, _, kV) [blk b13 [vl, .int .i64 ((q : Nat) : Int)] 30, kV] rfl ⟨Nat.le_refl _, by omega, MkV.start (by simp) (rep_get0 n), OV0⟩ (.c rfl (.base 0 rfl rfl)) ?_
      rintro ⟨m, q, V, kv⟩ ⟨hm, hq2, mv, OV⟩ ih1
      dsimp only [List.cons_append, List.nil_append] at ih1 ⊢
      refine XK.seq ?_
      refine XK.seq ?_
      refine XK.region rfl ?_
      refine XO.q (Q.move rfl) ?_
      refine XO.q (Q.geq rfl rfl) ?_
      refine XO.done ?_
      refine XK.if rfl (fun c2 => ?_) (fun c2 => ?_)
      · have _t2 := True.intro
        obtain ⟨i, rfl⟩ : ∃ i, m = i + 1 := ⟨m - 1, by omega⟩
        rw [show ((i + 1 : Nat) : Int) - 1 = (i : Int) by omega]
        have vl_ := mv.vl
        obtain ⟨r1, r2, r3⟩ := mv.room mk hn9 (by omega)
        obtain ⟨⟨a1, a2, a3, a4⟩, a5, a6⟩ := mk.node i (by omega)
        have r1d : 0 ≤ V.getD i default := r1
        have r2d : V.getD i default ≤ 864 := r2
        refine XK.skip ?_
        refine XK.seq ?_
        refine XK.block ?_
        refine XK.seq ?_
        refine XK.region rfl ?_
        refine XO.q (Q.fieldAddr rfl) ?_
        refine XO.q (Q.ld rfl rfl) ?_
        refine XO.q (Q.move rfl) ?_
        refine XO.ix rfl rfl (by omega) (by omega) fun i71 => ?_
        refine XO.q (Q.ldEA [_, _, _] rfl (by first | assumption | omega) rfl rfl) ?_
        refine XO.alloc fun b10 => ?_
        refine XO.st rfl rfl rfl ?_
        refine XO.done ?_
        refine XK.seq ?_
        refine XK.seq ?_
        refine XK.region rfl ?_
        refine XO.q (Q.move rfl) ?_
        refine XO.q (Q.move rfl) ?_
        refine XO.ix rfl rfl (by omega) (by omega) fun i75 => ?_
        refine XO.q (Q.ldE rfl (by first | assumption | omega) rfl) ?_
        refine XO.done ?_
        refine XK.meet (X := Nat × Int × PHeap) [77, 78, 79, 80, 81, 82, 83, 84, 85, 86, 87, 88, 89, 90, 91, 92, 93, 94, 95, 96, 97, 98, 99, 100] (fun ⟨q2, x, kx⟩ => []) (fun ⟨q2, x, kx⟩ => [blk b13 [vl, .int .i64 ((q2 : Nat) : Int)] 30, kx]) (fun ⟨q2, x, kx⟩ => q2 ≤ q + 1 ∧ 0 ≤ x ∧ x ≤ V.getD i 0 + 108 ∧ (B.getD i false = true → (N.getD i default).low ≤ x - V.getD i 0 ∧ x - V.getD i 0 ≤ (N.getD i default).high) ∧ OArr vV encI 1 3 kx (V.set i x)) [blk b13 [vl, .int .i64 ((q : Nat) : Int)] 30, kv] ?_ ?_
        · rintro ⟨q2, x, kx⟩ ⟨hq3, hx0, hx1, hxb, OX⟩
          dsimp only [List.cons_append, List.nil_append]
          refine XK.seq ?_
          refine XK.region rfl ?_
          refine XO.q (Q.move rfl) ?_
          refine XO.q (Q.gtr rfl rfl) ?_
          refine XO.done ?_
          refine XK.if rfl (fun c4 => ?_) (fun c4 => ?_)
          · have _t4 := True.intro
            obtain ⟨b1, b2⟩ := a6 (by omega)
            obtain ⟨u, hu⟩ := Int.eq_ofNat_of_zero_le b1
            have hun := mv.nn u (by omega)
            have hl2 : (V.set i x).length = n := by rw [List.length_set]; exact vl_
            have hus := sum_getD (V := V) (m := i + 1) (fun j hj => mv.nn j (by omega)) (show u < i + 1 by omega)
            have hlow := mv.low
            have hun2 : 0 ≤ V.getD u default ∧ V.getD u default ≤ 972 := ⟨hun, by change V.getD u 0 ≤ 972; omega⟩
            refine XK.drawn [0, 1, 2, 3, 4, 5, 6, 7, 8, 9, 10, 11, 12] [b5, b10] [kx] (.q 0 (.q 1 (.q 2 (.q 3 (.q 4 (.q 5 (.q 6 (.q 7 (.q 8 (.q 9 (.q 10 (.q 11 (.q 12 (.br 13 false .done .stop)))))))))))))) Try.mixed rfl (by kernel_rfl) ?_
            refine XT.q rfl rfl (Q.fieldAddr rfl) ?_
            refine XT.q rfl rfl (Q.ld rfl rfl) ?_
            refine XT.q rfl rfl (Q.fieldAddr rfl) ?_
            refine XT.q rfl rfl (Q.ld rfl rfl) ?_
            rw [show (N.getD i default).up = (u : Int) from hu]
            refine XT.ix rfl rfl rfl rfl (by omega) (by omega) fun i107 => ?_
            refine XT.q rfl rfl (Q.ldE rfl (by first | assumption | omega) rfl) ?_
            rw [set_getDd (by omega), if_neg (by omega)]
            refine XT.q rfl rfl (Q.fieldAddr rfl) ?_
            refine XT.q rfl rfl (Q.ld rfl rfl) ?_
            refine XT.q rfl rfl (Q.move rfl) ?_
            refine XT.ix rfl rfl rfl rfl (by omega) (by omega) fun i112 => ?_
            refine XT.q rfl rfl (Q.ldE rfl (by first | assumption | omega) rfl) ?_
            rw [set_getDd (by omega), if_pos rfl]
            refine XT.q rfl rfl (Q.add rfl rfl ⟨by omega, by omega⟩) ?_
            refine XT.ix rfl rfl rfl rfl (by omega) (by omega) fun i115 => ?_
            refine XT.stE _ rfl rfl rfl rfl rfl (by assumption) rfl rfl (fun h22_13 O22_13 => ⟨inferInstance, ?_⟩) XT.stop
            refine XT.done ?_
            refine XK.inBlock ?_
            refine XK.region rfl ?_
            refine XO.q (Q.move rfl) ?_
            refine XO.q (Q.sub rfl rfl ⟨by omega, by omega⟩) ?_
            refine XO.q (Q.assign rfl) ?_
            refine XO.done ?_
            exact ih1 (i, q2, _, h22_13) _ _ ⟨by dsimp only; omega, by dsimp only; omega, mv.step2 mk hn9 (by omega) hx0 hx1 hxb (by omega) (by omega) hu, O22_13⟩ (by first | omega | (dsimp only; omega)) (.c rfl (.base 109 rfl rfl)) inferInstance
          · have _t4 := True.intro
            refine XK.skip ?_
            refine XK.inBlock ?_
            refine XK.region rfl ?_
            refine XO.q (Q.move rfl) ?_
            refine XO.q (Q.sub rfl rfl ⟨by omega, by omega⟩) ?_
            refine XO.q (Q.assign rfl) ?_
            refine XO.done ?_
            exact ih1 (i, q2, _, kx) _ _ ⟨by dsimp only; omega, by dsimp only; omega, mv.step mk hn9 (by omega) hx0 hx1 hxb (by omega), OX⟩ (by first | omega | (dsimp only; omega)) (.c rfl (.base 96 rfl rfl)) inferInstance
        · intro mt3
          dsimp only [List.cons_append, List.nil_append] at mt3
          refine XK.if rfl (fun c3 => ?_) (fun c3 => ?_)
          · have _t3 := True.intro
            refine XK.drawn [0, 1, 2, 3, 4, 5, 6, 7, 8, 9, 10, 11, 12, 13, 15, 16, 17] [b5, b10] [kv] (.q 0 (.q 1 (.q 2 (.q 3 (.q 4 (.q 5 (.q 6 (.q 7 (.q 8 (.q 9 (.q 10 (.q 11 (.q 12 (.q 13 (.br 14 true (.q 15 (.q 16 (.q 17 (.br 18 false .done .stop)))) .stop))))))))))))))) Try.mixed rfl (by kernel_rfl) ?_
            refine XT.q rfl rfl (Q.fieldAddr rfl) ?_
            refine XT.q rfl rfl (Q.ld rfl rfl) ?_
            refine XT.q rfl rfl (Q.move rfl) ?_
            refine XT.ix rfl rfl rfl rfl (by omega) (by omega) fun i80 => ?_
            refine XT.q rfl rfl (Q.ldE rfl (by first | assumption | omega) rfl) ?_
            refine XT.q rfl rfl (Q.fieldAddr rfl) ?_
            refine XT.q rfl rfl (Q.ld rfl rfl) ?_
            refine XT.q rfl rfl (Q.move rfl) ?_
            refine XT.q rfl rfl (Q.fieldAddr rfl) ?_
            refine XT.q rfl rfl (Q.ld rfl rfl) ?_
            refine XT.q rfl rfl (Q.fieldAddr rfl) ?_
            refine XT.q rfl rfl (Q.ld rfl rfl) ?_
            refine XT.q rfl rfl (Q.sub rfl rfl ⟨by omega, by omega⟩) ?_
            refine XT.q rfl rfl (Q.add rfl rfl ⟨by omega, by omega⟩) ?_
            obtain ⟨w, ew⟩ : ∃ w : Nat, (N.getD i default).high - (N.getD i default).low + 1 = w := ⟨((N.getD i default).high - (N.getD i default).low + 1).toNat, by omega⟩
            rw [ew]
            refine XT.callB b13 rfl rfl Try.call10 rfl rfl rfl (next11 b13 vl hl l (q) (w) (by omega) (by omega) (by omega)) (fun v91 s91 R91 => ?_) XT.stop
            obtain ⟨rfl, n91, rfl, h91⟩ := R91
            dsimp only [List.cons_append, List.nil_append]
            refine ⟨inferInstance, ?_⟩
            refine XT.q rfl rfl (Q.add rfl rfl ⟨by omega, by omega⟩) ?_
            refine XT.q rfl rfl (Q.add rfl rfl ⟨by omega, by omega⟩) ?_
            refine XT.ix rfl rfl rfl rfl (by omega) (by omega) fun i94 => ?_
            refine XT.stE _ rfl rfl rfl rfl rfl (by assumption) rfl rfl (fun h19_18 O19_18 => ⟨inferInstance, ?_⟩) XT.stop
            refine XT.done ?_
            exact mt3 (q + 1, _, h19_18) _ _ ⟨by dsimp only; omega, by dsimp only; omega, by dsimp only; change _ ≤ V.getD i default + 108; omega, fun _ => by dsimp only; change _ ≤ _ - V.getD i default ∧ _ - V.getD i default ≤ _; omega, O19_18⟩ (.base 18 rfl rfl) inferInstance
          · have _t3 := True.intro
            refine XK.drawn [0, 1, 2, 3, 5] [b5] [] (.q 0 (.q 1 (.q 2 (.q 3 (.br 4 true (.q 5 (.br 6 false .done .stop)) .stop))))) Try.mixed rfl (by kernel_rfl) ?_
            refine XT.q rfl rfl (Q.fieldAddr rfl) ?_
            refine XT.q rfl rfl (Q.ld rfl rfl) ?_
            refine XT.q rfl rfl (Q.move rfl) ?_
            refine XT.q rfl rfl (Q.move rfl) ?_
            refine XT.callB b13 rfl rfl Try.call10 rfl rfl rfl (next11 b13 vl hl l (q) (100) (by omega) (by omega) (by omega)) (fun v99 s99 R99 => ?_) XT.stop
            obtain ⟨rfl, n99, rfl, h99⟩ := R99
            dsimp only [List.cons_append, List.nil_append]
            refine ⟨inferInstance, ?_⟩
            refine XT.ix rfl rfl rfl rfl (by omega) (by omega) fun i100 => ?_
            refine XT.stE _ rfl rfl rfl rfl rfl (by assumption) rfl rfl (fun h20_6 O20_6 => ⟨inferInstance, ?_⟩) XT.stop
            refine XT.done ?_
            exact mt3 (q + 1, ((n99 : Nat) : Int), h20_6) _ _ ⟨by dsimp only; omega, by dsimp only; omega, by dsimp only; change _ ≤ V.getD i default + 108; omega, fun h => absurd h c3, O20_6⟩ (.base 6 rfl rfl) inferInstance
      · have _t2 := True.intro
        have hm0 : m = 0 := by omega
        subst hm0
        obtain ⟨w1, w2⟩ := made_done mk (by omega) hn9 mv
        refine XK.exit rfl ?_
        refine XK.seq ?_
        refine XK.region rfl ?_
        refine XO.q (Q.ldA [_, _] rfl rfl rfl) ?_
        refine XO.st rfl rfl rfl ?_
        refine XO.done ?_
        refine XK.rt [kn, kv] Try.func14 Try.results14 (.cell [_, _] rfl rfl rfl (.n)) ?_
        exact ⟨⟨N, V⟩, vN, vV, kn, kv, rfl, rfl, ON, OV, w1, w2, by dsimp only; omega⟩
  · intro mtr3
    dsimp only [List.cons_append, List.nil_append] at mtr3
    refine XK.drawn [0, 2, 4] [] [] (.q 0 (.q 2 (.br 1 true (.br 3 true (.q 4 (.br 5 true (.br 6 false .done .stop) .stop)) (.br 5 true (.br 3 true (.q 4 (.br 6 false .done .stop)) .stop) .stop)) (.br 3 true (.br 1 true (.q 4 (.br 5 true (.br 6 false .done .stop) .stop)) (.br 5 true (.br 1 true (.q 4 (.br 6 false .done .stop)) .stop) .stop)) (.br 5 true (.br 1 true (.br 3 true (.q 4 (.br 6 false .done .stop)) .stop) (.br 3 true (.br 1 true (.q 4 (.br 6 false .done .stop)) .stop) .stop)) .stop))))) Try.mixed rfl (by kernel_rfl) ?_
    refine XT.q rfl rfl (Q.move rfl) ?_
    refine XT.q rfl rfl (Q.move rfl) ?_
    refine XT.make encNode ((⟨0, 0, 0⟩ : MNode)) rfl rfl rfl rfl rfl (by omega) (by omega) (fun _ => rfl) rfl rfl rfl (by dsimp only [encNode]; infer_instance) (fun v18 h18 O18 => ⟨inferInstance, ?_⟩) ?_
    · skip
      refine XT.make encI (0) rfl rfl rfl rfl rfl (by omega) (by omega) (fun _ => rfl) rfl rfl rfl (by dsimp only [encI]; infer_instance) (fun v20 h20 O20 => ⟨inferInstance, ?_⟩) ?_
      · skip
        refine XT.q rfl rfl (Q.build [_, _] (.c 0 1 rfl rfl rfl (.c 1 1 rfl rfl rfl (.n _)))) ?_
        refine XT.alloc rfl rfl (fun b5 => ⟨inferInstance, ?_⟩) XT.stop
        refine XT.st rfl rfl rfl rfl rfl ⟨inferInstance, ?_⟩ XT.stop
        refine XT.done ?_
        exact mtr3 ((b5, v18, v20, h18, h20)) _ _ ⟨by have := O18; simpa using this, by have := O20; simpa using this⟩ (.c rfl (.base 6 rfl rfl)) inferInstance
      · skip
        refine XT.alloc rfl rfl (fun b5 => ⟨inferInstance, ?_⟩) XT.stop
        refine XT.make encI (0) rfl rfl rfl rfl rfl (by omega) (by omega) (fun _ => rfl) rfl rfl rfl (by dsimp only [encI]; infer_instance) (fun v20 h20 O20 => ⟨inferInstance, ?_⟩) XT.stop
        refine XT.q rfl rfl (Q.build [_, _] (.c 0 1 rfl rfl rfl (.c 1 1 rfl rfl rfl (.n _)))) ?_
        refine XT.st rfl rfl rfl rfl rfl ⟨inferInstance, ?_⟩ XT.stop
        refine XT.done ?_
        exact mtr3 ((b5, v18, v20, h18, h20)) _ _ ⟨by have := O18; simpa using this, by have := O20; simpa using this⟩ (.c rfl (.base 6 rfl rfl)) inferInstance
    · skip
      refine XT.make encI (0) rfl rfl rfl rfl rfl (by omega) (by omega) (fun _ => rfl) rfl rfl rfl (by dsimp only [encI]; infer_instance) (fun v20 h20 O20 => ⟨inferInstance, ?_⟩) ?_
      · skip
        refine XT.make encNode ((⟨0, 0, 0⟩ : MNode)) rfl rfl rfl rfl rfl (by omega) (by omega) (fun _ => rfl) rfl rfl rfl (by dsimp only [encNode]; infer_instance) (fun v18 h18 O18 => ⟨inferInstance, ?_⟩) ?_
        · skip
          refine XT.q rfl rfl (Q.build [_, _] (.c 0 1 rfl rfl rfl (.c 1 1 rfl rfl rfl (.n _)))) ?_
          refine XT.alloc rfl rfl (fun b5 => ⟨inferInstance, ?_⟩) XT.stop
          refine XT.st rfl rfl rfl rfl rfl ⟨inferInstance, ?_⟩ XT.stop
          refine XT.done ?_
          exact mtr3 ((b5, v18, v20, h18, h20)) _ _ ⟨by have := O18; simpa using this, by have := O20; simpa using this⟩ (.c rfl (.base 6 rfl rfl)) inferInstance
        · skip
          refine XT.alloc rfl rfl (fun b5 => ⟨inferInstance, ?_⟩) XT.stop
          refine XT.make encNode ((⟨0, 0, 0⟩ : MNode)) rfl rfl rfl rfl rfl (by omega) (by omega) (fun _ => rfl) rfl rfl rfl (by dsimp only [encNode]; infer_instance) (fun v18 h18 O18 => ⟨inferInstance, ?_⟩) XT.stop
          refine XT.q rfl rfl (Q.build [_, _] (.c 0 1 rfl rfl rfl (.c 1 1 rfl rfl rfl (.n _)))) ?_
          refine XT.st rfl rfl rfl rfl rfl ⟨inferInstance, ?_⟩ XT.stop
          refine XT.done ?_
          exact mtr3 ((b5, v18, v20, h18, h20)) _ _ ⟨by have := O18; simpa using this, by have := O20; simpa using this⟩ (.c rfl (.base 6 rfl rfl)) inferInstance
      · skip
        refine XT.alloc rfl rfl (fun b5 => ⟨inferInstance, ?_⟩) XT.stop
        refine XT.make encNode ((⟨0, 0, 0⟩ : MNode)) rfl rfl rfl rfl rfl (by omega) (by omega) (fun _ => rfl) rfl rfl rfl (by dsimp only [encNode]; infer_instance) (fun v18 h18 O18 => ⟨inferInstance, ?_⟩) ?_
        · skip
          refine XT.make encI (0) rfl rfl rfl rfl rfl (by omega) (by omega) (fun _ => rfl) rfl rfl rfl (by dsimp only [encI]; infer_instance) (fun v20 h20 O20 => ⟨inferInstance, ?_⟩) XT.stop
          refine XT.q rfl rfl (Q.build [_, _] (.c 0 1 rfl rfl rfl (.c 1 1 rfl rfl rfl (.n _)))) ?_
          refine XT.st rfl rfl rfl rfl rfl ⟨inferInstance, ?_⟩ XT.stop
          refine XT.done ?_
          exact mtr3 ((b5, v18, v20, h18, h20)) _ _ ⟨by have := O18; simpa using this, by have := O20; simpa using this⟩ (.c rfl (.base 6 rfl rfl)) inferInstance
        · skip
          refine XT.make encI (0) rfl rfl rfl rfl rfl (by omega) (by omega) (fun _ => rfl) rfl rfl rfl (by dsimp only [encI]; infer_instance) (fun v20 h20 O20 => ⟨inferInstance, ?_⟩) XT.stop
          refine XT.make encNode ((⟨0, 0, 0⟩ : MNode)) rfl rfl rfl rfl rfl (by omega) (by omega) (fun _ => rfl) rfl rfl rfl (by dsimp only [encNode]; infer_instance) (fun v18 h18 O18 => ⟨inferInstance, ?_⟩) XT.stop
          refine XT.q rfl rfl (Q.build [_, _] (.c 0 1 rfl rfl rfl (.c 1 1 rfl rfl rfl (.n _)))) ?_
          refine XT.st rfl rfl rfl rfl rfl ⟨inferInstance, ?_⟩ XT.stop
          refine XT.done ?_
          exact mtr3 ((b5, v18, v20, h18, h20)) _ _ ⟨by have := O18; simpa using this, by have := O20; simpa using this⟩ (.c rfl (.base 6 rfl rfl)) inferInstance
end Go.X

set_option linter.unusedSimpArgs false
set_option linter.unusedVariables false
set_option maxRecDepth 20000
namespace Go.X
open Go.Proofs
theorem sol_vals {c : MCase} {s : List Int} {v : List Int} (h : Sol c s v) : Vals c.nodes.length v := ⟨h.len, h.rng⟩
structure Sets (i : Nat) (S W : List Nat) : Prop where
  si : Inc 0 S
  wi : Inc 0 W
  sl : ∀ x ∈ S, x < i
  wl : ∀ x ∈ W, x < i
  sw : ∀ x ∈ S, x ∈ W
theorem Sets.skip {i : Nat} {S W : List Nat} (s : Sets i S W) : Sets (i + 1) S W := ⟨s.si, s.wi, fun x h => by have := s.sl x h; omega, fun x h => by have := s.wl x h; omega, s.sw⟩
theorem lt_snoc {i : Nat} {S : List Nat} (s : ∀ x ∈ S, x < i) : ∀ x ∈ S ++ [i], x < i + 1 := fun x h => by
  rcases List.mem_append.1 h with h | h
  · have := s x h; omega
  · rw [List.mem_singleton] at h; omega
theorem Sets.wide {i : Nat} {S W : List Nat} (s : Sets i S W) : Sets (i + 1) S (W ++ [i]) := ⟨s.si, inc_snoc s.wi s.wl (Nat.zero_le _), fun x h => by have := s.sl x h; omega, lt_snoc s.wl, fun x h => List.mem_append_left _ (s.sw x h)⟩
theorem Sets.both {i : Nat} {S W : List Nat} (s : Sets i S W) : Sets (i + 1) (S ++ [i]) (W ++ [i]) := ⟨inc_snoc s.si s.sl (Nat.zero_le _), inc_snoc s.wi s.wl (Nat.zero_le _), lt_snoc s.sl, lt_snoc s.wl, fun x h => by
  rcases List.mem_append.1 h with h | h
  · exact List.mem_append_left _ (s.sw x h)
  · exact List.mem_append_right _ h⟩
theorem inc_short {l : List Nat} {n : Nat} (h : Inc 0 l) (hl : ∀ x ∈ l, x < n) : l.length ≤ n := by
  have := inc_len h hl; omega
theorem inc_filter {p : Nat → Bool} : ∀ {l : List Nat} {b : Nat}, Inc b l → Inc b (l.filter p)
  | [], _, _ => trivial
  | x :: l, b, h => by
    rw [List.filter_cons]
    split
    · exact ⟨h.1, inc_filter h.2⟩
    · exact inc_weak (inc_filter h.2) (by have := h.1; omega)
  where inc_weak : ∀ {l : List Nat} {b b2 : Nat}, Inc b l → b2 ≤ b → Inc b2 l
  | [], _, _, _, _ => trivial
  | x :: l, b, b2, h, hb => ⟨by have := h.1; omega, h.2⟩
theorem pre_at {V r : List Int} {k : Nat} (hk : k ≤ V.length) (hr : r.length = V.length) : (splice V (((r.drop 0).take (k - 0)).take (k - 0)) 0).length = V.length ∧
    (∀ j, j < k → (splice V (((r.drop 0).take (k - 0)).take (k - 0)) 0).getD j 0 = r.getD j 0) ∧ ∀ j, k ≤ j → (splice V (((r.drop 0).take (k - 0)).take (k - 0)) 0).getD j 0 = V.getD j 0 := by
  have e : splice V (((r.drop 0).take (k - 0)).take (k - 0)) 0 = r.take k ++ V.drop k := by
    have h1 : ((r.drop 0).take (k - 0)).take (k - 0) = r.take k := by simp [List.take_take]
    unfold splice
    rw [h1]
    have h2 : min (r.take k).length (V.length - 0) = k := by rw [List.length_take]; omega
    rw [h2, List.take_zero, List.nil_append, List.take_take, Nat.min_self, Nat.zero_add]
  rw [e]
  have hl : (r.take k).length = k := by rw [List.length_take]; omega
  refine ⟨by rw [List.length_append, hl, List.length_drop]; omega, fun j hj => ?_, fun j hj => ?_⟩
  · rw [List.getD_eq_getElem?_getD, List.getElem?_append_left (by omega), List.getElem?_take, if_pos hj, List.getD_eq_getElem?_getD]
  · rw [List.getD_eq_getElem?_getD, List.getElem?_append_right (by omega), hl, List.getElem?_drop, show k + (j - k) = j by omega, List.getD_eq_getElem?_getD]
theorem take_snoc {l : List Nat} {q : Nat} (hq : q < l.length) : l.take (q + 1) = l.take q ++ [l.getD q 0] := by
  rw [List.getD_eq_getElem?_getD, List.getElem?_eq_getElem hq, Option.getD_some, List.take_append_getElem hq]
set_option maxHeartbeats 1000000 in
set_option synthInstance.maxHeartbeats 400000 in
set_option synthInstance.maxSize 1000 in
theorem MeterRepairs_spec (gl : Value) (hhl : PHeap) (l : List UInt8) [il : Arr gl encU8 1 hhl l] (gfs : Value) (hhfs : PHeap) (fs : List UInt8) [ifs : Arr gfs encU8 1 hhfs fs] (gw : Value) (hhw : PHeap) (ws : List UInt16) [iw : Arr gw encU16 1 hhw ws] (mem : Nat) (hmem : mem < 65536) (more : Nat) (hmore : more < 256) :
    Spec Try.prog 4 #[gl, gfs, gw, .int .u16 (mem : Nat), .int .u8 (more : Nat)] [] [hhl, hhfs, hhw] (fun v hs => v = .bool true ∧ hs = []) := by
  have nI : OArr (.slice none 0 0) encI 1 3 emp ([] : List Int) := OArr.nil (fun _ => rfl)
  have lf := ifs.le
  have lw := iw.le
  refine Spec.intro (fn := Try.f4) (N := 266) Try.func4 rfl Try.ntmps4 rfl fun B => ?_
  refine XK.seq ?_
  refine XK.region rfl ?_
  refine XO.q (Q.assign rfl) ?_
  refine XO.done ?_
  refine XK.seq ?_
  refine XK.region rfl ?_
  refine XO.q (Q.move rfl) ?_
  refine XO.call Try.call14 rfl rfl rfl (made11 gl hhl l) fun v36 s36 R36 => ?_
  obtain ⟨mc, vn, v0, kn, k0, rfl, rfl, ON, OV0, ok0, so0, n9⟩ := R36
  dsimp only [List.cons_append, List.nil_append]
  refine XO.alloc fun b11 => ?_
  refine XO.st rfl rfl rfl ?_
  refine XO.done ?_
  refine XK.seq ?_
  refine XK.seq ?_
  refine XK.region rfl ?_
  refine XO.q (Q.move rfl) ?_
  refine XO.q (Q.move rfl) ?_
  refine XO.len rfl fun l39 => ?_
  refine XO.q (Q.move rfl) ?_
  refine XO.len rfl fun l41 => ?_
  refine XO.q (Q.min3 rfl rfl rfl) ?_
  refine XO.cut (i := 0) (j := min (min fs.length ws.length) 4) rfl .n (.s rfl (by omega)) (by omega) (by omega) fun v43 A43 => ?_
  obtain ⟨cs, ecs⟩ : ∃ cs, cs = (fs.drop 0).take (min (min fs.length ws.length) 4 - 0) := ⟨_, rfl⟩
  rw [← ecs] at A43
  have hcl : cs.length ≤ ws.length := by rw [ecs, List.length_take]; omega
  clear ecs
  refine XO.len rfl fun l44 => ?_
  refine XO.q (Q.move rfl) ?_
  refine XO.done ?_
  refine XK.block ?_
  refine XK.while (X := Nat × List Int × PHeap) [12, 13, 45, 46, 47, 48, 49, 50, 51, 52, 53, 54, 55, 56, 57, 58, 59, 60, 61, 62, 63, 64] (fun ⟨j, V, kV⟩ => [(45, some (.int .i64 (j : Nat)))]) (fun ⟨j, V, kV⟩ => [kV]) (fun ⟨j, V, kV⟩ => j ≤ cs.length ∧ Vals mc.nodes.length V ∧ OArr v0 encI 1 3 kV V) (fun ⟨j, V, kV⟩ => cs.length - j) (0, mc.vals, k0) [k0] rfl ⟨by omega, sol_vals so0, OV0⟩ (.c rfl (.base 0 rfl rfl)) ?_
  rintro ⟨j, V, kV⟩ ⟨hj, vv, OV⟩ ih0
  dsimp only [List.cons_append, List.nil_append] at ih0 ⊢
  refine XK.seq ?_
  refine XK.region rfl ?_
  refine XO.q (Q.lss rfl rfl) ?_
  refine XO.done ?_
  refine XK.seq ?_
  refine XK.if rfl (fun c0 => ?_) (fun c0 => ?_)
  · have _t0 := True.intro
    have vl := vv.len
    have n1 := ok0.n1
    have fl : j < ws.length := by omega
    refine XK.skip ?_
    refine XK.seq ?_
    refine XK.block ?_
    refine XK.seq ?_
    refine XK.region rfl ?_
    refine XO.q (Q.move rfl) ?_
    refine XO.ix rfl rfl (by omega) (by omega) fun i48 => ?_
    refine XO.q (Q.ldE rfl (by first | assumption | omega) rfl) ?_
    have hu := (cs.getD j default).toNat_lt
    refine XO.q (Q.assign rfl) ?_
    refine XO.q (Q.assign rfl) ?_
    refine XO.done ?_
    refine XK.drawn [0, 1, 2, 3, 4, 5, 6, 7, 8, 9, 10, 11, 12, 13] [b11] [] (.q 0 (.q 1 (.q 2 (.q 3 (.q 4 (.q 5 (.q 6 (.q 7 (.q 8 (.q 9 (.q 10 (.q 11 (.q 12 (.q 13 (.br 14 false .done .stop))))))))))))))) Try.mixed rfl (by kernel_rfl) ?_
    refine XT.q rfl rfl (Q.fieldAddr rfl) ?_
    refine XT.q rfl rfl (Q.ld rfl rfl) ?_
    refine XT.q rfl rfl (Q.move rfl) ?_
    refine XT.q rfl rfl (Q.conv rfl) ?_
    rw [wrap64_of ⟨by omega, by omega⟩]
    refine XT.q rfl rfl (Q.fieldAddr rfl) ?_
    refine XT.q rfl rfl (Q.ld rfl rfl) ?_
    refine XT.q rfl rfl (Q.len rfl) ?_
    refine XT.q rfl rfl (Q.rem rfl rfl (by omega) (by omega)) ?_
    rw [show ((((cs.getD j default).toNat : Nat) : Int) % ((mc.nodes.length : Nat) : Int)) = (((cs.getD j default).toNat % mc.nodes.length : Nat) : Int) from rfl]
    have hmod : (cs.getD j default).toNat % mc.nodes.length < mc.nodes.length := Nat.mod_lt _ (by omega)
    refine XT.q rfl rfl (Q.move rfl) ?_
    refine XT.q rfl rfl (Q.move rfl) ?_
    refine XT.ix rfl rfl rfl rfl (by omega) (by omega) fun i60 => ?_
    refine XT.q rfl rfl (Q.ldE rfl (by first | assumption | omega) rfl) ?_
    have hu2 := (ws.getD j default).toNat_lt
    refine XT.q rfl rfl (Q.conv rfl) ?_
    rw [wrap64_of ⟨by omega, by omega⟩]
    refine XT.ix rfl rfl rfl rfl (by omega) (by omega) fun i63 => ?_
    refine XT.stE _ rfl rfl rfl rfl rfl (by assumption) rfl rfl (fun h5_14 O5_14 => ⟨inferInstance, ?_⟩) XT.stop
    refine XT.done ?_
    refine XK.inBlock ?_
    refine XK.region rfl ?_
    refine XO.q (Q.add rfl rfl ⟨by omega, by omega⟩) ?_
    refine XO.q (Q.move rfl) ?_
    refine XO.done ?_
    exact ih0 (j + 1, _, h5_14) _ _ ⟨by dsimp only; omega, vv.set (by omega) (by omega) (by omega), O5_14⟩ (by first | omega | (dsimp only; omega)) (.c rfl (.base 45 rfl rfl)) inferInstance
  · have _t0 := True.intro
    have ok : MOk ⟨mc.nodes, V⟩ := ok0.with vv.len vv.rng
    have vl := vv.len
    have n1 := ok0.n1
    have wv := vv
    clear ih0
    refine XK.exit rfl ?_
    refine XK.seq ?_
    refine XK.region rfl ?_
    refine XO.q (Q.assign rfl) ?_
    refine XO.q (Q.assign rfl) ?_
    refine XO.done ?_
    refine XK.seq ?_
    refine XK.seq ?_
    refine XK.region rfl ?_
    refine XO.q (Q.fieldAddr rfl) ?_
    refine XO.q (Q.ld rfl rfl) ?_
    refine XO.len rfl fun l67 => ?_
    refine XO.q (Q.move rfl) ?_
    refine XO.done ?_
    refine XK.block ?_
    refine XK.while (X := Nat × List Nat × Value × PHeap × List Nat × Value × PHeap) [14, 15, 16, 68, 69, 70, 71, 72, 73, 74, 75, 76, 77, 78, 79, 80, 81, 82, 83, 84, 85, 86, 87, 88, 89, 90, 91, 92, 93, 94, 95, 96, 97, 98, 99] (fun ⟨i, S, vS, kS, W, vW, kW⟩ => [(68, some (.int .i64 (i : Nat))), (14, some (vS)), (15, some (vW))]) (fun ⟨i, S, vS, kS, W, vW, kW⟩ => [kS, kW]) (fun ⟨i, S, vS, kS, W, vW, kW⟩ => i ≤ mc.nodes.length ∧ Sets i S W ∧ OArr vS encI 1 3 kS (ints S) ∧ OArr vW encI 1 3 kW (ints W)) (fun ⟨i, S, vS, kS, W, vW, kW⟩ => mc.nodes.length - i) (0, [], .slice none 0 0, emp, [], .slice none 0 0, emp) [emp, emp] rfl ⟨by omega, ⟨trivial, trivial, (fun x hx => by cases hx), (fun x hx => by cases hx), (fun x hx => by cases hx)⟩, nI, nI⟩ (.c rfl (.c rfl (.c rfl (.base 0 rfl rfl)))) ?_
    rintro ⟨i, S, vS, kS, W, vW, kW⟩ ⟨hi, sets, OS, OW⟩ ih1
    dsimp only [List.cons_append, List.nil_append] at ih1 ⊢
    refine XK.seq ?_
    refine XK.region rfl ?_
    refine XO.q (Q.lss rfl rfl) ?_
    refine XO.done ?_
    refine XK.seq ?_
    refine XK.if rfl (fun c1 => ?_) (fun c1 => ?_)
    · have _t1 := True.intro
      have s1 := inc_short sets.si sets.sl
      have s2 := inc_short sets.wi sets.wl
      have l1 := ints_len (l := S)
      have l2 := ints_len (l := W)
      refine XK.skip ?_
      refine XK.seq ?_
      refine XK.block ?_
      refine XK.seq ?_
      refine XK.region rfl ?_
      refine XO.q (Q.move rfl) ?_
      refine XO.q (Q.assign rfl) ?_
      refine XO.done ?_
      refine XK.seq ?_
      refine XK.seq ?_
      refine XK.region rfl ?_
      refine XO.q (Q.move rfl) ?_
      refine XO.q (Q.move rfl) ?_
      refine XO.q (Q.shrW rfl rfl (by omega)) ?_
      refine XO.q (Q.andW rfl rfl) ?_
      refine XO.q (Q.eql rfl rfl) ?_
      refine XO.done ?_
      refine XK.if rfl (fun c2 => ?_) (fun c2 => ?_)
      · have _t2 := True.intro
        refine XK.region rfl ?_
        refine XO.q (Q.move rfl) ?_
        refine XO.q (Q.move rfl) ?_
        refine XO.lit [_] [_] [((i : Nat) : Int)] encI (by rfl) (by rfl) rfl (by rfl) (by exact .c 0 1 rfl rfl rfl (.n _)) (fun _ => rfl) (by rfl) rfl (by infer_instance) rfl fun v78 h78 O78 => ?_
        refine XO.append rfl rfl rfl rfl (by simp only [List.length_cons, List.length_nil]; omega) fun v79 h79 O79 => ?_
        refine XO.q (Q.assign rfl) ?_
        refine XO.done ?_
        refine XK.seq ?_
        refine XK.region rfl ?_
        refine XO.q (Q.move rfl) ?_
        refine XO.q (Q.move rfl) ?_
        refine XO.q (Q.shrW rfl rfl (by omega)) ?_
        refine XO.q (Q.andW rfl rfl) ?_
        refine XO.q (Q.eql rfl rfl) ?_
        refine XO.q (Q.move rfl) ?_
        refine XO.q (Quiet.guardF rfl rfl fun g86 p86 => Q.move rfl) ?_
        refine XO.q (Quiet.guardF rfl rfl fun g87 p87 => Q.move rfl) ?_
        refine XO.q (Quiet.guardF rfl rfl fun g88 p88 => Q.conv (lzv g88 rfl)) ?_
        rw [wrap64_of ⟨by omega, by omega⟩]
        refine XO.q (Quiet.guardF rfl rfl fun g89 p89 => Q.fieldAddr rfl) ?_
        refine XO.q (Quiet.guardF rfl rfl fun g90 p90 => Q.ld (lzv g90 rfl) rfl) ?_
        refine XO.q (Quiet.guardF rfl rfl fun g91 p91 => Q.len (lzv g91 rfl)) ?_
        refine XO.q (Quiet.guardF rfl rfl fun g92 p92 => Q.rem (lzv g92 rfl) (lzv g92 rfl) (by omega) (by omega)) ?_
        refine XO.q (Quiet.guardF rfl rfl fun g93 p93 => Q.eql (lzv g93 rfl) (lzv g93 rfl)) ?_
        refine XO.q (Q.or rfl (fun hp => lzv hp rfl)) ?_
        refine XO.done ?_
        refine XK.if rfl (fun c3 => ?_) (fun c3 => ?_)
        · have _t3 := True.intro
          refine XK.region rfl ?_
          refine XO.q (Q.move rfl) ?_
          refine XO.q (Q.move rfl) ?_
          refine XO.lit [_] [_] [((i : Nat) : Int)] encI (by rfl) (by rfl) rfl (by rfl) (by exact .c 0 1 rfl rfl rfl (.n _)) (fun _ => rfl) (by rfl) rfl (by infer_instance) rfl fun v97 h97 O97 => ?_
          refine XO.append rfl rfl rfl rfl (by simp only [List.length_cons, List.length_nil]; omega) fun v98 h98 O98 => ?_
          refine XO.q (Q.assign rfl) ?_
          refine XO.done ?_
          refine XK.inBlock ?_
          refine XK.region rfl ?_
          refine XO.q (Q.add rfl rfl ⟨by omega, by omega⟩) ?_
          refine XO.q (Q.move rfl) ?_
          refine XO.done ?_
          exact ih1 (i + 1, S ++ [i], v79, h79, W ++ [i], v98, h98) _ _ ⟨by dsimp only; omega, sets.both, by rw [ints_snoc]; exact O79, by rw [ints_snoc]; exact O98⟩ (by first | omega | (dsimp only; omega)) (.c rfl (.c rfl (.c rfl (.base 73 rfl rfl)))) inferInstance
        · have _t3 := True.intro
          exact absurd (Or.inl c2) c3
      · have _t2 := True.intro
        refine XK.skip ?_
        refine XK.seq ?_
        refine XK.region rfl ?_
        refine XO.q (Q.move rfl) ?_
        refine XO.q (Q.move rfl) ?_
        refine XO.q (Q.shrW rfl rfl (by omega)) ?_
        refine XO.q (Q.andW rfl rfl) ?_
        refine XO.q (Q.eql rfl rfl) ?_
        refine XO.q (Q.move rfl) ?_
        refine XO.q (Quiet.guardF rfl rfl fun g86 p86 => Q.move rfl) ?_
        refine XO.q (Quiet.guardF rfl rfl fun g87 p87 => Q.move rfl) ?_
        refine XO.q (Quiet.guardF rfl rfl fun g88 p88 => Q.conv (lzv g88 rfl)) ?_
        rw [wrap64_of ⟨by omega, by omega⟩]
        refine XO.q (Quiet.guardF rfl rfl fun g89 p89 => Q.fieldAddr rfl) ?_
        refine XO.q (Quiet.guardF rfl rfl fun g90 p90 => Q.ld (lzv g90 rfl) rfl) ?_
        refine XO.q (Quiet.guardF rfl rfl fun g91 p91 => Q.len (lzv g91 rfl)) ?_
        refine XO.q (Quiet.guardF rfl rfl fun g92 p92 => Q.rem (lzv g92 rfl) (lzv g92 rfl) (by omega) (by omega)) ?_
        refine XO.q (Quiet.guardF rfl rfl fun g93 p93 => Q.eql (lzv g93 rfl) (lzv g93 rfl)) ?_
        refine XO.q (Q.or rfl (fun hp => lzv hp rfl)) ?_
        refine XO.done ?_
        refine XK.if rfl (fun c4 => ?_) (fun c4 => ?_)
        · have _t4 := True.intro
          refine XK.region rfl ?_
          refine XO.q (Q.move rfl) ?_
          refine XO.q (Q.move rfl) ?_
          refine XO.lit [_] [_] [((i : Nat) : Int)] encI (by rfl) (by rfl) rfl (by rfl) (by exact .c 0 1 rfl rfl rfl (.n _)) (fun _ => rfl) (by rfl) rfl (by infer_instance) rfl fun v97 h97 O97 => ?_
          refine XO.append rfl rfl rfl rfl (by simp only [List.length_cons, List.length_nil]; omega) fun v98 h98 O98 => ?_
          refine XO.q (Q.assign rfl) ?_
          refine XO.done ?_
          refine XK.inBlock ?_
          refine XK.region rfl ?_
          refine XO.q (Q.add rfl rfl ⟨by omega, by omega⟩) ?_
          refine XO.q (Q.move rfl) ?_
          refine XO.done ?_
          exact ih1 (i + 1, S, vS, kS, W ++ [i], v98, h98) _ _ ⟨by dsimp only; omega, sets.wide, OS, by rw [ints_snoc]; exact O98⟩ (by first | omega | (dsimp only; omega)) (.c rfl (.c rfl (.c rfl (.base 68 rfl rfl)))) inferInstance
        · have _t4 := True.intro
          refine XK.skip ?_
          refine XK.inBlock ?_
          refine XK.region rfl ?_
          refine XO.q (Q.add rfl rfl ⟨by omega, by omega⟩) ?_
          refine XO.q (Q.move rfl) ?_
          refine XO.done ?_
          exact ih1 (i + 1, S, vS, kS, W, vW, kW) _ _ ⟨by dsimp only; omega, sets.skip, OS, OW⟩ (by first | omega | (dsimp only; omega)) (.c rfl (.c rfl (.c rfl (.base 63 rfl rfl)))) inferInstance
    · have _t1 := True.intro
      have hin : i = mc.nodes.length := by omega
      rw [hin] at sets
      have sil := ints_len (l := S)
      clear ih1 hin
      refine XK.exit rfl ?_
      refine XK.seq ?_
      refine XK.region rfl ?_
      refine XO.q (Q.ldA [_, _] rfl rfl rfl) ?_
      refine XO.q (Q.move rfl) ?_
      refine XO.call Try.call15 rfl rfl rfl (Explains_spec ⟨mc.nodes, V⟩ vn v0 kn kV (ints S) vS kS) fun v103 s103 R103 => ?_
      obtain ⟨rfl, rfl⟩ := R103
      dsimp only [List.cons_append, List.nil_append]
      rw [explains_inc ok sets.si sets.sl]
      dsimp only
      refine XO.q (Q.move rfl) ?_
      refine XO.q (Q.extract rfl rfl) ?_
      refine XO.q (Q.extract rfl rfl) ?_
      refine XO.q (Q.assign rfl) ?_
      refine XO.q (Q.assign rfl) ?_
      refine XO.done ?_
      refine XK.seq ?_
      refine XK.region rfl ?_
      refine XO.q (Q.ldA [_, _] rfl rfl rfl) ?_
      refine XO.q (Q.move rfl) ?_
      refine XO.call Try.call15 rfl rfl rfl (Explains_spec ⟨mc.nodes, V⟩ vn v0 kn kV (ints W) vW kW) fun v109 s109 R109 => ?_
      obtain ⟨rfl, rfl⟩ := R109
      dsimp only [List.cons_append, List.nil_append]
      rw [explains_inc ok sets.wi sets.wl]
      dsimp only
      refine XO.q (Q.move rfl) ?_
      refine XO.q (Q.extract rfl rfl) ?_
      refine XO.q (Q.extract rfl rfl) ?_
      refine XO.q (Q.assign rfl) ?_
      refine XO.q (Q.assign rfl) ?_
      refine XO.done ?_
      refine XK.seq ?_
      refine XK.region rfl ?_
      refine XO.q (Q.ldA [_, _] rfl rfl rfl) ?_
      refine XO.call Try.call16 rfl rfl rfl (Least_spec ⟨mc.nodes, V⟩ vn v0 kn kV (fun _ s hs => combos_steps hs)) fun v114 s114 R114 => ?_
      obtain ⟨xL, yL, KL, us, rfl, rfl, OL, RL⟩ := R114
      dsimp only [List.cons_append, List.nil_append]
      obtain ⟨ri, rx⟩ := range_expl ok (v := mc.vals) ok0.vl so0
      obtain ⟨t0, ht0, hle, hpos, hno⟩ := least_law ok ri (fun x hx => List.mem_range.1 hx) rx (by rw [List.length_range]; exact Nat.le_refl _)
      rw [hle] at RL ⊢
      dsimp only at RL ⊢
      have rl1 := RL.1
      rw [List.length_map] at rl1
      have aL0 : Arr (us.getD (Int.toNat 0) default) encI 1 KL (ints ((leastAt ⟨mc.nodes, V⟩ t0).getD 0 [])) := by
        have := RL.2 0 (by omega)
        have e : ((leastAt ⟨mc.nodes, V⟩ t0).map ints).getD 0 default = ints ((leastAt ⟨mc.nodes, V⟩ t0).getD 0 []) := by
          rw [List.getD_eq_getElem?_getD, List.getElem?_map, List.getD_eq_getElem?_getD, List.getElem?_eq_getElem hpos]; rfl
        rw [e] at this
        exact this
      have l0 : (ints ((leastAt ⟨mc.nodes, V⟩ t0).getD 0 [])).length = t0 := by rw [ints_len]; exact least_len (getD_memL hpos)
      refine XO.q (Q.move rfl) ?_
      refine XO.q (Q.extract rfl rfl) ?_
      refine XO.q (Q.extract rfl rfl) ?_
      refine XO.q (Q.assign rfl) ?_
      refine XO.q (Q.assign rfl) ?_
      refine XO.done ?_
      refine XK.seq ?_
      refine XK.seq ?_
      refine XK.region rfl ?_
      refine XO.q (Q.move rfl) ?_
      refine XO.q (Q.neq rfl rfl) ?_
      refine XO.q (Q.move rfl) ?_
      refine XO.q (Quiet.guardF rfl rfl fun g120 p120 => Q.move rfl) ?_
      refine XO.q (Quiet.guardF rfl rfl fun g121 p121 => Q.neq (lzv g121 rfl) rfl) ?_
      refine XO.q (Q.or rfl (fun hp => lzv hp rfl)) ?_
      refine XO.q (Q.move rfl) ?_
      refine XO.q (Quiet.guardF rfl rfl fun g124 p124 => Q.move rfl) ?_
      refine XO.q (Quiet.guardF rfl rfl fun g125 p125 => Q.neq (lzv g125 rfl) rfl) ?_
      refine XO.q (Q.or rfl (fun hp => lzv hp rfl)) ?_
      refine XO.q (Q.move rfl) ?_
      refine XO.q (Quiet.guardF rfl rfl fun g128 p128 => Q.move rfl) ?_
      refine XO.q (Quiet.guardF rfl rfl fun g129 p129 => Q.move (lzv g129 rfl)) ?_
      refine XO.q (Quiet.guard2 rfl rfl fun g130a g130b => have p130a := bpF g130a; have p130b := bpT g130b; Q.move rfl) ?_
      refine XO.q (Quiet.guard2 rfl rfl fun g131a g131b => have p131a := bpF g131a; have p131b := bpT g131b; Q.not (lzv g131b (lzv g131a rfl))) ?_
      refine XO.q (Quiet.guardF rfl rfl fun g132 p132 => Q.and (lzv g132 rfl) (fun hp => (lzv hp (lzv g132 rfl)))) ?_
      refine XO.q (Q.or rfl (fun hp => lzv hp rfl)) ?_
      refine XO.q (Q.move rfl) ?_
      refine XO.q (Quiet.guardF rfl rfl fun g135 p135 => Q.move rfl) ?_
      refine XO.q (Quiet.guardF rfl rfl fun g136 p136 => Q.move (lzv g136 rfl)) ?_
      refine XO.q (Quiet.guard2 rfl rfl fun g137a g137b => have p137a := bpF g137a; have p137b := bpT g137b; Q.move rfl) ?_
      refine XO.q (Quiet.guard2 rfl rfl fun g138a g138b => have p138a := bpF g138a; have p138b := bpT g138b; Q.len (lzv g138b (lzv g138a rfl))) ?_
      refine XO.q (Quiet.guard2 rfl rfl fun g139a g139b => have p139a := bpF g139a; have p139b := bpT g139b; Q.move rfl) ?_
      refine XO.q (Quiet.guard2 rfl rfl fun g140a g140b => have p140a := bpF g140a; have p140b := bpT g140b; Q.ix (lzv g140b (lzv g140a rfl)) rfl (by omega) (by omega)) ?_
      refine XO.q (Quiet.guard2 rfl rfl fun g141a g141b => have p141a := bpF g141a; have p141b := bpT g141b; Q.ldE (lzv g141b (lzv g141a rfl)) (by first | assumption | omega) rfl) ?_
      refine XO.q (Quiet.guard2 rfl rfl fun g142a g142b => have p142a := bpF g142a; have p142b := bpT g142b; Q.len (lzv g142b (lzv g142a rfl))) ?_
      refine XO.q (Quiet.guard2 rfl rfl fun g143a g143b => have p143a := bpF g143a; have p143b := bpT g143b; Q.lss (lzv g143b (lzv g143a rfl)) (lzv g143b (lzv g143a rfl))) ?_
      refine XO.q (Quiet.guardF rfl rfl fun g144 p144 => Q.and (lzv g144 rfl) (fun hp => (lzv hp (lzv g144 rfl)))) ?_
      refine XO.q (Q.or rfl (fun hp => lzv hp rfl)) ?_
      refine XO.done ?_
      refine XK.if rfl (fun c5 => ?_) (fun c5 => ?_)
      · have _t5 := True.intro
        rcases c5 with (((h | h) | h) | h) | h
        · exact absurd rfl h
        · exact absurd rfl h
        · exact absurd rfl h
        · exact absurd (ok_mono ok sets.sw h.1) h.2
        · have := least_small hno sets.si sets.sl h.1
          omega
      · have _t5 := True.intro
        refine XK.skip ?_
        refine XK.seq ?_
        refine XK.region rfl ?_
        refine XO.q (Q.ldA [_, _] rfl rfl rfl) ?_
        refine XO.q (Q.move rfl) ?_
        refine XO.call Try.call17 rfl rfl rfl (Repair_spec ⟨mc.nodes, V⟩ vn v0 kn kV (ints S) vS kS) fun v149 s149 R149 => ?_
        obtain ⟨xR, yR, rfl, rfl, OR⟩ := R149
        dsimp only [List.cons_append, List.nil_append]
        rw [repair_inc ok sets.si sets.sl] at OR ⊢
        refine XO.q (Q.move rfl) ?_
        refine XO.q (Q.extract rfl rfl) ?_
        refine XO.q (Q.extract rfl rfl) ?_
        refine XO.q (Q.assign rfl) ?_
        refine XO.q (Q.assign rfl) ?_
        refine XO.done ?_
        refine XK.seq ?_
        refine XK.seq ?_
        refine XK.region rfl ?_
        refine XO.q (Q.move rfl) ?_
        refine XO.q (Q.not rfl) ?_
        refine XO.done ?_
        refine XK.if rfl (fun c6 => ?_) (fun c6 => ?_)
        · have _t6 := True.intro
          rw [if_neg c6]
          dsimp only
          refine XK.seq ?_
          refine XK.region rfl ?_
          refine XO.q (Q.move rfl) ?_
          refine XO.q (Q.eql rfl rfl) ?_
          refine XO.q (Q.move rfl) ?_
          refine XO.gcallT rfl rfl Try.call13 rfl (fun g157 => .n) rfl (fun g157 p157 => awake11) ?_
          refine XO.q (Q.and rfl (fun hp => lzv hp rfl)) ?_
          refine XO.q (Q.assign rfl) ?_
          refine XO.done ?_
          refine XK.rt [] Try.func4 Try.results4 (.t rfl .n) ?_
          exact ⟨rfl, rfl⟩
        · have _t6 := True.intro
          have h0 := Decidable.of_not_not c6
          rw [if_pos h0] at OR ⊢
          dsimp only at OR ⊢
          have rs := rep_sol ok (ok_all ok h0)
          have rv := sol_vals rs
          have rvl := rv.len
          dsimp only at rvl rv
          have okr : MOk ⟨mc.nodes, (repairL ⟨mc.nodes, V⟩ (ints S))⟩ := ok0.with rv.len rv.rng
          refine XK.skip ?_
          refine XK.seq ?_
          refine XK.seq ?_
          refine XK.region rfl ?_
          refine XO.q (Q.move rfl) ?_
          refine XO.q (Q.neq rfl rfl) ?_
          refine XO.q (Q.move rfl) ?_
          refine XO.q (Quiet.guardF rfl rfl fun g162 p162 => Q.move rfl) ?_
          refine XO.q (Quiet.guardF rfl rfl fun g163 p163 => Q.len (lzv g163 rfl)) ?_
          refine XO.q (Quiet.guardF rfl rfl fun g164 p164 => Q.fieldAddr rfl) ?_
          refine XO.q (Quiet.guardF rfl rfl fun g165 p165 => Q.ld (lzv g165 rfl) rfl) ?_
          refine XO.q (Quiet.guardF rfl rfl fun g166 p166 => Q.len (lzv g166 rfl)) ?_
          refine XO.q (Quiet.guardF rfl rfl fun g167 p167 => Q.neq (lzv g167 rfl) (lzv g167 rfl)) ?_
          refine XO.q (Q.or rfl (fun hp => lzv hp rfl)) ?_
          refine XO.done ?_
          refine XK.if rfl (fun c7 => ?_) (fun c7 => ?_)
          · have _t7 := True.intro
            rcases c7 with h | h
            · exact absurd rfl h
            · omega
          · have _t7 := True.intro
            refine XK.skip ?_
            refine XK.seq ?_
            refine XK.region rfl ?_
            refine XO.q (Q.fieldAddr rfl) ?_
            refine XO.q (Q.ld rfl rfl) ?_
            refine XO.q (Q.move rfl) ?_
            refine XO.q (Q.build [_, _] (.c 0 1 rfl rfl rfl (.c 1 1 rfl rfl rfl (.n _)))) ?_
            refine XO.call Try.call18 rfl rfl rfl (Broken_spec ⟨mc.nodes, (repairL ⟨mc.nodes, V⟩ (ints S))⟩ vn xR kn yR) fun v174 s174 R174 => ?_
            obtain ⟨xB, yB, rfl, rfl, OB⟩ := R174
            dsimp only [List.cons_append, List.nil_append]
            have hbr : brokenG ⟨mc.nodes, (repairL ⟨mc.nodes, V⟩ (ints S))⟩ = ([], 0) := by
              have e := sol_broken rs
              rw [brokenG, if_neg (by rw [mok_check okr]; decide)]
              dsimp only at e ⊢
              rw [e]; rfl
            rw [hbr] at OB ⊢
            dsimp only at OB ⊢
            refine XO.q (Q.move rfl) ?_
            refine XO.q (Q.extract rfl rfl) ?_
            refine XO.q (Q.extract rfl rfl) ?_
            refine XO.q (Q.assign rfl) ?_
            refine XO.q (Q.assign rfl) ?_
            refine XO.done ?_
            refine XK.seq ?_
            refine XK.seq ?_
            refine XK.region rfl ?_
            refine XO.q (Q.move rfl) ?_
            refine XO.q (Q.neq rfl rfl) ?_
            refine XO.q (Q.move rfl) ?_
            refine XO.q (Quiet.guardF rfl rfl fun g180 p180 => Q.move rfl) ?_
            refine XO.q (Quiet.guardF rfl rfl fun g181 p181 => Q.len (lzv g181 rfl)) ?_
            refine XO.q (Quiet.guardF rfl rfl fun g182 p182 => Q.neq (lzv g182 rfl) rfl) ?_
            refine XO.q (Q.or rfl (fun hp => lzv hp rfl)) ?_
            refine XO.done ?_
            refine XK.if rfl (fun c8 => ?_) (fun c8 => ?_)
            · have _t8 := True.intro
              simp at c8
            · have _t8 := True.intro
              refine XK.skip ?_
              refine XK.seq ?_
              refine XK.seq ?_
              refine XK.region rfl ?_
              refine XO.q (Q.move rfl) ?_
              refine XO.len rfl fun l185 => ?_
              refine XO.q (Q.move rfl) ?_
              refine XO.done ?_
              refine XK.block ?_
              refine XK.while (X := Nat) [10, 25, 26, 186, 187, 188, 189, 190, 191, 192, 193, 194, 195, 196, 197, 198, 199, 200, 201, 202, 203, 204] (fun i => [(186, some (.int .i64 (i : Nat)))]) (fun i => []) (fun i => i ≤ (repairL ⟨mc.nodes, V⟩ (ints S)).length) (fun i => (repairL ⟨mc.nodes, V⟩ (ints S)).length - i) (0) [] rfl (by omega) (.c rfl (.base 0 rfl rfl)) ?_
              rintro i hi2 ih2
              dsimp only [List.cons_append, List.nil_append] at ih2 ⊢
              refine XK.seq ?_
              refine XK.region rfl ?_
              refine XO.q (Q.lss rfl rfl) ?_
              refine XO.done ?_
              refine XK.seq ?_
              refine XK.if rfl (fun c9 => ?_) (fun c9 => ?_)
              · have _t9 := True.intro
                refine XK.skip ?_
                refine XK.seq ?_
                refine XK.block ?_
                refine XK.seq ?_
                refine XK.region rfl ?_
                refine XO.q (Q.move rfl) ?_
                refine XO.ix rfl rfl (by omega) (by omega) fun i189 => ?_
                refine XO.q (Q.ldE rfl (by first | assumption | omega) rfl) ?_
                refine XO.q (Q.assign rfl) ?_
                refine XO.q (Q.assign rfl) ?_
                refine XO.done ?_
                refine XK.seq ?_
                refine XK.region rfl ?_
                refine XO.q (Q.move rfl) ?_
                refine XO.q (Q.fieldAddr rfl) ?_
                refine XO.q (Q.ld rfl rfl) ?_
                refine XO.q (Q.move rfl) ?_
                refine XO.ix rfl rfl (by omega) (by omega) fun i195 => ?_
                refine XO.q (Q.ldE rfl (by first | assumption | omega) rfl) ?_
                refine XO.q (Q.neq rfl rfl) ?_
                refine XO.q (Q.move rfl) ?_
                refine XO.q (Quiet.guardT rfl rfl fun g199 p199 => Q.move rfl) ?_
                refine XO.q (Quiet.guardT rfl rfl fun g200 p200 => Q.move rfl) ?_
                refine XO.gcallT rfl rfl Try.call19 rfl (fun g201 => .c (lzv g201 rfl) (.c (lzv g201 rfl) .n)) rfl (fun g201 p201 => containsI vS kS (ints S) (i : Nat)) ?_
                refine XO.q (Quiet.guardT rfl rfl fun g202 p202 => Q.not (lzv g202 rfl)) ?_
                refine XO.q (Q.and rfl (fun hp => lzv hp rfl)) ?_
                refine XO.done ?_
                refine XK.if rfl (fun c10 => ?_) (fun c10 => ?_)
                · have _t10 := True.intro
                  exact absurd (rs.own i (by dsimp only; omega) (fun hm => c10.2 (mem_any.2 hm))) c10.1
                · have _t10 := True.intro
                  refine XK.skip ?_
                  refine XK.inBlock ?_
                  refine XK.region rfl ?_
                  refine XO.q (Q.add rfl rfl ⟨by omega, by omega⟩) ?_
                  refine XO.q (Q.move rfl) ?_
                  refine XO.done ?_
                  exact ih2 (i + 1) _ _ (by omega) (by first | omega | (dsimp only; omega)) (.c rfl (.base 44 rfl rfl)) inferInstance
              · have _t9 := True.intro
                clear ih2
                refine XK.exit rfl ?_
                refine XK.seq ?_
                refine XK.seq ?_
                refine XK.region rfl ?_
                refine XO.q (Q.move rfl) ?_
                refine XO.len rfl fun l206 => ?_
                rw [sil]
                refine XO.q (Q.move rfl) ?_
                refine XO.done ?_
                refine XK.block ?_
                refine XK.while (X := Nat) [10, 28, 29, 30, 32, 33, 34, 207, 208, 209, 210, 211, 212, 213, 214, 215, 216, 217, 218, 219, 220, 221, 222, 223, 224, 225, 226, 227, 228, 229, 230, 231, 232, 233, 234, 235, 236, 237, 238, 239, 240, 241, 242, 243, 244, 245, 246, 247, 248, 249, 250, 251, 252, 253, 254, 255, 256, 257, 258, 259, 260, 261, 262, 263, 264] (fun j => [(207, some (.int .i64 (j : Nat)))]) (fun j => []) (fun j => j ≤ S.length) (fun j => S.length - j) (0) [] rfl (by omega) (.c rfl (.base 0 rfl rfl)) ?_
                rintro j hj2 ih3
                dsimp only [List.cons_append, List.nil_append] at ih3 ⊢
                refine XK.seq ?_
                refine XK.region rfl ?_
                refine XO.q (Q.lss rfl rfl) ?_
                refine XO.done ?_
                refine XK.seq ?_
                refine XK.if rfl (fun c11 => ?_) (fun c11 => ?_)
                · have _t11 := True.intro
                  refine XK.skip ?_
                  refine XK.seq ?_
                  refine XK.block ?_
                  refine XK.seq ?_
                  refine XK.region rfl ?_
                  refine XO.ix rfl rfl (by omega) (by omega) fun i209 => ?_
                  refine XO.q (Q.ldE rfl (by first | assumption | omega) rfl) ?_
                  rw [ints_at (by omega)]
                  obtain ⟨k, ek⟩ : ∃ k, k = S.getD j 0 := ⟨_, rfl⟩
                  rw [← ek]
                  have hkS : k ∈ S := by rw [ek]; exact getD_mem0 (by omega)
                  have hkn := sets.sl k hkS
                  have rk := rv.rng k hkn
                  have rkd : 0 ≤ (repairL ⟨mc.nodes, V⟩ (ints S)).getD k default ∧ (repairL ⟨mc.nodes, V⟩ (ints S)).getD k default ≤ 1000000000 := rk
                  refine XO.q (Q.assign rfl) ?_
                  refine XO.done ?_
                  refine XK.seq ?_
                  refine XK.seq ?_
                  refine XK.region rfl ?_
                  refine XO.q (Q.move rfl) ?_
                  refine XO.q (Q.move rfl) ?_
                  refine XO.ix rfl rfl (by omega) (by omega) fun i213 => ?_
                  refine XO.q (Q.ldE rfl (by first | assumption | omega) rfl) ?_
                  refine XO.q (Q.eql rfl rfl) ?_
                  refine XO.done ?_
                  refine XK.if rfl (fun c12 => ?_) (fun c12 => ?_)
                  · have _t12 := True.intro
                    refine XK.exit rfl ?_
                    refine XK.region rfl ?_
                    refine XO.q (Q.add rfl rfl ⟨by omega, by omega⟩) ?_
                    refine XO.q (Q.move rfl) ?_
                    refine XO.done ?_
                    exact ih3 (j + 1) _ _ (by omega) (by first | omega | (dsimp only; omega)) (.c rfl (.base 77 rfl rfl)) inferInstance
                  · have _t12 := True.intro
                    refine XK.skip ?_
                    refine XK.seq ?_
                    refine XK.meet (X := Nat × Value × PHeap) [29, 216, 217, 218, 219, 220, 221] (fun ⟨b29, vD, kD⟩ => [(29, some (ptr b29 0))]) (fun ⟨b29, vD, kD⟩ => [blk b29 [vn, vD] 50, kD]) (fun ⟨b29, vD, kD⟩ => OArr vD encI 1 3 kD V) [] ?_ ?_
                    · rintro ⟨b29, vD, kD⟩ OD
                      dsimp only [List.cons_append, List.nil_append]
                      have aR : Arr (cutv xR 1 0 k) encI 1 yR (((repairL ⟨mc.nodes, V⟩ (ints S)).drop 0).take (k - 0)) := Arr.cut (OArr.arr (s := OR)) (by omega) (by omega)
                      refine XK.seq ?_
                      refine XK.drawn [0, 1, 2, 3, 4, 5, 6] [b29] [yR] (.q 0 (.q 1 (.q 2 (.q 3 (.q 4 (.q 5 (.q 6 (.br 7 true .done .stop)))))))) Try.mixed rfl (by kernel_rfl) ?_
                      refine XT.q rfl rfl (Q.fieldAddr rfl) ?_
                      refine XT.q rfl rfl (Q.ld rfl rfl) ?_
                      refine XT.q rfl rfl (Q.move rfl) ?_
                      refine XT.q rfl rfl (Q.cut (i := 0) (j := k) rfl .n (.s rfl (by omega)) (by omega) (by omega)) ?_
                      refine XT.q rfl rfl (Q.move rfl) ?_
                      refine XT.q rfl rfl (Q.move rfl) ?_
                      refine XT.q rfl rfl (Q.cut (i := 0) (j := k) rfl .n (.s rfl (by omega)) (by omega) (by omega)) ?_
                      refine XT.copyC rfl rfl rfl rfl rfl (by omega) (by omega) (fun h229 O229 => ⟨inferInstance, ?_⟩) XT.stop
                      obtain ⟨p1, p2, p3⟩ := pre_at (V := V) (r := (repairL ⟨mc.nodes, V⟩ (ints S))) (k := k) (by omega) (by omega)
                      refine XT.done ?_
                      refine XK.seq ?_
                      refine XK.drawn [0, 1, 2, 3, 4, 5, 6, 7, 8] [b29] [yR] (.q 0 (.q 1 (.q 2 (.q 3 (.q 4 (.q 5 (.q 6 (.q 7 (.q 8 (.br 9 false .done .stop)))))))))) Try.mixed rfl (by kernel_rfl) ?_
                      refine XT.q rfl rfl (Q.fieldAddr rfl) ?_
                      refine XT.q rfl rfl (Q.ld rfl rfl) ?_
                      refine XT.q rfl rfl (Q.move rfl) ?_
                      refine XT.q rfl rfl (Q.move rfl) ?_
                      refine XT.q rfl rfl (Q.move rfl) ?_
                      refine XT.ix rfl rfl rfl rfl (by omega) (by omega) fun i235 => ?_
                      refine XT.q rfl rfl (Q.ldE rfl (by first | assumption | omega) rfl) ?_
                      refine XT.q rfl rfl (Q.sub rfl rfl ⟨by omega, by omega⟩) ?_
                      refine XT.ix rfl rfl rfl rfl (by omega) (by omega) fun i238 => ?_
                      refine XT.stE _ rfl rfl rfl rfl rfl (by assumption) rfl rfl (fun h41_9 O41_9 => ⟨inferInstance, ?_⟩) XT.stop
                      obtain ⟨D, eD⟩ : ∃ D, D = (splice V ((((repairL ⟨mc.nodes, V⟩ (ints S)).drop 0).take (k - 0)).take (k - 0)) 0).set k ((repairL ⟨mc.nodes, V⟩ (ints S)).getD k default - 1) := ⟨_, rfl⟩
                      rw [← eD] at O41_9
                      have hg : ∀ x, D.getD x 0 = if k = x then (repairL ⟨mc.nodes, V⟩ (ints S)).getD k 0 - 1 else (splice V ((((repairL ⟨mc.nodes, V⟩ (ints S)).drop 0).take (k - 0)).take (k - 0)) 0).getD x 0 := fun x => by rw [eD]; exact set_getD0 (by omega)
                      have hDl : D.length = mc.nodes.length := by rw [eD, List.length_set]; omega
                      clear eD
                      have hD1 : ∀ x, x < k → D.getD x 0 = (repairL ⟨mc.nodes, V⟩ (ints S)).getD x 0 := fun x hx => by rw [hg, if_neg (by omega), p2 x hx]
                      have hD2 : D.getD k 0 = (repairL ⟨mc.nodes, V⟩ (ints S)).getD k 0 - 1 := by rw [hg, if_pos rfl]
                      have hD3 : ∀ x, k < x → x < mc.nodes.length → D.getD x 0 = V.getD x 0 := fun x hx _ => by rw [hg, if_neg (by omega), p3 x (by omega)]
                      have okd : MOk ⟨mc.nodes, D⟩ := ok0.with hDl fun x hx => by
                        rcases Nat.lt_trichotomy x k with h | h | h
                        · rw [hD1 x h]; exact rv.rng x hx
                        · rw [h, hD2]; have : ¬ (repairL ⟨mc.nodes, V⟩ (ints S)).getD k 0 = 0 := c12; omega
                        · rw [hD3 x h hx]; exact wv.rng x hx
                      refine XT.done ?_
                      refine XK.seq ?_
                      refine XK.region rfl ?_
                      refine XO.q (Q.assign rfl) ?_
                      refine XO.done ?_
                      refine XK.seq ?_
                      refine XK.seq ?_
                      refine XK.region rfl ?_
                      refine XO.q (Q.move rfl) ?_
                      refine XO.len rfl fun l240 => ?_
                      rw [sil]
                      refine XO.q (Q.move rfl) ?_
                      refine XO.done ?_
                      refine XK.block ?_
                      refine XK.while (X := Nat × List Nat × Value × PHeap) [30, 32, 241, 242, 243, 244, 245, 246, 247, 248, 249, 250, 251, 252] (fun ⟨q, R, vR, kR⟩ => [(241, some (.int .i64 (q : Nat))), (30, some (vR))]) (fun ⟨q, R, vR, kR⟩ => [kR]) (fun ⟨q, R, vR, kR⟩ => q ≤ S.length ∧ R = (S.take q).filter (fun x => decide (k < x)) ∧ OArr vR encI 1 3 kR (ints R)) (fun ⟨q, R, vR, kR⟩ => S.length - q) (0, [], .slice none 0 0, emp) [emp] rfl ⟨by omega, rfl, nI⟩ (.c rfl (.c rfl (.base 0 rfl rfl))) ?_
                      rintro ⟨q, R, vR, kR⟩ ⟨hq, hR, OR2⟩ ih4
                      dsimp only [List.cons_append, List.nil_append] at ih4 ⊢
                      refine XK.seq ?_
                      refine XK.region rfl ?_
                      refine XO.q (Q.lss rfl rfl) ?_
                      refine XO.done ?_
                      refine XK.seq ?_
                      refine XK.if rfl (fun c13 => ?_) (fun c13 => ?_)
                      · have _t13 := True.intro
                        have hRs : R.length ≤ S.length := by rw [hR]; exact Nat.le_trans (List.length_filter_le ..) (by rw [List.length_take]; omega)
                        have ril := ints_len (l := R)
                        have s1 := inc_short sets.si sets.sl
                        refine XK.skip ?_
                        refine XK.seq ?_
                        refine XK.block ?_
                        refine XK.seq ?_
                        refine XK.region rfl ?_
                        refine XO.ix rfl rfl (by omega) (by omega) fun i243 => ?_
                        refine XO.q (Q.ldE rfl (by first | assumption | omega) rfl) ?_
                        rw [ints_at (by omega)]
                        obtain ⟨y, ey⟩ : ∃ y, y = S.getD q 0 := ⟨_, rfl⟩
                        rw [← ey]
                        refine XO.q (Q.assign rfl) ?_
                        refine XO.done ?_
                        refine XK.seq ?_
                        refine XK.region rfl ?_
                        refine XO.q (Q.move rfl) ?_
                        refine XO.q (Q.move rfl) ?_
                        refine XO.q (Q.gtr rfl rfl) ?_
                        refine XO.done ?_
                        refine XK.if rfl (fun c14 => ?_) (fun c14 => ?_)
                        · have _t14 := True.intro
                          refine XK.region rfl ?_
                          refine XO.q (Q.move rfl) ?_
                          refine XO.q (Q.move rfl) ?_
                          refine XO.lit [_] [_] [((y : Nat) : Int)] encI (by rfl) (by rfl) rfl (by rfl) (by exact .c 0 1 rfl rfl rfl (.n _)) (fun _ => rfl) (by rfl) rfl (by infer_instance) rfl fun v250 h250 O250 => ?_
                          refine XO.append rfl rfl rfl rfl (by simp only [List.length_cons, List.length_nil]; omega) fun v251 h251 O251 => ?_
                          refine XO.q (Q.assign rfl) ?_
                          refine XO.done ?_
                          refine XK.inBlock ?_
                          refine XK.region rfl ?_
                          refine XO.q (Q.add rfl rfl ⟨by omega, by omega⟩) ?_
                          refine XO.q (Q.move rfl) ?_
                          refine XO.done ?_
                          exact ih4 (q + 1, R ++ [y], v251, h251) _ _ ⟨by dsimp only; omega, by dsimp only; rw [take_snoc (by omega), List.filter_append, ← hR, ← ey, List.filter_cons, if_pos (by rw [decide_eq_true_eq]; omega)]; rfl, by rw [ints_snoc]; exact O251⟩ (by first | omega | (dsimp only; omega)) (.c rfl (.c rfl (.base 30 rfl rfl))) inferInstance
                        · have _t14 := True.intro
                          refine XK.skip ?_
                          refine XK.inBlock ?_
                          refine XK.region rfl ?_
                          refine XO.q (Q.add rfl rfl ⟨by omega, by omega⟩) ?_
                          refine XO.q (Q.move rfl) ?_
                          refine XO.done ?_
                          exact ih4 (q + 1, R, vR, kR) _ _ ⟨by dsimp only; omega, by dsimp only; rw [take_snoc (by omega), List.filter_append, ← hR, ← ey, List.filter_cons, if_neg (by rw [decide_eq_true_eq]; omega), List.filter_nil, List.append_nil], OR2⟩ (by first | omega | (dsimp only; omega)) (.c rfl (.c rfl (.base 25 rfl rfl))) inferInstance
                      · have _t13 := True.intro
                        have hqs : q = S.length := by omega
                        rw [hqs, List.take_length] at hR
                        have hRi : Inc 0 R := by rw [hR]; exact inc_filter sets.si
                        have hRl : ∀ x ∈ R, x < mc.nodes.length := fun x hx => by rw [hR] at hx; exact sets.sl x (List.mem_filter.1 hx).1
                        clear ih4
                        refine XK.exit rfl ?_
                        refine XK.seq ?_
                        refine XK.region rfl ?_
                        refine XO.q (Q.ldA [_, _] rfl rfl rfl) ?_
                        refine XO.q (Q.move rfl) ?_
                        refine XO.call Try.call15 rfl rfl rfl (Explains_spec ⟨mc.nodes, D⟩ vn vD kn h41_9 (ints R) vR kR) fun v256 s256 R256 => ?_
                        obtain ⟨rfl, rfl⟩ := R256
                        dsimp only [List.cons_append, List.nil_append]
                        rw [explains_inc okd hRi hRl]
                        dsimp only
                        refine XO.q (Q.move rfl) ?_
                        refine XO.q (Q.extract rfl rfl) ?_
                        refine XO.q (Q.extract rfl rfl) ?_
                        refine XO.q (Q.assign rfl) ?_
                        refine XO.q (Q.assign rfl) ?_
                        refine XO.done ?_
                        refine XK.seq ?_
                        refine XK.region rfl ?_
                        refine XO.q (Q.move rfl) ?_
                        refine XO.q (Q.neq rfl rfl) ?_
                        refine XO.q (Q.move rfl) ?_
                        refine XO.q (Quiet.guardF rfl rfl fun g262 p262 => Q.move rfl) ?_
                        refine XO.q (Q.or rfl (fun hp => lzv hp rfl)) ?_
                        refine XO.done ?_
                        refine XK.if rfl (fun c15 => ?_) (fun c15 => ?_)
                        · have _t15 := True.intro
                          rcases c15 with h | h
                          · exact absurd rfl h
                          · have hl := less_no ok h0 hkn hkS okd hD1 hD2 hD3 (R := R) (fun x => by rw [hR, List.mem_filter, decide_eq_true_eq])
                            rw [hl] at h
                            cases h
                        · have _t15 := True.intro
                          refine XK.skip ?_
                          refine XK.inBlock ?_
                          refine XK.region rfl ?_
                          refine XO.q (Q.add rfl rfl ⟨by omega, by omega⟩) ?_
                          refine XO.q (Q.move rfl) ?_
                          refine XO.done ?_
                          exact ih3 (j + 1) _ _ (by omega) (by first | omega | (dsimp only; omega)) (.c rfl (.base 136 rfl rfl)) inferInstance
                    · intro mtr39
                      dsimp only [List.cons_append, List.nil_append] at mtr39
                      refine XK.drawn [0, 1, 2, 3, 5] [b11] [] (.q 0 (.q 1 (.q 2 (.q 3 (.br 4 true (.q 5 (.br 6 true (.br 7 false .done .stop) .stop)) (.br 6 true (.br 4 true (.q 5 (.br 7 false .done .stop)) .stop) .stop)))))) Try.mixed rfl (by kernel_rfl) ?_
                      refine XT.q rfl rfl (Q.fieldAddr rfl) ?_
                      refine XT.q rfl rfl (Q.ld rfl rfl) ?_
                      refine XT.q rfl rfl (Q.fieldAddr rfl) ?_
                      refine XT.q rfl rfl (Q.ld rfl rfl) ?_
                      refine XT.call rfl rfl Try.call20 rfl rfl rfl (cloneI v0 kV V (by omega)) (fun v220 s220 R220 => ?_) ?_
                      · skip
                        obtain ⟨kD, rfl, OD⟩ := R220
                        dsimp only [List.cons_append, List.nil_append]
                        refine ⟨inferInstance, ?_⟩
                        refine XT.q rfl rfl (Q.build [_, _] (.c 0 1 rfl rfl rfl (.c 1 1 rfl rfl rfl (.n _)))) ?_
                        refine XT.alloc rfl rfl (fun b29 => ⟨inferInstance, ?_⟩) XT.stop
                        refine XT.st rfl rfl rfl rfl rfl ⟨inferInstance, ?_⟩ XT.stop
                        refine XT.done ?_
                        exact mtr39 ((b29, v220, kD)) _ _ OD (.c rfl (.base 7 rfl rfl)) inferInstance
                      · skip
                        refine XT.alloc rfl rfl (fun b29 => ⟨inferInstance, ?_⟩) XT.stop
                        refine XT.call rfl rfl Try.call20 rfl rfl rfl (cloneI v0 kV V (by omega)) (fun v220 s220 R220 => ?_) XT.stop
                        obtain ⟨kD, rfl, OD⟩ := R220
                        dsimp only [List.cons_append, List.nil_append]
                        refine ⟨inferInstance, ?_⟩
                        refine XT.q rfl rfl (Q.build [_, _] (.c 0 1 rfl rfl rfl (.c 1 1 rfl rfl rfl (.n _)))) ?_
                        refine XT.st rfl rfl rfl rfl rfl ⟨inferInstance, ?_⟩ XT.stop
                        refine XT.done ?_
                        exact mtr39 ((b29, v220, kD)) _ _ OD (.c rfl (.base 7 rfl rfl)) inferInstance
                · have _t11 := True.intro
                  refine XK.exit rfl ?_
                  refine XK.seq ?_
                  refine XK.region rfl ?_
                  refine XO.call Try.call13 rfl rfl rfl (awake11) fun v265 s265 R265 => ?_
                  obtain ⟨rfl, rfl⟩ := R265
                  dsimp only [List.cons_append, List.nil_append]
                  refine XO.q (Q.assign rfl) ?_
                  refine XO.done ?_
                  refine XK.rt [] Try.func4 Try.results4 (.t rfl .n) ?_
                  exact ⟨rfl, rfl⟩
end Go.X

set_option linter.unusedSimpArgs false
set_option linter.unusedVariables false
set_option maxRecDepth 20000
namespace Go.X
open Go.Proofs
theorem isNaN_spec (x : Int) : Spec Try.prog 116 #[.int .i64 x] [] [] (fun v hs => v = .bool false ∧ hs = []) := by
  refine Spec.intro (fn := Try.f116) (N := 6) Try.func116 rfl Try.ntmps116 rfl fun B => ?_
  refine XK.seq ?_
  refine XK.region rfl ?_
  refine XO.q (Q.assign rfl) ?_
  refine XO.done ?_
  refine XK.seq ?_
  refine XK.region rfl ?_
  refine XO.q (Q.move rfl) ?_
  refine XO.q (Q.move rfl) ?_
  refine XO.q (Q.neq rfl rfl) ?_
  refine XO.q (Q.assign rfl) ?_
  refine XO.done ?_
  refine XK.rt [] Try.func116 Try.results116 (.t rfl .n) ?_
  exact ⟨by simp, rfl⟩
theorem less_spec (x y : Int) : Spec Try.prog 111 #[.int .i64 x, .int .i64 y] [] [] (fun v hs => v = .bool (decide (x < y)) ∧ hs = []) := by
  refine Spec.intro (fn := Try.f111) (N := 17) Try.func111 rfl Try.ntmps111 rfl fun B => ?_
  refine XK.seq ?_
  refine XK.region rfl ?_
  refine XO.q (Q.assign rfl) ?_
  refine XO.done ?_
  refine XK.seq ?_
  refine XK.region rfl ?_
  refine XO.q (Q.move rfl) ?_
  refine XO.call Try.call116 rfl rfl rfl (isNaN_spec _) fun v6 s6 R6 => ?_
  obtain ⟨rfl, rfl⟩ := R6
  dsimp only [List.cons_append, List.nil_append]
  refine XO.q (Q.move rfl) ?_
  refine XO.q (Quiet.guardT rfl rfl fun g8 p8 => Q.move rfl) ?_
  refine XO.gcallT rfl rfl Try.call116 rfl (fun g9 => .c (lzv g9 rfl) .n) rfl (fun g9 p9 => isNaN_spec _) ?_
  refine XO.q (Quiet.guardT rfl rfl fun g10 p10 => Q.not (lzv g10 rfl)) ?_
  refine XO.q (Q.and rfl (fun hp => lzv hp rfl)) ?_
  refine XO.q (Q.move rfl) ?_
  refine XO.q (Quiet.guardF rfl rfl fun g13 p13 => Q.move rfl) ?_
  refine XO.q (Quiet.guardF rfl rfl fun g14 p14 => Q.move rfl) ?_
  refine XO.q (Quiet.guardF rfl rfl fun g15 p15 => Q.lss (lzv g15 rfl) (lzv g15 rfl)) ?_
  refine XO.q (Q.or rfl (fun hp => lzv hp rfl)) ?_
  refine XO.q (Q.assign rfl) ?_
  refine XO.done ?_
  refine XK.rt [] Try.func111 Try.results111 (.t rfl .n) ?_
  exact ⟨by simp, rfl⟩
theorem compare_spec (x y : Int) : Spec Try.prog 85 #[.int .i64 x, .int .i64 y] [] [] (fun v hs => v = .int .i64 (if x < y then -1 else if y < x then 1 else 0) ∧ hs = []) := by
  refine Spec.intro (fn := Try.f85) (N := 20) Try.func85 rfl Try.ntmps85 rfl fun B => ?_
  refine XK.seq ?_
  refine XK.region rfl ?_
  refine XO.q (Q.assign rfl) ?_
  refine XO.done ?_
  refine XK.seq ?_
  refine XK.region rfl ?_
  refine XO.q (Q.move rfl) ?_
  refine XO.call Try.call116 rfl rfl rfl (isNaN_spec _) fun v8 s8 R8 => ?_
  obtain ⟨rfl, rfl⟩ := R8
  dsimp only [List.cons_append, List.nil_append]
  refine XO.q (Q.assign rfl) ?_
  refine XO.done ?_
  refine XK.seq ?_
  refine XK.region rfl ?_
  refine XO.q (Q.move rfl) ?_
  refine XO.call Try.call116 rfl rfl rfl (isNaN_spec _) fun v10 s10 R10 => ?_
  obtain ⟨rfl, rfl⟩ := R10
  dsimp only [List.cons_append, List.nil_append]
  refine XO.q (Q.assign rfl) ?_
  refine XO.done ?_
  refine XK.seq ?_
  refine XK.seq ?_
  refine XK.region rfl ?_
  refine XO.q (Q.move rfl) ?_
  refine XO.done ?_
  refine XK.if rfl (fun c0 => ?_) (fun c0 => ?_)
  · have _t0 := True.intro
    simp at c0
  · have _t0 := True.intro
    refine XK.skip ?_
    refine XK.seq ?_
    refine XK.seq ?_
    refine XK.region rfl ?_
    refine XO.q (Q.move rfl) ?_
    refine XO.done ?_
    refine XK.if rfl (fun c1 => ?_) (fun c1 => ?_)
    · have _t1 := True.intro
      simp at c1
    · have _t1 := True.intro
      refine XK.skip ?_
      refine XK.seq ?_
      refine XK.seq ?_
      refine XK.region rfl ?_
      refine XO.q (Q.move rfl) ?_
      refine XO.q (Q.move rfl) ?_
      refine XO.q (Q.lss rfl rfl) ?_
      refine XO.done ?_
      refine XK.if rfl (fun c2 => ?_) (fun c2 => ?_)
      · have _t2 := True.intro
        refine XK.seq ?_
        refine XK.region rfl ?_
        refine XO.q (Q.assign rfl) ?_
        refine XO.done ?_
        refine XK.rt [] Try.func85 Try.results85 (.t rfl .n) ?_
        exact ⟨by rw [if_pos c2], rfl⟩
      · have _t2 := True.intro
        refine XK.skip ?_
        refine XK.seq ?_
        refine XK.seq ?_
        refine XK.region rfl ?_
        refine XO.q (Q.move rfl) ?_
        refine XO.q (Q.move rfl) ?_
        refine XO.q (Q.gtr rfl rfl) ?_
        refine XO.done ?_
        refine XK.if rfl (fun c3 => ?_) (fun c3 => ?_)
        · have _t3 := True.intro
          refine XK.seq ?_
          refine XK.region rfl ?_
          refine XO.q (Q.assign rfl) ?_
          refine XO.done ?_
          refine XK.rt [] Try.func85 Try.results85 (.t rfl .n) ?_
          exact ⟨by rw [if_neg c2, if_pos c3], rfl⟩
        · have _t3 := True.intro
          refine XK.skip ?_
          refine XK.seq ?_
          refine XK.region rfl ?_
          refine XO.q (Q.assign rfl) ?_
          refine XO.done ?_
          refine XK.rt [] Try.func85 Try.results85 (.t rfl .n) ?_
          exact ⟨by rw [if_neg c2, if_neg c3], rfl⟩
theorem compareL (va vb : Value) (ha hb : PHeap) (a b : List Int) [ia : Arr va encI 1 ha a] [ib : Arr vb encI 1 hb b] : Spec Try.prog 43 #[va, vb] [] [ha, hb] (fun v hs => v = .int .i64 (cmpL a b) ∧ hs = []) := by
  refine Spec.intro (fn := Try.f43) (N := 36) Try.func43 rfl Try.ntmps43 rfl fun B => ?_
  refine XK.seq ?_
  refine XK.region rfl ?_
  refine XO.q (Q.assign rfl) ?_
  refine XO.done ?_
  refine XK.seq ?_
  refine XK.seq ?_
  refine XK.region rfl ?_
  refine XO.q (Q.move rfl) ?_
  refine XO.len rfl fun l10 => ?_
  refine XO.q (Q.move rfl) ?_
  refine XO.done ?_
  refine XK.block ?_
  refine XK.while (X := Nat) [4, 5, 6, 7, 8, 11, 12, 13, 14, 15, 16, 17, 18, 19, 20, 21, 22, 23, 24, 25, 26, 27, 28, 29, 30] (fun i => [(11, some (.int .i64 (i : Nat)))]) (fun i => []) (fun i => i ≤ a.length ∧ i ≤ b.length ∧ a.take i = b.take i) (fun i => a.length - i) (0) [] rfl ⟨by omega, by omega, by simp⟩ (.c rfl (.base 0 rfl rfl)) ?_
  rintro i ⟨hi, hib, ht⟩ ih0
  dsimp only [List.cons_append, List.nil_append] at ih0 ⊢
  refine XK.seq ?_
  refine XK.region rfl ?_
  refine XO.q (Q.lss rfl rfl) ?_
  refine XO.done ?_
  refine XK.seq ?_
  refine XK.if rfl (fun c0 => ?_) (fun c0 => ?_)
  · have _t0 := True.intro
    refine XK.skip ?_
    refine XK.seq ?_
    refine XK.block ?_
    refine XK.seq ?_
    refine XK.region rfl ?_
    refine XO.q (Q.move rfl) ?_
    refine XO.ix rfl rfl (by omega) (by omega) fun i14 => ?_
    refine XO.q (Q.ldE rfl (by first | assumption | omega) rfl) ?_
    refine XO.q (Q.assign rfl) ?_
    refine XO.q (Q.assign rfl) ?_
    refine XO.done ?_
    refine XK.seq ?_
    refine XK.seq ?_
    refine XK.region rfl ?_
    refine XO.q (Q.move rfl) ?_
    refine XO.q (Q.move rfl) ?_
    refine XO.len rfl fun l18 => ?_
    refine XO.q (Q.geq rfl rfl) ?_
    refine XO.done ?_
    refine XK.if rfl (fun c1 => ?_) (fun c1 => ?_)
    · have _t1 := True.intro
      refine XK.seq ?_
      refine XK.region rfl ?_
      refine XO.q (Q.assign rfl) ?_
      refine XO.done ?_
      refine XK.rt [] Try.func43 Try.results43 (.t rfl .n) ?_
      exact ⟨by rw [cmpL_drop (k := i) (by omega) ht (by omega), take_getL (by omega), List.drop_of_length_le (l := b) (by omega)]; rfl, rfl⟩
    · have _t1 := True.intro
      refine XK.skip ?_
      refine XK.seq ?_
      refine XK.region rfl ?_
      refine XO.q (Q.move rfl) ?_
      refine XO.q (Q.move rfl) ?_
      refine XO.ix rfl rfl (by omega) (by omega) fun i22 => ?_
      refine XO.q (Q.ldE rfl (by first | assumption | omega) rfl) ?_
      refine XO.q (Q.assign rfl) ?_
      refine XO.done ?_
      refine XK.seq ?_
      refine XK.region rfl ?_
      refine XO.q (Q.move rfl) ?_
      refine XO.q (Q.move rfl) ?_
      refine XO.call Try.call85 rfl rfl rfl (compare_spec (a.getD i default) (b.getD i default)) fun v26 s26 R26 => ?_
      obtain ⟨rfl, rfl⟩ := R26
      dsimp only [List.cons_append, List.nil_append]
      refine XO.q (Q.assign rfl) ?_
      refine XO.done ?_
      refine XK.seq ?_
      refine XK.region rfl ?_
      refine XO.q (Q.move rfl) ?_
      refine XO.q (Q.neq rfl rfl) ?_
      refine XO.done ?_
      refine XK.if rfl (fun c2 => ?_) (fun c2 => ?_)
      · have _t2 := True.intro
        have ca := cmpL_at (a := a) (b := b) (i := i) (by omega) (by omega) ht
        refine XK.seq ?_
        refine XK.region rfl ?_
        refine XO.q (Q.move rfl) ?_
        refine XO.q (Q.assign rfl) ?_
        refine XO.done ?_
        refine XK.rt [] Try.func43 Try.results43 (.t rfl .n) ?_
        refine ⟨?_, rfl⟩
        rw [ca]
        change ¬ (if a.getD i 0 < b.getD i 0 then (-1 : Int) else if b.getD i 0 < a.getD i 0 then 1 else 0) = 0 at c2
        show Value.int .i64 (if a.getD i 0 < b.getD i 0 then (-1 : Int) else if b.getD i 0 < a.getD i 0 then 1 else 0) = _
        by_cases h1 : a.getD i 0 < b.getD i 0
        · rw [if_pos h1, if_pos h1]
        · rw [if_neg h1] at c2 ⊢
          by_cases h2 : b.getD i 0 < a.getD i 0
          · rw [if_pos h2, if_neg h1, if_pos h2]
          · rw [if_neg h2] at c2; exact absurd rfl c2
      · have _t2 := True.intro
        have c2 := Decidable.of_not_not c2
        have he : a.getD i 0 = b.getD i 0 := by
          change (if a.getD i 0 < b.getD i 0 then (-1 : Int) else if b.getD i 0 < a.getD i 0 then 1 else 0) = 0 at c2
          split at c2
          · omega
          · split at c2
            · omega
            · omega
        refine XK.skip ?_
        refine XK.inBlock ?_
        refine XK.region rfl ?_
        refine XO.q (Q.add rfl rfl ⟨by omega, by omega⟩) ?_
        refine XO.q (Q.move rfl) ?_
        refine XO.done ?_
        exact ih0 (i + 1) _ _ ⟨by omega, by omega, take_next (by omega) (by omega) ht he⟩ (by first | omega | (dsimp only; omega)) (.c rfl (.base 49 rfl rfl)) inferInstance
  · have _t0 := True.intro
    refine XK.exit rfl ?_
    refine XK.seq ?_
    refine XK.seq ?_
    refine XK.region rfl ?_
    refine XO.q (Q.move rfl) ?_
    refine XO.len rfl fun l32 => ?_
    refine XO.q (Q.move rfl) ?_
    refine XO.len rfl fun l34 => ?_
    refine XO.q (Q.lss rfl rfl) ?_
    refine XO.done ?_
    refine XK.if rfl (fun c3 => ?_) (fun c3 => ?_)
    · have _t3 := True.intro
      refine XK.seq ?_
      refine XK.region rfl ?_
      refine XO.q (Q.assign rfl) ?_
      refine XO.done ?_
      refine XK.rt [] Try.func43 Try.results43 (.t rfl .n) ?_
      exact ⟨by rw [cmpL_drop (k := i) (by omega) ht (by omega), List.drop_of_length_le (l := a) (by omega), take_getL (l := b) (by omega)]; rfl, rfl⟩
    · have _t3 := True.intro
      refine XK.skip ?_
      refine XK.seq ?_
      refine XK.region rfl ?_
      refine XO.q (Q.assign rfl) ?_
      refine XO.done ?_
      refine XK.rt [] Try.func43 Try.results43 (.t rfl .n) ?_
      exact ⟨by rw [cmpL_drop (k := i) (by omega) ht (by omega), List.drop_of_length_le (l := a) (by omega), List.drop_of_length_le (l := b) (by omega)]; rfl, rfl⟩
theorem insert_spec (v : Value) (h : PHeap) (xs : List Int) [s : OArr v encI 1 3 h xs] (n : Nat) (hn : xs.length = n) (hn2 : n ≤ 1000) : Spec Try.prog 105 #[v, .int .i64 0, .int .i64 (n : Nat)] [h] [] (fun _ hs => ∃ h' ys, hs = [h'] ∧ OArr v encI 1 3 h' ys ∧ ys.length = n ∧ (∀ a, ys.count a = xs.count a) ∧ Ord ys n) := by
  refine Spec.intro (fn := Try.f105) (N := 49) Try.func105 rfl Try.ntmps105 rfl fun B => ?_
  refine XK.seq ?_
  refine XK.region rfl ?_
  refine XO.q (Q.move rfl) ?_
  refine XO.q (Q.add rfl rfl ⟨by omega, by omega⟩) ?_
  rw [show ((0 : Int) + 1) = ((1 : Nat) : Int) from rfl]
  refine XO.q (Q.assign rfl) ?_
  refine XO.done ?_
  refine XK.block ?_
  refine XK.while (X := Nat × PHeap × List Int) [6, 7, 10, 11, 12, 13, 14, 15, 16, 17, 18, 19, 20, 21, 22, 23, 24, 25, 26, 27, 28, 29, 30, 31, 32, 33, 34, 35, 36, 37, 38, 39, 40, 41, 42, 43, 44, 45, 46, 47, 48] (fun ⟨i, kh, l⟩ => [(6, some (.int .i64 (i : Nat)))]) (fun ⟨i, kh, l⟩ => [kh]) (fun ⟨i, kh, l⟩ => 1 ≤ i ∧ (i ≤ n ∨ i = 1) ∧ OArr v encI 1 3 kh l ∧ l.length = n ∧ (∀ a, l.count a = xs.count a) ∧ Ord l i) (fun ⟨i, kh, l⟩ => n - i) (1, h, xs) [h] rfl ⟨by omega, .inr rfl, s, hn, fun a => rfl, fun p q h1 h2 => by omega⟩ (.c rfl (.base 0 rfl rfl)) ?_
  rintro ⟨i, kh, l⟩ ⟨hi1, hi, OL, hll, hcn, ho⟩ ih0
  dsimp only [List.cons_append, List.nil_append] at ih0 ⊢
  refine XK.seq ?_
  refine XK.seq ?_
  refine XK.region rfl ?_
  refine XO.q (Q.move rfl) ?_
  refine XO.q (Q.move rfl) ?_
  refine XO.q (Q.lss rfl rfl) ?_
  refine XO.done ?_
  refine XK.if rfl (fun c0 => ?_) (fun c0 => ?_)
  · have _t0 := True.intro
    refine XK.skip ?_
    refine XK.seq ?_
    refine XK.block ?_
    refine XK.seq ?_
    refine XK.region rfl ?_
    refine XO.q (Q.move rfl) ?_
    refine XO.q (Q.assign rfl) ?_
    refine XO.done ?_
    refine XK.block ?_
    refine XK.while (X := Nat × PHeap × List Int) [7, 16, 17, 18, 19, 20, 21, 22, 23, 24, 25, 26, 27, 28, 29, 30, 31, 32, 33, 34, 35, 36, 37, 38, 39, 40, 41, 42, 43, 44, 45, 46, 47, 48] (fun ⟨j, kh2, l⟩ => [(7, some (.int .i64 (j : Nat)))]) (fun ⟨j, kh2, l⟩ => [kh2]) (fun ⟨j, kh2, l⟩ => j ≤ i ∧ OArr v encI 1 3 kh2 l ∧ l.length = n ∧ (∀ a, l.count a = xs.count a) ∧ Mid l i j) (fun ⟨j, kh2, l⟩ => j) (i, kh, l) [kh] rfl ⟨Nat.le_refl _, OL, hll, hcn, Mid.start ho⟩ (.c rfl (.base 0 rfl rfl)) ?_
    rintro ⟨j, kh2, l⟩ ⟨hj, OL2, hll, hcn, md⟩ ih1
    dsimp only [List.cons_append, List.nil_append] at ih1 ⊢
    refine XK.seq ?_
    refine XK.seq ?_
    refine XK.drawn [0, 1, 2, 3, 4, 5, 6, 7, 8, 9, 10, 11, 12, 14] [] [kh2] (.q 0 (.q 1 (.q 2 (.q 3 (.q 4 (.q 5 (.q 6 (.q 7 (.q 8 (.q 9 (.q 10 (.q 11 (.q 12 (.br 13 true (.q 14 .done) .stop)))))))))))))) Try.mixed rfl (by kernel_rfl) ?_
    refine XT.q rfl rfl (Q.move rfl) ?_
    refine XT.q rfl rfl (Q.move rfl) ?_
    refine XT.q rfl rfl (Q.gtr rfl rfl) ?_
    refine XT.q rfl rfl (Q.move rfl) ?_
    refine XT.q rfl rfl (Quiet.guardT rfl rfl fun g20 p20 => Q.move rfl) ?_
    refine XT.q rfl rfl (Quiet.guardT rfl rfl fun g21 p21 => Q.move rfl) ?_
    refine XT.q rfl rfl (Quiet.guardT rfl rfl fun g22 p22 => Q.ix (lzv g22 rfl) (lzv g22 rfl) (by omega) (by omega)) ?_
    refine XT.q rfl rfl (Quiet.guardT rfl rfl fun g23 p23 => Q.ldE (lzv g23 rfl) (by first | assumption | omega) rfl) ?_
    refine XT.q rfl rfl (Quiet.guardT rfl rfl fun g24 p24 => Q.move rfl) ?_
    refine XT.q rfl rfl (Quiet.guardT rfl rfl fun g25 p25 => Q.move rfl) ?_
    refine XT.q rfl rfl (Quiet.guardT rfl rfl fun g26 p26 => Q.sub (lzv g26 rfl) rfl ⟨by omega, by omega⟩) ?_
    refine XT.q rfl rfl (Quiet.guardT rfl rfl fun g27 p27 => Q.ix (lzv g27 rfl) (lzv g27 rfl) (by omega) (by omega)) ?_
    refine XT.q rfl rfl (Quiet.guardT rfl rfl fun g28 p28 => Q.ldE (lzv g28 rfl) (by first | assumption | omega) rfl) ?_
    refine XT.gcallT rfl rfl rfl rfl Try.call111 rfl (fun g29 => .c (lzv g29 rfl) (.c (lzv g29 rfl) .n)) rfl (fun g29 p29 => less_spec (l.getD j default) (l.getD ((j : Int) - 1).toNat default)) ⟨inferInstance, ?_⟩ XT.stop
    refine XT.q rfl rfl (Q.and rfl (fun hp => lzv hp rfl)) ?_
    refine XT.done ?_
    refine XK.if rfl (fun c1 => ?_) (fun c1 => ?_)
    · have _t1 := True.intro
      obtain ⟨p, rfl⟩ : ∃ p, j = p + 1 := ⟨j - 1, by omega⟩
      have cl : l.getD (p + 1) 0 < l.getD p 0 := by
        have := c1.2
        rwa [show (((p + 1 : Nat) : Int) - 1).toNat = p by omega] at this
      have sl : (l.set (p + 1) (l.getD p default)).length = l.length := List.length_set
      refine XK.skip ?_
      refine XK.seq ?_
      refine XK.block ?_
      refine XK.drawn [0, 1, 2, 3, 4, 5, 6, 7, 8, 10, 11, 12, 14, 16] [] [] (.q 0 (.q 1 (.q 2 (.q 3 (.q 4 (.q 5 (.q 6 (.q 7 (.q 8 (.q 10 (.q 11 (.q 12 (.br 9 true (.br 13 true (.q 14 (.br 15 true (.q 16 (.br 17 false .done .stop)) .stop)) .stop) (.br 13 true (.br 9 true (.q 14 (.br 15 true (.q 16 (.br 17 false .done .stop)) .stop)) .stop) .stop)))))))))))))) Try.mixed rfl (by kernel_rfl) ?_
      refine XT.q rfl rfl (Q.move rfl) ?_
      refine XT.q rfl rfl (Q.move rfl) ?_
      refine XT.q rfl rfl (Q.move rfl) ?_
      refine XT.q rfl rfl (Q.move rfl) ?_
      refine XT.q rfl rfl (Q.sub rfl rfl ⟨by omega, by omega⟩) ?_
      rw [show (((p + 1 : Nat) : Int) - 1) = (p : Int) by omega]
      refine XT.q rfl rfl (Q.move rfl) ?_
      refine XT.q rfl rfl (Q.move rfl) ?_
      refine XT.q rfl rfl (Q.sub rfl rfl ⟨by omega, by omega⟩) ?_
      rw [show (((p + 1 : Nat) : Int) - 1) = (p : Int) by omega]
      refine XT.ix rfl rfl rfl rfl (by omega) (by omega) fun i41 => ?_
      refine XT.q rfl rfl (Q.move rfl) ?_
      refine XT.q rfl rfl (Q.move rfl) ?_
      refine XT.ix rfl rfl rfl rfl (by omega) (by omega) fun i45 => ?_
      refine XT.qs rfl rfl (Q.ldE rfl (by first | assumption | omega) rfl) ⟨inferInstance, ?_⟩ ?_
      · skip
        refine XT.qs rfl rfl (Q.ldE rfl (by first | assumption | omega) rfl) ⟨inferInstance, ?_⟩ XT.stop
        refine XT.ix rfl rfl rfl rfl (by omega) (by omega) fun i47 => ?_
        refine XT.stE _ rfl rfl rfl rfl rfl (by assumption) rfl rfl (fun h6_15 O6_15 => ⟨inferInstance, ?_⟩) XT.stop
        refine XT.ix rfl rfl rfl rfl (by omega) (by omega) fun i48 => ?_
        refine XT.stE _ rfl rfl rfl rfl rfl (by assumption) rfl rfl (fun h6_17 O6_17 => ⟨inferInstance, ?_⟩) XT.stop
        refine XT.done ?_
        refine XK.inBlock ?_
        refine XK.region rfl ?_
        refine XO.q (Q.move rfl) ?_
        refine XO.q (Q.sub rfl rfl ⟨by omega, by omega⟩) ?_
        rw [show (((p + 1 : Nat) : Int) - 1) = (p : Int) by omega]
        refine XO.q (Q.assign rfl) ?_
        refine XO.done ?_
        exact ih1 (p, h6_17, swap2 l p) _ _ ⟨by dsimp only; omega, by dsimp only; exact O6_17, by dsimp only; rw [swap2_len]; exact hll, fun a => by dsimp only; rw [swap2_count (by omega)]; exact hcn a, md.swap (by omega) (by omega) cl⟩ (by first | omega | (dsimp only; omega)) (.c rfl (.base 69 rfl rfl)) inferInstance
      · skip
        refine XT.qs rfl rfl (Q.ldE rfl (by first | assumption | omega) rfl) ⟨inferInstance, ?_⟩ XT.stop
        refine XT.qs rfl rfl (Q.ldE rfl (by first | assumption | omega) rfl) ⟨inferInstance, ?_⟩ XT.stop
        refine XT.ix rfl rfl rfl rfl (by omega) (by omega) fun i47 => ?_
        refine XT.stE _ rfl rfl rfl rfl rfl (by assumption) rfl rfl (fun h6_15 O6_15 => ⟨inferInstance, ?_⟩) XT.stop
        refine XT.ix rfl rfl rfl rfl (by omega) (by omega) fun i48 => ?_
        refine XT.stE _ rfl rfl rfl rfl rfl (by assumption) rfl rfl (fun h6_17 O6_17 => ⟨inferInstance, ?_⟩) XT.stop
        refine XT.done ?_
        refine XK.inBlock ?_
        refine XK.region rfl ?_
        refine XO.q (Q.move rfl) ?_
        refine XO.q (Q.sub rfl rfl ⟨by omega, by omega⟩) ?_
        rw [show (((p + 1 : Nat) : Int) - 1) = (p : Int) by omega]
        refine XO.q (Q.assign rfl) ?_
        refine XO.done ?_
        exact ih1 (p, h6_17, swap2 l p) _ _ ⟨by dsimp only; omega, by dsimp only; exact O6_17, by dsimp only; rw [swap2_len]; exact hll, fun a => by dsimp only; rw [swap2_count (by omega)]; exact hcn a, md.swap (by omega) (by omega) cl⟩ (by first | omega | (dsimp only; omega)) (.c rfl (.base 69 rfl rfl)) inferInstance
    · have _t1 := True.intro
      have od := md.done (by
        rcases Nat.eq_zero_or_pos j with h0 | h0
        · exact .inl h0
        · right
          have : ¬ l.getD j 0 < l.getD (j - 1) 0 := fun hc => c1 ⟨by omega, by rw [show ((j : Int) - 1).toNat = j - 1 by omega]; exact hc⟩
          omega) hj
      clear ih1
      refine XK.exit rfl ?_
      refine XK.inBlock ?_
      refine XK.region rfl ?_
      refine XO.q (Q.move rfl) ?_
      refine XO.q (Q.add rfl rfl ⟨by omega, by omega⟩) ?_
      rw [show ((i : Int) + 1) = ((i + 1 : Nat) : Int) from rfl]
      refine XO.q (Q.assign rfl) ?_
      refine XO.done ?_
      exact ih0 (i + 1, kh2, l) _ _ ⟨by dsimp only; omega, by dsimp only; omega, OL2, hll, hcn, od⟩ (by first | omega | (dsimp only; omega)) (.c rfl (.base 100 rfl rfl)) inferInstance
  · have _t0 := True.intro
    refine XK.exit rfl ?_
    refine XK.fn [kh] Try.func105 Try.results105 (.n) ?_
    refine ⟨kh, l, rfl, OL, hll, hcn, fun p q h1 h2 => ho p q h1 (by omega)⟩
end Go.X

set_option linter.unusedSimpArgs false
set_option linter.unusedVariables false
set_option maxRecDepth 20000
namespace Go.X
open Go.Proofs
theorem pdq_spec (v : Value) (h : PHeap) (xs : List Int) [s : OArr v encI 1 3 h xs] (n : Nat) (hn : xs.length = n) (hn2 : n ≤ 12) (lim : Int) : Spec Try.prog 83 #[v, .int .i64 0, .int .i64 (n : Nat), .int .i64 lim] [h] [] (fun _ hs => ∃ h' ys, hs = [h'] ∧ OArr v encI 1 3 h' ys ∧ ys.length = n ∧ (∀ a, ys.count a = xs.count a) ∧ Ord ys n) := by
  refine Spec.intro (fn := Try.f83) (N := 134) Try.func83 rfl Try.ntmps83 rfl fun B => ?_
  refine XK.seq ?_
  refine XK.region rfl ?_
  refine XO.q (Q.assign rfl) ?_
  refine XO.done ?_
  refine XK.seq ?_
  refine XK.region rfl ?_
  refine XO.q (Q.assign rfl) ?_
  refine XO.done ?_
  refine XK.block ?_
  refine XK.while (X := Unit) [1, 2, 3, 8, 9, 10, 11, 12, 13, 14, 15, 16, 17, 18, 19, 20, 21, 22, 23, 24, 25, 26, 27, 28, 29, 30, 31, 32, 33, 34, 35, 36, 37, 38, 39, 40, 41, 42, 43, 44, 45, 46, 47, 48, 49, 50, 51, 52, 53, 54, 55, 56, 57, 58, 59, 60, 61, 62, 63, 64, 65, 66, 67, 68, 69, 70, 71, 72, 73, 74, 75, 76, 77, 78, 79, 80, 81, 82, 83, 84, 85, 86, 87, 88, 89, 90, 91, 92, 93, 94, 95, 96, 97, 98, 99, 100, 101, 102, 103, 104, 105, 106, 107, 108, 109, 110, 111, 112, 113, 114, 115, 116, 117, 118, 119, 120, 121, 122, 123, 124, 125, 126, 127, 128, 129, 130, 131, 132, 133] (fun _u => [(1, some (.int .i64 0)), (2, some (.int .i64 (n : Nat))), (3, some (.int .i64 lim)), (8, some (.bool true)), (9, some (.bool true))]) (fun _u => [h]) (fun _u => True) (fun _u => 0) (()) [h] rfl trivial (.c rfl (.c rfl (.c rfl (.c rfl (.c rfl (.base 0 rfl rfl)))))) ?_
  rintro _u _ ih0
  dsimp only [List.cons_append, List.nil_append] at ih0 ⊢
  refine XK.block ?_
  refine XK.seq ?_
  refine XK.region rfl ?_
  refine XO.q (Q.move rfl) ?_
  refine XO.q (Q.move rfl) ?_
  refine XO.q (Q.sub rfl rfl ⟨by omega, by omega⟩) ?_
  refine XO.q (Q.assign rfl) ?_
  refine XO.done ?_
  refine XK.seq ?_
  refine XK.seq ?_
  refine XK.region rfl ?_
  refine XO.q (Q.move rfl) ?_
  refine XO.q (Q.leq rfl rfl) ?_
  refine XO.done ?_
  refine XK.if rfl (fun c0 => ?_) (fun c0 => ?_)
  · have _t0 := True.intro
    refine XK.seq ?_
    refine XK.region rfl ?_
    refine XO.q (Q.move rfl) ?_
    refine XO.q (Q.move rfl) ?_
    refine XO.q (Q.move rfl) ?_
    refine XO.call Try.call105 rfl rfl rfl (insert_spec v h xs n hn (by omega)) fun v27 s27 R27 => ?_
    obtain ⟨h', ys, rfl, OY, y1, y2, y3⟩ := R27
    dsimp only [List.cons_append, List.nil_append]
    refine XO.done ?_
    refine XK.rt [h'] Try.func83 Try.results83 (.n) ?_
    exact ⟨h', ys, rfl, OY, y1, y2, y3⟩
  · have _t0 := True.intro
    exact absurd (show ((n : Nat) : Int) - 0 ≤ 12 by omega) c0
theorem len64_0 : Spec Try.prog 115 #[.int .u64 0] [] [] (fun v hs => v = .int .i64 0 ∧ hs = []) := by
  refine Spec.intro (fn := Try.f115) (N := 25) Try.func115 rfl Try.ntmps115 rfl fun B => ?_
  refine XK.seq ?_
  refine XK.region rfl ?_
  refine XO.q (Q.assign rfl) ?_
  refine XO.done ?_
  refine XK.seq ?_
  refine XK.seq ?_
  refine XK.region rfl ?_
  refine XO.q (Q.move rfl) ?_
  refine XO.q (Q.geq rfl rfl) ?_
  refine XO.done ?_
  refine XK.if rfl (fun c0 => ?_) (fun c0 => ?_)
  · have _t0 := True.intro
    exact absurd c0 (by decide)
  · have _t0 := True.intro
    refine XK.skip ?_
    refine XK.seq ?_
    refine XK.seq ?_
    refine XK.region rfl ?_
    refine XO.q (Q.move rfl) ?_
    refine XO.q (Q.geq rfl rfl) ?_
    refine XO.done ?_
    refine XK.if rfl (fun c1 => ?_) (fun c1 => ?_)
    · have _t1 := True.intro
      exact absurd c1 (by decide)
    · have _t1 := True.intro
      refine XK.skip ?_
      refine XK.seq ?_
      refine XK.seq ?_
      refine XK.region rfl ?_
      refine XO.q (Q.move rfl) ?_
      refine XO.q (Q.geq rfl rfl) ?_
      refine XO.done ?_
      refine XK.if rfl (fun c2 => ?_) (fun c2 => ?_)
      · have _t2 := True.intro
        exact absurd c2 (by decide)
      · have _t2 := True.intro
        refine XK.skip ?_
        refine XK.seq ?_
        refine XK.region rfl ?_
        refine XO.q (Q.move rfl) ?_
        refine XO.q (Q.move rfl) ?_
        refine XO.q (Q.conv rfl) ?_
        rw [show IntKind.u8.wrap 0 = 0 from by decide]
        refine XO.q (Q.indexS (n := 0) (b := 0) rfl rfl (by decide) (by kernel_rfl)) ?_
        refine XO.q (Q.conv rfl) ?_
        rw [show IntKind.i64.wrap ((((0 : UInt8).toNat : Nat) : Int)) = 0 from by decide]
        refine XO.q (Q.add rfl rfl ⟨by omega, by omega⟩) ?_
        refine XO.q (Q.assign rfl) ?_
        refine XO.done ?_
        refine XK.rt [] Try.func115 Try.results115 (.t rfl .n) ?_
        exact ⟨rfl, rfl⟩
theorem len_0 : Spec Try.prog 84 #[.int .u64 0] [] [] (fun v hs => v = .int .i64 0 ∧ hs = []) := by
  refine Spec.intro (fn := Try.f84) (N := 8) Try.func84 rfl Try.ntmps84 rfl fun B => ?_
  refine XK.seq ?_
  refine XK.region rfl ?_
  refine XO.q (Q.assign rfl) ?_
  refine XO.done ?_
  refine XK.seq ?_
  refine XK.if rfl (fun c0 => ?_) (fun c0 => ?_)
  · have _t0 := True.intro
    simp at c0
  · have _t0 := True.intro
    refine XK.skip ?_
    refine XK.seq ?_
    refine XK.region rfl ?_
    refine XO.q (Q.move rfl) ?_
    refine XO.call Try.call115 rfl rfl rfl (len64_0) fun v7 s7 R7 => ?_
    obtain ⟨rfl, rfl⟩ := R7
    dsimp only [List.cons_append, List.nil_append]
    refine XO.q (Q.assign rfl) ?_
    refine XO.done ?_
    refine XK.rt [] Try.func84 Try.results84 (.t rfl .n) ?_
    exact ⟨rfl, rfl⟩
theorem len64_1 : Spec Try.prog 115 #[.int .u64 1] [] [] (fun v hs => v = .int .i64 1 ∧ hs = []) := by
  refine Spec.intro (fn := Try.f115) (N := 25) Try.func115 rfl Try.ntmps115 rfl fun B => ?_
  refine XK.seq ?_
  refine XK.region rfl ?_
  refine XO.q (Q.assign rfl) ?_
  refine XO.done ?_
  refine XK.seq ?_
  refine XK.seq ?_
  refine XK.region rfl ?_
  refine XO.q (Q.move rfl) ?_
  refine XO.q (Q.geq rfl rfl) ?_
  refine XO.done ?_
  refine XK.if rfl (fun c0 => ?_) (fun c0 => ?_)
  · have _t0 := True.intro
    exact absurd c0 (by decide)
  · have _t0 := True.intro
    refine XK.skip ?_
    refine XK.seq ?_
    refine XK.seq ?_
    refine XK.region rfl ?_
    refine XO.q (Q.move rfl) ?_
    refine XO.q (Q.geq rfl rfl) ?_
    refine XO.done ?_
    refine XK.if rfl (fun c1 => ?_) (fun c1 => ?_)
    · have _t1 := True.intro
      exact absurd c1 (by decide)
    · have _t1 := True.intro
      refine XK.skip ?_
      refine XK.seq ?_
      refine XK.seq ?_
      refine XK.region rfl ?_
      refine XO.q (Q.move rfl) ?_
      refine XO.q (Q.geq rfl rfl) ?_
      refine XO.done ?_
      refine XK.if rfl (fun c2 => ?_) (fun c2 => ?_)
      · have _t2 := True.intro
        exact absurd c2 (by decide)
      · have _t2 := True.intro
        refine XK.skip ?_
        refine XK.seq ?_
        refine XK.region rfl ?_
        refine XO.q (Q.move rfl) ?_
        refine XO.q (Q.move rfl) ?_
        refine XO.q (Q.conv rfl) ?_
        rw [show IntKind.u8.wrap 1 = 1 from by decide]
        refine XO.q (Q.indexS (n := 1) (b := 1) rfl rfl (by decide) (by kernel_rfl)) ?_
        refine XO.q (Q.conv rfl) ?_
        rw [show IntKind.i64.wrap ((((1 : UInt8).toNat : Nat) : Int)) = 1 from by decide]
        refine XO.q (Q.add rfl rfl ⟨by omega, by omega⟩) ?_
        refine XO.q (Q.assign rfl) ?_
        refine XO.done ?_
        refine XK.rt [] Try.func115 Try.results115 (.t rfl .n) ?_
        exact ⟨rfl, rfl⟩
theorem len_1 : Spec Try.prog 84 #[.int .u64 1] [] [] (fun v hs => v = .int .i64 1 ∧ hs = []) := by
  refine Spec.intro (fn := Try.f84) (N := 8) Try.func84 rfl Try.ntmps84 rfl fun B => ?_
  refine XK.seq ?_
  refine XK.region rfl ?_
  refine XO.q (Q.assign rfl) ?_
  refine XO.done ?_
  refine XK.seq ?_
  refine XK.if rfl (fun c0 => ?_) (fun c0 => ?_)
  · have _t0 := True.intro
    simp at c0
  · have _t0 := True.intro
    refine XK.skip ?_
    refine XK.seq ?_
    refine XK.region rfl ?_
    refine XO.q (Q.move rfl) ?_
    refine XO.call Try.call115 rfl rfl rfl (len64_1) fun v7 s7 R7 => ?_
    obtain ⟨rfl, rfl⟩ := R7
    dsimp only [List.cons_append, List.nil_append]
    refine XO.q (Q.assign rfl) ?_
    refine XO.done ?_
    refine XK.rt [] Try.func84 Try.results84 (.t rfl .n) ?_
    exact ⟨rfl, rfl⟩
theorem len64_2 : Spec Try.prog 115 #[.int .u64 2] [] [] (fun v hs => v = .int .i64 2 ∧ hs = []) := by
  refine Spec.intro (fn := Try.f115) (N := 25) Try.func115 rfl Try.ntmps115 rfl fun B => ?_
  refine XK.seq ?_
  refine XK.region rfl ?_
  refine XO.q (Q.assign rfl) ?_
  refine XO.done ?_
  refine XK.seq ?_
  refine XK.seq ?_
  refine XK.region rfl ?_
  refine XO.q (Q.move rfl) ?_
  refine XO.q (Q.geq rfl rfl) ?_
  refine XO.done ?_
  refine XK.if rfl (fun c0 => ?_) (fun c0 => ?_)
  · have _t0 := True.intro
    exact absurd c0 (by decide)
  · have _t0 := True.intro
    refine XK.skip ?_
    refine XK.seq ?_
    refine XK.seq ?_
    refine XK.region rfl ?_
    refine XO.q (Q.move rfl) ?_
    refine XO.q (Q.geq rfl rfl) ?_
    refine XO.done ?_
    refine XK.if rfl (fun c1 => ?_) (fun c1 => ?_)
    · have _t1 := True.intro
      exact absurd c1 (by decide)
    · have _t1 := True.intro
      refine XK.skip ?_
      refine XK.seq ?_
      refine XK.seq ?_
      refine XK.region rfl ?_
      refine XO.q (Q.move rfl) ?_
      refine XO.q (Q.geq rfl rfl) ?_
      refine XO.done ?_
      refine XK.if rfl (fun c2 => ?_) (fun c2 => ?_)
      · have _t2 := True.intro
        exact absurd c2 (by decide)
      · have _t2 := True.intro
        refine XK.skip ?_
        refine XK.seq ?_
        refine XK.region rfl ?_
        refine XO.q (Q.move rfl) ?_
        refine XO.q (Q.move rfl) ?_
        refine XO.q (Q.conv rfl) ?_
        rw [show IntKind.u8.wrap 2 = 2 from by decide]
        refine XO.q (Q.indexS (n := 2) (b := 2) rfl rfl (by decide) (by kernel_rfl)) ?_
        refine XO.q (Q.conv rfl) ?_
        rw [show IntKind.i64.wrap ((((2 : UInt8).toNat : Nat) : Int)) = 2 from by decide]
        refine XO.q (Q.add rfl rfl ⟨by omega, by omega⟩) ?_
        refine XO.q (Q.assign rfl) ?_
        refine XO.done ?_
        refine XK.rt [] Try.func115 Try.results115 (.t rfl .n) ?_
        exact ⟨rfl, rfl⟩
theorem len_2 : Spec Try.prog 84 #[.int .u64 2] [] [] (fun v hs => v = .int .i64 2 ∧ hs = []) := by
  refine Spec.intro (fn := Try.f84) (N := 8) Try.func84 rfl Try.ntmps84 rfl fun B => ?_
  refine XK.seq ?_
  refine XK.region rfl ?_
  refine XO.q (Q.assign rfl) ?_
  refine XO.done ?_
  refine XK.seq ?_
  refine XK.if rfl (fun c0 => ?_) (fun c0 => ?_)
  · have _t0 := True.intro
    simp at c0
  · have _t0 := True.intro
    refine XK.skip ?_
    refine XK.seq ?_
    refine XK.region rfl ?_
    refine XO.q (Q.move rfl) ?_
    refine XO.call Try.call115 rfl rfl rfl (len64_2) fun v7 s7 R7 => ?_
    obtain ⟨rfl, rfl⟩ := R7
    dsimp only [List.cons_append, List.nil_append]
    refine XO.q (Q.assign rfl) ?_
    refine XO.done ?_
    refine XK.rt [] Try.func84 Try.results84 (.t rfl .n) ?_
    exact ⟨rfl, rfl⟩
theorem len64_3 : Spec Try.prog 115 #[.int .u64 3] [] [] (fun v hs => v = .int .i64 2 ∧ hs = []) := by
  refine Spec.intro (fn := Try.f115) (N := 25) Try.func115 rfl Try.ntmps115 rfl fun B => ?_
  refine XK.seq ?_
  refine XK.region rfl ?_
  refine XO.q (Q.assign rfl) ?_
  refine XO.done ?_
  refine XK.seq ?_
  refine XK.seq ?_
  refine XK.region rfl ?_
  refine XO.q (Q.move rfl) ?_
  refine XO.q (Q.geq rfl rfl) ?_
  refine XO.done ?_
  refine XK.if rfl (fun c0 => ?_) (fun c0 => ?_)
  · have _t0 := True.intro
    exact absurd c0 (by decide)
  · have _t0 := True.intro
    refine XK.skip ?_
    refine XK.seq ?_
    refine XK.seq ?_
    refine XK.region rfl ?_
    refine XO.q (Q.move rfl) ?_
    refine XO.q (Q.geq rfl rfl) ?_
    refine XO.done ?_
    refine XK.if rfl (fun c1 => ?_) (fun c1 => ?_)
    · have _t1 := True.intro
      exact absurd c1 (by decide)
    · have _t1 := True.intro
      refine XK.skip ?_
      refine XK.seq ?_
      refine XK.seq ?_
      refine XK.region rfl ?_
      refine XO.q (Q.move rfl) ?_
      refine XO.q (Q.geq rfl rfl) ?_
      refine XO.done ?_
      refine XK.if rfl (fun c2 => ?_) (fun c2 => ?_)
      · have _t2 := True.intro
        exact absurd c2 (by decide)
      · have _t2 := True.intro
        refine XK.skip ?_
        refine XK.seq ?_
        refine XK.region rfl ?_
        refine XO.q (Q.move rfl) ?_
        refine XO.q (Q.move rfl) ?_
        refine XO.q (Q.conv rfl) ?_
        rw [show IntKind.u8.wrap 3 = 3 from by decide]
        refine XO.q (Q.indexS (n := 3) (b := 2) rfl rfl (by decide) (by kernel_rfl)) ?_
        refine XO.q (Q.conv rfl) ?_
        rw [show IntKind.i64.wrap ((((2 : UInt8).toNat : Nat) : Int)) = 2 from by decide]
        refine XO.q (Q.add rfl rfl ⟨by omega, by omega⟩) ?_
        refine XO.q (Q.assign rfl) ?_
        refine XO.done ?_
        refine XK.rt [] Try.func115 Try.results115 (.t rfl .n) ?_
        exact ⟨rfl, rfl⟩
theorem len_3 : Spec Try.prog 84 #[.int .u64 3] [] [] (fun v hs => v = .int .i64 2 ∧ hs = []) := by
  refine Spec.intro (fn := Try.f84) (N := 8) Try.func84 rfl Try.ntmps84 rfl fun B => ?_
  refine XK.seq ?_
  refine XK.region rfl ?_
  refine XO.q (Q.assign rfl) ?_
  refine XO.done ?_
  refine XK.seq ?_
  refine XK.if rfl (fun c0 => ?_) (fun c0 => ?_)
  · have _t0 := True.intro
    simp at c0
  · have _t0 := True.intro
    refine XK.skip ?_
    refine XK.seq ?_
    refine XK.region rfl ?_
    refine XO.q (Q.move rfl) ?_
    refine XO.call Try.call115 rfl rfl rfl (len64_3) fun v7 s7 R7 => ?_
    obtain ⟨rfl, rfl⟩ := R7
    dsimp only [List.cons_append, List.nil_append]
    refine XO.q (Q.assign rfl) ?_
    refine XO.done ?_
    refine XK.rt [] Try.func84 Try.results84 (.t rfl .n) ?_
    exact ⟨rfl, rfl⟩
theorem len64_4 : Spec Try.prog 115 #[.int .u64 4] [] [] (fun v hs => v = .int .i64 3 ∧ hs = []) := by
  refine Spec.intro (fn := Try.f115) (N := 25) Try.func115 rfl Try.ntmps115 rfl fun B => ?_
  refine XK.seq ?_
  refine XK.region rfl ?_
  refine XO.q (Q.assign rfl) ?_
  refine XO.done ?_
  refine XK.seq ?_
  refine XK.seq ?_
  refine XK.region rfl ?_
  refine XO.q (Q.move rfl) ?_
  refine XO.q (Q.geq rfl rfl) ?_
  refine XO.done ?_
  refine XK.if rfl (fun c0 => ?_) (fun c0 => ?_)
  · have _t0 := True.intro
    exact absurd c0 (by decide)
  · have _t0 := True.intro
    refine XK.skip ?_
    refine XK.seq ?_
    refine XK.seq ?_
    refine XK.region rfl ?_
    refine XO.q (Q.move rfl) ?_
    refine XO.q (Q.geq rfl rfl) ?_
    refine XO.done ?_
    refine XK.if rfl (fun c1 => ?_) (fun c1 => ?_)
    · have _t1 := True.intro
      exact absurd c1 (by decide)
    · have _t1 := True.intro
      refine XK.skip ?_
      refine XK.seq ?_
      refine XK.seq ?_
      refine XK.region rfl ?_
      refine XO.q (Q.move rfl) ?_
      refine XO.q (Q.geq rfl rfl) ?_
      refine XO.done ?_
      refine XK.if rfl (fun c2 => ?_) (fun c2 => ?_)
      · have _t2 := True.intro
        exact absurd c2 (by decide)
      · have _t2 := True.intro
        refine XK.skip ?_
        refine XK.seq ?_
        refine XK.region rfl ?_
        refine XO.q (Q.move rfl) ?_
        refine XO.q (Q.move rfl) ?_
        refine XO.q (Q.conv rfl) ?_
        rw [show IntKind.u8.wrap 4 = 4 from by decide]
        refine XO.q (Q.indexS (n := 4) (b := 3) rfl rfl (by decide) (by kernel_rfl)) ?_
        refine XO.q (Q.conv rfl) ?_
        rw [show IntKind.i64.wrap ((((3 : UInt8).toNat : Nat) : Int)) = 3 from by decide]
        refine XO.q (Q.add rfl rfl ⟨by omega, by omega⟩) ?_
        refine XO.q (Q.assign rfl) ?_
        refine XO.done ?_
        refine XK.rt [] Try.func115 Try.results115 (.t rfl .n) ?_
        exact ⟨rfl, rfl⟩
theorem len_4 : Spec Try.prog 84 #[.int .u64 4] [] [] (fun v hs => v = .int .i64 3 ∧ hs = []) := by
  refine Spec.intro (fn := Try.f84) (N := 8) Try.func84 rfl Try.ntmps84 rfl fun B => ?_
  refine XK.seq ?_
  refine XK.region rfl ?_
  refine XO.q (Q.assign rfl) ?_
  refine XO.done ?_
  refine XK.seq ?_
  refine XK.if rfl (fun c0 => ?_) (fun c0 => ?_)
  · have _t0 := True.intro
    simp at c0
  · have _t0 := True.intro
    refine XK.skip ?_
    refine XK.seq ?_
    refine XK.region rfl ?_
    refine XO.q (Q.move rfl) ?_
    refine XO.call Try.call115 rfl rfl rfl (len64_4) fun v7 s7 R7 => ?_
    obtain ⟨rfl, rfl⟩ := R7
    dsimp only [List.cons_append, List.nil_append]
    refine XO.q (Q.assign rfl) ?_
    refine XO.done ?_
    refine XK.rt [] Try.func84 Try.results84 (.t rfl .n) ?_
    exact ⟨rfl, rfl⟩
theorem len_spec (n : Nat) (hn : n ≤ 4) : Spec Try.prog 84 #[.int .u64 (n : Nat)] [] [] (fun v hs => ∃ r, v = .int .i64 r ∧ hs = []) := by
  match n, hn with
  | 0, _ => exact len_0.mono fun v hs h => ⟨_, h⟩
  | 1, _ => exact len_1.mono fun v hs h => ⟨_, h⟩
  | 2, _ => exact len_2.mono fun v hs h => ⟨_, h⟩
  | 3, _ => exact len_3.mono fun v hs h => ⟨_, h⟩
  | 4, _ => exact len_4.mono fun v hs h => ⟨_, h⟩
  | n + 5, h => omega
theorem sort_spec (v : Value) (h : PHeap) (xs : List Int) [s : OArr v encI 1 3 h xs] (n : Nat) (hn : xs.length = n) (hn2 : n ≤ 4) : Spec Try.prog 42 #[v] [h] [] (fun _ hs => ∃ h' ys, hs = [h'] ∧ OArr v encI 1 3 h' ys ∧ ys.length = n ∧ (∀ a, ys.count a = xs.count a) ∧ Ord ys n) := by
  refine Spec.intro (fn := Try.f42) (N := 11) Try.func42 rfl Try.ntmps42 rfl fun B => ?_
  refine XK.seq ?_
  refine XK.region rfl ?_
  refine XO.q (Q.move rfl) ?_
  refine XO.len rfl fun l4 => ?_
  rw [hn]
  refine XO.q (Q.assign rfl) ?_
  refine XO.done ?_
  refine XK.region rfl ?_
  refine XO.q (Q.move rfl) ?_
  refine XO.q (Q.move rfl) ?_
  refine XO.q (Q.move rfl) ?_
  refine XO.q (Q.conv rfl) ?_
  rw [wrapu64 ⟨by omega, by omega⟩]
  refine XO.call Try.call84 rfl rfl rfl (len_spec n hn2) fun v9 s9 R9 => ?_
  obtain ⟨lim, rfl, rfl⟩ := R9
  dsimp only [List.cons_append, List.nil_append]
  refine XO.call Try.call83 rfl rfl rfl (pdq_spec v h xs n hn (by omega) lim) fun v10 s10 R10 => ?_
  obtain ⟨h', ys, rfl, OY, y1, y2, y3⟩ := R10
  dsimp only [List.cons_append, List.nil_append]
  refine XO.done ?_
  refine XK.fn [h'] Try.func42 Try.results42 (.n) ?_
  exact ⟨h', ys, rfl, OY, y1, y2, y3⟩
theorem indexRows (va : Value) (ha K : PHeap) (us : List Value) [ia : Arr va encV 1 ha us] (rows : List (List Int)) (ru : RowsK us K rows) (gid : FuncId) (cap : List Value) (Hr : List PHeap) (p : List Int → Bool) (hc : ∀ args w, (callFunc gid args).run Try.prog w = .ok (.enter gid args) w) (hS : ∀ i, i < us.length → Spec Try.prog gid (us.getD i default :: cap).toArray [] Hr (fun v hs => v = .bool (p (rows.getD i default)) ∧ hs = [])) : Spec Try.prog 86 #[va, .func (.func gid) #[] cap.toArray] [] (ha :: Hr) (fun v hs => v = .int .i64 (findFirst p rows) ∧ hs = []) := by
  have l1 := ru.1
  refine Spec.intro (fn := Try.f86) (N := 19) Try.func86 rfl Try.ntmps86 rfl fun B => ?_
  refine XK.seq ?_
  refine XK.region rfl ?_
  refine XO.q (Q.assign rfl) ?_
  refine XO.done ?_
  refine XK.seq ?_
  refine XK.seq ?_
  refine XK.region rfl ?_
  refine XO.q (Q.move rfl) ?_
  refine XO.len rfl fun l7 => ?_
  refine XO.q (Q.move rfl) ?_
  refine XO.done ?_
  refine XK.block ?_
  refine XK.while (X := Nat) [4, 5, 8, 9, 10, 11, 12, 13, 14, 15, 16, 17, 18] (fun i => [(8, some (.int .i64 (i : Nat)))]) (fun i => []) (fun i => i ≤ us.length ∧ (rows.take i).any p = false) (fun i => us.length - i) (0) [] rfl ⟨by omega, rfl⟩ (.c rfl (.base 0 rfl rfl)) ?_
  rintro i ⟨hi, ht⟩ ih0
  dsimp only [List.cons_append, List.nil_append] at ih0 ⊢
  refine XK.seq ?_
  refine XK.region rfl ?_
  refine XO.q (Q.lss rfl rfl) ?_
  refine XO.done ?_
  refine XK.seq ?_
  refine XK.if rfl (fun c0 => ?_) (fun c0 => ?_)
  · have _t0 := True.intro
    refine XK.skip ?_
    refine XK.seq ?_
    refine XK.block ?_
    refine XK.seq ?_
    refine XK.region rfl ?_
    refine XO.q (Q.move rfl) ?_
    refine XO.q (Q.assign rfl) ?_
    refine XO.done ?_
    refine XK.seq ?_
    refine XK.region rfl ?_
    refine XO.q (Q.move rfl) ?_
    refine XO.q (Q.move rfl) ?_
    refine XO.q (Q.move rfl) ?_
    refine XO.ix rfl rfl (by omega) (by omega) fun i14 => ?_
    refine XO.q (Q.ldE rfl (by first | assumption | omega) rfl) ?_
    refine XO.call hc rfl rfl rfl (hS i (by omega)) fun v16 s16 R16 => ?_
    obtain ⟨rfl, rfl⟩ := R16
    dsimp only [List.cons_append, List.nil_append]
    refine XO.done ?_
    refine XK.if rfl (fun c1 => ?_) (fun c1 => ?_)
    · have _t1 := True.intro
      refine XK.seq ?_
      refine XK.region rfl ?_
      refine XO.q (Q.move rfl) ?_
      refine XO.q (Q.assign rfl) ?_
      refine XO.done ?_
      refine XK.rt [] Try.func86 Try.results86 (.t rfl .n) ?_
      exact ⟨by rw [findFirst_here ht (by omega) c1], rfl⟩
    · have _t1 := True.intro
      refine XK.skip ?_
      refine XK.inBlock ?_
      refine XK.region rfl ?_
      refine XO.q (Q.add rfl rfl ⟨by omega, by omega⟩) ?_
      refine XO.q (Q.move rfl) ?_
      refine XO.done ?_
      exact ih0 (i + 1) _ _ ⟨by omega, any_step ht (by omega) (Bool.eq_false_iff.2 c1)⟩ (by first | omega | (dsimp only; omega)) (.c rfl (.base 25 rfl rfl)) inferInstance
  · have _t0 := True.intro
    refine XK.exit rfl ?_
    refine XK.seq ?_
    refine XK.region rfl ?_
    refine XO.q (Q.assign rfl) ?_
    refine XO.done ?_
    refine XK.rt [] Try.func86 Try.results86 (.t rfl .n) ?_
    exact ⟨by rw [findFirst_none ht (by omega)], rfl⟩
theorem containsRows (va : Value) (ha K : PHeap) (us : List Value) [ia : Arr va encV 1 ha us] (rows : List (List Int)) (ru : RowsK us K rows) (gid : FuncId) (cap : List Value) (Hr : List PHeap) (p : List Int → Bool) (hc : ∀ args w, (callFunc gid args).run Try.prog w = .ok (.enter gid args) w) (hS : ∀ i, i < us.length → Spec Try.prog gid (us.getD i default :: cap).toArray [] Hr (fun v hs => v = .bool (p (rows.getD i default)) ∧ hs = [])) : Spec Try.prog 44 #[va, .func (.func gid) #[] cap.toArray] [] (ha :: Hr) (fun v hs => v = .bool (rows.any p) ∧ hs = []) := by
  refine Spec.intro (fn := Try.f44) (N := 9) Try.func44 rfl Try.ntmps44 rfl fun B => ?_
  refine XK.seq ?_
  refine XK.region rfl ?_
  refine XO.q (Q.assign rfl) ?_
  refine XO.done ?_
  refine XK.seq ?_
  refine XK.region rfl ?_
  refine XO.q (Q.move rfl) ?_
  refine XO.q (Q.move rfl) ?_
  refine XO.call Try.call86 rfl rfl rfl (indexRows va ha K us rows ru gid cap Hr p hc hS) fun v7 s7 R7 => ?_
  obtain ⟨rfl, rfl⟩ := R7
  dsimp only [List.cons_append, List.nil_append]
  refine XO.q (Q.geq rfl rfl) ?_
  refine XO.q (Q.assign rfl) ?_
  refine XO.done ?_
  refine XK.rt [] Try.func44 Try.results44 (.t rfl .n) ?_
  exact ⟨by rw [← findFirst_any], rfl⟩
end Go.X
