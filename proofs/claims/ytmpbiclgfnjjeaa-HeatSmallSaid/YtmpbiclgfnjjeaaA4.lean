/- A part of the proof: a small program logic, plain laws and contracts of functions, each proved by a walk through its operations. No condition but those that stand in each theorem. -/
import Derived.Test.YtmpbiclgfnjjeaaA3
set_option linter.unusedSimpArgs false
set_option linter.unusedVariables false
set_option maxRecDepth 20000
namespace Go.X
open Go.Proofs
theorem example7 (pump : Int) : Spec Try.prog 25 #[.int .i64 pump] [] [] (fun v hs => ∃ vr vw vb vc vl kr kw kb kc kl, v = .tuple #[.agg #[vr, vw, vb, vc], .agg #[vl, .int .i64 (exCase pump).out, .int .i64 (exCase pump).pump]] ∧ hs = [kr, kw, kb, kc, kl] ∧
    OArr vr encRoom 2 48 kr exHall.rooms ∧ OArr vw encWall 3 50 kw exHall.walls ∧ OArr vb encBranch 3 38 kb exHall.branches ∧ OArr vc encCooler 5 52 kc exHall.coolers ∧ OArr vl encI 1 3 kl (exCase pump).load) := by
  refine Spec.intro (fn := Try.f25) (N := 16) Try.func25 rfl Try.ntmps25 rfl fun B => ?_
  refine XK.seq (XK.region rfl ?_)
  refine XO.alloc fun b2 => ?_
  refine XO.alloc fun b3 => ?_
  refine XO.done (XK.seq (XK.region rfl ?_))
  refine XO.q (Q.build [_, _] (.c 0 1 rfl rfl rfl (.c 1 1 rfl rfl rfl (.n _)))) ?_
  refine XO.lit [_, _] [_, _] [⟨1000, 30000⟩] encRoom (by rfl) (by rfl) rfl (by rfl) (by exact .c 0 2 rfl rfl rfl (.n _)) (fun _ => rfl) (by rfl) rfl (by infer_instance) rfl fun v5 h5 O5 => ?_
  refine XO.q (Q.build [_, _, _] (.c 0 1 rfl rfl rfl (.c 1 1 rfl rfl rfl (.c 2 1 rfl rfl rfl (.n _))))) ?_
  refine XO.lit [_, _, _] [_, _, _] [⟨0, -1, 10⟩] encWall (by rfl) (by rfl) rfl (by rfl) (by exact .c 0 3 rfl rfl rfl (.n _)) (fun _ => rfl) (by rfl) rfl (by infer_instance) rfl fun v7 h7 O7 => ?_
  refine XO.q (Q.build [_, _, _] (.c 0 1 rfl rfl rfl (.c 1 1 rfl rfl rfl (.n _)))) ?_
  refine XO.lit [_, _, _] [_, _, _] [⟨-1, 100, 0⟩] encBranch (by rfl) (by rfl) rfl (by rfl) (by exact .c 0 3 rfl rfl rfl (.n _)) (fun _ => rfl) (by rfl) rfl (by infer_instance) rfl fun v9 h9 O9 => ?_
  refine XO.q (Q.build [_, _, _, _, _] (.c 2 1 rfl rfl rfl (.c 3 1 rfl rfl rfl (.c 4 1 rfl rfl rfl (.n _))))) ?_
  refine XO.lit [_, _, _, _, _] [_, _, _, _, _] [⟨0, 0, 50, 4, 18000⟩] encCooler (by rfl) (by rfl) rfl (by rfl) (by exact .c 0 5 rfl rfl rfl (.n _)) (fun _ => rfl) (by rfl) rfl (by infer_instance) rfl fun v11 h11 O11 => ?_
  refine XO.q (Q.build [_, _, _, _] (.c 0 1 rfl rfl rfl (.c 1 1 rfl rfl rfl (.c 2 1 rfl rfl rfl (.c 3 1 rfl rfl rfl (.n _)))))) ?_
  refine XO.lit [_] [_] [100000] encI (by rfl) (by rfl) rfl (by rfl) (by exact .c 0 1 rfl rfl rfl (.n _)) (fun _ => rfl) (by rfl) rfl (by infer_instance) rfl fun v13 h13 O13 => ?_
  refine XO.q (Q.move rfl) ?_
  refine XO.q (Q.build [_, _, _] (.c 0 1 rfl rfl rfl (.c 1 1 rfl rfl rfl (.c 2 1 rfl rfl rfl (.n _))))) ?_
  refine XO.st rfl rfl rfl ?_
  refine XO.st rfl rfl rfl ?_
  refine XO.done ?_
  refine XK.rt [h5, h7, h9, h11, h13] Try.func25 Try.results25 (.cell [_, _, _, _] rfl rfl rfl (.cell [_, _, _] rfl rfl rfl (.n))) ?_
  exact ⟨v5, v7, v9, v11, v13, h5, h7, h9, h11, h13, rfl, rfl, O5, O7, O9, O11, O13⟩
end Go.X

set_option linter.unusedSimpArgs false
set_option linter.unusedVariables false
set_option maxRecDepth 20000
namespace Go.X
open Go.Proofs
end Go.X

set_option linter.unusedSimpArgs false
set_option linter.unusedVariables false
set_option maxRecDepth 20000
namespace Go.X
open Go.Proofs
theorem awake7 : Spec Try.prog 12 #[] [] [] (fun v hs => v = .bool true ∧ hs = []) := by
  refine Spec.intro (fn := Try.f12) (N := 69) Try.func12 rfl Try.ntmps12 rfl fun B => ?_
  refine XK.seq (XK.region rfl (XO.q (Q.assign rfl) (XO.done (XK.seq (XK.region rfl ?_)))))
  refine XO.call Try.call25 rfl rfl rfl (example7 100) fun v12 s12 R12 => ?_
  obtain ⟨vr12, vw12, vb12, vc12, vl12, kr12, kw12, kb12, kc12, kl12, rfl, rfl, Or12, Ow12, Ob12, Oc12, Ol12⟩ := R12
  dsimp only [lcA, lnA]
  refine XO.q (Q.move rfl) ?_
  refine XO.q (Q.extract rfl rfl) ?_
  refine XO.q (Q.extract rfl rfl) ?_
  refine XO.alloc fun b1 => ?_
  refine XO.alloc fun b2 => ?_
  refine XO.st rfl rfl rfl ?_
  refine XO.st rfl rfl rfl ?_
  refine XO.done (XK.seq (XK.region rfl ?_))
  refine XO.call Try.call25 rfl rfl rfl (example7 50000) fun v16 s16 R16 => ?_
  obtain ⟨vr16, vw16, vb16, vc16, vl16, kr16, kw16, kb16, kc16, kl16, rfl, rfl, Or16, Ow16, Ob16, Oc16, Ol16⟩ := R16
  dsimp only [lcA, lnA]
  refine XO.q (Q.move rfl) ?_
  refine XO.q (Q.extract rfl rfl) ?_
  refine XO.q (Q.extract rfl rfl) ?_
  refine XO.alloc fun b3 => ?_
  refine XO.alloc fun b4 => ?_
  refine XO.st rfl rfl rfl ?_
  refine XO.st rfl rfl rfl ?_
  refine XO.done (XK.seq (XK.region rfl ?_))
  refine XO.q (Q.ldA [_, _, _, _] rfl rfl rfl) ?_
  refine XO.lit [_] [_] [22000] encI (by rfl) (by rfl) rfl (by rfl) (by exact .c 0 1 rfl rfl rfl (.n _)) (fun _ => rfl) (by rfl) rfl (by infer_instance) rfl fun v21 h21 O21 => ?_
  refine XO.q (Q.ldA [_, _, _] rfl rfl rfl) ?_
  refine XO.call Try.call16 rfl rfl rfl (Next_spec exHall vr12 vw12 vb12 vc12 kr12 kw12 kb12 kc12 [22000] v21 h21 (exCase 100) vl12 kl12) fun v23 s23 R23 => ?_
  obtain ⟨w23, k23, rfl, rfl, O23⟩ := R23
  dsimp only [lcA, lnA]
  refine XO.q (Q.move rfl) ?_
  refine XO.q (Q.extract rfl rfl) ?_
  refine XO.q (Q.extract rfl rfl) ?_
  refine XO.q (Q.assign rfl) (XO.q (Q.assign rfl) (XO.done (XK.seq (XK.region rfl ?_))))
  refine XO.q (Q.ldA [_, _, _, _] rfl rfl rfl) ?_
  refine XO.lit [_] [_] [22000] encI (by rfl) (by rfl) rfl (by rfl) (by exact .c 0 1 rfl rfl rfl (.n _)) (fun _ => rfl) (by rfl) rfl (by infer_instance) rfl fun v28 h28 O28 => ?_
  refine XO.q (Q.ldA [_, _, _] rfl rfl rfl) ?_
  refine XO.call Try.call16 rfl rfl rfl (Next_spec exHall vr12 vw12 vb12 vc12 kr12 kw12 kb12 kc12 [22000] v28 h28 (exCase 50000) vl16 kl16) fun v30 s30 R30 => ?_
  obtain ⟨w30, k30, rfl, rfl, O30⟩ := R30
  dsimp only [lcA, lnA]
  refine XO.q (Q.move rfl) ?_
  refine XO.q (Q.extract rfl rfl) ?_
  refine XO.q (Q.extract rfl rfl) ?_
  refine XO.q (Q.assign rfl) (XO.q (Q.assign rfl) (XO.done (XK.seq (XK.region rfl ?_))))
  refine XO.q (Q.build [_, _, _] (.c 0 1 rfl rfl rfl (.n _))) ?_
  refine XO.q (Q.build [_, _, _] (.c 0 1 rfl rfl rfl (.c 1 1 rfl rfl rfl (.n _)))) ?_
  refine XO.q (Q.build [_, _, _] (.c 0 1 rfl rfl rfl (.c 1 1 rfl rfl rfl (.c 2 1 rfl rfl rfl (.n _))))) ?_
  refine XO.q (Q.build [_, _, _] (.c 0 1 rfl rfl rfl (.c 1 1 rfl rfl rfl (.n _)))) ?_
  refine XO.lit [_, _, _, _, _, _, _, _, _, _, _, _] [_, _, _, _, _, _, _, _, _, _, _, _] [⟨-1, 0, 0⟩, ⟨0, 1, 0⟩, ⟨0, 1, 40⟩, ⟨0, 1, 0⟩] encBranch (by rfl) (by rfl) rfl (by rfl) (by exact .c 0 3 rfl rfl rfl (.c 3 3 rfl rfl rfl (.c 6 3 rfl rfl rfl (.c 9 3 rfl rfl rfl (.n _))))) (fun _ => rfl) (by rfl) rfl (by infer_instance) rfl fun v37 h37 O37 => ?_
  refine XO.q (Q.fieldAddr rfl) ?_
  refine XO.st rfl rfl rfl ?_
  refine XO.done (XK.seq (XK.region rfl ?_))
  refine XO.q (Q.ldA [_, _, _, _] rfl rfl rfl) ?_
  refine XO.call Try.call10 rfl rfl rfl (Flows_spec exTree vr12 vw12 v37 vc12 kr12 kw12 h37 kc12 100) fun v41 s41 R41 => ?_
  obtain ⟨w41, k41, rfl, rfl, O41⟩ := R41
  dsimp only [lcA, lnA]
  refine XO.q (Q.move rfl) ?_
  refine XO.q (Q.extract rfl rfl) ?_
  refine XO.q (Q.extract rfl rfl) ?_
  refine XO.q (Q.assign rfl) (XO.q (Q.assign rfl) (XO.done (XK.seq (XK.region rfl (XO.q (Q.move rfl) ?_)))))
  refine XO.q (Q.eql rfl rfl) ?_
  refine XO.q (Q.move rfl) ?_
  refine XO.q (Quiet.guardT rfl rfl fun g47 p47 => Q.move rfl) ?_
  refine XO.q (Quiet.guardT rfl rfl fun g48 p48 => Q.eql (lzv g48 rfl) rfl) ?_
  refine XO.q (Q.and rfl (fun hp => lzv hp rfl)) ?_
  refine XO.q (Q.move rfl) ?_
  refine XO.q (Quiet.guardT rfl rfl fun g51 p51 => Q.move rfl) ?_
  refine XO.q (Quiet.guardT rfl rfl fun g52 p52 => Q.eql (lzv g52 rfl) rfl) ?_
  refine XO.q (Q.and rfl (fun hp => lzv hp rfl)) ?_
  refine XO.q (Q.move rfl) ?_
  refine XO.q (Quiet.guardT rfl rfl fun g55 p55 => Q.move rfl) ?_
  refine XO.litG [_] [_] [22079] encI rfl rfl (by simp [exA, exB, exC]) (by rfl) (by rfl) rfl (by rfl) (by exact .c 0 1 rfl rfl rfl (.n _)) (fun _ => rfl) (by rfl) rfl (by infer_instance) rfl fun v56 h56 O56 => ?_
  refine XO.gcallT rfl rfl Try.call39 rfl (fun g57 => .c (lzv g57 rfl) (.c rfl .n)) rfl (fun g57 p57 => equalI _ _ _ _ _ _) ?_
  refine XO.q (Q.and rfl (fun hp => lzv hp rfl)) ?_
  refine XO.q (Q.move rfl) ?_
  refine XO.q (Quiet.guardT rfl rfl fun g60 p60 => Q.move rfl) ?_
  refine XO.litG [_] [_] [21880] encI rfl rfl (by simp [exA, exB, exC]) (by rfl) (by rfl) rfl (by rfl) (by exact .c 0 1 rfl rfl rfl (.n _)) (fun _ => rfl) (by rfl) rfl (by infer_instance) rfl fun v61 h61 O61 => ?_
  refine XO.gcallT rfl rfl Try.call39 rfl (fun g62 => .c (lzv g62 rfl) (.c rfl .n)) rfl (fun g62 p62 => equalI _ _ _ _ _ _) ?_
  refine XO.q (Q.and rfl (fun hp => lzv hp rfl)) ?_
  refine XO.q (Q.move rfl) ?_
  refine XO.q (Quiet.guardT rfl rfl fun g65 p65 => Q.move rfl) ?_
  refine XO.litG [_, _, _, _] [_, _, _, _] [100, 33, 0, 33] encI rfl rfl (by simp [exA, exB, exC]) (by rfl) (by rfl) rfl (by rfl) (by exact .c 0 1 rfl rfl rfl (.c 1 1 rfl rfl rfl (.c 2 1 rfl rfl rfl (.c 3 1 rfl rfl rfl (.n _))))) (fun _ => rfl) (by rfl) rfl (by infer_instance) rfl fun v66 h66 O66 => ?_
  refine XO.gcallT rfl rfl Try.call39 rfl (fun g67 => .c (lzv g67 rfl) (.c rfl .n)) rfl (fun g67 p67 => equalI _ _ _ _ _ _) ?_
  refine XO.q (Q.and rfl (fun hp => lzv hp rfl)) ?_
  refine XO.q (Q.assign rfl) (XO.done ?_)
  refine XK.rt [] Try.func12 Try.results12 (.t rfl .n) ?_
  exact ⟨by simp [exA, exB, exC], rfl⟩
end Go.X

set_option linter.unusedSimpArgs false
set_option linter.unusedVariables false
set_option maxRecDepth 20000
namespace Go.X
open Go.Proofs
def encCV (x : Value × HCase) : List Value := [x.1, .int .i64 x.2.out, .int .i64 x.2.pump]
instance : Inhabited (Value × HCase) := ⟨(.slice none 0 0, default)⟩
theorem below_spec7 (va vb : Value) (ha hb : PHeap) (a b : List Int) [ia : Arr va encI 1 ha a] [ib : Arr vb encI 1 hb b] (hl : a.length ≤ b.length) : Spec Try.prog 48 #[va, vb] [] [ha, hb] (fun v hs => v = .bool (lbelow a b) ∧ hs = []) := by
  refine Spec.intro (fn := Try.f48) (N := 21) Try.func48 rfl Try.ntmps48 rfl fun B => ?_
  refine XK.seq (XK.region rfl (XO.q (Q.assign rfl) (XO.done (XK.seq (XK.seq ?_)))))
  refine XK.region rfl (XO.q (Q.move rfl) ?_)
  refine XO.len rfl fun l7 => ?_
  refine XO.q (Q.move rfl) (XO.done (XK.block ?_))
  refine XK.while (X := Nat) [4, 5, 8, 9, 10, 11, 12, 13, 14, 15, 16, 17, 18, 19, 20] (fun i => [(8, some (.int .i64 (i : Nat)))]) (fun i => []) (fun i => i ≤ a.length ∧ allTo (fun i => decide (a.getD i 0 ≤ b.getD i 0)) i = true) (fun i => a.length - i) (0) [] rfl ⟨by omega, rfl⟩ (.c rfl (.base 0 rfl rfl)) ?_
  rintro i ⟨hi, ht⟩ ih0
  dsimp only [lcA, lnA] at ih0 ⊢
  refine XK.seq (XK.region rfl ?_)
  refine XO.q (Q.lss rfl rfl) ?_
  refine XO.done (XK.seq ?_)
  refine XK.if rfl (fun c0 => ?_) (fun c0 => ?_)
  · skip
    refine XK.skip (XK.seq (XK.block (XK.seq (XK.region rfl (XO.q (Q.move rfl) ?_)))))
    refine XO.q (Q.assign rfl) (XO.done (XK.seq ?_))
    refine XK.drawn [0, 1, 2, 3, 4, 5, 6, 7, 8] [] [] (.q 0 (.q 1 (.q 2 (.q 3 (.q 4 (.q 5 (.q 6 (.q 7 (.q 8 .done))))))))) Try.mixed rfl (by kernel_rfl) ?_
    refine XT.q rfl rfl (Q.move rfl) ?_
    refine XT.q rfl rfl (Q.move rfl) ?_
    refine XT.ix rfl rfl rfl rfl (by omega) (by omega) fun i13 => ?_
    refine XT.q rfl rfl (Q.ldE rfl (by first | assumption | omega) rfl) ?_
    refine XT.q rfl rfl (Q.move rfl) ?_
    refine XT.q rfl rfl (Q.move rfl) ?_
    refine XT.ix rfl rfl rfl rfl (by omega) (by omega) fun i17 => ?_
    refine XT.q rfl rfl (Q.ldE rfl (by first | assumption | omega) rfl) ?_
    refine XT.q rfl rfl (Q.gtr rfl rfl) ?_
    refine XT.done ?_
    refine XK.if rfl (fun c1 => ?_) (fun c1 => ?_)
    · skip
      refine XK.seq (XK.region rfl (XO.q (Q.assign rfl) (XO.done ?_)))
      refine XK.rt [] Try.func48 Try.results48 (.t rfl .n) ?_
      exact ⟨by rw [lbelow, allTo_false (s := i) (by omega) (by rw [decide_eq_false_iff_not]; change b.getD i 0 < a.getD i 0 at c1; omega)], rfl⟩
    · skip
      refine XK.skip ?_
      refine XK.inBlock ?_
      refine XK.region rfl ?_
      refine XO.q (Q.add rfl rfl ⟨by omega, by omega⟩) ?_
      refine XO.q (Q.move rfl) (XO.done ?_)
      exact ih0 (i + 1) _ _ ⟨by omega, by rw [allTo_succ, ht, Bool.true_and, decide_eq_true_eq]; change ¬ (b.getD i 0 < a.getD i 0) at c1; omega⟩ (by first | omega | (dsimp only; omega)) (.c rfl (.base 30 rfl rfl)) inferInstance
  · skip
    refine XK.exit rfl ?_
    refine XK.seq (XK.region rfl (XO.q (Q.assign rfl) (XO.done ?_)))
    refine XK.rt [] Try.func48 Try.results48 (.t rfl .n) ?_
    have hn : i = a.length := by omega
    rw [hn] at ht
    exact ⟨by rw [lbelow, ht], rfl⟩
theorem between_spec (a c d : HCase) (va vc vd : Value) (ha hc hd : PHeap) [ia : Arr va encI 1 ha a.load] [ic : Arr vc encI 1 hc c.load] [id : Arr vd encI 1 hd d.load] (h1 : c.load.length ≤ a.load.length) (h2 : c.load.length ≤ d.load.length) :
    Spec Try.prog 70 #[.agg #[va, .int .i64 a.out, .int .i64 a.pump], .agg #[vc, .int .i64 c.out, .int .i64 c.pump], .agg #[vd, .int .i64 d.out, .int .i64 d.pump]] [] [ha, hc, hd] (fun v hs => v = .bool (betweenP a c d) ∧ hs = []) := by
  refine Spec.intro (fn := Try.f70) (N := 60) Try.func70 rfl Try.ntmps70 rfl fun B => ?_
  refine XK.seq (XK.region rfl ?_)
  refine XO.box rfl fun b3 => ?_
  refine XO.box rfl fun b4 => ?_
  refine XO.box rfl fun b5 => ?_
  refine XO.q (Q.assign rfl) (XO.done (XK.seq (XK.seq (XK.region rfl ?_))))
  refine XO.q (Q.fieldAddr rfl) ?_
  refine XO.q (Q.ld rfl rfl) ?_
  refine XO.len rfl fun l11 => ?_
  refine XO.q (Q.move rfl) (XO.done (XK.block ?_))
  refine XK.while (X := Nat) [6, 7, 8, 12, 13, 14, 15, 16, 17, 18, 19, 20, 21, 22, 23, 24, 25, 26, 27, 28, 29, 30, 31, 32, 33] (fun i => [(12, some (.int .i64 (i : Nat)))]) (fun i => []) (fun i => i ≤ c.load.length ∧ allTo (fun i => decide (a.load.getD i 0 ≤ c.load.getD i 0) && decide (c.load.getD i 0 ≤ d.load.getD i 0)) i = true) (fun i => c.load.length - i) (0) [] rfl ⟨by omega, rfl⟩ (.c rfl (.base 0 rfl rfl)) ?_
  rintro i ⟨hi, ht⟩ ih0
  dsimp only [lcA, lnA] at ih0 ⊢
  refine XK.seq (XK.region rfl ?_)
  refine XO.q (Q.lss rfl rfl) ?_
  refine XO.done (XK.seq ?_)
  refine XK.if rfl (fun c0 => ?_) (fun c0 => ?_)
  · skip
    refine XK.skip (XK.seq (XK.block (XK.seq (XK.region rfl (XO.q (Q.move rfl) ?_)))))
    refine XO.ix rfl rfl (by omega) (by omega) fun i15 => ?_
    refine XO.q (Q.ldE rfl (by first | assumption | omega) rfl) ?_
    refine XO.q (Q.assign rfl) (XO.q (Q.assign rfl) (XO.done (XK.seq (XK.region rfl (XO.q (Q.move rfl) ?_)))))
    refine XO.q (Q.fieldAddr rfl) ?_
    refine XO.q (Q.ld rfl rfl) ?_
    refine XO.q (Q.move rfl) ?_
    refine XO.ix rfl rfl (by omega) (by omega) fun i21 => ?_
    refine XO.q (Q.ldE rfl (by first | assumption | omega) rfl) ?_
    refine XO.q (Q.lss rfl rfl) ?_
    refine XO.q (Q.move rfl) ?_
    refine XO.q (Quiet.guardF rfl rfl fun g25 p25 => Q.move rfl) ?_
    refine XO.q (Quiet.guardF rfl rfl fun g26 p26 => Q.fieldAddr rfl) ?_
    refine XO.q (Quiet.guardF rfl rfl fun g27 p27 => Q.ld (lzv g27 rfl) rfl) ?_
    refine XO.q (Quiet.guardF rfl rfl fun g28 p28 => Q.move rfl) ?_
    refine XO.q (Quiet.guardF rfl rfl fun g29 p29 => Q.ix (lzv g29 rfl) (lzv g29 rfl) (by omega) (by omega)) ?_
    refine XO.q (Quiet.guardF rfl rfl fun g30 p30 => Q.ldE (lzv g30 rfl) (by first | assumption | omega) rfl) ?_
    refine XO.q (Quiet.guardF rfl rfl fun g31 p31 => Q.gtr (lzv g31 rfl) (lzv g31 rfl)) ?_
    refine XO.q (Q.or rfl (fun hp => lzv hp rfl)) ?_
    refine XO.done ?_
    refine XK.if rfl (fun c1 => ?_) (fun c1 => ?_)
    · skip
      refine XK.seq (XK.region rfl (XO.q (Q.assign rfl) (XO.done ?_)))
      refine XK.rt [] Try.func70 Try.results70 (.t rfl .n) ?_
      exact ⟨by rw [between_spec1 (i := i) (by omega) c1], rfl⟩
    · skip
      refine XK.skip ?_
      refine XK.inBlock ?_
      refine XK.region rfl ?_
      refine XO.q (Q.add rfl rfl ⟨by omega, by omega⟩) ?_
      refine XO.q (Q.move rfl) (XO.done ?_)
      exact ih0 (i + 1) _ _ ⟨by omega, by rw [allTo_succ, ht, Bool.true_and, Bool.and_eq_true, decide_eq_true_eq, decide_eq_true_eq]; change ¬ (c.load.getD i 0 < a.load.getD i 0 ∨ d.load.getD i 0 < c.load.getD i 0) at c1; omega⟩ (by first | omega | (dsimp only; omega)) (.c rfl (.base 50 rfl rfl)) inferInstance
  · skip
    refine XK.exit rfl ?_
    refine XK.seq (XK.region rfl ?_)
    refine XO.q (Q.fieldAddr rfl) ?_
    refine XO.q (Q.ld rfl rfl) ?_
    refine XO.q (Q.fieldAddr rfl) ?_
    refine XO.q (Q.ld rfl rfl) ?_
    refine XO.q (Q.geq rfl rfl) ?_
    refine XO.q (Q.move rfl) ?_
    refine XO.q (Quiet.guardT rfl rfl fun g40 p40 => Q.fieldAddr rfl) ?_
    refine XO.q (Quiet.guardT rfl rfl fun g41 p41 => Q.ld (lzv g41 rfl) rfl) ?_
    refine XO.q (Quiet.guardT rfl rfl fun g42 p42 => Q.fieldAddr rfl) ?_
    refine XO.q (Quiet.guardT rfl rfl fun g43 p43 => Q.ld (lzv g43 rfl) rfl) ?_
    refine XO.q (Quiet.guardT rfl rfl fun g44 p44 => Q.leq (lzv g44 rfl) (lzv g44 rfl)) ?_
    refine XO.q (Q.and rfl (fun hp => lzv hp rfl)) ?_
    refine XO.q (Q.move rfl) ?_
    refine XO.q (Quiet.guardT rfl rfl fun g47 p47 => Q.fieldAddr rfl) ?_
    refine XO.q (Quiet.guardT rfl rfl fun g48 p48 => Q.ld (lzv g48 rfl) rfl) ?_
    refine XO.q (Quiet.guardT rfl rfl fun g49 p49 => Q.fieldAddr rfl) ?_
    refine XO.q (Quiet.guardT rfl rfl fun g50 p50 => Q.ld (lzv g50 rfl) rfl) ?_
    refine XO.q (Quiet.guardT rfl rfl fun g51 p51 => Q.leq (lzv g51 rfl) (lzv g51 rfl)) ?_
    refine XO.q (Q.and rfl (fun hp => lzv hp rfl)) ?_
    refine XO.q (Q.move rfl) ?_
    refine XO.q (Quiet.guardT rfl rfl fun g54 p54 => Q.fieldAddr rfl) ?_
    refine XO.q (Quiet.guardT rfl rfl fun g55 p55 => Q.ld (lzv g55 rfl) rfl) ?_
    refine XO.q (Quiet.guardT rfl rfl fun g56 p56 => Q.fieldAddr rfl) ?_
    refine XO.q (Quiet.guardT rfl rfl fun g57 p57 => Q.ld (lzv g57 rfl) rfl) ?_
    refine XO.q (Quiet.guardT rfl rfl fun g58 p58 => Q.geq (lzv g58 rfl) (lzv g58 rfl)) ?_
    refine XO.q (Q.and rfl (fun hp => lzv hp rfl)) ?_
    refine XO.q (Q.assign rfl) (XO.done ?_)
    refine XK.rt [] Try.func70 Try.results70 (.t rfl .n) ?_
    have hn : i = c.load.length := by omega
    rw [hn] at ht
    exact ⟨by rw [betweenP, ht, Bool.true_and], rfl⟩
theorem Classed_spec (h : Hall) (vr vw vb vc : Value) (hr hw hb hc : PHeap) [ir : Arr vr encRoom 2 hr h.rooms] [iw : Arr vw encWall 3 hw h.walls] [ib : Arr vb encBranch 3 hb h.branches] [ic : Arr vc encCooler 5 hc h.coolers] (a d : HCase) (va vd : Value) (ha hd : PHeap) [ia : Arr va encI 1 ha a.load] [id : Arr vd encI 1 hd d.load] (l : List (Value × HCase)) (vl : Value) (hl hL : PHeap) [il : Arr vl encCV 3 hl l] (hll : l.length ≤ 20000) (aL : ∀ i, i < l.length → Arr (l.getD i default).1 encI 1 hL (l.getD i default).2.load) :
    Spec Try.prog 69 #[.agg #[vr, vw, vb, vc], .agg #[va, .int .i64 a.out, .int .i64 a.pump, vd, .int .i64 d.out, .int .i64 d.pump], vl] [] [hr, hw, hb, hc, ha, hd, hl, hL] (fun v hs => v = .int .i64 (classedG h a d (l.map Prod.snd)) ∧ hs = []) := by
  refine Spec.intro (fn := Try.f69) (N := 52) Try.func69 rfl Try.ntmps69 rfl fun B => ?_
  refine XK.seq (XK.region rfl ?_)
  refine XO.box rfl fun b3 => ?_
  refine XO.box rfl fun b4 => ?_
  refine XO.q (Q.assign rfl) (XO.done (XK.seq (XK.seq (XK.region rfl ?_))))
  refine XO.q (Q.ldA [_, _, _, _] rfl rfl rfl) ?_
  refine XO.call Try.call36 rfl rfl rfl (Check_spec h vr vw vb vc hr hw hb hc) fun v13 s13 R13 => ?_
  obtain ⟨rfl, rfl⟩ := R13
  dsimp only [lcA, lnA]
  refine XO.q (Q.assign rfl) (XO.done (XK.seq (XK.region rfl (XO.q (Q.move rfl) ?_))))
  refine XO.q (Q.neq rfl rfl) ?_
  refine XO.done ?_
  refine XK.if rfl (fun c0 => ?_) (fun c0 => ?_)
  · skip
    refine XK.seq (XK.region rfl (XO.q (Q.move rfl) (XO.q (Q.assign rfl) (XO.done ?_))))
    refine XK.rt [] Try.func69 Try.results69 (.t rfl .n) ?_
    exact ⟨by rw [classedG_errs, if_pos c0], rfl⟩
  · skip
    refine XK.skip (XK.seq ?_)
    refine XK.drawn [0, 1, 2, 4, 5, 6, 9] [b3, b4] [] (.q 0 (.q 1 (.q 2 (.q 4 (.q 5 (.q 6 (.br 3 true (.br 7 true (.br 8 true (.q 9 .done) .stop) .stop) .stop))))))) Try.mixed rfl (by kernel_rfl) ?_
    refine XT.q rfl rfl (Q.ldA [_, _, _, _] rfl rfl rfl) ?_
    refine XT.q rfl rfl (Q.fieldAddr rfl) ?_
    refine XT.q rfl rfl (Q.ldA [_, _, _] rfl rfl rfl) ?_
    refine XT.q rfl rfl (Q.ldA [_, _, _, _] rfl rfl rfl) ?_
    refine XT.q rfl rfl (Q.fieldAddr rfl) ?_
    refine XT.q rfl rfl (Q.ldA [_, _, _] rfl rfl rfl) ?_
    refine XT.call rfl rfl Try.call42 rfl rfl rfl (cased_spec h vr vw vb vc hr va ha a) (fun v20 s20 R20 => ?_) XT.stop
    obtain ⟨rfl, rfl⟩ := R20
    dsimp only [lcA, lnA]
    refine ⟨inferInstance, ?_⟩
    refine XT.call rfl rfl Try.call42 rfl rfl rfl (cased_spec h vr vw vb vc hr vd hd d) (fun v24 s24 R24 => ?_) XT.stop
    obtain ⟨rfl, rfl⟩ := R24
    dsimp only [lcA, lnA]
    refine ⟨inferInstance, ?_⟩
    refine XT.lit [_, _] [_, _] [casedP h a, casedP h d] encI rfl rfl (by rfl) (by rfl) rfl (by rfl) (by exact .c 0 1 rfl rfl rfl (.c 1 1 rfl rfl rfl (.n _))) (fun _ => rfl) (by rfl) rfl (by infer_instance) rfl (fun v25 h25 O25 => ⟨inferInstance, ?_⟩) XT.stop
    refine XT.q rfl rfl (Q.assign rfl) ?_
    refine XT.done ?_
    refine XK.seq (XK.seq (XK.region rfl (XO.q (Q.move rfl) ?_)))
    refine XO.len rfl fun l27 => ?_
    refine XO.q (Q.move rfl) (XO.done (XK.block ?_))
    refine XK.while (X := Nat × Value × PHeap) [8, 10, 28, 29, 30, 31, 32, 33, 34, 35, 36, 37, 38] (fun ⟨i, v8, k8⟩ => [(28, some (.int .i64 (i : Nat))), (8, some (v8))]) (fun ⟨i, v8, k8⟩ => [k8]) (fun ⟨i, v8, k8⟩ => i ≤ l.length ∧ OArr v8 encI 1 32 k8 (errsL h a d ((List.range i).map (fun j => (l.getD j default).2)))) (fun ⟨i, v8, k8⟩ => l.length - i) (0, v25, h25) [h25] rfl ⟨by omega, O25⟩ (.c rfl (.c rfl (.base 0 rfl rfl))) ?_
    rintro ⟨i, v8, k8⟩ ⟨hi, O8⟩ ih0
    dsimp only [lcA, lnA] at ih0 ⊢
    refine XK.seq (XK.region rfl ?_)
    refine XO.q (Q.lss rfl rfl) ?_
    refine XO.done (XK.seq ?_)
    refine XK.if rfl (fun c1 => ?_) (fun c1 => ?_)
    · skip
      have il0 := aL i (by omega)
      refine XK.skip (XK.seq (XK.block (XK.seq (XK.region rfl ?_))))
      refine XO.ix rfl rfl (by omega) (by omega) fun i30 => ?_
      refine XO.q (Q.ldEA [_, _, _] rfl (by first | assumption | omega) rfl rfl) ?_
      refine XO.alloc fun b10 => ?_
      refine XO.st rfl rfl rfl ?_
      refine XO.done (XK.region rfl (XO.q (Q.move rfl) ?_))
      refine XO.q (Q.ldA [_, _, _, _] rfl rfl rfl) ?_
      refine XO.q (Q.ldA [_, _, _] rfl rfl rfl) ?_
      refine XO.call Try.call42 rfl rfl rfl (cased_spec h vr vw vb vc hr (l.getD i default).1 hL (l.getD i default).2) fun v35 s35 R35 => ?_
      obtain ⟨rfl, rfl⟩ := R35
      dsimp only [lcA, lnA]
      refine XO.lit [_] [_] [_] encI (by rfl) (by rfl) rfl (by rfl) (by exact .c 0 1 rfl rfl rfl (.n _)) (fun _ => rfl) (by rfl) rfl (by infer_instance) rfl fun v36 h36 O36 => ?_
      refine XO.append rfl rfl rfl rfl (by simp only [errsL_len, List.length_map, List.length_range, List.length_cons, List.length_nil]; omega) fun v37 h37 O37 => ?_
      refine XO.q (Q.assign rfl) (XO.done ?_)
      refine XK.inBlock ?_
      refine XK.region rfl ?_
      refine XO.q (Q.add rfl rfl ⟨by omega, by omega⟩) ?_
      refine XO.q (Q.move rfl) (XO.done ?_)
      exact ih0 (i + 1, v37, h37) _ _ ⟨by dsimp only; omega, by dsimp only; rw [range_snoc, errsL_snoc]; exact O37⟩ (by first | omega | (dsimp only; omega)) (.c rfl (.c rfl (.base 28 rfl rfl))) inferInstance
    · skip
      have hn : i = l.length := by omega
      subst hn
      rw [range_getD l (fun x => x.2)] at O8
      refine XK.exit rfl ?_
      refine XK.seq (XK.seq (XK.region rfl (XO.q (Q.move rfl) ?_)))
      refine XO.call Try.call40 rfl rfl rfl (both_spec v8 k8 (errsL h a d (l.map Prod.snd))) fun v40 s40 R40 => ?_
      obtain ⟨rfl, rfl⟩ := R40
      dsimp only [lcA, lnA]
      refine XO.q (Q.assign rfl) (XO.done (XK.seq (XK.region rfl (XO.q (Q.move rfl) ?_))))
      refine XO.q (Q.neq rfl rfl) ?_
      refine XO.done ?_
      refine XK.if rfl (fun c2 => ?_) (fun c2 => ?_)
      · skip
        refine XK.seq (XK.region rfl (XO.q (Q.move rfl) (XO.q (Q.assign rfl) (XO.done ?_))))
        refine XK.rt [] Try.func69 Try.results69 (.t rfl .n) ?_
        exact ⟨by rw [classedG_errs, if_neg c0, if_pos c2], rfl⟩
      · skip
        have c2 := Decidable.of_not_not c2
        have oka : COk h a := both_cased c2 (by simp [errsL])
        have okd : COk h d := both_cased c2 (by simp [errsL])
        refine XK.skip (XK.seq (XK.seq (XK.region rfl ?_)))
        refine XO.q (Q.fieldAddr rfl) ?_
        refine XO.q (Q.ldA [_, _, _] rfl rfl rfl) ?_
        refine XO.q (Q.fieldAddr rfl) ?_
        refine XO.q (Q.ldA [_, _, _] rfl rfl rfl) ?_
        refine XO.q (Q.fieldAddr rfl) ?_
        refine XO.q (Q.ldA [_, _, _] rfl rfl rfl) ?_
        refine XO.call Try.call70 rfl rfl rfl (between_spec a a d va va vd ha ha hd (Nat.le_refl _) (by rw [oka.len, okd.len]; exact Nat.le_refl _)) fun v50 s50 R50 => ?_
        obtain ⟨rfl, rfl⟩ := R50
        dsimp only [lcA, lnA]
        refine XO.q (Q.not rfl) ?_
        refine XO.done ?_
        refine XK.if rfl (fun c3 => ?_) (fun c3 => ?_)
        · skip
          refine XK.seq (XK.region rfl (XO.q (Q.assign rfl) (XO.done ?_)))
          refine XK.rt [] Try.func69 Try.results69 (.t rfl .n) ?_
          exact ⟨by rw [classedG_errs, if_neg c0, if_neg (by rw [c2]; decide), if_neg c3], rfl⟩
        · skip
          refine XK.skip (XK.seq (XK.region rfl (XO.q (Q.assign rfl) (XO.done ?_))))
          refine XK.rt [] Try.func69 Try.results69 (.t rfl .n) ?_
          exact ⟨by rw [classedG_errs, if_neg c0, if_neg (by rw [c2]; decide), if_pos (Decidable.of_not_not c3)], rfl⟩
end Go.X

set_option linter.unusedSimpArgs false
set_option linter.unusedVariables false
set_option maxRecDepth 20000
namespace Go.X
open Go.Proofs
theorem boxed_spec (h : Hall) (vr vw vb vc : Value) (hr hw hb hc : PHeap) [ir : Arr vr encRoom 2 hr h.rooms] [iw : Arr vw encWall 3 hw h.walls] [ib : Arr vb encBranch 3 hb h.branches] [ic : Arr vc encCooler 5 hc h.coolers] (a d : HCase) (va vd : Value) (ha hd : PHeap) [ia : Arr va encI 1 ha a.load] [id : Arr vd encI 1 hd d.load] (lo hi : List Int) (vlo vhi : Value) (hlo hhi : PHeap) [ilo : Arr vlo encI 1 hlo lo] [ihi : Arr vhi encI 1 hhi hi] : Spec Try.prog 47 #[.agg #[vr, vw, vb, vc], vlo, vhi, .agg #[va, .int .i64 a.out, .int .i64 a.pump, vd, .int .i64 d.out, .int .i64 d.pump]] [] [hr, hw, hb, hc, ha, hd, hlo, hhi] (fun v hs => v = .int .i64 (boxedG h lo hi a d) ∧ hs = []) := by
  refine Spec.intro (fn := Try.f47) (N := 32) Try.func47 rfl Try.ntmps47 rfl fun B => ?_
  refine XK.seq (XK.region rfl ?_)
  refine XO.box rfl fun b4 => ?_
  refine XO.box rfl fun b7 => ?_
  refine XO.q (Q.assign rfl) (XO.done (XK.seq (XK.seq (XK.region rfl ?_))))
  refine XO.q (Q.ldA [_, _, _, _] rfl rfl rfl) ?_
  refine XO.q (Q.ldA [_, _, _, _, _, _] rfl rfl rfl) ?_
  refine XO.call Try.call69 rfl rfl rfl (Classed_spec h vr vw vb vc hr hw hb hc a d va vd ha hd [] (.slice none 0 0) hr hr (il := Arr.nil (fun _ => rfl)) (by simp) (fun i hi => absurd hi (Nat.not_lt_zero i))) fun v13 s13 R13 => ?_
  obtain ⟨rfl, rfl⟩ := R13
  dsimp only [lcA, lnA]
  rw [List.map_nil]
  refine XO.q (Q.assign rfl) (XO.done (XK.seq (XK.region rfl (XO.q (Q.move rfl) ?_))))
  refine XO.q (Q.neq rfl rfl) ?_
  refine XO.done ?_
  refine XK.if rfl (fun c0 => ?_) (fun c0 => ?_)
  · skip
    refine XK.seq (XK.region rfl (XO.q (Q.move rfl) (XO.q (Q.assign rfl) (XO.done ?_))))
    refine XK.rt [] Try.func47 Try.results47 (.t rfl .n) ?_
    exact ⟨by rw [boxedG, if_pos c0], rfl⟩
  · skip
    refine XK.skip (XK.seq (XK.seq ?_))
    refine XK.drawn [0, 1, 3, 4, 8] [b4] [] (.q 0 (.q 1 (.q 3 (.q 4 (.br 2 true (.br 5 true (.br 6 true (.br 7 true (.q 8 .done) .stop) .stop) .stop) .stop))))) Try.mixed rfl (by kernel_rfl) ?_
    refine XT.q rfl rfl (Q.ldA [_, _, _, _] rfl rfl rfl) ?_
    refine XT.q rfl rfl (Q.move rfl) ?_
    refine XT.q rfl rfl (Q.ldA [_, _, _, _] rfl rfl rfl) ?_
    refine XT.q rfl rfl (Q.move rfl) ?_
    refine XT.call rfl rfl Try.call41 rfl rfl rfl (warm_spec h vr vw vb vc hr vlo hlo lo) (fun v19 s19 R19 => ?_) XT.stop
    obtain ⟨rfl, rfl⟩ := R19
    dsimp only [lcA, lnA]
    refine ⟨inferInstance, ?_⟩
    refine XT.call rfl rfl Try.call41 rfl rfl rfl (warm_spec h vr vw vb vc hr vhi hhi hi) (fun v22 s22 R22 => ?_) XT.stop
    obtain ⟨rfl, rfl⟩ := R22
    dsimp only [lcA, lnA]
    refine ⟨inferInstance, ?_⟩
    refine XT.lit [_, _] [_, _] [warmP h lo, warmP h hi] encI rfl rfl (by rfl) (by rfl) rfl (by rfl) (by exact .c 0 1 rfl rfl rfl (.c 1 1 rfl rfl rfl (.n _))) (fun _ => rfl) (by rfl) rfl (by infer_instance) rfl (fun v23 h23 O23 => ⟨inferInstance, ?_⟩) XT.stop
    refine XT.call rfl rfl Try.call40 rfl rfl rfl (both_spec v23 h23 [warmP h lo, warmP h hi]) (fun v24 s24 R24 => ?_) XT.stop
    obtain ⟨rfl, rfl⟩ := R24
    dsimp only [lcA, lnA]
    refine ⟨inferInstance, ?_⟩
    refine XT.q rfl rfl (Q.assign rfl) ?_
    refine XT.done ?_
    refine XK.seq (XK.region rfl (XO.q (Q.move rfl) ?_))
    refine XO.q (Q.neq rfl rfl) ?_
    refine XO.done ?_
    refine XK.if rfl (fun c1 => ?_) (fun c1 => ?_)
    · skip
      refine XK.seq (XK.region rfl (XO.q (Q.move rfl) (XO.q (Q.assign rfl) (XO.done ?_))))
      refine XK.rt [] Try.func47 Try.results47 (.t rfl .n) ?_
      exact ⟨by rw [boxedG, if_neg c0, if_pos c1], rfl⟩
    · skip
      have oklo : TOk h lo := both_warm (Decidable.of_not_not c1) (by simp)
      have okhi : TOk h hi := both_warm (Decidable.of_not_not c1) (by simp)
      refine XK.skip (XK.seq (XK.seq (XK.region rfl (XO.q (Q.move rfl) (XO.q (Q.move rfl) ?_)))))
      refine XO.call Try.call48 rfl rfl rfl (below_spec7 vlo vhi hlo hhi lo hi (by rw [oklo.len, okhi.len]; exact Nat.le_refl _)) fun v30 s30 R30 => ?_
      obtain ⟨rfl, rfl⟩ := R30
      dsimp only [lcA, lnA]
      refine XO.q (Q.not rfl) ?_
      refine XO.done ?_
      refine XK.if rfl (fun c2 => ?_) (fun c2 => ?_)
      · skip
        refine XK.seq (XK.region rfl (XO.q (Q.assign rfl) (XO.done ?_)))
        refine XK.rt [] Try.func47 Try.results47 (.t rfl .n) ?_
        exact ⟨by rw [boxedG, if_neg c0, if_neg c1, if_neg c2], rfl⟩
      · skip
        refine XK.skip (XK.seq (XK.region rfl (XO.q (Q.assign rfl) (XO.done ?_))))
        refine XK.rt [] Try.func47 Try.results47 (.t rfl .n) ?_
        exact ⟨by rw [boxedG, if_neg c0, if_neg c1, if_pos (Decidable.of_not_not c2)], rfl⟩
theorem Held_spec (h : Hall) (vr vw vb vc : Value) (hr hw hb hc : PHeap) [ir : Arr vr encRoom 2 hr h.rooms] [iw : Arr vw encWall 3 hw h.walls] [ib : Arr vb encBranch 3 hb h.branches] [ic : Arr vc encCooler 5 hc h.coolers] (a d : HCase) (va vd : Value) (ha hd : PHeap) [ia : Arr va encI 1 ha a.load] [id : Arr vd encI 1 hd d.load] (lo hi : List Int) (vlo vhi : Value) (hlo hhi : PHeap) [ilo : Arr vlo encI 1 hlo lo] [ihi : Arr vhi encI 1 hhi hi] : Spec Try.prog 22 #[.agg #[vr, vw, vb, vc], vlo, vhi, .agg #[va, .int .i64 a.out, .int .i64 a.pump, vd, .int .i64 d.out, .int .i64 d.pump]] [] [hr, hw, hb, hc, ha, hd, hlo, hhi] (fun v hs => v = .tuple #[.bool (heldG h lo hi a d).1, .int .i64 (heldG h lo hi a d).2] ∧ hs = []) := by
  refine Spec.intro (fn := Try.f22) (N := 35) Try.func22 rfl Try.ntmps22 rfl fun B => ?_
  refine XK.seq (XK.region rfl ?_)
  refine XO.box rfl fun b4 => ?_
  refine XO.box rfl fun b7 => ?_
  refine XO.q (Q.assign rfl) (XO.q (Q.assign rfl) (XO.done (XK.seq (XK.seq (XK.region rfl ?_)))))
  refine XO.q (Q.ldA [_, _, _, _] rfl rfl rfl) ?_
  refine XO.q (Q.move rfl) (XO.q (Q.move rfl) ?_)
  refine XO.q (Q.ldA [_, _, _, _, _, _] rfl rfl rfl) ?_
  refine XO.call Try.call47 rfl rfl rfl (boxed_spec h vr vw vb vc hr hw hb hc a d va vd ha hd lo hi vlo vhi hlo hhi) fun v15 s15 R15 => ?_
  obtain ⟨rfl, rfl⟩ := R15
  dsimp only [lcA, lnA]
  refine XO.q (Q.assign rfl) (XO.done (XK.seq (XK.region rfl (XO.q (Q.move rfl) ?_))))
  refine XO.q (Q.neq rfl rfl) ?_
  refine XO.done ?_
  refine XK.if rfl (fun c0 => ?_) (fun c0 => ?_)
  · skip
    refine XK.seq (XK.region rfl (XO.q (Q.move rfl) (XO.q (Q.assign rfl) (XO.q (Q.assign rfl) (XO.done ?_)))))
    refine XK.rt [] Try.func22 Try.results22 (.t rfl (.t rfl .n)) ?_
    exact ⟨by rw [heldG, if_pos c0], rfl⟩
  · skip
    obtain ⟨ok0, oka, okd, oklo, okhi, _, _⟩ := boxed_ok (Decidable.of_not_not c0)
    refine XK.skip (XK.seq (XK.region rfl (XO.q (Q.move rfl) ?_)))
    refine XO.q (Q.ldA [_, _, _, _] rfl rfl rfl) ?_
    refine XO.q (Q.move rfl) ?_
    refine XO.q (Q.fieldAddr rfl) ?_
    refine XO.q (Q.ldA [_, _, _] rfl rfl rfl) ?_
    refine XO.call Try.call43 rfl rfl rfl (next_spec7 h vr vw vb vc hr hw hb hc (hcheck_ok ok0) lo vlo hlo oklo a oka va ha) fun v24 s24 R24 => ?_
    obtain ⟨k24, rfl, O24⟩ := R24
    dsimp only [lcA, lnA]
    refine XO.call Try.call48 rfl rfl rfl (below_spec7 vlo v24 hlo k24 lo (nextL h lo a) (by rw [oklo.len, nextL_len]; exact Nat.le_refl _)) fun v25 s25 R25 => ?_
    obtain ⟨rfl, rfl⟩ := R25
    dsimp only [lcA, lnA]
    rcases hb25 : lbelow lo (nextL h lo a) with _ | _
    · have _tb := True.intro
      refine XO.q (Q.move rfl) ?_
      refine XO.q (Quiet.off rfl rfl (by decide)) ?_
      refine XO.q (Quiet.off rfl rfl (by decide)) ?_
      refine XO.q (Quiet.off rfl rfl (by decide)) ?_
      refine XO.q (Quiet.off rfl rfl (by decide)) ?_
      refine XO.q (Quiet.off rfl rfl (by decide)) ?_
      refine XO.q (Quiet.off rfl rfl (by decide)) ?_
      refine XO.q (Quiet.off rfl rfl (by decide)) ?_
      refine XO.q (Q.and (b := false) (b2 := false) rfl (fun hp => by cases hp)) ?_
      refine XO.q (Q.assign rfl) (XO.q (Q.assign rfl) (XO.done ?_))
      refine XK.rt [] Try.func22 Try.results22 (.t rfl (.t rfl .n)) ?_
      exact ⟨by rw [heldG, if_neg c0, hb25, Bool.false_and]; rfl, rfl⟩
    · have _tb := True.intro
      refine XO.q (Q.move rfl) ?_
      refine XO.q (Quiet.guardT rfl rfl fun g27 p27 => Q.ldA [_, _, _, _] rfl rfl rfl) ?_
      refine XO.q (Quiet.guardT rfl rfl fun g28 p28 => Q.move rfl) ?_
      refine XO.q (Quiet.guardT rfl rfl fun g29 p29 => Q.fieldAddr rfl) ?_
      refine XO.q (Quiet.guardT rfl rfl fun g30 p30 => Q.ldA [_, _, _] (lzv rfl rfl) rfl rfl) ?_
      refine XO.callS rfl rfl rfl Try.call43 rfl (.c (lzv rfl rfl) (.c (lzv rfl rfl) (.c (lzv rfl rfl) .n))) rfl (next_spec7 h vr vw vb vc hr hw hb hc (hcheck_ok ok0) hi vhi hhi okhi d okd vd hd) fun v31 s31 R31 => ?_
      obtain ⟨k31, rfl, O31⟩ := R31
      dsimp only [lcA, lnA]
      refine XO.q (Quiet.guardT rfl rfl fun g32 p32 => Q.move rfl) ?_
      refine XO.callS rfl rfl rfl Try.call48 rfl (.c rfl (.c (lzv rfl rfl) .n)) rfl (below_spec7 v31 vhi k31 hhi (nextL h hi d) hi (by rw [okhi.len, nextL_len]; exact Nat.le_refl _)) fun v33 s33 R33 => ?_
      obtain ⟨rfl, rfl⟩ := R33
      dsimp only [lcA, lnA]
      refine XO.q (Q.and rfl (fun _ => rfl)) ?_
      refine XO.q (Q.assign rfl) (XO.q (Q.assign rfl) (XO.done ?_))
      refine XK.rt [] Try.func22 Try.results22 (.t rfl (.t rfl .n)) ?_
      exact ⟨by rw [heldG, if_neg c0, hb25], rfl⟩
theorem always1 (b : Nat) (c : HCase) (vl : Value) [il : One vl] (x : Value) : Spec Try.prog 83 #[x, ptr b 0] [] [blk b [vl, .int .i64 c.out, .int .i64 c.pump] 43] (fun v hs => v = .agg #[vl, .int .i64 c.out, .int .i64 c.pump] ∧ hs = []) := by
  refine Spec.intro (fn := Try.f83) (N := 5) Try.func83 rfl Try.ntmps83 rfl fun B => ?_
  refine XK.seq (XK.region rfl ?_)
  refine XO.alloc fun b3 => ?_
  refine XO.done (XK.seq (XK.region rfl ?_))
  refine XO.q (Q.ldA [_, _, _] rfl rfl rfl) ?_
  refine XO.st rfl rfl rfl ?_
  refine XO.done ?_
  refine XK.rt [] Try.func83 Try.results83 (.cell [_, _, _] rfl rfl rfl (.n)) ?_
  exact ⟨rfl, rfl⟩
/-- The function that gives a second's case. -/
def OfC (y : Value) (n : Nat) (c : Nat → HCase) (vl : Nat → Value) (Ho : List PHeap) : Prop := ∀ i, i < n → VSpec Try.prog y [.int .i64 (i : Nat)] [] Ho (fun v hs => v = .agg #[vl i, .int .i64 (c i).out, .int .i64 (c i).pump] ∧ hs = [])
theorem OfC.two {y : Value} {n : Nat} {c : Nat → HCase} {vl : Nat → Value} {a : PHeap} (h : OfC y n c vl [a]) : OfC y n c vl [a, a] := fun i hi o r w hs hr => h i hi o r w hs (fun x hx => hr x (by rcases List.mem_cons.1 hx with rfl | hx; exact List.mem_cons_self; cases hx))
theorem always_spec (c : HCase) (vl : Value) [il : One vl] : Spec Try.prog 46 #[.agg #[vl, .int .i64 c.out, .int .i64 c.pump]] [] [] (fun v hs => ∃ b, hs = [blk b [vl, .int .i64 c.out, .int .i64 c.pump] 43] ∧ One v ∧ ∀ n, OfC v n (fun _ => c) (fun _ => vl) [blk b [vl, .int .i64 c.out, .int .i64 c.pump] 43]) := by
  refine Spec.intro (fn := Try.f46) (N := 4) Try.func46 rfl Try.ntmps46 rfl fun B => ?_
  refine XK.seq (XK.region rfl ?_)
  refine XO.box rfl fun b1 => ?_
  refine XO.q (Q.assign rfl) (XO.done (XK.seq (XK.region rfl ?_)))
  refine XO.q (Q.func (fun _ he => rfl) (fun _ he => evs_rel he rfl)) ?_
  refine XO.q (Q.assign rfl) (XO.done ?_)
  refine XK.rt [blk b1 [vl, .int .i64 c.out, .int .i64 c.pump] 43] Try.func46 Try.results46 (.t rfl .n) ?_
  exact ⟨b1, rfl, inferInstance, fun n i hi => VSpec.fn (fst := []) (cap := [ptr b1 0]) Try.call83 rfl (always1 b1 c vl _)⟩
end Go.X

set_option linter.unusedSimpArgs false
set_option linter.unusedVariables false
set_option maxRecDepth 20000
namespace Go.X
open Go.Proofs
theorem iter_ok2 {h : Hall} (ok : HOk h) {c : Nat → HCase} {t : List Int} (tk : TOk h t) {n : Nat} (ck : ∀ i, i < n → COk h (c i)) : ∀ i, i ≤ n → TOk h (iterT h c t i)
  | 0, _ => tk
  | i + 1, hi => next_ok ok (iter_ok2 ok tk ck i (by omega)) (ck i (by omega))
/-- What seconds yields: the temperatures after each second. -/
def SecY (h : Hall) (c : Nat → HCase) (t : List Int) (i : Nat) (K : PHeap) (vs : List Value) : Prop := ∃ sl, vs = [.int .i64 ((i : Int) + 1), sl] ∧ Arr sl encI 1 K (iterT h c t (i + 1))
theorem seconds1 (h : Hall) (vr vw vb vc : Value) (hr hw hb hc : PHeap) [ir : Arr vr encRoom 2 hr h.rooms] [iw : Arr vw encWall 3 hw h.walls] [ib : Arr vb encBranch 3 hb h.branches] [ic : Arr vc encCooler 5 hc h.coolers] (ok : HOk h) (c : Nat → HCase) (n : Nat) (hn : n ≤ 20000) (t : List Int) (vt : Value) (ht : PHeap) [it : Arr vt encI 1 ht t] (tk : TOk h t) (ck : ∀ i, i < n → COk h (c i)) (vl : Nat → Value) (hL : PHeap) (aL : ∀ i, i < n → Arr (vl i) encI 1 hL (c i).load) (y : Value) [iy : One y] (hy hz : PHeap) (of : OfC y n c vl [hy, hz]) (bn bh bt bo : Nat) (f : Value) (Hr : List PHeap) (Qc : Nat → PHeap → PHeap → Prop) (Xc : PHeap → PHeap → Prop)
    (mono : ∀ i K K' q, leH K K' → Qc i K q → Qc i K' q)
    (round : ∀ i, i < n → ∀ K vs q, SecY h c t i K vs → Qc i K q → VSpec Try.prog f vs [q] (K :: Hr) (fun v hs => ∃ b q', v = .bool b ∧ hs = [q'] ∧ (b = true → Qc (i + 1) K q') ∧ (b = false → Xc K q')))
    (q : PHeap) (hQ : Qc 0 emp q) : Spec Try.prog 82 #[f, ptr bn 0, ptr bh 0, ptr bt 0, ptr bo 0] (q :: [blk bn [.int .i64 (n : Nat)] 3, blk bh [vr, vw, vb, vc] 29, blk bt [vt] 31, blk bo [y] 115]) ([hr, hw, hb, hc, ht, hy, hz, hL] ++ Hr) (fun _ hs => ∃ q' K, hs = [q', K] ∧ (Qc n K q' ∨ Xc K q')) := by
  refine Spec.intro (fn := Try.f82) (N := 24) Try.func82 rfl Try.ntmps82 rfl fun B => ?_
  dsimp only [lcA, lnA]
  refine XK.seq (XK.region rfl ?_)
  refine XO.q (Q.ld rfl rfl) ?_
  refine XO.q (Q.move rfl) (XO.done (XK.block ?_))
  refine XK.while (X := Nat × Value × PHeap × PHeap × PHeap) [6, 8, 9, 10, 11, 12, 13, 14, 15, 16, 17, 18, 19, 20, 21, 22, 23] (fun ⟨i, v, kt, K, q1⟩ => [(8, some (.int .i64 (i : Nat)))]) (fun ⟨i, v, kt, K, q1⟩ => [q1, blk bn [.int .i64 (n : Nat)] 3, blk bh [vr, vw, vb, vc] 29, blk bt [v] 31, blk bo [y] 115, K]) (fun ⟨i, v, kt, K, q1⟩ => i ≤ n ∧ Arr v encI 1 kt (iterT h c t i) ∧ Either kt ht K ∧ Qc i K q1) (fun ⟨i, v, kt, K, q1⟩ => n - i) (0, vt, ht, emp, q) [q, blk bn [.int .i64 (n : Nat)] 3, blk bh [vr, vw, vb, vc] 29, blk bt [vt] 31, blk bo [y] 115, emp] rfl ⟨by omega, it, ⟨.inl rfl⟩, hQ⟩ (.c rfl (.base 0 rfl rfl)) ?_
  rintro ⟨i, v, kt, K, q1⟩ ⟨hi, aT, eT, hq⟩ ih0
  dsimp only [lcA, lnA] at ih0 ⊢
  refine XK.seq (XK.region rfl ?_)
  refine XO.q (Q.lss rfl rfl) ?_
  refine XO.done (XK.seq ?_)
  refine XK.if rfl (fun c0 => ?_) (fun c0 => ?_)
  · skip
    refine XK.skip (XK.seq (XK.block (XK.seq (XK.region rfl (XO.q (Q.move rfl) ?_)))))
    refine XO.q (Q.assign rfl) (XO.done (XK.seq ?_))
    refine XK.drawn [0, 1, 2, 3] [bh, bt, bo] [] (.q 0 (.q 1 (.q 2 (.q 3 (.br 4 true (.br 5 true (.br 6 false .done .stop) .stop) .stop))))) Try.mixed rfl (by kernel_rfl) ?_
    refine XT.q rfl rfl (Q.ldA [_, _, _, _] rfl rfl rfl) ?_
    refine XT.q rfl rfl (Q.ld rfl rfl) ?_
    refine XT.q rfl rfl (Q.ld rfl rfl) ?_
    refine XT.q rfl rfl (Q.move rfl) ?_
    haveI aLi := aL i (by omega)
    refine XT.vcall rfl rfl rfl rfl (of i (by omega)) (fun v15 s15 R15 => ?_) XT.stop
    obtain ⟨rfl, rfl⟩ := R15
    dsimp only [lcA, lnA]
    refine ⟨inferInstance, ?_⟩
    refine XT.call rfl rfl Try.call43 rfl rfl rfl (next_spec7 h vr vw vb vc hr hw hb hc ok (iterT h c t i) v kt (iter_ok2 ok tk ck i (by omega)) (c i) (ck i (by omega)) (vl i) hL) (fun v16 s16 R16 => ?_) XT.stop
    obtain ⟨k16, rfl, O16⟩ := R16
    dsimp only [lcA, lnA]
    refine ⟨inferInstance, ?_⟩
    refine XT.st rfl rfl rfl rfl rfl ⟨inferInstance, ?_⟩ XT.stop
    refine XT.done ?_
    refine XK.seq (XK.region rfl ?_)
    refine XO.cat K k16 fun leK le16 => ?_
    have A16 : Arr v16 encI 1 (cat K k16) (iterT h c t (i + 1)) := Arr.le_heap (OArr.arr (s := O16)) le16
    clear O16
    refine XO.q (Q.move rfl) (XO.q (Q.move rfl) ?_)
    refine XO.q (Q.add rfl rfl ⟨by omega, by omega⟩) ?_
    refine XO.q (Q.ld rfl rfl) ?_
    refine XO.vcall rfl rfl (round i (by omega) (cat K k16) _ q1 ⟨v16, rfl, A16⟩ (mono i K (cat K k16) q1 leK hq)) fun v21 s21 R21 => ?_
    obtain ⟨bb, q2, rfl, rfl, hT, hF⟩ := R21
    dsimp only [lcA, lnA]
    refine XO.q (Q.not rfl) ?_
    refine XO.done ?_
    refine XK.if rfl (fun c1 => ?_) (fun c1 => ?_)
    · skip
      refine XK.rt [q2, cat K k16] Try.func82 Try.results82 (.n) ?_
      exact ⟨q2, cat K k16, rfl, .inr (hF (by simpa using c1))⟩
    · skip
      refine XK.skip ?_
      refine XK.inBlock ?_
      refine XK.region rfl ?_
      refine XO.q (Q.add rfl rfl ⟨by omega, by omega⟩) ?_
      refine XO.q (Q.move rfl) (XO.done ?_)
      exact ih0 (i + 1, v16, cat K k16, cat K k16, q2) _ _ ⟨by dsimp only; omega, A16, ⟨.inr rfl⟩, hT (by simpa using c1)⟩ (by first | omega | (dsimp only; omega)) (.c rfl (.base 35 rfl rfl)) inferInstance
  · skip
    refine XK.exit rfl ?_
    refine XK.fn [q1, K] Try.func82 Try.results82 (.n) ?_
    have hin : i = n := by omega
    subst hin
    exact ⟨q1, K, rfl, .inl hq⟩
theorem seconds_spec (h : Hall) (vr vw vb vc : Value) (hr hw hb hc : PHeap) [ir : Arr vr encRoom 2 hr h.rooms] [iw : Arr vw encWall 3 hw h.walls] [ib : Arr vb encBranch 3 hb h.branches] [ic : Arr vc encCooler 5 hc h.coolers] (ok : HOk h) (c : Nat → HCase) (n : Nat) (hn : n ≤ 20000) (t : List Int) (vt : Value) (ht : PHeap) [it : Arr vt encI 1 ht t] (tk : TOk h t) (ck : ∀ i, i < n → COk h (c i)) (vl : Nat → Value) (hL : PHeap) (aL : ∀ i, i < n → Arr (vl i) encI 1 hL (c i).load) (y : Value) [iy : One y] (hy hz : PHeap) (of : OfC y n c vl [hy, hz]) : Spec Try.prog 45 #[.agg #[vr, vw, vb, vc], vt, .int .i64 (n : Nat), y] [] [] (fun v hs => ∃ k1 k2 k3 k4, hs = [k1, k2, k3, k4] ∧ ItK Try.prog v n (SecY h c t) [k1, k2, k3, k4] [hr, hw, hb, hc, ht, hy, hz, hL]) := by
  refine Spec.intro (fn := Try.f45) (N := 10) Try.func45 rfl Try.ntmps45 rfl fun B => ?_
  refine XK.seq (XK.region rfl ?_)
  refine XO.box rfl fun b4 => ?_
  refine XO.box rfl fun b5 => ?_
  refine XO.box rfl fun b6 => ?_
  refine XO.box rfl fun b7 => ?_
  refine XO.q (Q.assign rfl) (XO.done (XK.seq (XK.region rfl ?_)))
  refine XO.q (Q.func (fun _ he => rfl) (fun _ he => evs_rel he rfl)) ?_
  refine XO.q (Q.assign rfl) (XO.done ?_)
  refine XK.rt [blk b6 [.int .i64 (n : Nat)] 3, blk b4 [vr, vw, vb, vc] 29, blk b5 [vt] 31, blk b7 [y] 115] Try.func45 Try.results45 (.t rfl .n) ?_
  exact ⟨_, _, _, _, rfl, fun f Hr Q X mono round q hQ => VSpec.fn (fst := []) (cap := [ptr b6 0, ptr b4 0, ptr b5 0, ptr b7 0]) Try.call82 rfl (seconds1 h vr vw vb vc hr hw hb hc ok c n hn t vt ht tk ck vl hL aL y hy hz of b6 b4 b5 b7 f Hr Q X mono round q hQ)⟩
end Go.X

set_option linter.unusedSimpArgs false
set_option linter.unusedVariables false
set_option maxRecDepth 20000
namespace Go.X
open Go.Proofs
/-- A slice that lies in one of two heaps. -/
def ArrE (v : Value) (xs : List Int) (a b : PHeap) : Prop := Arr v encI 1 a xs ∨ Arr v encI 1 b xs
theorem ArrE.open {v : Value} {xs : List Int} {a b : PHeap} (h : ArrE v xs a b) : ∃ k, Arr v encI 1 k xs ∧ Either k a b := h.elim (fun h => ⟨a, h, ⟨.inl rfl⟩⟩) (fun h => ⟨b, h, ⟨.inr rfl⟩⟩)
theorem ArrE.mono {v : Value} {xs : List Int} {a b b' : PHeap} (hl : leH b b') (h : ArrE v xs a b) : ArrE v xs a b' := orMap h id (fun h => Arr.le_heap h hl)
theorem inP_le {n m : Int} (h : inP n m = true) : 0 ≤ n ∧ n ≤ m := by unfold inP at h; simpa using h
theorem Settle_spec (h : Hall) (vr vw vb vc : Value) (hr hw hb hc : PHeap) [ir : Arr vr encRoom 2 hr h.rooms] [iw : Arr vw encWall 3 hw h.walls] [ib : Arr vb encBranch 3 hb h.branches] [ic : Arr vc encCooler 5 hc h.coolers] (t : List Int) (vt : Value) (ht : PHeap) [it : Arr vt encI 1 ht t] (c : HCase) (vl : Value) (hl : PHeap) [il : Arr vl encI 1 hl c.load] (m : Int) : Spec Try.prog 21 #[.agg #[vr, vw, vb, vc], vt, .agg #[vl, .int .i64 c.out, .int .i64 c.pump], .int .i64 m] [] [hr, hw, hb, hc, ht, hl]
    (fun v hs => ∃ v1 k1, v = .tuple #[v1, .int .i64 (settleG h t c m).2.1, .int .i64 (settleG h t c m).2.2] ∧ hs = [k1] ∧ Arr v1 encI 1 k1 (settleG h t c m).1) := by
  refine Spec.intro (fn := Try.f21) (N := 51) Try.func21 rfl Try.ntmps21 rfl fun B => ?_
  refine XK.seq (XK.region rfl ?_)
  refine XO.box rfl fun b4 => ?_
  refine XO.box rfl fun b6 => ?_
  refine XO.alloc fun b8 => ?_
  refine XO.alloc fun b9 => ?_
  refine XO.alloc fun b10 => ?_
  refine XO.done (XK.seq (XK.seq (XK.region rfl ?_)))
  refine XO.q (Q.ldA [_, _, _, _] rfl rfl rfl) ?_
  refine XO.call Try.call36 rfl rfl rfl (Check_spec h vr vw vb vc hr hw hb hc) fun v17 s17 R17 => ?_
  obtain ⟨rfl, rfl⟩ := R17
  dsimp only [lcA, lnA]
  refine XO.q (Q.assign rfl) (XO.done (XK.seq (XK.region rfl (XO.q (Q.move rfl) ?_))))
  refine XO.q (Q.neq rfl rfl) ?_
  refine XO.done ?_
  refine XK.if rfl (fun c0 => ?_) (fun c0 => ?_)
  · skip
    refine XK.seq (XK.region rfl (XO.q (Q.move rfl) ?_))
    refine XO.st rfl rfl rfl ?_
    refine XO.st rfl rfl rfl ?_
    refine XO.st rfl rfl rfl ?_
    refine XO.done ?_
    refine XK.rt [emp] Try.func21 Try.results21 (.cell1 rfl rfl (.cell1 rfl rfl (.cell1 rfl rfl (.n)))) ?_
    have hw0 : settleG h t c m = ([], 0, hcheck h) := by rw [settleG, if_pos c0]
    rw [hw0]
    exact ⟨.slice none 0 0, emp, rfl, rfl, Arr.nil (fun _ => rfl)⟩
  · skip
    refine XK.skip (XK.seq (XK.seq ?_))
    refine XK.drawn [0, 1, 3, 4, 8] [b4, b6] [] (.q 0 (.q 1 (.q 3 (.q 4 (.br 2 true (.br 5 true (.br 6 true (.br 7 true (.q 8 .done) .stop) .stop) .stop) .stop))))) Try.mixed rfl (by kernel_rfl) ?_
    refine XT.q rfl rfl (Q.ldA [_, _, _, _] rfl rfl rfl) ?_
    refine XT.q rfl rfl (Q.move rfl) ?_
    refine XT.q rfl rfl (Q.ldA [_, _, _, _] rfl rfl rfl) ?_
    refine XT.q rfl rfl (Q.ldA [_, _, _] rfl rfl rfl) ?_
    refine XT.call rfl rfl Try.call41 rfl rfl rfl (warm_spec h vr vw vb vc hr vt ht t) (fun v23 s23 R23 => ?_) XT.stop
    obtain ⟨rfl, rfl⟩ := R23
    dsimp only [lcA, lnA]
    refine ⟨inferInstance, ?_⟩
    refine XT.call rfl rfl Try.call42 rfl rfl rfl (cased_spec h vr vw vb vc hr vl hl c) (fun v26 s26 R26 => ?_) XT.stop
    obtain ⟨rfl, rfl⟩ := R26
    dsimp only [lcA, lnA]
    refine ⟨inferInstance, ?_⟩
    refine XT.lit [_, _] [_, _] [warmP h t, casedP h c] encI rfl rfl (by rfl) (by rfl) rfl (by rfl) (by exact .c 0 1 rfl rfl rfl (.c 1 1 rfl rfl rfl (.n _))) (fun _ => rfl) (by rfl) rfl (by infer_instance) rfl (fun v27 h27 O27 => ⟨inferInstance, ?_⟩) XT.stop
    refine XT.call rfl rfl Try.call40 rfl rfl rfl (both_spec v27 h27 [warmP h t, casedP h c]) (fun v28 s28 R28 => ?_) XT.stop
    obtain ⟨rfl, rfl⟩ := R28
    dsimp only [lcA, lnA]
    refine ⟨inferInstance, ?_⟩
    refine XT.q rfl rfl (Q.assign rfl) ?_
    refine XT.done ?_
    refine XK.seq (XK.region rfl (XO.q (Q.move rfl) ?_))
    refine XO.q (Q.neq rfl rfl) ?_
    refine XO.done ?_
    refine XK.if rfl (fun c1 => ?_) (fun c1 => ?_)
    · skip
      refine XK.seq (XK.region rfl (XO.q (Q.move rfl) ?_))
      refine XO.st rfl rfl rfl ?_
      refine XO.st rfl rfl rfl ?_
      refine XO.st rfl rfl rfl ?_
      refine XO.done ?_
      refine XK.rt [emp] Try.func21 Try.results21 (.cell1 rfl rfl (.cell1 rfl rfl (.cell1 rfl rfl (.n)))) ?_
      have hw0 : settleG h t c m = ([], 0, bothP [warmP h t, casedP h c]) := by rw [settleG, if_neg c0, if_pos c1]
      rw [hw0]
      exact ⟨.slice none 0 0, emp, rfl, rfl, Arr.nil (fun _ => rfl)⟩
    · skip
      have ok0 := Decidable.of_not_not c0
      obtain ⟨okt, okc⟩ := both_ok (Decidable.of_not_not c1)
      refine XK.skip (XK.seq (XK.seq (XK.region rfl (XO.q (Q.move rfl) ?_))))
      refine XO.call Try.call37 rfl rfl rfl (in_spec _ _) fun v33 s33 R33 => ?_
      obtain ⟨rfl, rfl⟩ := R33
      dsimp only [lcA, lnA]
      refine XO.q (Q.not rfl) ?_
      refine XO.done ?_
      refine XK.if rfl (fun c2 => ?_) (fun c2 => ?_)
      · skip
        refine XK.seq (XK.region rfl ?_)
        refine XO.st rfl rfl rfl ?_
        refine XO.st rfl rfl rfl ?_
        refine XO.st rfl rfl rfl ?_
        refine XO.done ?_
        refine XK.rt [emp] Try.func21 Try.results21 (.cell1 rfl rfl (.cell1 rfl rfl (.cell1 rfl rfl (.n)))) ?_
        have hw0 : settleG h t c m = ([], 0, 2) := by rw [settleG, if_neg c0, if_neg c1, if_pos c2]
        rw [hw0]
        exact ⟨.slice none 0 0, emp, rfl, rfl, Arr.nil (fun _ => rfl)⟩
      · skip
        obtain ⟨hm0, hm1⟩ := inP_le (Decidable.of_not_not c2)
        obtain ⟨N, eN⟩ : ∃ N : Nat, m = N := ⟨m.toNat, by omega⟩
        subst eN
        refine XK.skip (XK.seq (XK.region rfl (XO.q (Q.move rfl) ?_)))
        refine XO.alloc fun b13 => ?_
        refine XO.st rfl rfl rfl ?_
        refine XO.done (XK.seq (XK.seq ?_))
        refine XK.drawn [0, 1, 2, 3] [b4, b6] [] (.q 0 (.q 1 (.q 2 (.q 3 (.br 4 true (.br 5 true .done .stop) .stop))))) Try.mixed rfl (by kernel_rfl) ?_
        refine XT.q rfl rfl (Q.ldA [_, _, _, _] rfl rfl rfl) ?_
        refine XT.q rfl rfl (Q.move rfl) ?_
        refine XT.q rfl rfl (Q.move rfl) ?_
        refine XT.q rfl rfl (Q.ldA [_, _, _] rfl rfl rfl) ?_
        refine XT.call rfl rfl Try.call46 rfl rfl rfl (always_spec c vl) (fun v40 s40 R40 => ?_) XT.stop
        obtain ⟨bC, rfl, oneF, ofC⟩ := R40
        dsimp only [lcA, lnA]
        refine ⟨inferInstance, ?_⟩
        refine XT.call rfl rfl Try.call45 rfl rfl rfl (seconds_spec h vr vw vb vc hr hw hb hc (hcheck_ok ok0) (fun _ => c) N (by omega) t vt ht okt (fun _ _ => okc) (fun _ => vl) hl (fun _ _ => il) v40 (blk bC [vl, .int .i64 c.out, .int .i64 c.pump] 43) (blk bC [vl, .int .i64 c.out, .int .i64 c.pump] 43) (ofC N).two) (fun v41 s41 R41 => ?_) XT.stop
        obtain ⟨k1, k2, k3, k4, rfl, hit⟩ := R41
        dsimp only [lcA, lnA]
        refine ⟨inferInstance, ?_⟩
        refine XT.done ?_
        refine XK.block ?_
        refine XK.rangeK (X := Value × Value × Value × Value) (ps := [42, 43]) (fun ⟨vlast, v8, v9, v10⟩ => [blk b8 [v8] 31, blk b9 [v9] 3, blk b10 [v10] 32, blk b13 [vlast] 31]) (fun i ⟨vlast, v8, v9, v10⟩ K0 => ArrE vlast (iterT h (fun _ => c) t i) ht K0 ∧ settleL h c N 0 t = settleL h c (N - i) i (iterT h (fun _ => c) t i)) (fun j0 ⟨vlast, v8, v9, v10⟩ K0 => j0 = Code.ret ∧ ∃ m1 : Int, v9 = .int .i64 m1 ∧ v10 = .int .i64 0 ∧ Arr v8 encI 1 K0 (settleL h c N 0 t).1 ∧ m1 = (settleL h c N 0 t).2.1 ∧ (settleL h c N 0 t).2.2 = 0) (vt, .slice none 0 0, .int .i64 0, .int .i64 0) [blk b8 [.slice none 0 0] 31, blk b9 [.int .i64 0] 3, blk b10 [.int .i64 0] 32, blk b13 [vt] 31] rfl (hit) rfl (fun i x K K' hle hI => ⟨hI.1.mono hle, hI.2⟩) (⟨.inl it, rfl⟩) rfl (fun i K vs hY => by obtain ⟨sl, rfl, _⟩ := hY; rfl) ?_ ?_ ?_
        · rintro lq rec B' i ⟨vlast, v8, v9, v10⟩ K0 vs hi ⟨v43, rfl, a43⟩ ⟨aLast, hset⟩
          dsimp only [lcA, lnA]
          obtain ⟨kl, iLast, eLast⟩ := aLast.open
          refine XK.seq (XK.region rfl (XO.q (Q.assign rfl) (XO.done (XK.region rfl (XO.q (Q.assign rfl) ?_)))))
          refine XO.done ?_
          refine XK.beginRound ?_
          refine XK.block (XK.seq (XK.seq (XK.region rfl (XO.q (Q.move rfl) ?_))))
          refine XO.q (Q.ld rfl rfl) ?_
          refine XO.call Try.call39 rfl rfl rfl (equalI v43 vlast K0 kl (iterT h (fun _ => c) t (i + 1)) (iterT h (fun _ => c) t i)) fun v46 s46 R46 => ?_
          obtain ⟨rfl, rfl⟩ := R46
          dsimp only [lcA, lnA]
          refine XO.done ?_
          refine XK.if rfl (fun c3 => ?_) (fun c3 => ?_)
          · skip
            refine XK.seq (XK.region rfl (XO.q (Q.move rfl) (XO.q (Q.move rfl) ?_)))
            refine XO.q (Q.sub rfl rfl ⟨by omega, by omega⟩) ?_
            refine XO.st rfl rfl rfl ?_
            refine XO.st rfl rfl rfl ?_
            refine XO.st rfl rfl rfl ?_
            refine XO.done ?_
            have hst : settleL h c N 0 t = (iterT h (fun _ => c) t (i + 1), ((i : Nat) : Int), 0) := by rw [hset, show N - i = (N - (i + 1)) + 1 by omega, settleL, if_pos (show nextL h (iterT h (fun _ => c) t i) c = iterT h (fun _ => c) t i from c3)]; rfl
            exact XK.leave (j := some .ret) [blk b8 [v43] 31, blk b9 [.int .i64 ((i : Int) + 1 - 1)] 3, blk b10 [.int .i64 0] 32, blk b13 [vlast] 31] trivial ⟨(vlast, v43, .int .i64 ((i : Int) + 1 - 1), .int .i64 0), ⟨rfl, ⟨_, rfl, rfl, by rw [hst]; exact a43, by rw [hst]; dsimp only; omega, by rw [hst]⟩⟩, rfl⟩
          · skip
            refine XK.skip (XK.region rfl (XO.q (Q.move rfl) ?_))
            refine XO.st rfl rfl rfl ?_
            refine XO.done ?_
            refine XK.inBlock ?_
            exact XK.leave (j := none) [blk b8 [v8] 31, blk b9 [v9] 3, blk b10 [v10] 32, blk b13 [v43] 31] trivial ⟨(v43, v8, v9, v10), ⟨.inr a43, by rw [hset, show N - i = (N - (i + 1)) + 1 by omega, settleL, if_neg (show ¬ nextL h (iterT h (fun _ => c) t i) c = iterT h (fun _ => c) t i from c3)]; rfl⟩, rfl⟩
        · rintro ⟨vlast, v8, v9, v10⟩ K0 ⟨aLast, hset⟩
          dsimp only [lcA, lnA]
          refine XK.inBlock ?_
          refine XK.seq (XK.region rfl ?_)
          refine XO.st rfl rfl rfl ?_
          refine XO.st rfl rfl rfl ?_
          refine XO.st rfl rfl rfl ?_
          refine XO.done ?_
          refine XK.rt [emp] Try.func21 Try.results21 (.cell1 rfl rfl (.cell1 rfl rfl (.cell1 rfl rfl (.n)))) ?_
          have hw0 : settleG h t c N = ([], 0, 60) := by rw [settleG, if_neg c0, if_neg c1, if_neg c2, Int.toNat_natCast, hset, Nat.sub_self]; rfl
          rw [hw0]
          exact ⟨.slice none 0 0, emp, rfl, rfl, Arr.nil (fun _ => rfl)⟩
        · rintro _ ⟨vlast, v8, v9, v10⟩ K0 ⟨rfl, ⟨m1, rfl, rfl, a8, e1, e2⟩⟩
          dsimp only [lcA, lnA]
          refine XK.rt [K0] Try.func21 Try.results21 (.cell1 rfl rfl (.cell1 rfl rfl (.cell1 rfl rfl (.n)))) ?_
          have hw0 : settleG h t c N = settleL h c N 0 t := by rw [settleG, if_neg c0, if_neg c1, if_neg c2, Int.toNat_natCast]
          rw [hw0, e2, ← e1]
          exact ⟨_, K0, rfl, rfl, a8⟩
end Go.X

set_option linter.unusedSimpArgs false
set_option linter.unusedVariables false
set_option maxRecDepth 20000
namespace Go.X
open Go.Proofs
end Go.X

set_option linter.unusedSimpArgs false
set_option linter.unusedVariables false
set_option maxRecDepth 20000
namespace Go.X
open Go.Proofs
theorem hot_spec (h : Hall) (vr vw vb vc : Value) (hr hw hb hc : PHeap) [ir : Arr vr encRoom 2 hr h.rooms] [iw : Arr vw encWall 3 hw h.walls] [ib : Arr vb encBranch 3 hb h.branches] [ic : Arr vc encCooler 5 hc h.coolers] (t : List Int) (vt : Value) (ht : PHeap) [it : Arr vt encI 1 ht t] (tl : h.rooms.length ≤ t.length) : Spec Try.prog 71 #[.agg #[vr, vw, vb, vc], vt] [] [hr, ht] (fun v hs => v = .int .i64 (hotP h t) ∧ hs = []) := by
  refine Spec.intro (fn := Try.f71) (N := 24) Try.func71 rfl Try.ntmps71 rfl fun B => ?_
  refine XK.seq (XK.region rfl ?_)
  refine XO.box rfl fun b2 => ?_
  refine XO.q (Q.assign rfl) (XO.done (XK.seq (XK.seq (XK.region rfl ?_))))
  refine XO.q (Q.fieldAddr rfl) ?_
  refine XO.q (Q.ld rfl rfl) ?_
  refine XO.len rfl fun l9 => ?_
  refine XO.q (Q.move rfl) (XO.done (XK.block ?_))
  refine XK.while (X := Nat) [4, 5, 6, 10, 11, 12, 13, 14, 15, 16, 17, 18, 19, 20, 21, 22, 23] (fun i => [(10, some (.int .i64 (i : Nat)))]) (fun i => []) (fun i => i ≤ h.rooms.length ∧ ∀ j, j < i → hotAt h t j = false) (fun i => h.rooms.length - i) (0) [] rfl ⟨by omega, fun j hj => by omega⟩ (.c rfl (.base 0 rfl rfl)) ?_
  rintro i ⟨hi, hc⟩ ih0
  dsimp only [lcA, lnA] at ih0 ⊢
  refine XK.seq (XK.region rfl ?_)
  refine XO.q (Q.lss rfl rfl) ?_
  refine XO.done (XK.seq ?_)
  refine XK.if rfl (fun c0 => ?_) (fun c0 => ?_)
  · skip
    refine XK.skip (XK.seq (XK.block (XK.seq (XK.region rfl (XO.q (Q.move rfl) ?_)))))
    refine XO.ix rfl rfl (by omega) (by omega) fun i13 => ?_
    refine XO.q (Q.ldEA [_, _] rfl (by first | assumption | omega) rfl rfl) ?_
    refine XO.alloc fun b6 => ?_
    refine XO.q (Q.assign rfl) ?_
    refine XO.st rfl rfl rfl ?_
    refine XO.done (XK.seq ?_)
    refine XK.drawn [0, 1, 2, 3, 4, 5, 6] [b6] [] (.q 0 (.q 1 (.q 2 (.q 3 (.q 4 (.q 5 (.q 6 .done))))))) Try.mixed rfl (by kernel_rfl) ?_
    refine XT.q rfl rfl (Q.move rfl) ?_
    refine XT.q rfl rfl (Q.move rfl) ?_
    refine XT.ix rfl rfl rfl rfl (by omega) (by omega) fun i17 => ?_
    refine XT.q rfl rfl (Q.ldE rfl (by first | assumption | omega) rfl) ?_
    refine XT.q rfl rfl (Q.fieldAddr rfl) ?_
    refine XT.q rfl rfl (Q.ld rfl rfl) ?_
    refine XT.q rfl rfl (Q.gtr rfl rfl) ?_
    refine XT.done ?_
    refine XK.if rfl (fun c1 => ?_) (fun c1 => ?_)
    · skip
      refine XK.seq (XK.region rfl (XO.q (Q.move rfl) (XO.q (Q.assign rfl) (XO.done ?_))))
      refine XK.rt [] Try.func71 Try.results71 (.t rfl .n) ?_
      exact ⟨by rw [hotP, firstTo_at (i := i) (by omega) (by rw [hotAt, decide_eq_true_eq]; exact c1) hc], rfl⟩
    · skip
      refine XK.skip ?_
      refine XK.inBlock ?_
      refine XK.region rfl ?_
      refine XO.q (Q.add rfl rfl ⟨by omega, by omega⟩) ?_
      refine XO.q (Q.move rfl) (XO.done ?_)
      exact ih0 (i + 1) _ _ ⟨by omega, fun j hj => by
          by_cases hji : j < i
          · exact hc j hji
          · rw [show j = i by omega, hotAt, decide_eq_false_iff_not]; exact c1⟩ (by first | omega | (dsimp only; omega)) (.c rfl (.base 33 rfl rfl)) inferInstance
  · skip
    refine XK.exit rfl ?_
    refine XK.seq (XK.region rfl (XO.q (Q.assign rfl) (XO.done ?_)))
    refine XK.rt [] Try.func71 Try.results71 (.t rfl .n) ?_
    have hin : i = h.rooms.length := by omega
    subst hin
    exact ⟨by rw [hotP, firstTo_none hc], rfl⟩
theorem aL_one {v : Value} {c : HCase} {k : PHeap} (a : Arr v encI 1 k c.load) : ∀ i, i < ([(v, c)] : List (Value × HCase)).length → Arr (([(v, c)] : List (Value × HCase)).getD i default).1 encI 1 k (([(v, c)] : List (Value × HCase)).getD i default).2.load := fun i hi => by
  match i, hi with
  | 0, _ => exact a
theorem one_of {v : Value} (h : one v = true) : One v := ⟨(by cases v <;> first | rfl | (cases h)), h⟩
theorem Belongs_spec (h : Hall) (vr vw vb vc : Value) (hr hw hb hc : PHeap) [ir : Arr vr encRoom 2 hr h.rooms] [iw : Arr vw encWall 3 hw h.walls] [ib : Arr vb encBranch 3 hb h.branches] [ic : Arr vc encCooler 5 hc h.coolers] (a d : HCase) (va vd : Value) (ha hd : PHeap) [ia : Arr va encI 1 ha a.load] [id : Arr vd encI 1 hd d.load] (c : HCase) (vc_ : Value) (hcc : PHeap) [icc : Arr vc_ encI 1 hcc c.load] : Spec Try.prog 31 #[.agg #[vr, vw, vb, vc], .agg #[va, .int .i64 a.out, .int .i64 a.pump, vd, .int .i64 d.out, .int .i64 d.pump], .agg #[vc_, .int .i64 c.out, .int .i64 c.pump]] [] [hr, hw, hb, hc, ha, hd, hcc] (fun v hs => v = .tuple #[.bool (belongsG h a d c).1, .int .i64 (belongsG h a d c).2] ∧ hs = []) := by
  refine Spec.intro (fn := Try.f31) (N := 23) Try.func31 rfl Try.ntmps31 rfl fun B => ?_
  refine XK.seq (XK.region rfl ?_)
  refine XO.box rfl fun b3 => ?_
  refine XO.box rfl fun b4 => ?_
  refine XO.box rfl fun b5 => ?_
  refine XO.q (Q.assign rfl) (XO.q (Q.assign rfl) (XO.done (XK.seq (XK.seq (XK.region rfl ?_)))))
  refine XO.q (Q.ldA [_, _, _, _] rfl rfl rfl) ?_
  refine XO.q (Q.ldA [_, _, _, _, _, _] rfl rfl rfl) ?_
  refine XO.q (Q.ldA [_, _, _] rfl rfl rfl) ?_
  refine XO.lit [_, _, _] [_, _, _] [(vc_, c)] encCV (by rfl) (by rfl) rfl (by rfl) (by exact .c 0 3 rfl rfl rfl (.n _)) (fun _ => rfl) (by rfl) rfl (by infer_instance) rfl fun v12 h12 O12 => ?_
  refine XO.call Try.call69 rfl rfl rfl (Classed_spec h vr vw vb vc hr hw hb hc a d va vd ha hd [(vc_, c)] v12 h12 hcc (by simp) (aL_one icc)) fun v13 s13 R13 => ?_
  obtain ⟨rfl, rfl⟩ := R13
  dsimp only [lcA, lnA]
  rw [show ([(vc_, c)] : List (Value × HCase)).map Prod.snd = [c] from rfl]
  refine XO.q (Q.assign rfl) (XO.done (XK.seq (XK.region rfl (XO.q (Q.move rfl) ?_))))
  refine XO.q (Q.neq rfl rfl) ?_
  refine XO.done ?_
  refine XK.if rfl (fun c0 => ?_) (fun c0 => ?_)
  · skip
    refine XK.seq (XK.region rfl (XO.q (Q.move rfl) (XO.q (Q.assign rfl) (XO.q (Q.assign rfl) (XO.done ?_)))))
    refine XK.rt [] Try.func31 Try.results31 (.t rfl (.t rfl .n)) ?_
    exact ⟨by rw [belongsG, if_pos c0], rfl⟩
  · skip
    obtain ⟨_, oka, okd, okl, _⟩ := classed_ok (Decidable.of_not_not c0)
    have okc : COk h c := okl c (by simp)
    refine XK.skip (XK.seq (XK.region rfl ?_))
    refine XO.q (Q.fieldAddr rfl) ?_
    refine XO.q (Q.ldA [_, _, _] rfl rfl rfl) ?_
    refine XO.q (Q.ldA [_, _, _] rfl rfl rfl) ?_
    refine XO.q (Q.fieldAddr rfl) ?_
    refine XO.q (Q.ldA [_, _, _] rfl rfl rfl) ?_
    refine XO.call Try.call70 rfl rfl rfl (between_spec a c d va vc_ vd ha hcc hd (by rw [okc.len, oka.len]; exact Nat.le_refl _) (by rw [okc.len, okd.len]; exact Nat.le_refl _)) fun v22 s22 R22 => ?_
    obtain ⟨rfl, rfl⟩ := R22
    dsimp only [lcA, lnA]
    refine XO.q (Q.assign rfl) (XO.q (Q.assign rfl) (XO.done ?_))
    refine XK.rt [] Try.func31 Try.results31 (.t rfl (.t rfl .n)) ?_
    exact ⟨by rw [belongsG, if_neg c0], rfl⟩
/-- Slices in one heap, a row each. -/
def Rows (us : List Value) (K : PHeap) (rows : List (List Int)) : Prop := us.length = rows.length ∧ ∀ i, i < us.length → Arr (us.getD i default) encI 1 K (rows.getD i default)
def RowsTo (us : List Value) (K : PHeap) (h : Hall) (c : Nat → HCase) (t : List Int) (n : Nat) : Prop := us.length = n ∧ ∀ i, i < n → Arr (us.getD i default) encI 1 K (iterT h c t (i + 1))
theorem RowsTo.rows {us : List Value} {K : PHeap} {h : Hall} {c : Nat → HCase} {t : List Int} {n : Nat} (r : RowsTo us K h c t n) : Rows us K (rowsL h c t n) := ⟨r.1.trans (rows_len ..).symm, fun i hi => by
  rw [rows_at (by have := r.1; omega)]
  exact r.2 i (by have := r.1; omega)⟩
theorem RowsTo.mono {us : List Value} {K K' : PHeap} {h : Hall} {c : Nat → HCase} {t : List Int} {n : Nat} (hl : leH K K') (r : RowsTo us K h c t n) : RowsTo us K' h c t n := ⟨r.1, fun i hi => Arr.le_heap (r.2 i hi) hl⟩
theorem getD_snoc {α : Type} [Inhabited α] (l : List α) (x : α) (i : Nat) : (l ++ [x]).getD i default = if i < l.length then l.getD i default else if i = l.length then x else default := by
  rw [List.getD_eq_getElem?_getD, List.getElem?_append]
  split
  · rw [List.getD_eq_getElem?_getD]
  · split
    · rename_i h1 h2; subst h2; simp
    · rename_i h1 h2
      rw [List.getElem?_eq_none (by simp; omega)]; rfl
theorem RowsTo.snoc {us : List Value} {K : PHeap} {h : Hall} {c : Nat → HCase} {t : List Int} {n : Nat} {u : Value} (r : RowsTo us K h c t n) (a : Arr u encI 1 K (iterT h c t (n + 1))) : RowsTo (us ++ [u]) K h c t (n + 1) := ⟨by rw [List.length_append, r.1]; rfl, fun i hi => by
  rw [getD_snoc]
  have := r.1
  by_cases hc : i < us.length
  · rw [if_pos hc]; exact r.2 i (by omega)
  · rw [if_neg hc, if_pos (by omega), show i = n by omega]; exact a⟩
theorem RowsTo.nil {K : PHeap} {h : Hall} {c : Nat → HCase} {t : List Int} : RowsTo [] K h c t 0 := ⟨rfl, fun i hi => by omega⟩
theorem map_snd_getD (l : List (Value × HCase)) : (fun i => (l.map Prod.snd).getD i default) = fun i => (l.getD i default).2 := by
  funext i
  rw [List.getD_eq_getElem?_getD, List.getElem?_map, List.getD_eq_getElem?_getD]
  cases l[i]? <;> rfl
theorem run1 (b : Nat) (l : List (Value × HCase)) (vl : Value) (hl : PHeap) [il : Arr vl encCV 3 hl l] (i : Nat) (hi : i < l.length) : Spec Try.prog 68 #[.int .i64 (i : Nat), ptr b 0] [] [blk b [vl] 80, hl]
    (fun v hs => v = .agg #[(l.getD i default).1, .int .i64 (l.getD i default).2.out, .int .i64 (l.getD i default).2.pump] ∧ hs = []) := by
  refine Spec.intro (fn := Try.f68) (N := 8) Try.func68 rfl Try.ntmps68 rfl fun B => ?_
  refine XK.seq (XK.region rfl ?_)
  refine XO.alloc fun b3 => ?_
  refine XO.done (XK.seq (XK.region rfl ?_))
  refine XO.q (Q.ld rfl rfl) ?_
  refine XO.q (Q.move rfl) ?_
  refine XO.ix rfl rfl (by omega) (by omega) fun i6 => ?_
  refine XO.q (Q.ldEA [_, _, _] rfl (by first | assumption | omega) rfl rfl) ?_
  haveI : One (l.getD i default).1 := one_of (il.pf.2.1.2 _ (getD_mem hi) _ List.mem_cons_self)
  refine XO.st rfl rfl rfl ?_
  refine XO.done ?_
  refine XK.rt [] Try.func68 Try.results68 (.cell [_, _, _] rfl rfl rfl (.n)) ?_
  exact ⟨rfl, rfl⟩
def errsR (h : Hall) (t : List Int) (l : List HCase) : List Int := warmP h t :: l.map (casedP h)
theorem errsR_snoc {h : Hall} {t : List Int} {l : List HCase} {x : HCase} : errsR h t (l ++ [x]) = errsR h t l ++ [casedP h x] := by simp [errsR]
theorem errsR_len {h : Hall} {t : List Int} {l : List HCase} : (errsR h t l).length = l.length + 1 := by simp [errsR]
theorem runG_errs (h : Hall) (t : List Int) (l : List HCase) : runG h t l = if hcheck h ≠ 0 then ([], hcheck h) else if 20000 < l.length then ([], 2) else if bothP (errsR h t l) ≠ 0 then ([], bothP (errsR h t l)) else (rowsL h (fun i => l.getD i default) t l.length, 0) := rfl
theorem Run_spec (h : Hall) (vr vw vb vc : Value) (hr hw hb hc : PHeap) [ir : Arr vr encRoom 2 hr h.rooms] [iw : Arr vw encWall 3 hw h.walls] [ib : Arr vb encBranch 3 hb h.branches] [ic : Arr vc encCooler 5 hc h.coolers] (t : List Int) (vt : Value) (ht : PHeap) [it : Arr vt encI 1 ht t] (l : List (Value × HCase)) (vl : Value) (hl hL : PHeap) [il : Arr vl encCV 3 hl l] (aL : ∀ i, i < l.length → Arr (l.getD i default).1 encI 1 hL (l.getD i default).2.load) :
    Spec Try.prog 30 #[.agg #[vr, vw, vb, vc], vt, vl] [] [hr, hw, hb, hc, ht, hl, hL] (fun v hs => ∃ v1 k1 K us, v = .tuple #[v1, .int .i64 (runG h t (l.map Prod.snd)).2] ∧ hs = [k1, K] ∧ OArr v1 encV 1 31 k1 us ∧ Rows us K (runG h t (l.map Prod.snd)).1) := by
  have hnil : OArr (.slice none 0 0) encV 1 31 emp ([] : List Value) := OArr.nil (fun _ => rfl)
  have hml : (l.map Prod.snd).length = l.length := List.length_map ..
  refine Spec.intro (fn := Try.f30) (N := 59) Try.func30 rfl Try.ntmps30 rfl fun B => ?_
  refine XK.seq (XK.region rfl ?_)
  refine XO.box rfl fun b3 => ?_
  refine XO.box rfl fun b5 => ?_
  refine XO.q (Q.assign rfl) (XO.q (Q.assign rfl) (XO.done (XK.seq (XK.seq (XK.region rfl ?_)))))
  refine XO.q (Q.ldA [_, _, _, _] rfl rfl rfl) ?_
  refine XO.call Try.call36 rfl rfl rfl (Check_spec h vr vw vb vc hr hw hb hc) fun v17 s17 R17 => ?_
  obtain ⟨rfl, rfl⟩ := R17
  dsimp only [lcA, lnA]
  refine XO.q (Q.assign rfl) (XO.done (XK.seq (XK.region rfl (XO.q (Q.move rfl) ?_))))
  refine XO.q (Q.neq rfl rfl) ?_
  refine XO.done ?_
  refine XK.if rfl (fun c0 => ?_) (fun c0 => ?_)
  · skip
    refine XK.seq (XK.region rfl (XO.q (Q.move rfl) (XO.q (Q.assign rfl) (XO.q (Q.assign rfl) (XO.done ?_)))))
    refine XK.rt [emp, emp] Try.func30 Try.results30 (.t rfl (.t rfl .n)) ?_
    have hw0 : runG h t (l.map Prod.snd) = ([], hcheck h) := by rw [runG_errs, if_pos c0]
    rw [hw0]
    exact ⟨.slice none 0 0, emp, emp, [], rfl, rfl, OArr.nil (fun _ => rfl), rfl, fun i hi => absurd hi (Nat.not_lt_zero i)⟩
  · skip
    refine XK.skip (XK.seq (XK.seq (XK.region rfl ?_)))
    refine XO.q (Q.ld rfl rfl) ?_
    refine XO.len rfl fun l22 => ?_
    refine XO.q (Q.gtr rfl rfl) ?_
    refine XO.done ?_
    refine XK.if rfl (fun c1 => ?_) (fun c1 => ?_)
    · skip
      refine XK.seq (XK.region rfl (XO.q (Q.assign rfl) (XO.q (Q.assign rfl) (XO.done ?_))))
      refine XK.rt [emp, emp] Try.func30 Try.results30 (.t rfl (.t rfl .n)) ?_
      have hw0 : runG h t (l.map Prod.snd) = ([], 2) := by rw [runG_errs, if_neg c0, if_pos (by omega)]
      rw [hw0]
      exact ⟨.slice none 0 0, emp, emp, [], rfl, rfl, OArr.nil (fun _ => rfl), rfl, fun i hi => absurd hi (Nat.not_lt_zero i)⟩
    · skip
      refine XK.skip (XK.seq (XK.region rfl ?_))
      refine XO.q (Q.ldA [_, _, _, _] rfl rfl rfl) ?_
      refine XO.q (Q.move rfl) ?_
      refine XO.call Try.call41 rfl rfl rfl (warm_spec h vr vw vb vc hr vt ht t) fun v26 s26 R26 => ?_
      obtain ⟨rfl, rfl⟩ := R26
      dsimp only [lcA, lnA]
      refine XO.lit [_] [_] [warmP h t] encI (by rfl) (by rfl) rfl (by rfl) (by exact .c 0 1 rfl rfl rfl (.n _)) (fun _ => rfl) (by rfl) rfl (by infer_instance) rfl fun v27 h27 O27 => ?_
      refine XO.q (Q.assign rfl) (XO.done (XK.seq (XK.seq (XK.region rfl ?_))))
      refine XO.q (Q.ld rfl rfl) ?_
      refine XO.len rfl fun l29 => ?_
      refine XO.q (Q.move rfl) (XO.done (XK.block ?_))
      refine XK.while (X := Nat × Value × PHeap) [9, 11, 30, 31, 32, 33, 34, 35, 36, 37, 38, 39, 40] (fun ⟨i, v9, k9⟩ => [(30, some (.int .i64 (i : Nat))), (9, some (v9))]) (fun ⟨i, v9, k9⟩ => [k9]) (fun ⟨i, v9, k9⟩ => i ≤ l.length ∧ OArr v9 encI 1 32 k9 (errsR h t ((List.range i).map (fun j => (l.getD j default).2)))) (fun ⟨i, v9, k9⟩ => l.length - i) (0, v27, h27) [h27] rfl ⟨by omega, O27⟩ (.c rfl (.c rfl (.base 0 rfl rfl))) ?_
      rintro ⟨i, v9, k9⟩ ⟨hi, O9⟩ ih0
      dsimp only [lcA, lnA] at ih0 ⊢
      refine XK.seq (XK.region rfl ?_)
      refine XO.q (Q.lss rfl rfl) ?_
      refine XO.done (XK.seq ?_)
      refine XK.if rfl (fun c2 => ?_) (fun c2 => ?_)
      · skip
        have ai := aL i (by omega)
        refine XK.skip (XK.seq (XK.block (XK.seq (XK.region rfl ?_))))
        refine XO.ix rfl rfl (by omega) (by omega) fun i32 => ?_
        refine XO.q (Q.ldEA [_, _, _] rfl (by first | assumption | omega) rfl rfl) ?_
        refine XO.alloc fun b11 => ?_
        refine XO.st rfl rfl rfl ?_
        refine XO.done (XK.region rfl (XO.q (Q.move rfl) ?_))
        refine XO.q (Q.ldA [_, _, _, _] rfl rfl rfl) ?_
        refine XO.q (Q.ldA [_, _, _] rfl rfl rfl) ?_
        refine XO.call Try.call42 rfl rfl rfl (cased_spec h vr vw vb vc hr (l.getD i default).1 hL (l.getD i default).2) fun v37 s37 R37 => ?_
        obtain ⟨rfl, rfl⟩ := R37
        dsimp only [lcA, lnA]
        refine XO.lit [_] [_] [_] encI (by rfl) (by rfl) rfl (by rfl) (by exact .c 0 1 rfl rfl rfl (.n _)) (fun _ => rfl) (by rfl) rfl (by infer_instance) rfl fun v38 h38 O38 => ?_
        refine XO.append rfl rfl rfl rfl (by simp only [errsR_len, List.length_map, List.length_range, List.length_cons, List.length_nil]; omega) fun v39 h39 O39 => ?_
        refine XO.q (Q.assign rfl) (XO.done ?_)
        refine XK.inBlock ?_
        refine XK.region rfl ?_
        refine XO.q (Q.add rfl rfl ⟨by omega, by omega⟩) ?_
        refine XO.q (Q.move rfl) (XO.done ?_)
        exact ih0 (i + 1, v39, h39) _ _ ⟨by dsimp only; omega, by dsimp only; rw [range_snoc, errsR_snoc]; exact O39⟩ (by first | omega | (dsimp only; omega)) (.c rfl (.c rfl (.base 28 rfl rfl))) inferInstance
      · skip
        have hn : i = l.length := by omega
        subst hn
        rw [range_getD l (fun x => x.2)] at O9
        refine XK.exit rfl ?_
        refine XK.seq (XK.seq (XK.region rfl (XO.q (Q.move rfl) ?_)))
        refine XO.call Try.call40 rfl rfl rfl (both_spec v9 k9 (errsR h t (l.map Prod.snd))) fun v42 s42 R42 => ?_
        obtain ⟨rfl, rfl⟩ := R42
        dsimp only [lcA, lnA]
        refine XO.q (Q.assign rfl) (XO.done (XK.seq (XK.region rfl (XO.q (Q.move rfl) ?_))))
        refine XO.q (Q.neq rfl rfl) ?_
        refine XO.done ?_
        refine XK.if rfl (fun c3 => ?_) (fun c3 => ?_)
        · skip
          refine XK.seq (XK.region rfl (XO.q (Q.move rfl) (XO.q (Q.assign rfl) (XO.q (Q.assign rfl) (XO.done ?_)))))
          refine XK.rt [emp, emp] Try.func30 Try.results30 (.t rfl (.t rfl .n)) ?_
          have hw0 : runG h t (l.map Prod.snd) = ([], bothP (errsR h t (l.map Prod.snd))) := by rw [runG_errs, if_neg c0, if_neg (by omega), if_pos c3]
          rw [hw0]
          exact ⟨.slice none 0 0, emp, emp, [], rfl, rfl, OArr.nil (fun _ => rfl), rfl, fun i hi => absurd hi (Nat.not_lt_zero i)⟩
        · skip
          have ok0 := Decidable.of_not_not c0
          have c3 := Decidable.of_not_not c3
          have okt : TOk h t := both_warm c3 (by simp [errsR])
          have okc : ∀ i, i < l.length → COk h (l.getD i default).2 := fun i hi => both_cased c3 (List.mem_cons_of_mem _ (List.mem_map.2 ⟨_, List.mem_map.2 ⟨_, getD_mem hi, rfl⟩, rfl⟩))
          refine XK.skip (XK.seq (XK.region rfl ?_))
          refine XO.alloc fun b13 => ?_
          refine XO.done (XK.seq (XK.seq (XK.region rfl ?_)))
          refine XO.q (Q.ldA [_, _, _, _] rfl rfl rfl) ?_
          refine XO.q (Q.move rfl) ?_
          refine XO.q (Q.ld rfl rfl) ?_
          refine XO.len rfl fun l49 => ?_
          refine XO.q (Q.func (fun _ he => rfl) (fun _ he => evs_rel he rfl)) ?_
          refine XO.call Try.call45 rfl rfl rfl (seconds_spec h vr vw vb vc hr hw hb hc (hcheck_ok ok0) (fun i => (l.getD i default).2) l.length (by omega) t vt ht okt okc (fun i => (l.getD i default).1) hL aL (.func (.func 68) #[] #[ptr b5 0]) (blk b5 [vl] 80) hl (fun i hi => VSpec.fn (fst := []) (cap := [ptr b5 0]) Try.call68 rfl (run1 b5 l vl hl i hi))) fun v51 s51 R51 => ?_
          obtain ⟨k1, k2, k3, k4, rfl, hit⟩ := R51
          dsimp only [lcA, lnA]
          refine XO.done (XK.block ?_)
          refine XK.rangeK (X := Value × PHeap × List Value) (ps := [52, 53]) (fun ⟨vo, ko, us⟩ => [blk b13 [vo] 86, ko]) (fun i ⟨vo, ko, us⟩ K0 => OArr vo encV 1 31 ko us ∧ RowsTo us K0 h (fun i => (l.getD i default).2) t i) (fun j0 ⟨vo, ko, us⟩ K0 => False) (.slice none 0 0, emp, []) [blk b13 [.slice none 0 0] 86, emp] rfl (hit) rfl (fun i x K K' hle hI => ⟨hI.1, hI.2.mono hle⟩) (⟨hnil, RowsTo.nil⟩) rfl (fun i K vs hY => by obtain ⟨sl, rfl, _⟩ := hY; rfl) ?_ ?_ (fun _ _ _ hJ => hJ.elim)
          · rintro lq rec B' i ⟨vo, ko, us⟩ K0 vs hi ⟨v53, rfl, a53⟩ ⟨OO, rT⟩
            dsimp only [lcA, lnA]
            have hul := rT.1
            refine XK.region rfl (XO.q (Q.assign rfl) (XO.done ?_))
            refine XK.beginRound ?_
            refine XK.block (XK.region rfl ?_)
            refine XO.q (Q.ld rfl rfl) ?_
            refine XO.q (Q.move rfl) ?_
            refine XO.lit [_] [_] [v53] encV (by rfl) (by rfl) rfl (by rfl) (by exact .c 0 1 rfl rfl rfl (.n _)) (fun _ => rfl) (by rfl) rfl (by infer_instance) rfl fun v56 h56 O56 => ?_
            refine XO.append rfl rfl rfl rfl (by simp only [List.length_cons, List.length_nil]; omega) fun v57 h57 O57 => ?_
            refine XO.st rfl rfl rfl ?_
            refine XO.done ?_
            refine XK.inBlock ?_
            exact XK.leave (j := none) [blk b13 [v57] 86, h57] trivial ⟨(v57, h57, us ++ [v53]), ⟨O57, rT.snoc a53⟩, rfl⟩
          · rintro ⟨vo, ko, us⟩ K0 ⟨OO, rT⟩
            dsimp only [lcA, lnA]
            refine XK.inBlock ?_
            refine XK.seq (XK.region rfl ?_)
            refine XO.q (Q.ld rfl rfl) ?_
            refine XO.q (Q.assign rfl) (XO.q (Q.assign rfl) (XO.done ?_))
            refine XK.rt [ko, K0] Try.func30 Try.results30 (.t rfl (.t rfl .n)) ?_
            have hw0 : runG h t (l.map Prod.snd) = (rowsL h (fun i => (l.getD i default).2) t l.length, 0) := by rw [runG_errs, if_neg c0, if_neg (by omega), if_neg (by rw [c3]; decide), map_snd_getD, hml]
            rw [hw0]
            exact ⟨vo, ko, K0, us, rfl, rfl, OO, rT.rows⟩
end Go.X

set_option linter.unusedSimpArgs false
set_option linter.unusedVariables false
set_option maxRecDepth 20000
namespace Go.X
open Go.Proofs
theorem Bounds_spec (h : Hall) (vr vw vb vc : Value) (hr hw hb hc : PHeap) [ir : Arr vr encRoom 2 hr h.rooms] [iw : Arr vw encWall 3 hw h.walls] [ib : Arr vb encBranch 3 hb h.branches] [ic : Arr vc encCooler 5 hc h.coolers] (a d : HCase) (va vd : Value) (ha hd : PHeap) [ia : Arr va encI 1 ha a.load] [id : Arr vd encI 1 hd d.load] (lo hi : List Int) (vlo vhi : Value) (hlo hhi : PHeap) [ilo : Arr vlo encI 1 hlo lo] [ihi : Arr vhi encI 1 hhi hi] (m : Int) : Spec Try.prog 32 #[.agg #[vr, vw, vb, vc], vlo, vhi, .agg #[va, .int .i64 a.out, .int .i64 a.pump, vd, .int .i64 d.out, .int .i64 d.pump], .int .i64 m] [] [hr, hw, hb, hc, ha, hd, hlo, hhi]
    (fun v hs => ∃ v1 v2 k1 k2 K1 K2 us ws, v = .tuple #[v1, v2, .int .i64 (boundsG h lo hi a d m).2.2] ∧ hs = [k1, k2, K1, K2] ∧ OArr v1 encV 1 31 k1 us ∧ OArr v2 encV 1 31 k2 ws ∧ Rows us K1 (boundsG h lo hi a d m).1 ∧ Rows ws K2 (boundsG h lo hi a d m).2.1) := by
  have hnil : OArr (.slice none 0 0) encV 1 31 emp ([] : List Value) := OArr.nil (fun _ => rfl)
  refine Spec.intro (fn := Try.f32) (N := 59) Try.func32 rfl Try.ntmps32 rfl fun B => ?_
  refine XK.seq (XK.region rfl ?_)
  refine XO.box rfl fun b5 => ?_
  refine XO.box rfl fun b8 => ?_
  refine XO.q (Q.assign rfl) (XO.q (Q.assign rfl) (XO.q (Q.assign rfl) (XO.done (XK.seq (XK.seq ?_)))))
  refine XK.region rfl ?_
  refine XO.q (Q.ldA [_, _, _, _] rfl rfl rfl) ?_
  refine XO.q (Q.move rfl) (XO.q (Q.move rfl) ?_)
  refine XO.q (Q.ldA [_, _, _, _, _, _] rfl rfl rfl) ?_
  refine XO.call Try.call47 rfl rfl rfl (boxed_spec h vr vw vb vc hr hw hb hc a d va vd ha hd lo hi vlo vhi hlo hhi) fun v24 s24 R24 => ?_
  obtain ⟨rfl, rfl⟩ := R24
  dsimp only [lcA, lnA]
  refine XO.q (Q.assign rfl) (XO.done (XK.seq (XK.region rfl (XO.q (Q.move rfl) ?_))))
  refine XO.q (Q.neq rfl rfl) ?_
  refine XO.done ?_
  refine XK.if rfl (fun c0 => ?_) (fun c0 => ?_)
  · skip
    refine XK.seq (XK.region rfl (XO.q (Q.move rfl) (XO.q (Q.assign rfl) (XO.q (Q.assign rfl) (XO.q (Q.assign rfl) ?_)))))
    refine XO.done ?_
    refine XK.rt [emp, emp, emp, emp] Try.func32 Try.results32 (.t rfl (.t rfl (.t rfl .n))) ?_
    have hw0 : boundsG h lo hi a d m = ([], [], boxedG h lo hi a d) := by rw [boundsG, if_pos c0]
    rw [hw0]
    exact ⟨.slice none 0 0, .slice none 0 0, emp, emp, emp, emp, [], [], rfl, rfl, OArr.nil (fun _ => rfl), OArr.nil (fun _ => rfl), ⟨rfl, fun i hi => absurd hi (Nat.not_lt_zero i)⟩, rfl, fun i hi => absurd hi (Nat.not_lt_zero i)⟩
  · skip
    obtain ⟨ok0, oka, okd, oklo, okhi, _, _⟩ := boxed_ok (Decidable.of_not_not c0)
    refine XK.skip (XK.seq (XK.seq (XK.region rfl (XO.q (Q.move rfl) ?_))))
    refine XO.call Try.call37 rfl rfl rfl (in_spec _ _) fun v29 s29 R29 => ?_
    obtain ⟨rfl, rfl⟩ := R29
    dsimp only [lcA, lnA]
    refine XO.q (Q.not rfl) ?_
    refine XO.done ?_
    refine XK.if rfl (fun c1 => ?_) (fun c1 => ?_)
    · skip
      refine XK.seq (XK.region rfl (XO.q (Q.assign rfl) (XO.q (Q.assign rfl) (XO.q (Q.assign rfl) (XO.done ?_)))))
      refine XK.rt [emp, emp, emp, emp] Try.func32 Try.results32 (.t rfl (.t rfl (.t rfl .n))) ?_
      have hw0 : boundsG h lo hi a d m = ([], [], 2) := by rw [boundsG, if_neg c0, if_pos c1]
      rw [hw0]
      exact ⟨.slice none 0 0, .slice none 0 0, emp, emp, emp, emp, [], [], rfl, rfl, OArr.nil (fun _ => rfl), OArr.nil (fun _ => rfl), ⟨rfl, fun i hi => absurd hi (Nat.not_lt_zero i)⟩, rfl, fun i hi => absurd hi (Nat.not_lt_zero i)⟩
    · skip
      obtain ⟨hm0, hm1⟩ := inP_le (Decidable.of_not_not c1)
      obtain ⟨N, eN⟩ : ∃ N : Nat, m = N := ⟨m.toNat, by omega⟩
      subst eN
      refine XK.skip (XK.seq (XK.region rfl ?_))
      refine XO.alloc fun b14 => ?_
      refine XO.alloc fun b15 => ?_
      refine XO.done (XK.seq (XK.seq ?_))
      refine XK.drawn [0, 1, 2, 3, 4] [b5, b8] [] (.q 0 (.q 1 (.q 2 (.q 3 (.q 4 (.br 5 true (.br 6 true .done .stop) .stop)))))) Try.mixed rfl (by kernel_rfl) ?_
      refine XT.q rfl rfl (Q.ldA [_, _, _, _] rfl rfl rfl) ?_
      refine XT.q rfl rfl (Q.move rfl) ?_
      refine XT.q rfl rfl (Q.move rfl) ?_
      refine XT.q rfl rfl (Q.fieldAddr rfl) ?_
      refine XT.q rfl rfl (Q.ldA [_, _, _] rfl rfl rfl) ?_
      refine XT.call rfl rfl Try.call46 rfl rfl rfl (always_spec a va) (fun v36 s36 R36 => ?_) XT.stop
      obtain ⟨bC36, rfl, oneF36, ofC36⟩ := R36
      dsimp only [lcA, lnA]
      refine ⟨inferInstance, ?_⟩
      refine XT.call rfl rfl Try.call45 rfl rfl rfl (seconds_spec h vr vw vb vc hr hw hb hc (hcheck_ok ok0) (fun _ => a) N (by omega) lo vlo hlo oklo (fun _ _ => oka) (fun _ => va) ha (fun _ _ => inferInstance) v36 (blk bC36 [va, .int .i64 a.out, .int .i64 a.pump] 43) (blk bC36 [va, .int .i64 a.out, .int .i64 a.pump] 43) (ofC36 N).two) (fun v37 s37 R37 => ?_) XT.stop
      obtain ⟨k371, k372, k373, k374, rfl, hit37⟩ := R37
      dsimp only [lcA, lnA]
      refine ⟨inferInstance, ?_⟩
      refine XT.done ?_
      refine XK.block ?_
      refine XK.rangeK (X := Value × PHeap × List Value) (ps := [38, 39]) (fun ⟨vo, ko, us⟩ => [blk b14 [vo] 86, ko]) (fun i ⟨vo, ko, us⟩ K0 => OArr vo encV 1 31 ko us ∧ RowsTo us K0 h (fun _ => a) lo i) (fun j0 ⟨vo, ko, us⟩ K0 => False) (.slice none 0 0, emp, []) [blk b14 [.slice none 0 0] 86, emp] rfl (hit37) rfl (fun i x K K' hle hI => ⟨hI.1, hI.2.mono hle⟩) (⟨hnil, RowsTo.nil⟩) rfl (fun i K vs hY => by obtain ⟨sl, rfl, _⟩ := hY; rfl) ?_ ?_ (fun _ _ _ hJ => hJ.elim)
      · rintro lq rec B' i ⟨vo, ko, us⟩ K0 vs hi ⟨v39, rfl, av39⟩ ⟨OO0, rT0⟩
        dsimp only [lcA, lnA]
        have hul := rT0.1
        refine XK.region rfl (XO.q (Q.assign rfl) (XO.done ?_))
        refine XK.beginRound ?_
        refine XK.block (XK.region rfl ?_)
        refine XO.q (Q.ld rfl rfl) ?_
        refine XO.q (Q.move rfl) ?_
        refine XO.lit [_] [_] [v39] encV (by rfl) (by rfl) rfl (by rfl) (by exact .c 0 1 rfl rfl rfl (.n _)) (fun _ => rfl) (by rfl) rfl (by infer_instance) rfl fun v42 h42 O42 => ?_
        refine XO.append rfl rfl rfl rfl (by simp only [List.length_cons, List.length_nil]; omega) fun v43 h43 O43 => ?_
        refine XO.st rfl rfl rfl ?_
        refine XO.done ?_
        refine XK.inBlock ?_
        exact XK.leave (j := none) [blk b14 [v43] 86, h43] trivial ⟨(v43, h43, us ++ [v39]), ⟨O43, rT0.snoc av39⟩, rfl⟩
      · rintro ⟨vo, ko, us⟩ K0 ⟨OO0, rT0⟩
        dsimp only [lcA, lnA]
        refine XK.inBlock ?_
        refine XK.seq (XK.seq ?_)
        refine XK.drawn [0, 1, 2, 3, 4] [b5, b8] [] (.q 0 (.q 1 (.q 2 (.q 3 (.q 4 (.br 5 true (.br 6 true .done .stop) .stop)))))) Try.mixed rfl (by kernel_rfl) ?_
        refine XT.q rfl rfl (Q.ldA [_, _, _, _] rfl rfl rfl) ?_
        refine XT.q rfl rfl (Q.move rfl) ?_
        refine XT.q rfl rfl (Q.move rfl) ?_
        refine XT.q rfl rfl (Q.fieldAddr rfl) ?_
        refine XT.q rfl rfl (Q.ldA [_, _, _] rfl rfl rfl) ?_
        refine XT.call rfl rfl Try.call46 rfl rfl rfl (always_spec d vd) (fun v49 s49 R49 => ?_) XT.stop
        obtain ⟨bC49, rfl, oneF49, ofC49⟩ := R49
        dsimp only [lcA, lnA]
        refine ⟨inferInstance, ?_⟩
        refine XT.call rfl rfl Try.call45 rfl rfl rfl (seconds_spec h vr vw vb vc hr hw hb hc (hcheck_ok ok0) (fun _ => d) N (by omega) hi vhi hhi okhi (fun _ _ => okd) (fun _ => vd) hd (fun _ _ => inferInstance) v49 (blk bC49 [vd, .int .i64 d.out, .int .i64 d.pump] 43) (blk bC49 [vd, .int .i64 d.out, .int .i64 d.pump] 43) (ofC49 N).two) (fun v50 s50 R50 => ?_) XT.stop
        obtain ⟨k501, k502, k503, k504, rfl, hit50⟩ := R50
        dsimp only [lcA, lnA]
        refine ⟨inferInstance, ?_⟩
        refine XT.done ?_
        refine XK.block ?_
        refine XK.rangeK (X := Value × PHeap × List Value) (ps := [51, 52]) (fun ⟨wo, jo, ws⟩ => [blk b15 [wo] 86, jo]) (fun i ⟨wo, jo, ws⟩ K1 => OArr wo encV 1 31 jo ws ∧ RowsTo ws K1 h (fun _ => d) hi i) (fun j1 ⟨wo, jo, ws⟩ K1 => False) (.slice none 0 0, emp, []) [blk b15 [.slice none 0 0] 86, emp] rfl (hit50) rfl (fun i x K K' hle hI => ⟨hI.1, hI.2.mono hle⟩) (⟨hnil, RowsTo.nil⟩) rfl (fun i K vs hY => by obtain ⟨sl, rfl, _⟩ := hY; rfl) ?_ ?_ (fun _ _ _ hJ => hJ.elim)
        · rintro lq rec B' i ⟨wo, jo, ws⟩ K1 vs hi ⟨v52, rfl, av52⟩ ⟨OO1, rT1⟩
          dsimp only [lcA, lnA]
          have hul := rT1.1
          refine XK.region rfl (XO.q (Q.assign rfl) (XO.done ?_))
          refine XK.beginRound ?_
          refine XK.block (XK.region rfl ?_)
          refine XO.q (Q.ld rfl rfl) ?_
          refine XO.q (Q.move rfl) ?_
          refine XO.lit [_] [_] [v52] encV (by rfl) (by rfl) rfl (by rfl) (by exact .c 0 1 rfl rfl rfl (.n _)) (fun _ => rfl) (by rfl) rfl (by infer_instance) rfl fun v55 h55 O55 => ?_
          refine XO.append rfl rfl rfl rfl (by simp only [List.length_cons, List.length_nil]; omega) fun v56 h56 O56 => ?_
          refine XO.st rfl rfl rfl ?_
          refine XO.done ?_
          refine XK.inBlock ?_
          exact XK.leave (j := none) [blk b15 [v56] 86, h56] trivial ⟨(v56, h56, ws ++ [v52]), ⟨O56, rT1.snoc av52⟩, rfl⟩
        · rintro ⟨wo, jo, ws⟩ K1 ⟨OO1, rT1⟩
          dsimp only [lcA, lnA]
          refine XK.inBlock ?_
          refine XK.seq ?_
          refine XK.drawn [0, 1, 2, 3, 4] [b14, b15] [] (.q 0 (.q 1 (.q 2 (.q 3 (.q 4 .done))))) Try.mixed rfl (by kernel_rfl) ?_
          refine XT.q rfl rfl (Q.ld rfl rfl) ?_
          refine XT.q rfl rfl (Q.ld rfl rfl) ?_
          refine XT.q rfl rfl (Q.assign rfl) ?_
          refine XT.q rfl rfl (Q.assign rfl) ?_
          refine XT.q rfl rfl (Q.assign rfl) ?_
          refine XT.done ?_
          refine XK.rt [ko, jo, K0, K1] Try.func32 Try.results32 (.t rfl (.t rfl (.t rfl .n))) ?_
          have hw0 : boundsG h lo hi a d N = (rowsL h (fun _ => a) lo N, rowsL h (fun _ => d) hi N, 0) := by rw [boundsG, if_neg c0, if_neg c1, Int.toNat_natCast]
          rw [hw0]
          exact ⟨vo, wo, ko, jo, K0, K1, us, ws, rfl, rfl, OO0, OO1, rT0.rows, rT1.rows⟩
theorem Ride_spec (h : Hall) (vr vw vb vc : Value) (hr hw hb hc : PHeap) [ir : Arr vr encRoom 2 hr h.rooms] [iw : Arr vw encWall 3 hw h.walls] [ib : Arr vb encBranch 3 hb h.branches] [ic : Arr vc encCooler 5 hc h.coolers] (t : List Int) (vt : Value) (ht : PHeap) [it : Arr vt encI 1 ht t] (a d : HCase) (va vd : Value) (ha hd : PHeap) [ia : Arr va encI 1 ha a.load] [id : Arr vd encI 1 hd d.load] (m : Int) : Spec Try.prog 33 #[.agg #[vr, vw, vb, vc], vt, .agg #[va, .int .i64 a.out, .int .i64 a.pump, vd, .int .i64 d.out, .int .i64 d.pump], .int .i64 m] [] [hr, hw, hb, hc, ht, ha, hd]
    (fun v hs => v = .tuple #[.int .i64 (rideG h t a d m).1, .int .i64 (rideG h t a d m).2.1, .int .i64 (rideG h t a d m).2.2] ∧ hs = []) := by
  refine Spec.intro (fn := Try.f33) (N := 56) Try.func33 rfl Try.ntmps33 rfl fun B => ?_
  refine XK.seq (XK.region rfl ?_)
  refine XO.box rfl fun b4 => ?_
  refine XO.box rfl fun b6 => ?_
  refine XO.alloc fun b8 => ?_
  refine XO.alloc fun b9 => ?_
  refine XO.alloc fun b10 => ?_
  refine XO.done (XK.seq (XK.seq (XK.region rfl ?_)))
  refine XO.q (Q.ldA [_, _, _, _] rfl rfl rfl) ?_
  refine XO.q (Q.ldA [_, _, _, _, _, _] rfl rfl rfl) ?_
  refine XO.call Try.call69 rfl rfl rfl (Classed_spec h vr vw vb vc hr hw hb hc a d va vd ha hd [] (.slice none 0 0) hr hr (il := Arr.nil (fun _ => rfl)) (by simp) (fun i hi => absurd hi (Nat.not_lt_zero i))) fun v19 s19 R19 => ?_
  obtain ⟨rfl, rfl⟩ := R19
  dsimp only [lcA, lnA]
  rw [List.map_nil]
  refine XO.q (Q.assign rfl) (XO.done (XK.seq (XK.region rfl (XO.q (Q.move rfl) ?_))))
  refine XO.q (Q.neq rfl rfl) ?_
  refine XO.done ?_
  refine XK.if rfl (fun c0 => ?_) (fun c0 => ?_)
  · skip
    refine XK.seq (XK.region rfl (XO.q (Q.move rfl) ?_))
    refine XO.st rfl rfl rfl ?_
    refine XO.st rfl rfl rfl ?_
    refine XO.st rfl rfl rfl ?_
    refine XO.done ?_
    refine XK.rt [] Try.func33 Try.results33 (.cell1 rfl rfl (.cell1 rfl rfl (.cell1 rfl rfl (.n)))) ?_
    exact ⟨by rw [rideG, if_pos c0], rfl⟩
  · skip
    refine XK.skip (XK.seq (XK.seq (XK.region rfl ?_)))
    refine XO.q (Q.ldA [_, _, _, _] rfl rfl rfl) ?_
    refine XO.q (Q.move rfl) ?_
    refine XO.call Try.call41 rfl rfl rfl (warm_spec h vr vw vb vc hr vt ht t) fun v25 s25 R25 => ?_
    obtain ⟨rfl, rfl⟩ := R25
    dsimp only [lcA, lnA]
    refine XO.q (Q.assign rfl) (XO.done (XK.seq (XK.region rfl (XO.q (Q.move rfl) ?_))))
    refine XO.q (Q.neq rfl rfl) ?_
    refine XO.done ?_
    refine XK.if rfl (fun c1 => ?_) (fun c1 => ?_)
    · skip
      refine XK.seq (XK.region rfl (XO.q (Q.move rfl) ?_))
      refine XO.st rfl rfl rfl ?_
      refine XO.st rfl rfl rfl ?_
      refine XO.st rfl rfl rfl ?_
      refine XO.done ?_
      refine XK.rt [] Try.func33 Try.results33 (.cell1 rfl rfl (.cell1 rfl rfl (.cell1 rfl rfl (.n)))) ?_
      exact ⟨by rw [rideG, if_neg c0, if_pos c1], rfl⟩
    · skip
      obtain ⟨ok0, oka, okd, _, _⟩ := classed_ok (Decidable.of_not_not c0)
      have okt : TOk h t := warm_ok (Decidable.of_not_not c1)
      refine XK.skip (XK.seq (XK.seq (XK.region rfl (XO.q (Q.move rfl) ?_))))
      refine XO.call Try.call37 rfl rfl rfl (in_spec _ _) fun v30 s30 R30 => ?_
      obtain ⟨rfl, rfl⟩ := R30
      dsimp only [lcA, lnA]
      refine XO.q (Q.not rfl) ?_
      refine XO.done ?_
      refine XK.if rfl (fun c2 => ?_) (fun c2 => ?_)
      · skip
        refine XK.seq (XK.region rfl ?_)
        refine XO.st rfl rfl rfl ?_
        refine XO.st rfl rfl rfl ?_
        refine XO.st rfl rfl rfl ?_
        refine XO.done ?_
        refine XK.rt [] Try.func33 Try.results33 (.cell1 rfl rfl (.cell1 rfl rfl (.cell1 rfl rfl (.n)))) ?_
        exact ⟨by rw [rideG, if_neg c0, if_neg c1, if_pos c2], rfl⟩
      · skip
        obtain ⟨hm0, hm1⟩ := inP_le (Decidable.of_not_not c2)
        obtain ⟨N, eN⟩ : ∃ N : Nat, m = N := ⟨m.toNat, by omega⟩
        subst eN
        have hw0 : rideG h t a d N = ((rideL h d N 0 t).1, (rideL h d N 0 t).2, 0) := by rw [rideG, if_neg c0, if_neg c1, if_neg c2, Int.toNat_natCast]
        rw [hw0]
        dsimp only
        refine XK.skip (XK.seq (XK.seq (XK.region rfl ?_)))
        refine XO.q (Q.ldA [_, _, _, _] rfl rfl rfl) ?_
        refine XO.q (Q.move rfl) ?_
        refine XO.call Try.call71 rfl rfl rfl (hot_spec h vr vw vb vc hr hw hb hc t vt ht (by rw [okt.len]; exact Nat.le_refl _)) fun v34 s34 R34 => ?_
        obtain ⟨rfl, rfl⟩ := R34
        dsimp only [lcA, lnA]
        refine XO.q (Q.assign rfl) (XO.done (XK.seq (XK.region rfl (XO.q (Q.move rfl) ?_))))
        refine XO.q (Q.geq rfl rfl) ?_
        refine XO.done ?_
        refine XK.if rfl (fun c3 => ?_) (fun c3 => ?_)
        · skip
          refine XK.seq (XK.region rfl (XO.q (Q.move rfl) ?_))
          refine XO.st rfl rfl rfl ?_
          refine XO.st rfl rfl rfl ?_
          refine XO.st rfl rfl rfl ?_
          refine XO.done ?_
          refine XK.rt [] Try.func33 Try.results33 (.cell1 rfl rfl (.cell1 rfl rfl (.cell1 rfl rfl (.n)))) ?_
          exact ⟨by rw [rideL_hot c3]; rfl, rfl⟩
        · skip
          refine XK.skip (XK.seq (XK.seq ?_))
          refine XK.drawn [0, 1, 2, 3, 4] [b4, b6] [] (.q 0 (.q 1 (.q 2 (.q 3 (.q 4 (.br 5 true (.br 6 true .done .stop) .stop)))))) Try.mixed rfl (by kernel_rfl) ?_
          refine XT.q rfl rfl (Q.ldA [_, _, _, _] rfl rfl rfl) ?_
          refine XT.q rfl rfl (Q.move rfl) ?_
          refine XT.q rfl rfl (Q.move rfl) ?_
          refine XT.q rfl rfl (Q.fieldAddr rfl) ?_
          refine XT.q rfl rfl (Q.ldA [_, _, _] rfl rfl rfl) ?_
          refine XT.call rfl rfl Try.call46 rfl rfl rfl (always_spec d vd) (fun v43 s43 R43 => ?_) XT.stop
          obtain ⟨bC43, rfl, oneF43, ofC43⟩ := R43
          dsimp only [lcA, lnA]
          refine ⟨inferInstance, ?_⟩
          refine XT.call rfl rfl Try.call45 rfl rfl rfl (seconds_spec h vr vw vb vc hr hw hb hc (hcheck_ok ok0) (fun _ => d) N (by omega) t vt ht okt (fun _ _ => okd) (fun _ => vd) hd (fun _ _ => inferInstance) v43 (blk bC43 [vd, .int .i64 d.out, .int .i64 d.pump] 43) (blk bC43 [vd, .int .i64 d.out, .int .i64 d.pump] 43) (ofC43 N).two) (fun v44 s44 R44 => ?_) XT.stop
          obtain ⟨k441, k442, k443, k444, rfl, hit44⟩ := R44
          dsimp only [lcA, lnA]
          refine ⟨inferInstance, ?_⟩
          refine XT.done ?_
          refine XK.block ?_
          refine XK.rangeK (X := Value × Value × Value) (ps := [45, 46]) (fun ⟨v8, v9, v10⟩ => [blk b8 [v8] 3, blk b9 [v9] 3, blk b10 [v10] 32]) (fun i ⟨v8, v9, v10⟩ K0 => rideL h d N 0 t = rideL h d (N - i) i (iterT h (fun _ => d) t i) ∧ ¬ 0 ≤ hotP h (iterT h (fun _ => d) t i)) (fun j0 ⟨v8, v9, v10⟩ K0 => j0 = Code.ret ∧ v8 = .int .i64 (rideL h d N 0 t).1 ∧ v9 = .int .i64 (rideL h d N 0 t).2 ∧ v10 = .int .i64 0) (.int .i64 0, .int .i64 0, .int .i64 0) [blk b8 [.int .i64 0] 3, blk b9 [.int .i64 0] 3, blk b10 [.int .i64 0] 32] rfl (hit44) rfl (fun i x K K' hle hI => hI) (⟨rfl, c3⟩) rfl (fun i K vs hY => by obtain ⟨sl, rfl, _⟩ := hY; rfl) ?_ ?_ ?_
          · rintro lq rec B' i ⟨v8, v9, v10⟩ K0 vs hi ⟨v46, rfl, a46⟩ ⟨hrd, hnh⟩
            dsimp only [lcA, lnA]
            have hst : rideL h d N 0 t = rideL h d (N - (i + 1)) (i + 1) (iterT h (fun _ => d) t (i + 1)) := by rw [hrd, show N - i = (N - (i + 1)) + 1 by omega, rideL_go hnh]; rfl
            refine XK.seq (XK.region rfl (XO.q (Q.assign rfl) (XO.done (XK.region rfl (XO.q (Q.assign rfl) ?_)))))
            refine XO.done ?_
            refine XK.beginRound ?_
            refine XK.block (XK.seq (XK.region rfl ?_))
            refine XO.q (Q.ldA [_, _, _, _] rfl rfl rfl) ?_
            refine XO.q (Q.move rfl) ?_
            refine XO.call Try.call71 rfl rfl rfl (hot_spec h vr vw vb vc hr hw hb hc (iterT h (fun _ => d) t (i + 1)) v46 K0 (by rw [iter_len okt.len]; exact Nat.le_refl _)) fun v49 s49 R49 => ?_
            obtain ⟨rfl, rfl⟩ := R49
            dsimp only [lcA, lnA]
            refine XO.q (Q.assign rfl) (XO.done (XK.seq (XK.region rfl (XO.q (Q.move rfl) ?_))))
            refine XO.q (Q.geq rfl rfl) ?_
            refine XO.done ?_
            refine XK.if rfl (fun c4 => ?_) (fun c4 => ?_)
            · skip
              refine XK.seq (XK.region rfl (XO.q (Q.move rfl) (XO.q (Q.move rfl) ?_)))
              refine XO.st rfl rfl rfl ?_
              refine XO.st rfl rfl rfl ?_
              refine XO.st rfl rfl rfl ?_
              refine XO.done ?_
              have hh : rideL h d N 0 t = (((i + 1 : Nat) : Int), hotP h (iterT h (fun _ => d) t (i + 1))) := by rw [hst, rideL_hot c4]
              exact XK.leave (j := some .ret) [blk b8 [.int .i64 ((i : Int) + 1)] 3, blk b9 [.int .i64 (hotP h (iterT h (fun _ => d) t (i + 1)))] 3, blk b10 [.int .i64 0] 32] trivial ⟨(.int .i64 ((i : Int) + 1), .int .i64 (hotP h (iterT h (fun _ => d) t (i + 1))), .int .i64 0), ⟨rfl, ⟨by rw [hh]; rfl, by rw [hh], rfl⟩⟩, rfl⟩
            · skip
              refine XK.skip ?_
              refine XK.inBlock ?_
              exact XK.leave (j := none) [blk b8 [v8] 3, blk b9 [v9] 3, blk b10 [v10] 32] trivial ⟨(v8, v9, v10), ⟨hst, c4⟩, rfl⟩
          · rintro ⟨v8, v9, v10⟩ K0 ⟨hrd, hnh⟩
            dsimp only [lcA, lnA]
            refine XK.inBlock ?_
            refine XK.seq (XK.region rfl (XO.q (Q.move rfl) ?_))
            refine XO.q (Q.add rfl rfl ⟨by omega, by omega⟩) ?_
            refine XO.st rfl rfl rfl ?_
            refine XO.st rfl rfl rfl ?_
            refine XO.st rfl rfl rfl ?_
            refine XO.done ?_
            refine XK.rt [] Try.func33 Try.results33 (.cell1 rfl rfl (.cell1 rfl rfl (.cell1 rfl rfl (.n)))) ?_
            exact ⟨by rw [hrd, Nat.sub_self, rideL_end hnh], rfl⟩
          · rintro _ ⟨v8, v9, v10⟩ K0 ⟨rfl, ⟨rfl, rfl, rfl⟩⟩
            dsimp only [lcA, lnA]
            refine XK.rt [] Try.func33 Try.results33 (.cell1 rfl rfl (.cell1 rfl rfl (.cell1 rfl rfl (.n)))) ?_
            exact ⟨rfl, rfl⟩
end Go.X

set_option linter.unusedSimpArgs false
set_option linter.unusedVariables false
set_option maxRecDepth 20000
namespace Go.X
open Go.Proofs
theorem rin_spec (n a b : Int) : Spec Try.prog 84 #[.int .i64 n, .int .i64 a, .int .i64 b] [] [] (fun v hs => v = .bool (inR n a b) ∧ hs = []) := by
  refine Spec.intro (fn := Try.f84) (N := 15) Try.func84 rfl Try.ntmps84 rfl fun B => ?_
  refine XK.seq (XK.region rfl (XO.q (Q.assign rfl) (XO.done (XK.seq (XK.region rfl ?_)))))
  refine XO.q (Q.move rfl) (XO.q (Q.move rfl) ?_)
  refine XO.q (Q.geq rfl rfl) ?_
  refine XO.q (Q.move rfl) ?_
  refine XO.q (Quiet.guardT rfl rfl fun g11 p11 => Q.move rfl) ?_
  refine XO.q (Quiet.guardT rfl rfl fun g12 p12 => Q.move rfl) ?_
  refine XO.q (Quiet.guardT rfl rfl fun g13 p13 => Q.leq (lzv g13 rfl) (lzv g13 rfl)) ?_
  refine XO.q (Q.and rfl (fun hp => lzv hp rfl)) ?_
  refine XO.q (Q.assign rfl) (XO.done ?_)
  refine XK.rt [] Try.func84 Try.results84 (.t rfl .n) ?_
  exact ⟨rfl, rfl⟩
theorem many_r {h : Hall} : (((¬ inR (h.rooms.length : Int) 1 8 = true ∨ 16 < (h.walls.length : Int)) ∨ 16 < (h.branches.length : Int)) ∨ 16 < (h.coolers.length : Int)) ↔ (((((h.rooms.length : Int) < 1 ∨ 8 < (h.rooms.length : Int)) ∨ 16 < (h.walls.length : Int)) ∨ 16 < (h.branches.length : Int)) ∨ 16 < (h.coolers.length : Int)) := by
  rw [inR_true]
  omega
theorem rooms_bad {h : Hall} {i : Nat} (hi : i < h.rooms.length) (hb : ¬ okRoom (h.rooms.getD i default) = true) : allowedP h = false := by
  have : roomsOk h h.rooms.length = false := allTo_false (s := i) hi (Bool.eq_false_iff.2 hb)
  simp [allowedP, this]
theorem walls_bad {h : Hall} {i : Nat} (hi : i < h.walls.length) (hb : ¬ okWall h.rooms.length (h.walls.getD i default) = true) : allowedP h = false := by
  have : wallsOk h h.walls.length = false := allTo_false (s := i) hi (Bool.eq_false_iff.2 hb)
  simp [allowedP, this]
theorem branches_bad {h : Hall} {i : Nat} (hi : i < h.branches.length) (hb : ¬ okBranch i (h.branches.getD i default) = true) : allowedP h = false := by
  have : branchesOk h h.branches.length = false := allTo_false (s := i) hi (Bool.eq_false_iff.2 hb)
  simp [allowedP, this]
theorem coolers_bad {h : Hall} {i : Nat} (hi : i < h.coolers.length) (hb : ¬ okCooler h.rooms.length h.branches.length (h.coolers.getD i default) = true) : allowedP h = false := by
  have : coolersOk h h.coolers.length = false := allTo_false (s := i) hi (Bool.eq_false_iff.2 hb)
  simp [allowedP, this]
theorem slopes_bad {h : Hall} {sl : List Int} (s : SlopesTo h h.walls.length h.coolers.length sl) {i : Nat} (hi : i < h.rooms.length) (hb : (h.rooms.getD i default).store < sl.getD i default) : allTo (fun i => decide (slope h i ≤ (h.rooms.getD i default).store)) h.rooms.length = false :=
  allTo_false (s := i) hi (by
    rw [decide_eq_false_iff_not]
    have e := s.2 i hi
    change sl.getD i default = slope h i at e
    omega)
theorem slopes_step {h : Hall} {sl : List Int} (s : SlopesTo h h.walls.length h.coolers.length sl) {i : Nat} (hi : i < h.rooms.length) (ha : allTo (fun i => decide (slope h i ≤ (h.rooms.getD i default).store)) i = true) (hb : ¬ (h.rooms.getD i default).store < sl.getD i default) : allTo (fun i => decide (slope h i ≤ (h.rooms.getD i default).store)) (i + 1) = true := by
  rw [allTo_succ, ha, Bool.true_and, decide_eq_true_eq]
  have e := s.2 i hi
  change sl.getD i default = slope h i at e
  omega
theorem rCheck_spec (h : Hall) (vr vw vb vc : Value) (hr hw hb hc : PHeap) [ir : Arr vr encRoom 2 hr h.rooms] [iw : Arr vw encWall 3 hw h.walls] [ib : Arr vb encBranch 3 hb h.branches] [ic : Arr vc encCooler 5 hc h.coolers] : Spec Try.prog 55 #[.agg #[vr, vw, vb, vc]] [] [hr, hw, hb, hc] (fun v hs => v = .int .i64 (hcheck h) ∧ hs = []) := by
  have lr := ir.le
  have lw := iw.le
  have lb := ib.le
  have lc := ic.le
  refine Spec.intro (fn := Try.f55) (N := 245) Try.func55 rfl Try.ntmps55 rfl fun B => ?_
  refine XK.seq (XK.region rfl ?_)
  refine XO.box rfl fun b1 => ?_
  refine XO.q (Q.assign rfl) (XO.done (XK.seq (XK.region rfl ?_)))
  refine XO.q (Q.fieldAddr rfl) ?_
  refine XO.q (Q.ld rfl rfl) ?_
  refine XO.len rfl fun l15 => ?_
  refine XO.q (Q.assign rfl) (XO.done (XK.seq (XK.seq (XK.region rfl (XO.q (Q.move rfl) ?_)))))
  refine XO.call Try.call84 rfl rfl rfl (rin_spec _ _ _) fun v17 s17 R17 => ?_
  obtain ⟨rfl, rfl⟩ := R17
  dsimp only [lcA, lnA]
  refine XO.q (Q.not rfl) ?_
  refine XO.q (Q.move rfl) ?_
  refine XO.q (Quiet.guardF rfl rfl fun g20 p20 => Q.fieldAddr rfl) ?_
  refine XO.q (Quiet.guardF rfl rfl fun g21 p21 => Q.ld (lzv g21 rfl) rfl) ?_
  refine XO.q (Quiet.guardF rfl rfl fun g22 p22 => Q.len (lzv g22 rfl)) ?_
  refine XO.q (Quiet.guardF rfl rfl fun g23 p23 => Q.gtr (lzv g23 rfl) rfl) ?_
  refine XO.q (Q.or rfl (fun hp => lzv hp rfl)) ?_
  refine XO.q (Q.move rfl) ?_
  refine XO.q (Quiet.guardF rfl rfl fun g26 p26 => Q.fieldAddr rfl) ?_
  refine XO.q (Quiet.guardF rfl rfl fun g27 p27 => Q.ld (lzv g27 rfl) rfl) ?_
  refine XO.q (Quiet.guardF rfl rfl fun g28 p28 => Q.len (lzv g28 rfl)) ?_
  refine XO.q (Quiet.guardF rfl rfl fun g29 p29 => Q.gtr (lzv g29 rfl) rfl) ?_
  refine XO.q (Q.or rfl (fun hp => lzv hp rfl)) ?_
  refine XO.q (Q.move rfl) ?_
  refine XO.q (Quiet.guardF rfl rfl fun g32 p32 => Q.fieldAddr rfl) ?_
  refine XO.q (Quiet.guardF rfl rfl fun g33 p33 => Q.ld (lzv g33 rfl) rfl) ?_
  refine XO.q (Quiet.guardF rfl rfl fun g34 p34 => Q.len (lzv g34 rfl)) ?_
  refine XO.q (Quiet.guardF rfl rfl fun g35 p35 => Q.gtr (lzv g35 rfl) rfl) ?_
  refine XO.q (Q.or rfl (fun hp => lzv hp rfl)) ?_
  refine XO.done ?_
  refine XK.if rfl (fun c0 => ?_) (fun c0 => ?_)
  · skip
    refine XK.seq (XK.region rfl (XO.q (Q.assign rfl) (XO.done ?_)))
    refine XK.rt [] Try.func55 Try.results55 (.t rfl .n) ?_
    exact ⟨by rw [hcheck_many (many_r.1 c0)], rfl⟩
  · skip
    have hm : ¬ (((((h.rooms.length : Int) < 1 ∨ 8 < (h.rooms.length : Int)) ∨ 16 < (h.walls.length : Int)) ∨ 16 < (h.branches.length : Int)) ∨ 16 < (h.coolers.length : Int)) := fun hx => c0 (many_r.2 hx)
    clear c0
    refine XK.skip (XK.seq (XK.region rfl (XO.q (Q.move rfl) ?_)))
    refine XO.make encI (0) rfl rfl rfl (by omega) (by omega) (fun _ => rfl) rfl rfl rfl (by dsimp only [encI]; infer_instance) fun v38 h38 O38 => ?_
    refine XO.q (Q.assign rfl) (XO.done (XK.seq (XK.seq (XK.region rfl (XO.q (Q.assign rfl) ?_)))))
    refine XO.done (XK.block ?_)
    refine XK.while (X := Nat) [2, 5, 39, 40, 41, 42, 43, 44, 45, 46, 47, 48, 49, 50, 51, 52, 53, 54, 55, 56, 57, 58, 59, 60, 61] (fun i => [(5, some (.int .i64 (i : Nat)))]) (fun i => []) (fun i => i ≤ h.rooms.length ∧ roomsOk h i = true) (fun i => h.rooms.length - i) (0) [] rfl ⟨by omega, rfl⟩ (.c rfl (.base 0 rfl rfl)) ?_
    rintro i ⟨hi, hall⟩ ih0
    dsimp only [lcA, lnA] at ih0 ⊢
    refine XK.seq (XK.seq (XK.region rfl (XO.q (Q.move rfl) (XO.q (Q.move rfl) ?_))))
    refine XO.q (Q.lss rfl rfl) ?_
    refine XO.done ?_
    refine XK.if rfl (fun c1 => ?_) (fun c1 => ?_)
    · skip
      refine XK.skip (XK.seq (XK.block (XK.seq (XK.region rfl ?_))))
      refine XO.q (Q.fieldAddr rfl) ?_
      refine XO.q (Q.ld rfl rfl) ?_
      refine XO.q (Q.move rfl) ?_
      refine XO.ix rfl rfl (by omega) (by omega) fun i47 => ?_
      refine XO.q (Q.fieldQ rfl (by first | assumption | omega)) ?_
      refine XO.q (Q.ldE rfl (by first | assumption | omega) rfl) ?_
      refine XO.call Try.call84 rfl rfl rfl (rin_spec _ _ _) fun v50 s50 R50 => ?_
      obtain ⟨rfl, rfl⟩ := R50
      dsimp only [lcA, lnA]
      refine XO.q (Q.not rfl) ?_
      refine XO.q (Q.move rfl) ?_
      refine XO.q (Quiet.guardF rfl rfl fun g53 p53 => Q.fieldAddr rfl) ?_
      refine XO.q (Quiet.guardF rfl rfl fun g54 p54 => Q.ld (lzv g54 rfl) rfl) ?_
      refine XO.q (Quiet.guardF rfl rfl fun g55 p55 => Q.move rfl) ?_
      refine XO.q (Quiet.guardF rfl rfl fun g56 p56 => Q.ix (lzv g56 rfl) (lzv g56 rfl) (by omega) (by omega)) ?_
      refine XO.q (Quiet.guardF rfl rfl fun g57 p57 => Q.fieldQ (lzv g57 rfl) (by first | assumption | omega)) ?_
      refine XO.q (Quiet.guardF rfl rfl fun g58 p58 => Q.ldE (lzv g58 rfl) (by first | assumption | omega) rfl) ?_
      refine XO.gcallF rfl rfl Try.call84 rfl (fun g59 => .c (lzv g59 rfl) (.c rfl (.c rfl .n))) rfl (fun g59 p59 => rin_spec _ _ _) ?_
      refine XO.q (Quiet.guardF rfl rfl fun g60 p60 => Q.not (lzv g60 rfl)) ?_
      refine XO.q (Q.or rfl (fun hp => lzv hp rfl)) ?_
      refine XO.done ?_
      refine XK.if rfl (fun c2 => ?_) (fun c2 => ?_)
      · skip
        refine XK.seq (XK.region rfl (XO.q (Q.assign rfl) (XO.done ?_)))
        refine XK.rt [] Try.func55 Try.results55 (.t rfl .n) ?_
        exact ⟨by rw [hcheck_range hm (rooms_bad (i := i) (by omega) (fun hx => okRoom_r.1 hx c2))], rfl⟩
      · skip
        have hok := okRoom_r.2 c2
        have hw1 : roomsOk h (i + 1) = true := by
          rw [roomsOk, allTo_succ]; rw [roomsOk] at hall; rw [hall, Bool.true_and]; exact hok
        refine XK.skip ?_
        refine XK.inBlock ?_
        refine XK.region rfl (XO.q (Q.move rfl) ?_)
        refine XO.q (Q.add rfl rfl ⟨by omega, by omega⟩) ?_
        refine XO.q (Q.assign rfl) (XO.done ?_)
        exact ih0 (i + 1) _ _ ⟨by omega, hw1⟩ (by first | omega | (dsimp only; omega)) (.c rfl (.base 50 rfl rfl)) inferInstance
    · skip
      have e1 : roomsOk h h.rooms.length = true := by rw [show h.rooms.length = i by omega]; exact hall
      clear ih0 hall hi c1
      refine XK.exit rfl ?_
      refine XK.seq (XK.seq (XK.region rfl (XO.q (Q.assign rfl) (XO.done (XK.block ?_)))))
      refine XK.while (X := Nat × PHeap × List Int) [2, 6, 7, 62, 63, 64, 65, 66, 67, 68, 69, 70, 71, 72, 73, 74, 75, 76, 77, 78, 79, 80, 81, 82, 83, 84, 85, 86, 87, 88, 89, 90, 91, 92, 93, 94, 95, 96, 97, 98, 99, 100, 101, 102, 103, 104, 105, 106, 107, 108, 109, 110, 111, 112, 113, 114, 115, 116, 117, 118, 119, 120, 121, 122, 123, 124, 125, 126, 127] (fun ⟨i, hz, sl⟩ => [(6, some (.int .i64 (i : Nat)))]) (fun ⟨i, hz, sl⟩ => [hz]) (fun ⟨i, hz, sl⟩ => i ≤ h.walls.length ∧ wallsOk h i = true ∧ SlopesTo h i 0 sl ∧ OArr v38 encI 1 3 hz sl) (fun ⟨i, hz, sl⟩ => h.walls.length - i) (0, h38, _) [h38] rfl ⟨by first | omega | (dsimp only; omega), rfl, SlopesTo.start h, O38⟩ (.c rfl (.base 0 rfl rfl)) ?_
      rintro ⟨i, hz, sl⟩ ⟨hi, hall, hs, OS⟩ ih1
      dsimp only [lcA, lnA] at ih1 ⊢
      refine XK.seq (XK.seq (XK.region rfl (XO.q (Q.move rfl) ?_)))
      refine XO.q (Q.fieldAddr rfl) ?_
      refine XO.q (Q.ld rfl rfl) ?_
      refine XO.len rfl fun l65 => ?_
      refine XO.q (Q.lss rfl rfl) ?_
      refine XO.done ?_
      refine XK.if rfl (fun c3 => ?_) (fun c3 => ?_)
      · skip
        refine XK.skip (XK.seq (XK.block (XK.seq (XK.region rfl ?_))))
        refine XO.q (Q.fieldAddr rfl) ?_
        refine XO.q (Q.ld rfl rfl) ?_
        refine XO.q (Q.move rfl) ?_
        refine XO.ix rfl rfl (by omega) (by omega) fun i72 => ?_
        refine XO.q (Q.ldEA [_, _, _] rfl (by first | assumption | omega) rfl rfl) ?_
        refine XO.alloc fun b7 => ?_
        refine XO.st rfl rfl rfl ?_
        refine XO.done (XK.seq (XK.seq (XK.region rfl ?_)))
        refine XO.q (Q.fieldAddr rfl) ?_
        refine XO.q (Q.ld rfl rfl) ?_
        refine XO.q (Q.move rfl) ?_
        refine XO.q (Q.sub rfl rfl ⟨by omega, by omega⟩) ?_
        refine XO.call Try.call84 rfl rfl rfl (rin_spec _ _ _) fun v78 s78 R78 => ?_
        obtain ⟨rfl, rfl⟩ := R78
        dsimp only [lcA, lnA]
        refine XO.q (Q.not rfl) ?_
        refine XO.q (Q.move rfl) ?_
        refine XO.q (Quiet.guardF rfl rfl fun g81 p81 => Q.fieldAddr rfl) ?_
        refine XO.q (Quiet.guardF rfl rfl fun g82 p82 => Q.ld (lzv g82 rfl) rfl) ?_
        refine XO.q (Quiet.guardF rfl rfl fun g83 p83 => Q.move rfl) ?_
        refine XO.q (Quiet.guardF rfl rfl fun g84 p84 => Q.sub (lzv g84 rfl) rfl ⟨by omega, by omega⟩) ?_
        refine XO.gcallF rfl rfl Try.call84 rfl (fun g85 => .c (lzv g85 rfl) (.c rfl (.c (lzv g85 rfl) .n))) rfl (fun g85 p85 => rin_spec _ _ _) ?_
        refine XO.q (Quiet.guardF rfl rfl fun g86 p86 => Q.not (lzv g86 rfl)) ?_
        refine XO.q (Q.or rfl (fun hp => lzv hp rfl)) ?_
        refine XO.q (Q.move rfl) ?_
        refine XO.q (Quiet.guardF rfl rfl fun g89 p89 => Q.fieldAddr rfl) ?_
        refine XO.q (Quiet.guardF rfl rfl fun g90 p90 => Q.ld (lzv g90 rfl) rfl) ?_
        refine XO.q (Quiet.guardF rfl rfl fun g91 p91 => Q.fieldAddr rfl) ?_
        refine XO.q (Quiet.guardF rfl rfl fun g92 p92 => Q.ld (lzv g92 rfl) rfl) ?_
        refine XO.q (Quiet.guardF rfl rfl fun g93 p93 => Q.eql (lzv g93 rfl) (lzv g93 rfl)) ?_
        refine XO.q (Q.or rfl (fun hp => lzv hp rfl)) ?_
        refine XO.q (Q.move rfl) ?_
        refine XO.q (Quiet.guardF rfl rfl fun g96 p96 => Q.fieldAddr rfl) ?_
        refine XO.q (Quiet.guardF rfl rfl fun g97 p97 => Q.ld (lzv g97 rfl) rfl) ?_
        refine XO.gcallF rfl rfl Try.call84 rfl (fun g98 => .c (lzv g98 rfl) (.c rfl (.c rfl .n))) rfl (fun g98 p98 => rin_spec _ _ _) ?_
        refine XO.q (Quiet.guardF rfl rfl fun g99 p99 => Q.not (lzv g99 rfl)) ?_
        refine XO.q (Q.or rfl (fun hp => lzv hp rfl)) ?_
        refine XO.done ?_
        refine XK.if rfl (fun c4 => ?_) (fun c4 => ?_)
        · skip
          refine XK.seq (XK.region rfl (XO.q (Q.assign rfl) (XO.done ?_)))
          refine XK.rt [] Try.func55 Try.results55 (.t rfl .n) ?_
          exact ⟨by rw [hcheck_range hm (walls_bad (i := i) (by omega) (fun hx => okWall_r.1 hx c4))], rfl⟩
        · skip
          have hok := okWall_r.2 c4
          have hw1 : wallsOk h (i + 1) = true := by
            rw [wallsOk, allTo_succ]; rw [wallsOk] at hall; rw [hall, Bool.true_and]; exact hok
          have hwf := okWall_facts hok
          have hsl := hs.1
          have hr1 := fun j (hj : j < h.rooms.length) => hs.rng hall (show coolersOk h 0 = true from rfl) (by omega) (by omega) hj
          have hra := hr1 (h.walls.getD i default).a.toNat (by omega)
          refine XK.skip (XK.seq ?_)
          refine XK.drawn [0, 1, 2, 3, 4, 5, 6, 7, 8, 9, 10, 11] [b7] [hz] (.q 0 (.q 1 (.q 2 (.q 3 (.q 4 (.q 5 (.q 6 (.q 7 (.q 8 (.q 9 (.q 10 (.q 11 (.br 12 false .done .stop))))))))))))) Try.mixed rfl (by kernel_rfl) ?_
          refine XT.q rfl rfl (Q.move rfl) ?_
          refine XT.q rfl rfl (Q.fieldAddr rfl) ?_
          refine XT.q rfl rfl (Q.ld rfl rfl) ?_
          refine XT.q rfl rfl (Q.move rfl) ?_
          refine XT.q rfl rfl (Q.fieldAddr rfl) ?_
          refine XT.q rfl rfl (Q.ld rfl rfl) ?_
          refine XT.ix rfl rfl rfl rfl (by omega) (by omega) fun i107 => ?_
          refine XT.q rfl rfl (Q.ldE rfl (by first | assumption | omega) rfl) ?_
          refine XT.q rfl rfl (Q.fieldAddr rfl) ?_
          refine XT.q rfl rfl (Q.ld rfl rfl) ?_
          refine XT.q rfl rfl (Q.add rfl rfl ⟨by omega, by omega⟩) ?_
          refine XT.ix rfl rfl rfl rfl (by omega) (by omega) fun i112 => ?_
          refine XT.stE _ rfl rfl rfl rfl rfl (by assumption) rfl rfl (fun h16_12 O16_12 => ⟨inferInstance, ?_⟩) XT.stop
          refine XT.done ?_
          refine XK.seq (XK.region rfl ?_)
          refine XO.q (Q.fieldAddr rfl) ?_
          refine XO.q (Q.ld rfl rfl) ?_
          refine XO.q (Q.geq rfl rfl) ?_
          refine XO.done ?_
          refine XK.if rfl (fun c5 => ?_) (fun c5 => ?_)
          · skip
            have hsl2 : (sl.set (h.walls.getD i default).a.toNat (sl.getD (h.walls.getD i default).a.toNat default + (h.walls.getD i default).pass)).length = h.rooms.length := by rw [List.length_set]; exact hsl
            have hsw := hs.wall2 (a := (h.walls.getD i default).a.toNat) (b := (h.walls.getD i default).b.toNat) (by omega) (by omega) (by omega) (by omega) (by omega)
            have hrb : 0 ≤ (sl.set (h.walls.getD i default).a.toNat (sl.getD (h.walls.getD i default).a.toNat default + (h.walls.getD i default).pass)).getD (h.walls.getD i default).b.toNat default ∧ (sl.set (h.walls.getD i default).a.toNat (sl.getD (h.walls.getD i default).a.toNat default + (h.walls.getD i default).pass)).getD (h.walls.getD i default).b.toNat default ≤ 3200000 := by
              have g := set_getD (xs := sl) (i := (h.walls.getD i default).a.toNat) (j := (h.walls.getD i default).b.toNat) (v := sl.getD (h.walls.getD i default).a.toNat default + (h.walls.getD i default).pass) (by omega)
              rw [if_neg (by omega)] at g
              change _ = sl.getD _ default at g
              change (List.getD _ _ default) = _ at g
              rw [g]
              exact hr1 _ (by omega)
            refine XK.drawn [0, 1, 2, 3, 4, 5, 6, 7, 8, 9, 10, 11] [b7] [h16_12] (.q 0 (.q 1 (.q 2 (.q 3 (.q 4 (.q 5 (.q 6 (.q 7 (.q 8 (.q 9 (.q 10 (.q 11 (.br 12 false .done .stop))))))))))))) Try.mixed rfl (by kernel_rfl) ?_
            refine XT.q rfl rfl (Q.move rfl) ?_
            refine XT.q rfl rfl (Q.fieldAddr rfl) ?_
            refine XT.q rfl rfl (Q.ld rfl rfl) ?_
            refine XT.q rfl rfl (Q.move rfl) ?_
            refine XT.q rfl rfl (Q.fieldAddr rfl) ?_
            refine XT.q rfl rfl (Q.ld rfl rfl) ?_
            refine XT.ix rfl rfl rfl rfl (by omega) (by omega) fun i122 => ?_
            refine XT.q rfl rfl (Q.ldE rfl (by first | assumption | omega) rfl) ?_
            refine XT.q rfl rfl (Q.fieldAddr rfl) ?_
            refine XT.q rfl rfl (Q.ld rfl rfl) ?_
            refine XT.q rfl rfl (Q.add rfl rfl ⟨by omega, by omega⟩) ?_
            refine XT.ix rfl rfl rfl rfl (by omega) (by omega) fun i127 => ?_
            refine XT.stE _ rfl rfl rfl rfl rfl (by assumption) rfl rfl (fun h18_12 O18_12 => ⟨inferInstance, ?_⟩) XT.stop
            refine XT.done ?_
            refine XK.inBlock ?_
            refine XK.region rfl (XO.q (Q.move rfl) ?_)
            refine XO.q (Q.add rfl rfl ⟨by omega, by omega⟩) ?_
            refine XO.q (Q.assign rfl) (XO.done ?_)
            exact ih1 (i + 1, h18_12, _) _ _ ⟨by first | omega | (dsimp only; omega), hw1, hsw, O18_12⟩ (by first | omega | (dsimp only; omega)) (.c rfl (.base 138 rfl rfl)) inferInstance
          · skip
            have hsw := hs.wall1 (a := (h.walls.getD i default).a.toNat) (by omega) (by omega) (by omega)
            refine XK.skip ?_
            refine XK.inBlock ?_
            refine XK.region rfl (XO.q (Q.move rfl) ?_)
            refine XO.q (Q.add rfl rfl ⟨by omega, by omega⟩) ?_
            refine XO.q (Q.assign rfl) (XO.done ?_)
            exact ih1 (i + 1, h16_12, _) _ _ ⟨by first | omega | (dsimp only; omega), hw1, hsw, O16_12⟩ (by first | omega | (dsimp only; omega)) (.c rfl (.base 126 rfl rfl)) inferInstance
      · skip
        have hin : i = h.walls.length := by omega
        subst hin
        have e2 := hall
        clear ih1 hall hi c3
        refine XK.exit rfl ?_
        refine XK.seq (XK.seq (XK.region rfl (XO.q (Q.assign rfl) (XO.done (XK.block ?_)))))
        refine XK.while (X := Nat) [2, 8, 9, 128, 129, 130, 131, 132, 133, 134, 135, 136, 137, 138, 139, 140, 141, 142, 143, 144, 145, 146, 147, 148, 149, 150, 151, 152, 153, 154, 155, 156, 157, 158, 159, 160, 161, 162, 163, 164, 165, 166, 167, 168, 169, 170] (fun i => [(8, some (.int .i64 (i : Nat)))]) (fun i => []) (fun i => i ≤ h.branches.length ∧ branchesOk h i = true) (fun i => h.branches.length - i) (0) [] rfl ⟨by omega, rfl⟩ (.c rfl (.base 0 rfl rfl)) ?_
        rintro i ⟨hi, hall⟩ ih2
        dsimp only [lcA, lnA] at ih2 ⊢
        refine XK.seq (XK.seq (XK.region rfl (XO.q (Q.move rfl) ?_)))
        refine XO.q (Q.fieldAddr rfl) ?_
        refine XO.q (Q.ld rfl rfl) ?_
        refine XO.len rfl fun l131 => ?_
        refine XO.q (Q.lss rfl rfl) ?_
        refine XO.done ?_
        refine XK.if rfl (fun c6 => ?_) (fun c6 => ?_)
        · skip
          refine XK.skip (XK.seq (XK.block (XK.seq (XK.region rfl ?_))))
          refine XO.q (Q.fieldAddr rfl) ?_
          refine XO.q (Q.ld rfl rfl) ?_
          refine XO.q (Q.move rfl) ?_
          refine XO.ix rfl rfl (by omega) (by omega) fun i138 => ?_
          refine XO.q (Q.ldEA [_, _, _] rfl (by first | assumption | omega) rfl rfl) ?_
          refine XO.alloc fun b9 => ?_
          refine XO.st rfl rfl rfl ?_
          refine XO.done (XK.seq (XK.region rfl (XO.q (Q.move rfl) ?_)))
          refine XO.q (Q.eql rfl rfl) ?_
          refine XO.q (Q.move rfl) ?_
          refine XO.q (Quiet.guardT rfl rfl fun g143 p143 => Q.fieldAddr rfl) ?_
          refine XO.q (Quiet.guardT rfl rfl fun g144 p144 => Q.ld (lzv g144 rfl) rfl) ?_
          refine XO.q (Quiet.guardT rfl rfl fun g145 p145 => Q.neq (lzv g145 rfl) rfl) ?_
          refine XO.q (Q.and rfl (fun hp => lzv hp rfl)) ?_
          refine XO.q (Q.move rfl) ?_
          refine XO.q (Quiet.guardF rfl rfl fun g148 p148 => Q.move rfl) ?_
          refine XO.q (Quiet.guardF rfl rfl fun g149 p149 => Q.gtr (lzv g149 rfl) rfl) ?_
          refine XO.q (Quiet.guardF rfl rfl fun g150 p150 => Q.move (lzv g150 rfl)) ?_
          refine XO.q (Quiet.guard2 rfl rfl fun g151a g151b => have p151a := bpF g151a; have p151b := bpT g151b; Q.fieldAddr rfl) ?_
          refine XO.q (Quiet.guard2 rfl rfl fun g152a g152b => have p152a := bpF g152a; have p152b := bpT g152b; Q.ld (lzv g152b (lzv g152a rfl)) rfl) ?_
          refine XO.q (Quiet.guard2 rfl rfl fun g153a g153b => have p153a := bpF g153a; have p153b := bpT g153b; Q.move rfl) ?_
          refine XO.q (Quiet.guard2 rfl rfl fun g154a g154b => have p154a := bpF g154a; have p154b := bpT g154b; Q.sub (lzv g154b (lzv g154a rfl)) rfl ⟨by omega, by omega⟩) ?_
          refine XO.vg2 rfl rfl (fun g155a g155b => rfl) (fun g155a g155b => .c (lzv g155b (lzv g155a rfl)) (.c rfl (.c (lzv g155b (lzv g155a rfl)) .n))) (fun g155a g155b => have p155a := bpF g155a; have p155b := bpT g155b; VSpec.fn (P := Try.prog) Try.call84 rfl (rin_spec _ _ _)) ?_
          refine XO.q (Quiet.guard2 rfl rfl fun g156a g156b => have p156a := bpF g156a; have p156b := bpT g156b; Q.not (lzv g156b (lzv g156a rfl))) ?_
          refine XO.q (Quiet.guardF rfl rfl fun g157 p157 => Q.and (lzv g157 rfl) (fun hp => (lzv hp (lzv g157 rfl)))) ?_
          refine XO.q (Q.or rfl (fun hp => lzv hp rfl)) ?_
          refine XO.q (Q.move rfl) ?_
          refine XO.q (Quiet.guardF rfl rfl fun g160 p160 => Q.fieldAddr rfl) ?_
          refine XO.q (Quiet.guardF rfl rfl fun g161 p161 => Q.ld (lzv g161 rfl) rfl) ?_
          refine XO.gcallF rfl rfl Try.call84 rfl (fun g162 => .c (lzv g162 rfl) (.c rfl (.c rfl .n))) rfl (fun g162 p162 => rin_spec _ _ _) ?_
          refine XO.q (Quiet.guardF rfl rfl fun g163 p163 => Q.not (lzv g163 rfl)) ?_
          refine XO.q (Q.or rfl (fun hp => lzv hp rfl)) ?_
          refine XO.q (Q.move rfl) ?_
          refine XO.q (Quiet.guardF rfl rfl fun g166 p166 => Q.fieldAddr rfl) ?_
          refine XO.q (Quiet.guardF rfl rfl fun g167 p167 => Q.ld (lzv g167 rfl) rfl) ?_
          refine XO.gcallF rfl rfl Try.call84 rfl (fun g168 => .c (lzv g168 rfl) (.c rfl (.c rfl .n))) rfl (fun g168 p168 => rin_spec _ _ _) ?_
          refine XO.q (Quiet.guardF rfl rfl fun g169 p169 => Q.not (lzv g169 rfl)) ?_
          refine XO.q (Q.or rfl (fun hp => lzv hp rfl)) ?_
          refine XO.done ?_
          refine XK.if rfl (fun c7 => ?_) (fun c7 => ?_)
          · skip
            refine XK.seq (XK.region rfl (XO.q (Q.assign rfl) (XO.done ?_)))
            refine XK.rt [] Try.func55 Try.results55 (.t rfl .n) ?_
            exact ⟨by rw [hcheck_range hm (branches_bad (i := i) (by omega) (fun hx => okBranch_r.1 hx c7))], rfl⟩
          · skip
            have hok := okBranch_r.2 c7
            have hw1 : branchesOk h (i + 1) = true := by
              rw [branchesOk, allTo_succ]; rw [branchesOk] at hall; rw [hall, Bool.true_and]; exact hok
            refine XK.skip ?_
            refine XK.inBlock ?_
            refine XK.region rfl (XO.q (Q.move rfl) ?_)
            refine XO.q (Q.add rfl rfl ⟨by omega, by omega⟩) ?_
            refine XO.q (Q.assign rfl) (XO.done ?_)
            exact ih2 (i + 1) _ _ ⟨by omega, hw1⟩ (by first | omega | (dsimp only; omega)) (.c rfl (.base 92 rfl rfl)) inferInstance
        · skip
          have e3 : branchesOk h h.branches.length = true := by rw [show h.branches.length = i by omega]; exact hall
          clear ih2 hall hi c6
          refine XK.exit rfl ?_
          refine XK.seq (XK.seq (XK.region rfl (XO.q (Q.assign rfl) (XO.done (XK.block ?_)))))
          refine XK.while (X := Nat × PHeap × List Int) [2, 10, 11, 171, 172, 173, 174, 175, 176, 177, 178, 179, 180, 181, 182, 183, 184, 185, 186, 187, 188, 189, 190, 191, 192, 193, 194, 195, 196, 197, 198, 199, 200, 201, 202, 203, 204, 205, 206, 207, 208, 209, 210, 211, 212, 213, 214, 215, 216, 217, 218, 219, 220, 221, 222, 223, 224, 225, 226, 227, 228] (fun ⟨i, hz, sl⟩ => [(10, some (.int .i64 (i : Nat)))]) (fun ⟨i, hz, sl⟩ => [hz]) (fun ⟨i, hz, sl⟩ => i ≤ h.coolers.length ∧ coolersOk h i = true ∧ SlopesTo h h.walls.length i sl ∧ OArr v38 encI 1 3 hz sl) (fun ⟨i, hz, sl⟩ => h.coolers.length - i) (0, hz, sl) [hz] rfl ⟨by first | omega | (dsimp only; omega), rfl, hs, OS⟩ (.c rfl (.base 0 rfl rfl)) ?_
          rintro ⟨i, hz, sl⟩ ⟨hi, hall, hs, OS⟩ ih3
          dsimp only [lcA, lnA] at ih3 ⊢
          refine XK.seq (XK.seq (XK.region rfl (XO.q (Q.move rfl) ?_)))
          refine XO.q (Q.fieldAddr rfl) ?_
          refine XO.q (Q.ld rfl rfl) ?_
          refine XO.len rfl fun l174 => ?_
          refine XO.q (Q.lss rfl rfl) ?_
          refine XO.done ?_
          refine XK.if rfl (fun c8 => ?_) (fun c8 => ?_)
          · skip
            refine XK.skip (XK.seq (XK.block (XK.seq (XK.region rfl ?_))))
            refine XO.q (Q.fieldAddr rfl) ?_
            refine XO.q (Q.ld rfl rfl) ?_
            refine XO.q (Q.move rfl) ?_
            refine XO.ix rfl rfl (by omega) (by omega) fun i181 => ?_
            refine XO.q (Q.ldEA [_, _, _, _, _] rfl (by first | assumption | omega) rfl rfl) ?_
            refine XO.alloc fun b11 => ?_
            refine XO.st rfl rfl rfl ?_
            refine XO.done (XK.seq (XK.seq (XK.region rfl ?_)))
            refine XO.q (Q.fieldAddr rfl) ?_
            refine XO.q (Q.ld rfl rfl) ?_
            refine XO.q (Q.move rfl) ?_
            refine XO.q (Q.sub rfl rfl ⟨by omega, by omega⟩) ?_
            refine XO.call Try.call84 rfl rfl rfl (rin_spec _ _ _) fun v187 s187 R187 => ?_
            obtain ⟨rfl, rfl⟩ := R187
            dsimp only [lcA, lnA]
            refine XO.q (Q.not rfl) ?_
            refine XO.q (Q.move rfl) ?_
            refine XO.q (Quiet.guardF rfl rfl fun g190 p190 => Q.fieldAddr rfl) ?_
            refine XO.q (Quiet.guardF rfl rfl fun g191 p191 => Q.ld (lzv g191 rfl) rfl) ?_
            refine XO.q (Quiet.guardF rfl rfl fun g192 p192 => Q.fieldAddr rfl) ?_
            refine XO.q (Quiet.guardF rfl rfl fun g193 p193 => Q.ld (lzv g193 rfl) rfl) ?_
            refine XO.q (Quiet.guardF rfl rfl fun g194 p194 => Q.len (lzv g194 rfl)) ?_
            refine XO.q (Quiet.guardF rfl rfl fun g195 p195 => Q.sub (lzv g195 rfl) rfl ⟨by omega, by omega⟩) ?_
            refine XO.gcallF rfl rfl Try.call84 rfl (fun g196 => .c (lzv g196 rfl) (.c rfl (.c (lzv g196 rfl) .n))) rfl (fun g196 p196 => rin_spec _ _ _) ?_
            refine XO.q (Quiet.guardF rfl rfl fun g197 p197 => Q.not (lzv g197 rfl)) ?_
            refine XO.q (Q.or rfl (fun hp => lzv hp rfl)) ?_
            refine XO.q (Q.move rfl) ?_
            refine XO.q (Quiet.guardF rfl rfl fun g200 p200 => Q.fieldAddr rfl) ?_
            refine XO.q (Quiet.guardF rfl rfl fun g201 p201 => Q.ld (lzv g201 rfl) rfl) ?_
            refine XO.gcallF rfl rfl Try.call84 rfl (fun g202 => .c (lzv g202 rfl) (.c rfl (.c rfl .n))) rfl (fun g202 p202 => rin_spec _ _ _) ?_
            refine XO.q (Quiet.guardF rfl rfl fun g203 p203 => Q.not (lzv g203 rfl)) ?_
            refine XO.q (Q.or rfl (fun hp => lzv hp rfl)) ?_
            refine XO.q (Q.move rfl) ?_
            refine XO.q (Quiet.guardF rfl rfl fun g206 p206 => Q.fieldAddr rfl) ?_
            refine XO.q (Quiet.guardF rfl rfl fun g207 p207 => Q.ld (lzv g207 rfl) rfl) ?_
            refine XO.gcallF rfl rfl Try.call84 rfl (fun g208 => .c (lzv g208 rfl) (.c rfl (.c rfl .n))) rfl (fun g208 p208 => rin_spec _ _ _) ?_
            refine XO.q (Quiet.guardF rfl rfl fun g209 p209 => Q.not (lzv g209 rfl)) ?_
            refine XO.q (Q.or rfl (fun hp => lzv hp rfl)) ?_
            refine XO.q (Q.move rfl) ?_
            refine XO.q (Quiet.guardF rfl rfl fun g212 p212 => Q.fieldAddr rfl) ?_
            refine XO.q (Quiet.guardF rfl rfl fun g213 p213 => Q.ld (lzv g213 rfl) rfl) ?_
            refine XO.gcallF rfl rfl Try.call84 rfl (fun g214 => .c (lzv g214 rfl) (.c rfl (.c rfl .n))) rfl (fun g214 p214 => rin_spec _ _ _) ?_
            refine XO.q (Quiet.guardF rfl rfl fun g215 p215 => Q.not (lzv g215 rfl)) ?_
            refine XO.q (Q.or rfl (fun hp => lzv hp rfl)) ?_
            refine XO.done ?_
            refine XK.if rfl (fun c9 => ?_) (fun c9 => ?_)
            · skip
              refine XK.seq (XK.region rfl (XO.q (Q.assign rfl) (XO.done ?_)))
              refine XK.rt [] Try.func55 Try.results55 (.t rfl .n) ?_
              exact ⟨by rw [hcheck_range hm (coolers_bad (i := i) (by omega) (fun hx => okCooler_r.1 hx c9))], rfl⟩
            · skip
              have hok := okCooler_r.2 c9
              have hw1 : coolersOk h (i + 1) = true := by
                rw [coolersOk, allTo_succ]; rw [coolersOk] at hall; rw [hall, Bool.true_and]; exact hok
              have hwf := okCooler_facts hok
              have hsl := hs.1
              have hra := hs.rng e2 hall (by omega) (by omega) (i := (h.coolers.getD i default).room.toNat) (by omega)
              have hsw := hs.cooler (a := (h.coolers.getD i default).room.toNat) (by omega) (by omega)
              refine XK.skip ?_
              refine XK.drawn [0, 1, 2, 3, 4, 5, 6, 7, 8, 9, 10, 11] [b11] [hz] (.q 0 (.q 1 (.q 2 (.q 3 (.q 4 (.q 5 (.q 6 (.q 7 (.q 8 (.q 9 (.q 10 (.q 11 (.br 12 false .done .stop))))))))))))) Try.mixed rfl (by kernel_rfl) ?_
              refine XT.q rfl rfl (Q.move rfl) ?_
              refine XT.q rfl rfl (Q.fieldAddr rfl) ?_
              refine XT.q rfl rfl (Q.ld rfl rfl) ?_
              refine XT.q rfl rfl (Q.move rfl) ?_
              refine XT.q rfl rfl (Q.fieldAddr rfl) ?_
              refine XT.q rfl rfl (Q.ld rfl rfl) ?_
              refine XT.ix rfl rfl rfl rfl (by omega) (by omega) fun i223 => ?_
              refine XT.q rfl rfl (Q.ldE rfl (by first | assumption | omega) rfl) ?_
              refine XT.q rfl rfl (Q.fieldAddr rfl) ?_
              refine XT.q rfl rfl (Q.ld rfl rfl) ?_
              refine XT.q rfl rfl (Q.add rfl rfl ⟨by omega, by omega⟩) ?_
              refine XT.ix rfl rfl rfl rfl (by omega) (by omega) fun i228 => ?_
              refine XT.stE _ rfl rfl rfl rfl rfl (by assumption) rfl rfl (fun h31_12 O31_12 => ⟨inferInstance, ?_⟩) XT.stop
              refine XT.done ?_
              refine XK.inBlock ?_
              refine XK.region rfl (XO.q (Q.move rfl) ?_)
              refine XO.q (Q.add rfl rfl ⟨by omega, by omega⟩) ?_
              refine XO.q (Q.assign rfl) (XO.done ?_)
              exact ih3 (i + 1, h31_12, _) _ _ ⟨by first | omega | (dsimp only; omega), hw1, hsw, O31_12⟩ (by first | omega | (dsimp only; omega)) (.c rfl (.base 122 rfl rfl)) inferInstance
          · skip
            have hin : i = h.coolers.length := by omega
            subst hin
            have e4 := hall
            clear ih3 hall hi c8
            refine XK.exit rfl ?_
            refine XK.seq (XK.seq (XK.region rfl (XO.q (Q.assign rfl) (XO.done (XK.block ?_)))))
            refine XK.while (X := Nat) [2, 12, 229, 230, 231, 232, 233, 234, 235, 236, 237, 238, 239, 240, 241, 242, 243, 244] (fun i => [(12, some (.int .i64 (i : Nat)))]) (fun i => []) (fun i => i ≤ h.rooms.length ∧ allTo (fun i => decide (slope h i ≤ (h.rooms.getD i default).store)) i = true) (fun i => h.rooms.length - i) (0) [] rfl ⟨by omega, rfl⟩ (.c rfl (.base 0 rfl rfl)) ?_
            rintro i ⟨hi, hall⟩ ih4
            dsimp only [lcA, lnA] at ih4 ⊢
            refine XK.seq (XK.seq (XK.region rfl (XO.q (Q.move rfl) (XO.q (Q.move rfl) ?_))))
            refine XO.q (Q.lss rfl rfl) ?_
            refine XO.done ?_
            refine XK.if rfl (fun c10 => ?_) (fun c10 => ?_)
            · skip
              have hsl := hs.1
              refine XK.skip (XK.seq (XK.block (XK.seq ?_)))
              refine XK.drawn [0, 1, 2, 3, 4, 5, 6, 7, 8, 9, 10] [b1] [hz] (.q 0 (.q 1 (.q 2 (.q 3 (.q 4 (.q 5 (.q 6 (.q 7 (.q 8 (.q 9 (.q 10 .done))))))))))) Try.mixed rfl (by kernel_rfl) ?_
              refine XT.q rfl rfl (Q.move rfl) ?_
              refine XT.q rfl rfl (Q.move rfl) ?_
              refine XT.ix rfl rfl rfl rfl (by omega) (by omega) fun i236 => ?_
              refine XT.q rfl rfl (Q.ldE rfl (by first | assumption | omega) rfl) ?_
              refine XT.q rfl rfl (Q.fieldAddr rfl) ?_
              refine XT.q rfl rfl (Q.ld rfl rfl) ?_
              refine XT.q rfl rfl (Q.move rfl) ?_
              refine XT.ix rfl rfl rfl rfl (by omega) (by omega) fun i241 => ?_
              refine XT.q rfl rfl (Q.fieldQ rfl (by first | assumption | omega)) ?_
              refine XT.q rfl rfl (Q.ldE rfl (by first | assumption | omega) rfl) ?_
              refine XT.q rfl rfl (Q.gtr rfl rfl) ?_
              refine XT.done ?_
              refine XK.if rfl (fun c11 => ?_) (fun c11 => ?_)
              · skip
                refine XK.seq (XK.region rfl (XO.q (Q.assign rfl) (XO.done ?_)))
                refine XK.rt [] Try.func55 Try.results55 (.t rfl .n) ?_
                exact ⟨by rw [hcheck_rest hm e1 e2 e3 e4, slopes_bad hs (by omega) c11]; rfl, rfl⟩
              · skip
                refine XK.skip ?_
                refine XK.inBlock ?_
                refine XK.region rfl (XO.q (Q.move rfl) ?_)
                refine XO.q (Q.add rfl rfl ⟨by omega, by omega⟩) ?_
                refine XO.q (Q.assign rfl) (XO.done ?_)
                exact ih4 (i + 1) _ _ ⟨by omega, slopes_step hs (by omega) hall c11⟩ (by first | omega | (dsimp only; omega)) (.c rfl (.base 36 rfl rfl)) inferInstance
            · skip
              refine XK.exit rfl ?_
              refine XK.seq (XK.region rfl (XO.q (Q.assign rfl) (XO.done ?_)))
              refine XK.rt [] Try.func55 Try.results55 (.t rfl .n) ?_
              have hin : i = h.rooms.length := by omega
              rw [hin] at hall
              exact ⟨by rw [hcheck_rest hm e1 e2 e3 e4, if_pos hall], rfl⟩
theorem sum_from {h : Hall} (ok : HOk h) {i : Nat} (hi : i < h.branches.length) (h0 : (0 : Int) < i) : sumOpen h (h.branches.getD i default).up 1 = 0 := open_from (up_zero ok (by omega)) (up_of ok hi (by omega)).1
theorem rflows_spec (h : Hall) (vr vw vb vc : Value) (hb : PHeap) [ir : One vr] [iw : One vw] [ib : Arr vb encBranch 3 hb h.branches] [ic : One vc] (ok : HOk h) (pump : Int) (hp : 0 ≤ pump) (hp2 : pump ≤ 100000) : Spec Try.prog 85 #[.agg #[vr, vw, vb, vc], .int .i64 pump] [] [hb]
    (fun v hs => ∃ k, hs = [k] ∧ OArr v encI 1 3 k (flowsL h pump)) := by
  have hnil : OArr (.slice none 0 0) encI 1 3 emp ([] : List Int) := OArr.nil (fun _ => rfl)
  have hb2 := ok.b2
  refine Spec.intro (fn := Try.f85) (N := 71) Try.func85 rfl Try.ntmps85 rfl fun B => ?_
  refine XK.seq (XK.region rfl ?_)
  refine XO.box rfl fun b2 => ?_
  refine XO.q (Q.assign rfl) (XO.done (XK.seq (XK.region rfl (XO.q (Q.assign rfl) (XO.done ?_)))))
  refine XK.seq (XK.seq (XK.region rfl (XO.q (Q.assign rfl) (XO.done (XK.block ?_)))))
  refine XK.while (X := Nat × Value × PHeap) [5, 6, 7, 8, 9, 10, 11, 12, 13, 14, 15, 16, 17, 18, 19, 20, 21, 22, 23, 24, 25, 26, 27, 28, 29, 30, 31, 32, 33, 34, 35, 36, 37, 38, 39, 40, 41, 42, 43, 44, 45, 46, 47, 48, 49, 50, 51, 52, 53, 54, 55, 56, 57, 58, 59, 60, 61, 62, 63, 64, 65, 66, 67, 68, 69] (fun ⟨i, vo, ho⟩ => [(6, some (.int .i64 (i : Nat))), (5, some (vo))]) (fun ⟨i, vo, ho⟩ => [ho]) (fun ⟨i, vo, ho⟩ => i ≤ h.branches.length ∧ OArr vo encI 1 3 ho (flowsTo h pump i)) (fun ⟨i, vo, ho⟩ => h.branches.length - i) (0, .slice none 0 0, emp) [emp] rfl ⟨by first | omega | (dsimp only; omega), hnil⟩ (.c rfl (.c rfl (.base 0 rfl rfl))) ?_
  rintro ⟨i, vo, ho⟩ ⟨hi, OO⟩ ih0
  dsimp only [lcA, lnA] at ih0 ⊢
  refine XK.seq (XK.seq (XK.region rfl (XO.q (Q.move rfl) ?_)))
  refine XO.q (Q.fieldAddr rfl) ?_
  refine XO.q (Q.ld rfl rfl) ?_
  refine XO.len rfl fun l14 => ?_
  refine XO.q (Q.lss rfl rfl) ?_
  refine XO.done ?_
  refine XK.if rfl (fun c0 => ?_) (fun c0 => ?_)
  · skip
    have hbi := ok.branch i (by omega)
    have hfl := flowsTo_len h pump i
    refine XK.skip (XK.seq (XK.block (XK.seq (XK.region rfl ?_))))
    refine XO.q (Q.fieldAddr rfl) ?_
    refine XO.q (Q.ld rfl rfl) ?_
    refine XO.q (Q.move rfl) ?_
    refine XO.ix rfl rfl (by omega) (by omega) fun i21 => ?_
    refine XO.q (Q.ldEA [_, _, _] rfl (by first | assumption | omega) rfl rfl) ?_
    refine XO.alloc fun b7 => ?_
    refine XO.st rfl rfl rfl ?_
    refine XO.done (XK.seq (XK.region rfl (XO.q (Q.move rfl) (XO.q (Q.assign rfl) (XO.done ?_)))))
    refine XK.seq (XK.seq (XK.region rfl (XO.q (Q.move rfl) ?_)))
    refine XO.q (Q.gtr rfl rfl) ?_
    refine XO.done ?_
    refine XK.meet (X := Int) [8, 9, 10, 26, 27, 28, 29, 30, 31, 32, 33, 34, 35, 36, 37, 38, 39, 40, 41, 42, 43, 44, 45, 46, 47, 48, 49, 50, 51, 52, 53, 54, 55, 56, 57, 58, 59, 60, 61] (fun y => [(8, some (.int .i64 y))]) (fun y => []) (fun y => y = feedOf h pump (flowsTo h pump i) i) [] ?_ ?_
    · rintro hy hy
      dsimp only [lcA, lnA]
      subst hy
      have hfr := feed_rng ok hp (i := i) (by omega)
      refine XK.region rfl (XO.q (Q.move rfl) (XO.q (Q.move rfl) ?_))
      refine XO.q (Q.fieldAddr rfl) ?_
      refine XO.q (Q.ld rfl rfl) ?_
      refine XO.q (Q.sub rfl rfl ⟨by omega, by omega⟩) ?_
      refine XO.q (Q.max rfl rfl) ?_
      refine XO.lit [_] [_] [_] encI (by rfl) (by rfl) rfl (by rfl) (by exact .c 0 1 rfl rfl rfl (.n _)) (fun _ => rfl) (by rfl) rfl (by infer_instance) rfl fun v68 h68 O68 => ?_
      refine XO.append rfl rfl rfl rfl (by simp only [List.length_cons, List.length_nil]; omega) fun v69 h69 O69 => ?_
      refine XO.q (Q.assign rfl) (XO.done ?_)
      refine XK.inBlock ?_
      refine XK.region rfl (XO.q (Q.move rfl) ?_)
      refine XO.q (Q.add rfl rfl ⟨by omega, by omega⟩) ?_
      refine XO.q (Q.assign rfl) (XO.done ?_)
      exact ih0 (i + 1, v69, h69) _ _ ⟨by first | omega | (dsimp only; omega), by dsimp only; rw [flowsTo_succ]; exact O69⟩ (by first | omega | (dsimp only; omega)) (.c rfl (.c rfl (.base 134 rfl rfl))) inferInstance
    · intro mt1
      dsimp only [lcA, lnA] at mt1
      refine XK.if rfl (fun c1 => ?_) (fun c1 => ?_)
      · skip
        have hu := up_of ok (i := i) (by omega) (by omega)
        have hs0 := sum_from ok (i := i) (by omega) c1
        refine XK.seq (XK.region rfl (XO.q (Q.assign rfl) (XO.done (XK.seq (XK.seq ?_)))))
        refine XK.region rfl (XO.q (Q.assign rfl) (XO.done (XK.block ?_)))
        refine XK.while (X := Nat × Int) [9, 10, 26, 27, 28, 29, 30, 31, 32, 33, 34, 35, 36, 37, 38, 39, 40, 41, 42, 43, 44, 45, 46, 47, 48, 49] (fun ⟨k, s⟩ => [(10, some (.int .i64 (k : Nat))), (9, some (.int .i64 s))]) (fun ⟨k, s⟩ => []) (fun ⟨k, s⟩ => 1 ≤ k ∧ k ≤ h.branches.length ∧ s = sumOpen h (h.branches.getD i default).up k) (fun ⟨k, s⟩ => h.branches.length - k) (1, 0) [] rfl ⟨by first | omega | (dsimp only; omega), by first | omega | (dsimp only; omega), hs0.symm⟩ (.c rfl (.c rfl (.base 0 rfl rfl))) ?_
        rintro ⟨k, s⟩ ⟨hk1, hk, hs⟩ ih1
        dsimp only [lcA, lnA] at ih1 ⊢
        refine XK.seq (XK.seq (XK.region rfl (XO.q (Q.move rfl) ?_)))
        refine XO.q (Q.fieldAddr rfl) ?_
        refine XO.q (Q.ld rfl rfl) ?_
        refine XO.len rfl fun l29 => ?_
        refine XO.q (Q.lss rfl rfl) ?_
        refine XO.done ?_
        refine XK.if rfl (fun c2 => ?_) (fun c2 => ?_)
        · skip
          have hop := open_le ok (u := (h.branches.getD i default).up) (n := k) (by omega)
          have hop0 := open_nonneg ok (h.branches.getD i default).up (n := k) (by omega)
          have hbk := ok.branch k (by omega)
          clear hu hs0 hbi
          refine XK.skip (XK.seq (XK.block (XK.seq ?_)))
          refine XK.drawn [0, 1, 2, 3, 4, 5, 6, 7, 8] [b2, b7] [] (.q 0 (.q 1 (.q 2 (.q 3 (.q 4 (.q 5 (.q 6 (.q 7 (.q 8 .done))))))))) Try.mixed rfl (by kernel_rfl) ?_
          refine XT.q rfl rfl (Q.fieldAddr rfl) ?_
          refine XT.q rfl rfl (Q.ld rfl rfl) ?_
          refine XT.q rfl rfl (Q.move rfl) ?_
          refine XT.ix rfl rfl rfl rfl (by omega) (by omega) fun i36 => ?_
          refine XT.q rfl rfl (Q.fieldQ rfl (by first | assumption | omega)) ?_
          refine XT.q rfl rfl (Q.ldE rfl (by first | assumption | omega) rfl) ?_
          refine XT.q rfl rfl (Q.fieldAddr rfl) ?_
          refine XT.q rfl rfl (Q.ld rfl rfl) ?_
          refine XT.q rfl rfl (Q.eql rfl rfl) ?_
          refine XT.done ?_
          refine XK.if rfl (fun c3 => ?_) (fun c3 => ?_)
          · skip
            refine XK.region rfl (XO.q (Q.move rfl) ?_)
            refine XO.q (Q.fieldAddr rfl) ?_
            refine XO.q (Q.ld rfl rfl) ?_
            refine XO.q (Q.move rfl) ?_
            refine XO.ix rfl rfl (by omega) (by omega) fun i46 => ?_
            refine XO.q (Q.fieldQ rfl (by first | assumption | omega)) ?_
            refine XO.q (Q.ldE rfl (by first | assumption | omega) rfl) ?_
            refine XO.q (Q.add rfl rfl ⟨by omega, by omega⟩) ?_
            refine XO.q (Q.assign rfl) (XO.done ?_)
            refine XK.inBlock ?_
            refine XK.region rfl (XO.q (Q.move rfl) ?_)
            refine XO.q (Q.add rfl rfl ⟨by omega, by omega⟩) ?_
            refine XO.q (Q.assign rfl) (XO.done ?_)
            exact ih1 (k + 1, _) _ _ ⟨by dsimp only; omega, by dsimp only; omega, by dsimp only; rw [hs, open_pos c3]⟩ (by first | omega | (dsimp only; omega)) (.c rfl (.c rfl (.base 54 rfl rfl))) inferInstance
          · skip
            refine XK.skip ?_
            refine XK.inBlock ?_
            refine XK.region rfl (XO.q (Q.move rfl) ?_)
            refine XO.q (Q.add rfl rfl ⟨by omega, by omega⟩) ?_
            refine XO.q (Q.assign rfl) (XO.done ?_)
            exact ih1 (k + 1, s) _ _ ⟨by dsimp only; omega, by dsimp only; omega, by dsimp only; rw [hs, open_neg c3]⟩ (by first | omega | (dsimp only; omega)) (.c rfl (.c rfl (.base 45 rfl rfl))) inferInstance
        · skip
          have hkn : k = h.branches.length := by omega
          subst hkn
          subst hs
          refine XK.exit rfl ?_
          refine XK.seq (XK.region rfl (XO.q (Q.assign rfl) (XO.done (XK.seq (XK.region rfl ?_)))))
          refine XO.q (Q.move rfl) ?_
          refine XO.q (Q.gtr rfl rfl) ?_
          refine XO.done ?_
          refine XK.if rfl (fun c4 => ?_) (fun c4 => ?_)
          · skip
            have hr := flowsTo_rng ok hp (n := i) (j := (h.branches.getD i default).up.toNat) (by omega) (by omega)
            change 0 ≤ (flowsTo h pump i).getD (h.branches.getD i default).up.toNat default ∧ (flowsTo h pump i).getD (h.branches.getD i default).up.toNat default ≤ pump at hr
            have hmul := mul_abs (p := (flowsTo h pump i).getD (h.branches.getD i default).up.toNat default) (d := (h.branches.getD i default).opn) (P := 100000) (D := 100) hr.1 (by omega) (by omega) (by omega) (by omega)
            have hmul0 := Int.mul_nonneg hr.1 hbi.2.1.1
            have hfe := feed_at ok (pump := pump) (i := i) (by omega) (by omega)
            rw [if_pos c4] at hfe
            refine XK.drawn [0, 1, 2, 3, 4, 5, 6, 7, 8, 9, 10] [b7] [ho] (.q 0 (.q 1 (.q 2 (.q 3 (.q 4 (.q 5 (.q 6 (.q 7 (.q 8 (.q 9 (.q 10 .done))))))))))) Try.mixed rfl (by kernel_rfl) ?_
            refine XT.q rfl rfl (Q.move rfl) ?_
            refine XT.q rfl rfl (Q.fieldAddr rfl) ?_
            refine XT.q rfl rfl (Q.ld rfl rfl) ?_
            refine XT.ix rfl rfl rfl rfl (by omega) (by omega) fun i55 => ?_
            refine XT.q rfl rfl (Q.ldE rfl (by first | assumption | omega) rfl) ?_
            refine XT.q rfl rfl (Q.fieldAddr rfl) ?_
            refine XT.q rfl rfl (Q.ld rfl rfl) ?_
            refine XT.q rfl rfl (Q.mul rfl rfl ⟨by omega, by omega⟩) ?_
            refine XT.q rfl rfl (Q.move rfl) ?_
            refine XT.q rfl rfl (Q.quo rfl rfl (by omega) (by omega) (by omega)) ?_
            refine XT.q rfl rfl (Q.assign rfl) ?_
            refine XT.done ?_
            exact mt1 (_) _ _ hfe.symm (.c rfl (.base 49 rfl rfl)) inferInstance
          · skip
            have hfe := feed_at ok (pump := pump) (i := i) (by omega) (by omega)
            rw [if_neg c4] at hfe
            refine XK.skip ?_
            exact mt1 (_) _ _ hfe.symm (.c rfl (.base 38 rfl rfl)) inferInstance
      · skip
        have hi0 : i = 0 := by omega
        have hfe : pump = feedOf h pump (flowsTo h pump i) i := by rw [hi0, feed_first]
        refine XK.skip ?_
        exact mt1 (_) _ _ hfe (.c rfl (.base 0 rfl rfl)) inferInstance
  · skip
    have hin : i = h.branches.length := by omega
    refine XK.exit rfl ?_
    refine XK.seq (XK.region rfl (XO.q (Q.move rfl) (XO.q (Q.assign rfl) (XO.done ?_))))
    refine XK.rt [ho] Try.func85 Try.results85 (.t rfl .n) ?_
    rw [hin] at OO
    exact ⟨ho, rfl, OO⟩
theorem rFlows_spec (h : Hall) (vr vw vb vc : Value) (hr hw hb hc : PHeap) [ir : Arr vr encRoom 2 hr h.rooms] [iw : Arr vw encWall 3 hw h.walls] [ib : Arr vb encBranch 3 hb h.branches] [ic : Arr vc encCooler 5 hc h.coolers] (pump : Int) : Spec Try.prog 56 #[.agg #[vr, vw, vb, vc], .int .i64 pump] [] [hr, hw, hb, hc]
    (fun v hs => ∃ v1 k1, v = .tuple #[v1, .int .i64 (flowsG h pump).2] ∧ hs = [k1] ∧ OArr v1 encI 1 3 k1 (flowsG h pump).1) := by
  refine Spec.intro (fn := Try.f56) (N := 18) Try.func56 rfl Try.ntmps56 rfl fun B => ?_
  refine XK.seq (XK.region rfl ?_)
  refine XO.box rfl fun b2 => ?_
  refine XO.q (Q.assign rfl) (XO.q (Q.assign rfl) (XO.done (XK.seq (XK.seq (XK.region rfl ?_)))))
  refine XO.q (Q.ldA [_, _, _, _] rfl rfl rfl) ?_
  refine XO.call Try.call55 rfl rfl rfl (rCheck_spec h vr vw vb vc hr hw hb hc) fun v8 s8 R8 => ?_
  obtain ⟨rfl, rfl⟩ := R8
  dsimp only [lcA, lnA]
  refine XO.q (Q.assign rfl) (XO.done (XK.seq (XK.region rfl (XO.q (Q.move rfl) ?_))))
  refine XO.q (Q.neq rfl rfl) ?_
  refine XO.done ?_
  refine XK.if rfl (fun c0 => ?_) (fun c0 => ?_)
  · skip
    refine XK.seq (XK.region rfl (XO.q (Q.move rfl) (XO.q (Q.assign rfl) (XO.q (Q.assign rfl) (XO.done ?_)))))
    refine XK.rt [emp] Try.func56 Try.results56 (.t rfl (.t rfl .n)) ?_
    have hw0 : flowsG h pump = ([], hcheck h) := by rw [flowsG, if_pos c0]
    rw [hw0]
    exact ⟨.slice none 0 0, emp, rfl, rfl, OArr.nil (fun _ => rfl)⟩
  · skip
    refine XK.skip (XK.seq (XK.seq (XK.region rfl (XO.q (Q.move rfl) ?_))))
    refine XO.call Try.call84 rfl rfl rfl (rin_spec _ _ _) fun v13 s13 R13 => ?_
    obtain ⟨rfl, rfl⟩ := R13
    dsimp only [lcA, lnA]
    refine XO.q (Q.not rfl) ?_
    refine XO.done ?_
    refine XK.if rfl (fun c1 => ?_) (fun c1 => ?_)
    · skip
      refine XK.seq (XK.region rfl (XO.q (Q.assign rfl) (XO.q (Q.assign rfl) (XO.done ?_))))
      refine XK.rt [emp] Try.func56 Try.results56 (.t rfl (.t rfl .n)) ?_
      have hw0 : flowsG h pump = ([], 6) := by rw [flowsG, if_neg c0, if_pos (show ¬ inP pump 100000 = true from c1)]
      rw [hw0]
      exact ⟨.slice none 0 0, emp, rfl, rfl, OArr.nil (fun _ => rfl)⟩
    · skip
      have hpp : inP pump 100000 = true := Classical.byContradiction c1
      have hp2 := hpp
      simp only [inP, Bool.and_eq_true, decide_eq_true_eq] at hp2
      refine XK.skip (XK.seq (XK.region rfl ?_))
      refine XO.q (Q.ldA [_, _, _, _] rfl rfl rfl) ?_
      refine XO.q (Q.move rfl) ?_
      refine XO.call Try.call85 rfl rfl rfl (rflows_spec h vr vw vb vc hb (hcheck_ok (Decidable.of_not_not c0)) pump hp2.1 hp2.2) fun v17 s17 R17 => ?_
      obtain ⟨k1, rfl, O1⟩ := R17
      dsimp only [lcA, lnA]
      refine XO.q (Q.assign rfl) (XO.q (Q.assign rfl) (XO.done ?_))
      refine XK.rt [k1] Try.func56 Try.results56 (.t rfl (.t rfl .n)) ?_
      have hw0 : flowsG h pump = (flowsL h pump, 0) := by rw [flowsG, if_neg c0, if_neg (by simpa using hpp)]
      rw [hw0]
      exact ⟨_, k1, rfl, rfl, O1⟩
end Go.X

set_option linter.unusedSimpArgs false
set_option linter.unusedVariables false
set_option maxRecDepth 20000
namespace Go.X
open Go.Proofs
theorem rwarm_spec (h : Hall) (vr vw vb vc : Value) (hr : PHeap) [ir : Arr vr encRoom 2 hr h.rooms] [iw : One vw] [ib : One vb] [ic : One vc] (vt : Value) (ht : PHeap) (t : List Int) [it : Arr vt encI 1 ht t] : Spec Try.prog 86 #[.agg #[vr, vw, vb, vc], vt] [] [hr, ht] (fun v hs => v = .int .i64 (warmP h t) ∧ hs = []) := by
  have lt_ := it.le
  refine Spec.intro (fn := Try.f86) (N := 24) Try.func86 rfl Try.ntmps86 rfl fun B => ?_
  refine XK.seq (XK.region rfl ?_)
  refine XO.box rfl fun b2 => ?_
  refine XO.q (Q.assign rfl) (XO.done (XK.seq (XK.seq (XK.region rfl (XO.q (Q.move rfl) ?_)))))
  refine XO.len rfl fun l7 => ?_
  refine XO.q (Q.fieldAddr rfl) ?_
  refine XO.q (Q.ld rfl rfl) ?_
  refine XO.len rfl fun l10 => ?_
  refine XO.q (Q.neq rfl rfl) ?_
  refine XO.done ?_
  refine XK.if rfl (fun c0 => ?_) (fun c0 => ?_)
  · skip
    refine XK.seq (XK.region rfl (XO.q (Q.assign rfl) (XO.done ?_)))
    refine XK.rt [] Try.func86 Try.results86 (.t rfl .n) ?_
    exact ⟨by rw [warmP, if_pos c0], rfl⟩
  · skip
    refine XK.skip (XK.seq (XK.seq (XK.region rfl (XO.q (Q.assign rfl) (XO.done ?_)))))
    refine XK.block ?_
    refine XK.while (X := Nat) [4, 5, 12, 13, 14, 15, 16, 17, 18, 19, 20, 21, 22, 23] (fun i => [(5, some (.int .i64 (i : Nat)))]) (fun i => []) (fun i => i ≤ t.length ∧ allTo (fun j => inR (t.getD j 0) 0 1000000) i = true) (fun i => t.length - i) (0) [] rfl ⟨by omega, rfl⟩ (.c rfl (.base 0 rfl rfl)) ?_
    rintro i ⟨hi, hall⟩ ih0
    dsimp only [lcA, lnA] at ih0 ⊢
    refine XK.seq (XK.seq (XK.region rfl (XO.q (Q.move rfl) (XO.q (Q.move rfl) ?_))))
    refine XO.len rfl fun l14 => ?_
    refine XO.q (Q.lss rfl rfl) ?_
    refine XO.done ?_
    refine XK.if rfl (fun c1 => ?_) (fun c1 => ?_)
    · skip
      refine XK.skip (XK.seq (XK.block (XK.seq (XK.region rfl (XO.q (Q.move rfl) ?_)))))
      refine XO.q (Q.move rfl) ?_
      refine XO.ix rfl rfl (by omega) (by omega) fun i20 => ?_
      refine XO.q (Q.ldE rfl (by first | assumption | omega) rfl) ?_
      refine XO.call Try.call84 rfl rfl rfl (rin_spec _ _ _) fun v22 s22 R22 => ?_
      obtain ⟨rfl, rfl⟩ := R22
      dsimp only [lcA, lnA]
      refine XO.q (Q.not rfl) ?_
      refine XO.done ?_
      refine XK.if rfl (fun c2 => ?_) (fun c2 => ?_)
      · skip
        refine XK.seq (XK.region rfl (XO.q (Q.assign rfl) (XO.done ?_)))
        refine XK.rt [] Try.func86 Try.results86 (.t rfl .n) ?_
        exact ⟨by rw [warmP, if_neg c0, any_all, allTo_false (s := i) (by omega) (Bool.eq_false_iff.2 c2)]; rfl, rfl⟩
      · skip
        refine XK.skip ?_
        refine XK.inBlock ?_
        refine XK.region rfl (XO.q (Q.move rfl) ?_)
        refine XO.q (Q.add rfl rfl ⟨by omega, by omega⟩) ?_
        refine XO.q (Q.assign rfl) (XO.done ?_)
        exact ih0 (i + 1) _ _ ⟨by omega, by rw [allTo_succ, hall, Bool.true_and]; exact Decidable.of_not_not c2⟩ (by first | omega | (dsimp only; omega)) (.c rfl (.base 28 rfl rfl)) inferInstance
    · skip
      refine XK.exit rfl ?_
      refine XK.seq (XK.region rfl (XO.q (Q.assign rfl) (XO.done ?_)))
      refine XK.rt [] Try.func86 Try.results86 (.t rfl .n) ?_
      have hin : i = t.length := by omega
      rw [hin] at hall
      exact ⟨by rw [warmP, if_neg c0, any_all, hall]; rfl, rfl⟩
theorem rcased_spec (h : Hall) (vr vw vb vc : Value) (hr : PHeap) [ir : Arr vr encRoom 2 hr h.rooms] [iw : One vw] [ib : One vb] [ic : One vc] (vl : Value) (hl : PHeap) (c : HCase) [il : Arr vl encI 1 hl c.load] : Spec Try.prog 89 #[.agg #[vr, vw, vb, vc], .agg #[vl, .int .i64 c.out, .int .i64 c.pump]] [] [hr, hl] (fun v hs => v = .int .i64 (casedP h c) ∧ hs = []) := by
  have lt_ := il.le
  refine Spec.intro (fn := Try.f89) (N := 37) Try.func89 rfl Try.ntmps89 rfl fun B => ?_
  refine XK.seq (XK.region rfl ?_)
  refine XO.box rfl fun b2 => ?_
  refine XO.box rfl fun b3 => ?_
  refine XO.q (Q.assign rfl) (XO.done (XK.seq (XK.seq (XK.region rfl ?_))))
  refine XO.q (Q.fieldAddr rfl) ?_
  refine XO.q (Q.ld rfl rfl) ?_
  refine XO.len rfl fun l8 => ?_
  refine XO.q (Q.fieldAddr rfl) ?_
  refine XO.q (Q.ld rfl rfl) ?_
  refine XO.len rfl fun l11 => ?_
  refine XO.q (Q.neq rfl rfl) ?_
  refine XO.done ?_
  refine XK.if rfl (fun c0 => ?_) (fun c0 => ?_)
  · skip
    refine XK.seq (XK.region rfl (XO.q (Q.assign rfl) (XO.done ?_)))
    refine XK.rt [] Try.func89 Try.results89 (.t rfl .n) ?_
    exact ⟨by rw [casedP, if_pos c0], rfl⟩
  · skip
    refine XK.skip (XK.seq (XK.seq (XK.region rfl (XO.q (Q.assign rfl) (XO.done ?_)))))
    refine XK.block ?_
    refine XK.while (X := Nat) [4, 5, 13, 14, 15, 16, 17, 18, 19, 20, 21, 22, 23, 24, 25, 26] (fun i => [(5, some (.int .i64 (i : Nat)))]) (fun i => []) (fun i => i ≤ c.load.length ∧ allTo (fun j => inR (c.load.getD j 0) 0 10000000) i = true) (fun i => c.load.length - i) (0) [] rfl ⟨by omega, rfl⟩ (.c rfl (.base 0 rfl rfl)) ?_
    rintro i ⟨hi, hall⟩ ih0
    dsimp only [lcA, lnA] at ih0 ⊢
    refine XK.seq (XK.seq (XK.region rfl (XO.q (Q.move rfl) ?_)))
    refine XO.q (Q.fieldAddr rfl) ?_
    refine XO.q (Q.ld rfl rfl) ?_
    refine XO.len rfl fun l16 => ?_
    refine XO.q (Q.lss rfl rfl) ?_
    refine XO.done ?_
    refine XK.if rfl (fun c1 => ?_) (fun c1 => ?_)
    · skip
      refine XK.skip (XK.seq (XK.block (XK.seq (XK.region rfl ?_))))
      refine XO.q (Q.fieldAddr rfl) ?_
      refine XO.q (Q.ld rfl rfl) ?_
      refine XO.q (Q.move rfl) ?_
      refine XO.ix rfl rfl (by omega) (by omega) fun i23 => ?_
      refine XO.q (Q.ldE rfl (by first | assumption | omega) rfl) ?_
      refine XO.call Try.call84 rfl rfl rfl (rin_spec _ _ _) fun v25 s25 R25 => ?_
      obtain ⟨rfl, rfl⟩ := R25
      dsimp only [lcA, lnA]
      refine XO.q (Q.not rfl) ?_
      refine XO.done ?_
      refine XK.if rfl (fun c2 => ?_) (fun c2 => ?_)
      · skip
        refine XK.seq (XK.region rfl (XO.q (Q.assign rfl) (XO.done ?_)))
        refine XK.rt [] Try.func89 Try.results89 (.t rfl .n) ?_
        exact ⟨by rw [casedP, if_neg c0, any_all, allTo_false (s := i) (by omega) (Bool.eq_false_iff.2 c2)]; rw [if_pos (show ((!false) = true ∨ ¬ inP c.out 1000000 = true) ∨ ¬ inP c.pump 100000 = true from Or.inl (Or.inl rfl))], rfl⟩
      · skip
        refine XK.skip ?_
        refine XK.inBlock ?_
        refine XK.region rfl (XO.q (Q.move rfl) ?_)
        refine XO.q (Q.add rfl rfl ⟨by omega, by omega⟩) ?_
        refine XO.q (Q.assign rfl) (XO.done ?_)
        exact ih0 (i + 1) _ _ ⟨by omega, by rw [allTo_succ, hall, Bool.true_and]; exact Decidable.of_not_not c2⟩ (by first | omega | (dsimp only; omega)) (.c rfl (.base 32 rfl rfl)) inferInstance
    · skip
      have hin : i = c.load.length := by omega
      rw [hin] at hall
      refine XK.exit rfl ?_
      refine XK.seq (XK.seq (XK.region rfl ?_))
      refine XO.q (Q.fieldAddr rfl) ?_
      refine XO.q (Q.ld rfl rfl) ?_
      refine XO.call Try.call84 rfl rfl rfl (rin_spec _ _ _) fun v29 s29 R29 => ?_
      obtain ⟨rfl, rfl⟩ := R29
      dsimp only [lcA, lnA]
      refine XO.q (Q.not rfl) ?_
      refine XO.q (Q.move rfl) ?_
      refine XO.q (Quiet.guardF rfl rfl fun g32 p32 => Q.fieldAddr rfl) ?_
      refine XO.q (Quiet.guardF rfl rfl fun g33 p33 => Q.ld (lzv g33 rfl) rfl) ?_
      refine XO.gcallF rfl rfl Try.call84 rfl (fun g34 => .c (lzv g34 rfl) (.c rfl (.c rfl .n))) rfl (fun g34 p34 => rin_spec _ _ _) ?_
      refine XO.q (Quiet.guardF rfl rfl fun g35 p35 => Q.not (lzv g35 rfl)) ?_
      refine XO.q (Q.or rfl (fun hp => lzv hp rfl)) ?_
      refine XO.done ?_
      refine XK.if rfl (fun c3 => ?_) (fun c3 => ?_)
      · skip
        refine XK.seq (XK.region rfl (XO.q (Q.assign rfl) (XO.done ?_)))
        refine XK.rt [] Try.func89 Try.results89 (.t rfl .n) ?_
        exact ⟨by rw [casedP, if_neg c0, if_pos (show ((c.load.any fun n => !inP n 10000000) = true ∨ ¬ inP c.out 1000000 = true) ∨ ¬ inP c.pump 100000 = true from c3.elim (fun x => Or.inl (Or.inr x)) Or.inr)], rfl⟩
      · skip
        refine XK.skip (XK.seq (XK.region rfl (XO.q (Q.assign rfl) (XO.done ?_))))
        refine XK.rt [] Try.func89 Try.results89 (.t rfl .n) ?_
        exact ⟨by rw [casedP, if_neg c0, if_neg (show ¬ (((c.load.any fun n => !inP n 10000000) = true ∨ ¬ inP c.out 1000000 = true) ∨ ¬ inP c.pump 100000 = true) from fun x => x.elim (fun y => y.elim (fun z => by rw [any_all, hall] at z; cases z) (fun z => c3 (Or.inl z))) (fun z => c3 (Or.inr z)))], rfl⟩
theorem rjoined_spec (a b : Int) : Spec Try.prog 88 #[.int .i64 a, .int .i64 b] [] [] (fun v hs => v = .int .i64 (joinP a b) ∧ hs = []) := by
  refine Spec.intro (fn := Try.f88) (N := 17) Try.func88 rfl Try.ntmps88 rfl fun B => ?_
  refine XK.seq (XK.region rfl (XO.q (Q.assign rfl) (XO.done (XK.seq (XK.seq ?_)))))
  refine XK.region rfl (XO.q (Q.move rfl) ?_)
  refine XO.q (Q.eql rfl rfl) ?_
  refine XO.q (Q.move rfl) ?_
  refine XO.q (Quiet.guardF rfl rfl fun g8 p8 => Q.move rfl) ?_
  refine XO.q (Quiet.guardF rfl rfl fun g9 p9 => Q.eql (lzv g9 rfl) rfl) ?_
  refine XO.q (Q.or rfl (fun hp => lzv hp rfl)) ?_
  refine XO.done ?_
  refine XK.if rfl (fun c0 => ?_) (fun c0 => ?_)
  · skip
    refine XK.seq (XK.region rfl (XO.q (Q.assign rfl) (XO.done ?_)))
    refine XK.rt [] Try.func88 Try.results88 (.t rfl .n) ?_
    exact ⟨by rw [joinP, if_pos c0], rfl⟩
  · skip
    refine XK.skip (XK.seq (XK.seq (XK.region rfl (XO.q (Q.move rfl) ?_))))
    refine XO.q (Q.eql rfl rfl) ?_
    refine XO.q (Q.move rfl) ?_
    refine XO.q (Quiet.guardF rfl rfl fun g14 p14 => Q.move rfl) ?_
    refine XO.q (Quiet.guardF rfl rfl fun g15 p15 => Q.eql (lzv g15 rfl) rfl) ?_
    refine XO.q (Q.or rfl (fun hp => lzv hp rfl)) ?_
    refine XO.done ?_
    refine XK.if rfl (fun c1 => ?_) (fun c1 => ?_)
    · skip
      refine XK.seq (XK.region rfl (XO.q (Q.assign rfl) (XO.done ?_)))
      refine XK.rt [] Try.func88 Try.results88 (.t rfl .n) ?_
      exact ⟨by rw [joinP, if_neg c0, if_pos c1], rfl⟩
    · skip
      refine XK.skip (XK.seq (XK.region rfl (XO.q (Q.assign rfl) (XO.done ?_))))
      refine XK.rt [] Try.func88 Try.results88 (.t rfl .n) ?_
      exact ⟨by rw [joinP, if_neg c0, if_neg c1], rfl⟩
theorem rtaken_spec (h : Hall) (vr vw vb vc : Value) (hb hc : PHeap) [ir : One vr] [iw : One vw] [ib : Arr vb encBranch 3 hb h.branches] [ic : Arr vc encCooler 5 hc h.coolers] (ok : HOk h) (t : List Int) (vt : Value) (ht : PHeap) [it : Arr vt encI 1 ht t] (tk : TOk h t) (pump : Int) (hp : 0 ≤ pump) (hp2 : pump ≤ 100000) :
    Spec Try.prog 87 #[.agg #[vr, vw, vb, vc], vt, .int .i64 pump] [] [hb, hc, ht] (fun v hs => ∃ k, hs = [k] ∧ OArr v encI 1 3 k (takenL h t pump)) := by
  have hnil : OArr (.slice none 0 0) encI 1 3 emp ([] : List Int) := OArr.nil (fun _ => rfl)
  have hb2 := ok.b2
  have hc2 := ok.c2
  have hfl := flows_len h pump
  have htl := tk.len
  refine Spec.intro (fn := Try.f87) (N := 76) Try.func87 rfl Try.ntmps87 rfl fun B => ?_
  refine XK.seq (XK.region rfl ?_)
  refine XO.box rfl fun b3 => ?_
  refine XO.q (Q.assign rfl) (XO.done (XK.seq (XK.region rfl ?_)))
  refine XO.q (Q.ldA [_, _, _, _] rfl rfl rfl) ?_
  refine XO.q (Q.move rfl) ?_
  refine XO.call Try.call85 rfl rfl rfl (rflows_spec h vr vw vb vc hb ok pump hp hp2) fun v16 s16 R16 => ?_
  obtain ⟨k16, rfl, O16⟩ := R16
  dsimp only [lcA, lnA]
  refine XO.q (Q.assign rfl) (XO.done (XK.seq (XK.region rfl (XO.q (Q.assign rfl) (XO.done ?_)))))
  refine XK.seq (XK.seq (XK.region rfl (XO.q (Q.assign rfl) (XO.done (XK.block ?_)))))
  refine XK.while (X := Nat × Value × PHeap) [8, 9, 10, 11, 12, 13, 17, 18, 19, 20, 21, 22, 23, 24, 25, 26, 27, 28, 29, 30, 31, 32, 33, 34, 35, 36, 37, 38, 39, 40, 41, 42, 43, 44, 45, 46, 47, 48, 49, 50, 51, 52, 53, 54, 55, 56, 57, 58, 59, 60, 61, 62, 63, 64, 65, 66, 67, 68, 69, 70, 71, 72, 73, 74] (fun ⟨i, vo, ho⟩ => [(9, some (.int .i64 (i : Nat))), (8, some (vo))]) (fun ⟨i, vo, ho⟩ => [ho]) (fun ⟨i, vo, ho⟩ => i ≤ h.coolers.length ∧ OArr vo encI 1 3 ho ((List.range i).map (takenAt h t (flowsL h pump)))) (fun ⟨i, vo, ho⟩ => h.coolers.length - i) (0, .slice none 0 0, emp) [emp] rfl ⟨by first | omega | (dsimp only; omega), by simpa using hnil⟩ (.c rfl (.c rfl (.base 0 rfl rfl))) ?_
  rintro ⟨i, vo, ho⟩ ⟨hi, OO⟩ ih0
  dsimp only [lcA, lnA] at ih0 ⊢
  refine XK.seq (XK.seq (XK.region rfl (XO.q (Q.move rfl) ?_)))
  refine XO.q (Q.fieldAddr rfl) ?_
  refine XO.q (Q.ld rfl rfl) ?_
  refine XO.len rfl fun l20 => ?_
  refine XO.q (Q.lss rfl rfl) ?_
  refine XO.done ?_
  refine XK.if rfl (fun c0 => ?_) (fun c0 => ?_)
  · skip
    have hcf := ok.cooler i (by omega)
    refine XK.skip (XK.seq (XK.block (XK.seq (XK.region rfl ?_))))
    refine XO.q (Q.fieldAddr rfl) ?_
    refine XO.q (Q.ld rfl rfl) ?_
    refine XO.q (Q.move rfl) ?_
    refine XO.ix rfl rfl (by omega) (by omega) fun i27 => ?_
    refine XO.q (Q.ldEA [_, _, _, _, _] rfl (by first | assumption | omega) rfl rfl) ?_
    refine XO.alloc fun b10 => ?_
    refine XO.st rfl rfl rfl ?_
    refine XO.done (XK.seq (XK.region rfl (XO.q (Q.assign rfl) (XO.done (XK.seq ?_)))))
    refine XK.seq (XK.region rfl (XO.q (Q.assign rfl) (XO.done (XK.block ?_))))
    refine XK.while (X := Nat) [11, 12, 29, 30, 31, 32, 33, 34, 35, 36, 37, 38, 39, 40, 41, 42, 43, 44, 45, 46] (fun k => [(12, some (.int .i64 (k : Nat))), (11, some (.int .i64 (onBr h (h.coolers.getD i default).br k)))]) (fun k => []) (fun k => k ≤ h.coolers.length) (fun k => h.coolers.length - k) (0) [] rfl (by omega) (.c rfl (.c rfl (.base 0 rfl rfl))) ?_
    rintro k hk ih1
    dsimp only [lcA, lnA] at ih1 ⊢
    refine XK.seq (XK.seq (XK.region rfl (XO.q (Q.move rfl) ?_)))
    refine XO.q (Q.fieldAddr rfl) ?_
    refine XO.q (Q.ld rfl rfl) ?_
    refine XO.len rfl fun l32 => ?_
    refine XO.q (Q.lss rfl rfl) ?_
    refine XO.done ?_
    refine XK.if rfl (fun c1 => ?_) (fun c1 => ?_)
    · skip
      have hov := onBr_rng (h := h) (h.coolers.getD i default).br k
      refine XK.skip (XK.seq (XK.block (XK.seq ?_)))
      refine XK.drawn [0, 1, 2, 3, 4, 5, 6, 7, 8] [b3, b10] [] (.q 0 (.q 1 (.q 2 (.q 3 (.q 4 (.q 5 (.q 6 (.q 7 (.q 8 .done))))))))) Try.mixed rfl (by kernel_rfl) ?_
      refine XT.q rfl rfl (Q.fieldAddr rfl) ?_
      refine XT.q rfl rfl (Q.ld rfl rfl) ?_
      refine XT.q rfl rfl (Q.move rfl) ?_
      refine XT.ix rfl rfl rfl rfl (by omega) (by omega) fun i39 => ?_
      refine XT.q rfl rfl (Q.fieldQ rfl (by first | assumption | omega)) ?_
      refine XT.q rfl rfl (Q.ldE rfl (by first | assumption | omega) rfl) ?_
      refine XT.q rfl rfl (Q.fieldAddr rfl) ?_
      refine XT.q rfl rfl (Q.ld rfl rfl) ?_
      refine XT.q rfl rfl (Q.eql rfl rfl) ?_
      refine XT.done ?_
      refine XK.if rfl (fun c2 => ?_) (fun c2 => ?_)
      · skip
        refine XK.region rfl (XO.q (Q.move rfl) ?_)
        refine XO.q (Q.add rfl rfl ⟨by omega, by omega⟩) ?_
        refine XO.q (Q.assign rfl) (XO.done ?_)
        refine XK.inBlock ?_
        refine XK.region rfl (XO.q (Q.move rfl) ?_)
        refine XO.q (Q.add rfl rfl ⟨by omega, by omega⟩) ?_
        refine XO.q (Q.assign rfl) (XO.done ?_)
        rw [show onBr h (h.coolers.getD i default).br k + 1 = onBr h (h.coolers.getD i default).br (k + 1) by rw [onBr_succ, if_pos c2]]
        exact ih1 (k + 1) _ _ (by omega) (by first | omega | (dsimp only; omega)) (.c rfl (.c rfl (.base 42 rfl rfl))) inferInstance
      · skip
        refine XK.skip ?_
        refine XK.inBlock ?_
        refine XK.region rfl (XO.q (Q.move rfl) ?_)
        refine XO.q (Q.add rfl rfl ⟨by omega, by omega⟩) ?_
        refine XO.q (Q.assign rfl) (XO.done ?_)
        rw [show onBr h (h.coolers.getD i default).br k = onBr h (h.coolers.getD i default).br (k + 1) by rw [onBr_succ, if_neg c2, Int.add_zero]]
        exact ih1 (k + 1) _ _ (by omega) (by first | omega | (dsimp only; omega)) (.c rfl (.c rfl (.base 39 rfl rfl))) inferInstance
    · skip
      have hkn : k = h.coolers.length := by omega
      subst hkn
      have hop := onBr_pos (h := h) (k := i) (by omega)
      have hor := onBr_rng (h := h) (h.coolers.getD i default).br h.coolers.length
      have hF := flows_rng ok hp (h.coolers.getD i default).br.toNat (by omega)
      change 0 ≤ (flowsL h pump).getD (h.coolers.getD i default).br.toNat default ∧ (flowsL h pump).getD (h.coolers.getD i default).br.toNat default ≤ pump at hF
      have hm1 := mul_abs (p := (h.coolers.getD i default).carry) (d := (flowsL h pump).getD (h.coolers.getD i default).br.toNat default) (P := 1000) (D := 100000) hcf.2.2.2.1.1 hcf.2.2.2.1.2 (by omega) (by omega) (by omega)
      have hm0 := Int.mul_nonneg hcf.2.2.2.1.1 hF.1
      have hT := temp_at ok tk hcf.1.1 hcf.1.2
      change 0 ≤ t.getD (h.coolers.getD i default).room.toNat default ∧ t.getD (h.coolers.getD i default).room.toNat default ≤ 1000000 at hT
      have hm2 := mul_abs (p := (h.coolers.getD i default).gain) (d := t.getD (h.coolers.getD i default).room.toNat default - (h.coolers.getD i default).supply) (P := 100000) (D := 1000000) hcf.2.2.1.1 hcf.2.2.1.2 (by omega) (by omega) (by omega)
      refine XK.exit rfl ?_
      refine XK.seq ?_
      refine XK.drawn [0, 1, 2, 3, 4, 5, 6, 7, 8, 9, 10, 11] [b10] [] (.q 0 (.q 1 (.q 2 (.q 3 (.q 4 (.q 5 (.q 6 (.q 7 (.q 8 (.q 9 (.q 10 (.q 11 .done)))))))))))) Try.mixed rfl (by kernel_rfl) ?_
      refine XT.q rfl rfl (Q.fieldAddr rfl) ?_
      refine XT.q rfl rfl (Q.ld rfl rfl) ?_
      refine XT.q rfl rfl (Q.move rfl) ?_
      refine XT.q rfl rfl (Q.fieldAddr rfl) ?_
      refine XT.q rfl rfl (Q.ld rfl rfl) ?_
      refine XT.ix rfl rfl rfl rfl (by omega) (by omega) fun i52 => ?_
      refine XT.q rfl rfl (Q.ldE rfl (by first | assumption | omega) rfl) ?_
      refine XT.q rfl rfl (Q.fieldAddr rfl) ?_
      refine XT.q rfl rfl (Q.ld rfl rfl) ?_
      refine XT.q rfl rfl (Q.sub rfl rfl ⟨by omega, by omega⟩) ?_
      refine XT.q rfl rfl (Q.mul rfl rfl ⟨by omega, by omega⟩) ?_
      refine XT.q rfl rfl (Q.assign rfl) ?_
      refine XT.done ?_
      refine XK.seq (XK.seq (XK.region rfl (XO.q (Q.move rfl) ?_)))
      refine XO.q (Q.lss rfl rfl) ?_
      refine XO.done ?_
      refine XK.meet (X := Int) [13] (fun y => [(13, some (.int .i64 y))]) (fun y => []) (fun y => y = max ((h.coolers.getD i default).gain * (t.getD (h.coolers.getD i default).room.toNat 0 - (h.coolers.getD i default).supply)) 0) [] ?_ ?_
      · rintro hy hy
        dsimp only [lcA, lnA]
        refine XK.drawn [0, 1, 2, 3, 4, 5, 6, 7, 8, 9, 10, 11, 12, 15] [b10] [k16] (.q 0 (.q 1 (.q 2 (.q 3 (.q 4 (.q 5 (.q 6 (.q 7 (.q 8 (.q 9 (.q 10 (.q 11 (.q 12 (.br 13 true (.br 14 true (.q 15 .done) .stop) .stop)))))))))))))) Try.mixed rfl (by kernel_rfl) ?_
        refine XT.q rfl rfl (Q.move rfl) ?_
        refine XT.q rfl rfl (Q.move rfl) ?_
        refine XT.q rfl rfl (Q.fieldAddr rfl) ?_
        refine XT.q rfl rfl (Q.ld rfl rfl) ?_
        refine XT.q rfl rfl (Q.move rfl) ?_
        refine XT.q rfl rfl (Q.fieldAddr rfl) ?_
        refine XT.q rfl rfl (Q.ld rfl rfl) ?_
        refine XT.ix rfl rfl rfl rfl (by omega) (by omega) fun i67 => ?_
        refine XT.q rfl rfl (Q.ldE rfl (by first | assumption | omega) rfl) ?_
        refine XT.q rfl rfl (Q.mul rfl rfl ⟨by omega, by omega⟩) ?_
        refine XT.q rfl rfl (Q.move rfl) ?_
        refine XT.q rfl rfl (Q.quo rfl rfl (by omega) (by omega) (by omega)) ?_
        refine XT.q rfl rfl (Q.min rfl rfl) ?_
        refine XT.lit [_] [_] [_] encI rfl rfl (by rfl) (by rfl) rfl (by rfl) (by exact .c 0 1 rfl rfl rfl (.n _)) (fun _ => rfl) (by rfl) rfl (by infer_instance) rfl (fun v73 h73 O73 => ⟨inferInstance, ?_⟩) XT.stop
        refine XT.append rfl rfl rfl rfl rfl rfl (by simp only [List.length_map, List.length_range, List.length_cons, List.length_nil]; omega) (fun v74 h74 O74 => ⟨inferInstance, ?_⟩) XT.stop
        refine XT.q rfl rfl (Q.assign rfl) ?_
        refine XT.done ?_
        refine XK.inBlock ?_
        refine XK.region rfl (XO.q (Q.move rfl) ?_)
        refine XO.q (Q.add rfl rfl ⟨by omega, by omega⟩) ?_
        refine XO.q (Q.assign rfl) (XO.done ?_)
        exact ih0 (i + 1, v74, h74) _ _ ⟨by first | omega | (dsimp only; omega), by dsimp only; rw [show (List.range (i + 1)).map (takenAt h t (flowsL h pump)) = (List.range i).map (takenAt h t (flowsL h pump)) ++ [takenAt h t (flowsL h pump) i] by rw [List.range_succ, List.map_append]; rfl, takenAt]; rw [hy] at O74; exact O74⟩ (by first | omega | (dsimp only; omega)) (.c rfl (.c rfl (.base 141 rfl rfl))) inferInstance
      · intro mt3
        dsimp only [lcA, lnA] at mt3
        refine XK.if rfl (fun c3 => ?_) (fun c3 => ?_)
        · skip
          refine XK.region rfl (XO.q (Q.assign rfl) (XO.done ?_))
          exact mt3 (0) _ _ (by change ((h.coolers.getD i default).gain * (t.getD (h.coolers.getD i default).room.toNat 0 - (h.coolers.getD i default).supply)) < 0 at c3; omega) (.c rfl (.base 1 rfl rfl)) inferInstance
        · skip
          refine XK.skip ?_
          exact mt3 (_) _ _ (by change ¬ ((h.coolers.getD i default).gain * (t.getD (h.coolers.getD i default).room.toNat 0 - (h.coolers.getD i default).supply)) < 0 at c3; change ((h.coolers.getD i default).gain * (t.getD (h.coolers.getD i default).room.toNat 0 - (h.coolers.getD i default).supply)) = _; omega) (.c rfl (.base 0 rfl rfl)) inferInstance
  · skip
    have hin : i = h.coolers.length := by omega
    rw [hin] at OO
    refine XK.exit rfl ?_
    refine XK.seq (XK.region rfl (XO.q (Q.move rfl) (XO.q (Q.assign rfl) (XO.done ?_))))
    refine XK.rt [ho] Try.func87 Try.results87 (.t rfl .n) ?_
    exact ⟨ho, rfl, OO⟩
theorem rStep_spec (h : Hall) (vr vw vb vc : Value) (hr hw hb hc : PHeap) [ir : Arr vr encRoom 2 hr h.rooms] [iw : Arr vw encWall 3 hw h.walls] [ib : Arr vb encBranch 3 hb h.branches] [ic : Arr vc encCooler 5 hc h.coolers] (ok : HOk h) (t : List Int) (vt : Value) (ht : PHeap) [it : Arr vt encI 1 ht t] (tk : TOk h t)
    (c : HCase) (ck : COk h c) (vl : Value) (hl : PHeap) [il : Arr vl encI 1 hl c.load] : Spec Try.prog 90 #[.agg #[vr, vw, vb, vc], vt, .agg #[vl, .int .i64 c.out, .int .i64 c.pump]] [] [hr, hw, hb, hc, ht, hl] (fun v hs => ∃ k, hs = [k] ∧ OArr v encI 1 3 k (nextL h t c)) := by
  have hnil : OArr (.slice none 0 0) encI 1 3 emp ([] : List Int) := OArr.nil (fun _ => rfl)
  have hr2 := ok.r2
  have hw2 := ok.w2
  have hc2 := ok.c2
  have htl := tk.len
  have hcl := ck.len
  have hco := ck.out
  have hkl : (takenL h t c.pump).length = h.coolers.length := by simp [takenL]
  refine Spec.intro (fn := Try.f90) (N := 130) Try.func90 rfl Try.ntmps90 rfl fun B => ?_
  refine XK.seq (XK.region rfl ?_)
  refine XO.box rfl fun b3 => ?_
  refine XO.box rfl fun b5 => ?_
  refine XO.q (Q.assign rfl) (XO.done (XK.seq (XK.region rfl ?_)))
  refine XO.q (Q.ldA [_, _, _, _] rfl rfl rfl) ?_
  refine XO.q (Q.move rfl) ?_
  refine XO.q (Q.fieldAddr rfl) ?_
  refine XO.q (Q.ld rfl rfl) ?_
  refine XO.call Try.call87 rfl rfl rfl (rtaken_spec h vr vw vb vc hb hc ok t vt ht tk c.pump ck.pump.1 ck.pump.2) fun v20 s20 R20 => ?_
  obtain ⟨k20, rfl, O20⟩ := R20
  dsimp only [lcA, lnA]
  refine XO.q (Q.assign rfl) (XO.done (XK.seq (XK.region rfl (XO.q (Q.assign rfl) (XO.done ?_)))))
  refine XK.seq (XK.seq (XK.region rfl (XO.q (Q.assign rfl) (XO.done (XK.block ?_)))))
  refine XK.while (X := Nat × Value × PHeap) [8, 9, 10, 11, 12, 13, 14, 15, 21, 22, 23, 24, 25, 26, 27, 28, 29, 30, 31, 32, 33, 34, 35, 36, 37, 38, 39, 40, 41, 42, 43, 44, 45, 46, 47, 48, 49, 50, 51, 52, 53, 54, 55, 56, 57, 58, 59, 60, 61, 62, 63, 64, 65, 66, 67, 68, 69, 70, 71, 72, 73, 74, 75, 76, 77, 78, 79, 80, 81, 82, 83, 84, 85, 86, 87, 88, 89, 90, 91, 92, 93, 94, 95, 96, 97, 98, 99, 100, 101, 102, 103, 104, 105, 106, 107, 108, 109, 110, 111, 112, 113, 114, 115, 116, 117, 118, 119, 120, 121, 122, 123, 124, 125, 126, 127, 128] (fun ⟨i, vo, ho⟩ => [(9, some (.int .i64 (i : Nat))), (8, some (vo))]) (fun ⟨i, vo, ho⟩ => [ho]) (fun ⟨i, vo, ho⟩ => i ≤ h.rooms.length ∧ OArr vo encI 1 3 ho ((List.range i).map (nextAt h t c))) (fun ⟨i, vo, ho⟩ => h.rooms.length - i) (0, .slice none 0 0, emp) [emp] rfl ⟨by first | omega | (dsimp only; omega), by simpa using hnil⟩ (.c rfl (.c rfl (.base 0 rfl rfl))) ?_
  rintro ⟨i, vo, ho⟩ ⟨hi, OO⟩ ih0
  dsimp only [lcA, lnA] at ih0 ⊢
  refine XK.seq (XK.seq (XK.region rfl (XO.q (Q.move rfl) ?_)))
  refine XO.q (Q.fieldAddr rfl) ?_
  refine XO.q (Q.ld rfl rfl) ?_
  refine XO.len rfl fun l24 => ?_
  refine XO.q (Q.lss rfl rfl) ?_
  refine XO.done ?_
  refine XK.if rfl (fun c0 => ?_) (fun c0 => ?_)
  · skip
    have hrm := ok.room i (by omega)
    have hI := tk.rng i (by omega)
    change 0 ≤ t.getD i default ∧ t.getD i default ≤ 1000000 at hI
    have hm0 := mul_abs (p := (h.rooms.getD i default).store) (d := t.getD i default) (P := 1000000) (D := 1000000) (by omega) hrm.2.1 (by omega) hI.2 (by omega)
    have hm00 := Int.mul_nonneg (show 0 ≤ (h.rooms.getD i default).store by omega) hI.1
    have hl1 := ck.rng i (by omega)
    change 0 ≤ c.load.getD i default ∧ c.load.getD i default ≤ _ at hl1
    refine XK.skip (XK.seq (XK.block (XK.seq ?_)))
    refine XK.drawn [0, 1, 2, 3, 4, 5, 6, 7, 8, 9, 10, 11, 12, 13, 14, 15, 16, 17] [b3, b5] [] (.q 0 (.q 1 (.q 2 (.q 3 (.q 4 (.q 5 (.q 6 (.q 7 (.q 8 (.q 9 (.q 10 (.q 11 (.q 12 (.q 13 (.q 14 (.q 15 (.q 16 (.q 17 .done)))))))))))))))))) Try.mixed rfl (by kernel_rfl) ?_
    refine XT.q rfl rfl (Q.fieldAddr rfl) ?_
    refine XT.q rfl rfl (Q.ld rfl rfl) ?_
    refine XT.q rfl rfl (Q.move rfl) ?_
    refine XT.ix rfl rfl rfl rfl (by omega) (by omega) fun i31 => ?_
    refine XT.q rfl rfl (Q.fieldQ rfl (by first | assumption | omega)) ?_
    refine XT.q rfl rfl (Q.ldE rfl (by first | assumption | omega) rfl) ?_
    refine XT.q rfl rfl (Q.move rfl) ?_
    refine XT.q rfl rfl (Q.move rfl) ?_
    refine XT.ix rfl rfl rfl rfl (by omega) (by omega) fun i36 => ?_
    refine XT.q rfl rfl (Q.ldE rfl (by first | assumption | omega) rfl) ?_
    refine XT.q rfl rfl (Q.mul rfl rfl ⟨by omega, by omega⟩) ?_
    refine XT.q rfl rfl (Q.fieldAddr rfl) ?_
    refine XT.q rfl rfl (Q.ld rfl rfl) ?_
    refine XT.q rfl rfl (Q.move rfl) ?_
    refine XT.ix rfl rfl rfl rfl (by omega) (by omega) fun i42 => ?_
    refine XT.q rfl rfl (Q.ldE rfl (by first | assumption | omega) rfl) ?_
    refine XT.q rfl rfl (Q.add rfl rfl ⟨by omega, by omega⟩) ?_
    refine XT.q rfl rfl (Q.assign rfl) ?_
    refine XT.done ?_
    refine XK.seq (XK.seq (XK.region rfl (XO.q (Q.assign rfl) (XO.done (XK.block ?_)))))
    rw [show ((h.rooms.getD i default).store * t.getD i default + c.load.getD i default) = ((h.rooms.getD i default).store * t.getD i default + c.load.getD i default) + sumTo (wheat h t c.out i) 0 by rw [sumTo, Int.add_zero]]
    refine XK.while (X := Nat) [10, 11, 12, 13, 14, 45, 46, 47, 48, 49, 50, 51, 52, 53, 54, 55, 56, 57, 58, 59, 60, 61, 62, 63, 64, 65, 66, 67, 68, 69, 70, 71, 72, 73, 74, 75, 76, 77, 78, 79, 80, 81, 82, 83, 84, 85, 86, 87, 88, 89, 90, 91, 92, 93, 94, 95] (fun k => [(11, some (.int .i64 (k : Nat))), (10, some (.int .i64 (((h.rooms.getD i default).store * t.getD i default + c.load.getD i default) + sumTo (wheat h t c.out i) k)))]) (fun k => []) (fun k => k ≤ h.walls.length) (fun k => h.walls.length - k) (0) [] rfl (by omega) (.c rfl (.c rfl (.base 0 rfl rfl))) ?_
    rintro k hk ih1
    dsimp only [lcA, lnA] at ih1 ⊢
    refine XK.seq (XK.seq (XK.region rfl (XO.q (Q.move rfl) ?_)))
    refine XO.q (Q.fieldAddr rfl) ?_
    refine XO.q (Q.ld rfl rfl) ?_
    refine XO.len rfl fun l48 => ?_
    refine XO.q (Q.lss rfl rfl) ?_
    refine XO.done ?_
    refine XK.if rfl (fun c1 => ?_) (fun c1 => ?_)
    · skip
      have hwf := ok.wall k (by omega)
      have hsw := wsum_abs ok tk hco (i := i) (n := k) (by omega) (by omega)
      have hA := temp_at ok tk hwf.1.1 hwf.1.2
      change 0 ≤ t.getD (h.walls.getD k default).a.toNat default ∧ t.getD (h.walls.getD k default).a.toNat default ≤ 1000000 at hA
      refine XK.skip (XK.seq (XK.block (XK.seq (XK.region rfl ?_))))
      refine XO.q (Q.fieldAddr rfl) ?_
      refine XO.q (Q.ld rfl rfl) ?_
      refine XO.q (Q.move rfl) ?_
      refine XO.ix rfl rfl (by omega) (by omega) fun i55 => ?_
      refine XO.q (Q.ldEA [_, _, _] rfl (by first | assumption | omega) rfl rfl) ?_
      refine XO.alloc fun b12 => ?_
      refine XO.st rfl rfl rfl ?_
      refine XO.done (XK.seq ?_)
      refine XK.drawn [0, 1, 2, 3, 4, 5, 6, 7, 8] [b12, b5] [] (.q 0 (.q 1 (.q 2 (.q 3 (.q 4 (.q 5 (.q 6 (.q 7 (.q 8 .done))))))))) Try.mixed rfl (by kernel_rfl) ?_
      refine XT.q rfl rfl (Q.move rfl) ?_
      refine XT.q rfl rfl (Q.fieldAddr rfl) ?_
      refine XT.q rfl rfl (Q.ld rfl rfl) ?_
      refine XT.ix rfl rfl rfl rfl (by omega) (by omega) fun i60 => ?_
      refine XT.q rfl rfl (Q.ldE rfl (by first | assumption | omega) rfl) ?_
      refine XT.q rfl rfl (Q.fieldAddr rfl) ?_
      refine XT.q rfl rfl (Q.ld rfl rfl) ?_
      refine XT.q rfl rfl (Q.assign rfl) ?_
      refine XT.q rfl rfl (Q.assign rfl) ?_
      refine XT.done ?_
      refine XK.seq (XK.seq (XK.region rfl ?_))
      refine XO.q (Q.fieldAddr rfl) ?_
      refine XO.q (Q.ld rfl rfl) ?_
      refine XO.q (Q.geq rfl rfl) ?_
      refine XO.done ?_
      refine XK.meet (X := Int) [14, 67, 68, 69, 70, 71] (fun y => [(14, some (.int .i64 y))]) (fun y => []) (fun y => y = (if 0 ≤ (h.walls.getD k default).b then t.getD (h.walls.getD k default).b.toNat 0 else c.out) ∧ 0 ≤ y ∧ y ≤ 1000000) [] ?_ ?_
      · rintro y ⟨hy, hy1, hy2⟩
        dsimp only [lcA, lnA]
        refine XK.seq (XK.seq (XK.region rfl ?_))
        refine XO.q (Q.fieldAddr rfl) ?_
        refine XO.q (Q.ld rfl rfl) ?_
        refine XO.q (Q.move rfl) ?_
        refine XO.q (Q.eql rfl rfl) ?_
        refine XO.done ?_
        refine XK.if rfl (fun c3 => ?_) (fun c3 => ?_)
        · skip
          have hm := mul_abs (p := (h.walls.getD k default).pass) (d := y - t.getD (h.walls.getD k default).a.toNat default) (P := 100000) (D := 1000000) hwf.2.2.2.1 hwf.2.2.2.2 (by omega) (by omega) (by omega)
          refine XK.region rfl (XO.q (Q.move rfl) ?_)
          refine XO.q (Q.fieldAddr rfl) ?_
          refine XO.q (Q.ld rfl rfl) ?_
          refine XO.q (Q.move rfl) (XO.q (Q.move rfl) ?_)
          refine XO.q (Q.sub rfl rfl ⟨by omega, by omega⟩) ?_
          refine XO.q (Q.mul rfl rfl ⟨by omega, by omega⟩) ?_
          refine XO.q (Q.add rfl rfl ⟨by omega, by omega⟩) ?_
          refine XO.q (Q.assign rfl) (XO.done (XK.seq (XK.region rfl ?_)))
          refine XO.q (Q.fieldAddr rfl) ?_
          refine XO.q (Q.ld rfl rfl) ?_
          refine XO.q (Q.move rfl) ?_
          refine XO.q (Q.eql rfl rfl) ?_
          refine XO.done ?_
          refine XK.if rfl (fun c4 => ?_) (fun c4 => ?_)
          · skip
            exact absurd (c3.trans c4.symm) hwf.2.2.1
          · skip
            refine XK.skip ?_
            refine XK.inBlock ?_
            refine XK.region rfl (XO.q (Q.move rfl) ?_)
            refine XO.q (Q.add rfl rfl ⟨by omega, by omega⟩) ?_
            refine XO.q (Q.assign rfl) (XO.done ?_)
            rw [show ((h.rooms.getD i default).store * t.getD i default + c.load.getD i default) + sumTo (wheat h t c.out i) k + (h.walls.getD k default).pass * (y - t.getD (h.walls.getD k default).a.toNat default) = ((h.rooms.getD i default).store * t.getD i default + c.load.getD i default) + sumTo (wheat h t c.out i) (k + 1) by rw [sumTo, wheat_a c3, ← hy, show (h.walls.getD k default).a.toNat = i by omega, Int.add_assoc]; rfl]
            exact ih1 (k + 1) _ _ (by omega) (by first | omega | (dsimp only; omega)) (.c rfl (.c rfl (.base 108 rfl rfl))) inferInstance
        · skip
          refine XK.skip (XK.seq (XK.region rfl ?_))
          refine XO.q (Q.fieldAddr rfl) ?_
          refine XO.q (Q.ld rfl rfl) ?_
          refine XO.q (Q.move rfl) ?_
          refine XO.q (Q.eql rfl rfl) ?_
          refine XO.done ?_
          refine XK.if rfl (fun c5 => ?_) (fun c5 => ?_)
          · skip
            have hm := mul_abs (p := (h.walls.getD k default).pass) (d := t.getD (h.walls.getD k default).a.toNat default - y) (P := 100000) (D := 1000000) hwf.2.2.2.1 hwf.2.2.2.2 (by omega) (by omega) (by omega)
            refine XK.region rfl (XO.q (Q.move rfl) ?_)
            refine XO.q (Q.fieldAddr rfl) ?_
            refine XO.q (Q.ld rfl rfl) ?_
            refine XO.q (Q.move rfl) (XO.q (Q.move rfl) ?_)
            refine XO.q (Q.sub rfl rfl ⟨by omega, by omega⟩) ?_
            refine XO.q (Q.mul rfl rfl ⟨by omega, by omega⟩) ?_
            refine XO.q (Q.add rfl rfl ⟨by omega, by omega⟩) ?_
            refine XO.q (Q.assign rfl) (XO.done ?_)
            refine XK.inBlock ?_
            refine XK.region rfl (XO.q (Q.move rfl) ?_)
            refine XO.q (Q.add rfl rfl ⟨by omega, by omega⟩) ?_
            refine XO.q (Q.assign rfl) (XO.done ?_)
            have hyi : y = t.getD i 0 := by rw [hy, if_pos (by omega), show (h.walls.getD k default).b.toNat = i by omega]
            rw [show ((h.rooms.getD i default).store * t.getD i default + c.load.getD i default) + sumTo (wheat h t c.out i) k + (h.walls.getD k default).pass * (t.getD (h.walls.getD k default).a.toNat default - y) = ((h.rooms.getD i default).store * t.getD i default + c.load.getD i default) + sumTo (wheat h t c.out i) (k + 1) by rw [sumTo, wheat_b c3 c5, hyi, Int.add_assoc]; rfl]
            exact ih1 (k + 1) _ _ (by omega) (by first | omega | (dsimp only; omega)) (.c rfl (.c rfl (.base 108 rfl rfl))) inferInstance
          · skip
            refine XK.skip ?_
            refine XK.inBlock ?_
            refine XK.region rfl (XO.q (Q.move rfl) ?_)
            refine XO.q (Q.add rfl rfl ⟨by omega, by omega⟩) ?_
            refine XO.q (Q.assign rfl) (XO.done ?_)
            rw [show sumTo (wheat h t c.out i) k = sumTo (wheat h t c.out i) (k + 1) by rw [sumTo, wheat_no c3 c5, Int.add_zero]]
            exact ih1 (k + 1) _ _ (by omega) (by first | omega | (dsimp only; omega)) (.c rfl (.c rfl (.base 99 rfl rfl))) inferInstance
      · intro mt2
        dsimp only [lcA, lnA] at mt2
        refine XK.if rfl (fun c2 => ?_) (fun c2 => ?_)
        · skip
          refine XK.region rfl (XO.q (Q.move rfl) ?_)
          refine XO.q (Q.fieldAddr rfl) ?_
          refine XO.q (Q.ld rfl rfl) ?_
          refine XO.ix rfl rfl (by omega) (by omega) fun i70 => ?_
          refine XO.q (Q.ldE rfl (by first | assumption | omega) rfl) ?_
          refine XO.q (Q.assign rfl) (XO.done ?_)
          exact mt2 (_) _ _ ⟨by rw [if_pos c2]; rfl, by have := temp_at ok tk (i := (h.walls.getD k default).b) c2 (by omega); exact this.1, by have := temp_at ok tk (i := (h.walls.getD k default).b) c2 (by omega); exact this.2⟩ (.c rfl (.base 6 rfl rfl)) inferInstance
        · skip
          refine XK.skip ?_
          exact mt2 (c.out) _ _ ⟨by rw [if_neg c2], hco.1, hco.2⟩ (.c rfl (.base 0 rfl rfl)) inferInstance
    · skip
      have hkn : k = h.walls.length := by omega
      rw [hkn]
      have hsw := wsum_abs ok tk hco (i := i) (n := h.walls.length) (by omega) (Nat.le_refl _)
      rw [show ((h.rooms.getD i default).store * t.getD i default + c.load.getD i default) + sumTo (wheat h t c.out i) h.walls.length = ((h.rooms.getD i default).store * t.getD i default + c.load.getD i default) + sumTo (wheat h t c.out i) h.walls.length + sumTo (cheat h (takenL h t c.pump) i) 0 by rw [sumTo, Int.add_zero]]
      clear ih1
      refine XK.exit rfl ?_
      refine XK.seq (XK.seq (XK.region rfl (XO.q (Q.assign rfl) (XO.done (XK.block ?_)))))
      refine XK.while (X := Nat) [10, 15, 96, 97, 98, 99, 100, 101, 102, 103, 104, 105, 106, 107, 108, 109, 110, 111, 112, 113, 114, 115, 116] (fun m => [(15, some (.int .i64 (m : Nat))), (10, some (.int .i64 (((h.rooms.getD i default).store * t.getD i default + c.load.getD i default) + sumTo (wheat h t c.out i) h.walls.length + sumTo (cheat h (takenL h t c.pump) i) m)))]) (fun m => []) (fun m => m ≤ h.coolers.length) (fun m => h.coolers.length - m) (0) [] rfl (by omega) (.c rfl (.c rfl (.base 0 rfl rfl))) ?_
      rintro m hm_ ih2
      dsimp only [lcA, lnA] at ih2 ⊢
      refine XK.seq (XK.seq (XK.region rfl (XO.q (Q.move rfl) ?_)))
      refine XO.q (Q.fieldAddr rfl) ?_
      refine XO.q (Q.ld rfl rfl) ?_
      refine XO.len rfl fun l99 => ?_
      refine XO.q (Q.lss rfl rfl) ?_
      refine XO.done ?_
      refine XK.if rfl (fun c6 => ?_) (fun c6 => ?_)
      · skip
        have hcs := csum_abs ok tk ck.pump.1 ck.pump.2 (i := i) (n := m) (by omega)
        have hct := taken_rng ok tk ck.pump.1 ck.pump.2 (k := m) (by omega)
        rw [← taken_getD ok tk (by omega)] at hct
        change 0 ≤ (takenL h t c.pump).getD m default ∧ (takenL h t c.pump).getD m default ≤ _ at hct
        refine XK.skip (XK.seq (XK.block (XK.seq (XK.region rfl ?_))))
        refine XO.q (Q.fieldAddr rfl) ?_
        refine XO.q (Q.ld rfl rfl) ?_
        refine XO.q (Q.move rfl) ?_
        refine XO.ix rfl rfl (by omega) (by omega) fun i106 => ?_
        refine XO.q (Q.fieldQ rfl (by first | assumption | omega)) ?_
        refine XO.q (Q.ldE rfl (by first | assumption | omega) rfl) ?_
        refine XO.q (Q.move rfl) ?_
        refine XO.q (Q.eql rfl rfl) ?_
        refine XO.done ?_
        refine XK.if rfl (fun c7 => ?_) (fun c7 => ?_)
        · skip
          refine XK.region rfl (XO.q (Q.move rfl) (XO.q (Q.move rfl) (XO.q (Q.move rfl) ?_)))
          refine XO.ix rfl rfl (by omega) (by omega) fun i114 => ?_
          refine XO.q (Q.ldE rfl (by first | assumption | omega) rfl) ?_
          refine XO.q (Q.sub rfl rfl ⟨by omega, by omega⟩) ?_
          refine XO.q (Q.assign rfl) (XO.done ?_)
          refine XK.inBlock ?_
          refine XK.region rfl (XO.q (Q.move rfl) ?_)
          refine XO.q (Q.add rfl rfl ⟨by omega, by omega⟩) ?_
          refine XO.q (Q.assign rfl) (XO.done ?_)
          rw [show ((h.rooms.getD i default).store * t.getD i default + c.load.getD i default) + sumTo (wheat h t c.out i) h.walls.length + sumTo (cheat h (takenL h t c.pump) i) m - (takenL h t c.pump).getD m default = ((h.rooms.getD i default).store * t.getD i default + c.load.getD i default) + sumTo (wheat h t c.out i) h.walls.length + sumTo (cheat h (takenL h t c.pump) i) (m + 1) by rw [sumTo, cheat, if_pos c7, ← Int.sub_eq_add_neg, ← Int.add_sub_assoc]; rfl]
          exact ih2 (m + 1) _ _ (by omega) (by first | omega | (dsimp only; omega)) (.c rfl (.c rfl (.base 48 rfl rfl))) inferInstance
        · skip
          refine XK.skip ?_
          refine XK.inBlock ?_
          refine XK.region rfl (XO.q (Q.move rfl) ?_)
          refine XO.q (Q.add rfl rfl ⟨by omega, by omega⟩) ?_
          refine XO.q (Q.assign rfl) (XO.done ?_)
          rw [show sumTo (cheat h (takenL h t c.pump) i) m = sumTo (cheat h (takenL h t c.pump) i) (m + 1) by rw [sumTo, cheat, if_neg c7, Int.add_zero]]
          exact ih2 (m + 1) _ _ (by omega) (by first | omega | (dsimp only; omega)) (.c rfl (.c rfl (.base 41 rfl rfl))) inferInstance
      · skip
        have hmn : m = h.coolers.length := by omega
        rw [hmn]
        have hnn := heat_nonneg ok tk ck (i := i) (by omega)
        have hcs := csum_abs ok tk ck.pump.1 ck.pump.2 (i := i) (n := h.coolers.length) (Nat.le_refl _)
        have hnu : heatOf h t c i ≤ 10000000000000 := by unfold heatOf; change ((h.rooms.getD i default).store * t.getD i default + c.load.getD i default) + _ + _ ≤ _; omega
        rw [show ((h.rooms.getD i default).store * t.getD i default + c.load.getD i default) + sumTo (wheat h t c.out i) h.walls.length + sumTo (cheat h (takenL h t c.pump) i) h.coolers.length = heatOf h t c i from rfl]
        refine XK.exit rfl ?_
        refine XK.region rfl (XO.q (Q.move rfl) (XO.q (Q.move rfl) ?_))
        refine XO.q (Q.fieldAddr rfl) ?_
        refine XO.q (Q.ld rfl rfl) ?_
        refine XO.q (Q.move rfl) ?_
        refine XO.ix rfl rfl (by omega) (by omega) fun i122 => ?_
        refine XO.q (Q.fieldQ rfl (by first | assumption | omega)) ?_
        refine XO.q (Q.ldE rfl (by first | assumption | omega) rfl) ?_
        refine XO.q (Q.quo rfl rfl (by omega) (by omega) (by omega)) ?_
        refine XO.q (Q.min rfl rfl) ?_
        refine XO.lit [_] [_] [_] encI (by rfl) (by rfl) rfl (by rfl) (by exact .c 0 1 rfl rfl rfl (.n _)) (fun _ => rfl) (by rfl) rfl (by infer_instance) rfl fun v127 h127 O127 => ?_
        refine XO.append rfl rfl rfl rfl (by simp only [List.length_map, List.length_range, List.length_cons, List.length_nil]; omega) fun v128 h128 O128 => ?_
        refine XO.q (Q.assign rfl) (XO.done ?_)
        refine XK.inBlock ?_
        refine XK.region rfl (XO.q (Q.move rfl) ?_)
        refine XO.q (Q.add rfl rfl ⟨by omega, by omega⟩) ?_
        refine XO.q (Q.assign rfl) (XO.done ?_)
        exact ih0 (i + 1, v128, h128) _ _ ⟨by first | omega | (dsimp only; omega), by dsimp only; rw [show (List.range (i + 1)).map (nextAt h t c) = (List.range i).map (nextAt h t c) ++ [nextAt h t c i] by rw [List.range_succ, List.map_append]; rfl]; exact O128⟩ (by first | omega | (dsimp only; omega)) (.c rfl (.c rfl (.base 252 rfl rfl))) inferInstance
  · skip
    have hin : i = h.rooms.length := by omega
    rw [hin] at OO
    refine XK.exit rfl ?_
    refine XK.seq (XK.region rfl (XO.q (Q.move rfl) (XO.q (Q.assign rfl) (XO.done ?_))))
    refine XK.rt [ho] Try.func90 Try.results90 (.t rfl .n) ?_
    exact ⟨ho, rfl, OO⟩
theorem takenG_r (h : Hall) (t : List Int) (pump : Int) : takenG h t pump = if hcheck h ≠ 0 then ([], hcheck h) else if warmP h t = 0 ∧ ¬ inR pump 0 100000 = true then ([], 6) else if warmP h t ≠ 0 then ([], warmP h t) else (takenL h t pump, 0) := by
  unfold takenG
  by_cases hc : hcheck h ≠ 0
  · rw [if_pos hc, if_pos hc]
  · rw [if_neg hc, if_neg hc]
    have e : casedP h (caseP h pump) = if ¬ inR pump 0 100000 = true then 6 else 0 := by
      unfold casedP
      rw [if_neg (by simp [caseP])]
      have a : (caseP h pump).load.any (fun n => !inP n 10000000) = false := by
        rw [List.any_eq_false]
        intro x hx
        rw [show (caseP h pump).load = List.replicate h.rooms.length 0 from rfl] at hx
        rw [List.eq_of_mem_replicate hx]
        decide
      rw [a]
      by_cases hp : inR pump 0 100000 = true
      · rw [if_neg (fun x => by rcases x with (x | x) | x; exact absurd x (by decide); exact absurd (show inP 0 1000000 = true from rfl) x; exact x hp), if_neg (fun x => x hp)]
      · rw [if_pos (show ((false = true ∨ ¬ inP (caseP h pump).out 1000000 = true) ∨ ¬ inP (caseP h pump).pump 100000 = true) from Or.inr hp), if_pos hp]
    rw [e]
    rcases warm_vals h t with w | w | w <;> rw [w] <;> by_cases hp : inR pump 0 100000 = true <;> simp [hp, bothP]
theorem rTaken_spec (h : Hall) (vr vw vb vc : Value) (hr hw hb hc : PHeap) [ir : Arr vr encRoom 2 hr h.rooms] [iw : Arr vw encWall 3 hw h.walls] [ib : Arr vb encBranch 3 hb h.branches] [ic : Arr vc encCooler 5 hc h.coolers] (t : List Int) (vt : Value) (ht : PHeap) [it : Arr vt encI 1 ht t] (pump : Int) : Spec Try.prog 57 #[.agg #[vr, vw, vb, vc], vt, .int .i64 pump] [] [hr, hw, hb, hc, ht]
    (fun v hs => ∃ v1 k1, v = .tuple #[v1, .int .i64 (takenG h t pump).2] ∧ hs = [k1] ∧ OArr v1 encI 1 3 k1 (takenG h t pump).1) := by
  refine Spec.intro (fn := Try.f57) (N := 32) Try.func57 rfl Try.ntmps57 rfl fun B => ?_
  refine XK.seq (XK.region rfl ?_)
  refine XO.box rfl fun b3 => ?_
  refine XO.q (Q.assign rfl) (XO.q (Q.assign rfl) (XO.done (XK.seq (XK.seq (XK.region rfl ?_)))))
  refine XO.q (Q.ldA [_, _, _, _] rfl rfl rfl) ?_
  refine XO.call Try.call55 rfl rfl rfl (rCheck_spec h vr vw vb vc hr hw hb hc) fun v11 s11 R11 => ?_
  obtain ⟨rfl, rfl⟩ := R11
  dsimp only [lcA, lnA]
  refine XO.q (Q.assign rfl) (XO.done (XK.seq (XK.region rfl (XO.q (Q.move rfl) ?_))))
  refine XO.q (Q.neq rfl rfl) ?_
  refine XO.done ?_
  refine XK.if rfl (fun c0 => ?_) (fun c0 => ?_)
  · skip
    refine XK.seq (XK.region rfl (XO.q (Q.move rfl) (XO.q (Q.assign rfl) (XO.q (Q.assign rfl) (XO.done ?_)))))
    refine XK.rt [emp] Try.func57 Try.results57 (.t rfl (.t rfl .n)) ?_
    have hw0 : takenG h t pump = ([], hcheck h) := by rw [takenG, if_pos c0]
    rw [hw0]
    exact ⟨.slice none 0 0, emp, rfl, rfl, OArr.nil (fun _ => rfl)⟩
  · skip
    have hg := takenG_r h t pump
    rw [if_neg c0] at hg
    refine XK.skip (XK.seq (XK.region rfl ?_))
    refine XO.q (Q.ldA [_, _, _, _] rfl rfl rfl) ?_
    refine XO.q (Q.move rfl) ?_
    refine XO.call Try.call86 rfl rfl rfl (rwarm_spec h vr vw vb vc hr vt ht t) fun v17 s17 R17 => ?_
    obtain ⟨rfl, rfl⟩ := R17
    dsimp only [lcA, lnA]
    refine XO.q (Q.assign rfl) (XO.done (XK.seq (XK.seq (XK.region rfl (XO.q (Q.move rfl) ?_)))))
    refine XO.q (Q.eql rfl rfl) ?_
    refine XO.q (Q.move rfl) ?_
    refine XO.q (Quiet.guardT rfl rfl fun g21 p21 => Q.move rfl) ?_
    refine XO.gcallT rfl rfl Try.call84 rfl (fun g22 => .c (lzv g22 rfl) (.c rfl (.c rfl .n))) rfl (fun g22 p22 => rin_spec _ _ _) ?_
    refine XO.q (Quiet.guardT rfl rfl fun g23 p23 => Q.not (lzv g23 rfl)) ?_
    refine XO.q (Q.and rfl (fun hp => lzv hp rfl)) ?_
    refine XO.done ?_
    refine XK.meet (X := Int) [9] (fun y => [(9, some (.int .i64 y))]) (fun y => []) (fun y => (y ≠ 0 → takenG h t pump = ([], y)) ∧ (¬ y ≠ 0 → warmP h t = 0 ∧ inP pump 100000 = true ∧ takenG h t pump = (takenL h t pump, 0))) [] ?_ ?_
    · rintro y ⟨hy1, hy2⟩
      dsimp only [lcA, lnA]
      refine XK.seq (XK.seq (XK.region rfl (XO.q (Q.move rfl) ?_)))
      refine XO.q (Q.neq rfl rfl) ?_
      refine XO.done ?_
      refine XK.if rfl (fun c2 => ?_) (fun c2 => ?_)
      · skip
        refine XK.seq (XK.region rfl (XO.q (Q.move rfl) (XO.q (Q.assign rfl) (XO.q (Q.assign rfl) (XO.done ?_)))))
        refine XK.rt [emp] Try.func57 Try.results57 (.t rfl (.t rfl .n)) ?_
        have hw0 : takenG h t pump = ([], y) := hy1 c2
        rw [hw0]
        exact ⟨.slice none 0 0, emp, rfl, rfl, OArr.nil (fun _ => rfl)⟩
      · skip
        obtain ⟨hw0, hpp, hy3⟩ := hy2 c2
        refine XK.skip (XK.seq (XK.region rfl ?_))
        refine XO.q (Q.ldA [_, _, _, _] rfl rfl rfl) ?_
        refine XO.q (Q.move rfl) (XO.q (Q.move rfl) ?_)
        refine XO.call Try.call87 rfl rfl rfl (rtaken_spec h vr vw vb vc hb hc (hcheck_ok (Decidable.of_not_not c0)) t vt ht (warm_ok hw0) pump (inP_le hpp).1 (inP_le hpp).2) fun v31 s31 R31 => ?_
        obtain ⟨k1, rfl, O1⟩ := R31
        dsimp only [lcA, lnA]
        refine XO.q (Q.assign rfl) (XO.q (Q.assign rfl) (XO.done ?_))
        refine XK.rt [k1] Try.func57 Try.results57 (.t rfl (.t rfl .n)) ?_
        rw [hy3]
        exact ⟨_, k1, rfl, rfl, O1⟩
    · intro mt1
      dsimp only [lcA, lnA] at mt1
      refine XK.if rfl (fun c1 => ?_) (fun c1 => ?_)
      · skip
        refine XK.region rfl (XO.q (Q.assign rfl) (XO.done ?_))
        exact mt1 (6) _ _ ⟨fun _ => by rw [hg, if_pos c1], fun x => absurd (by decide) x⟩ (.c rfl (.base 1 rfl rfl)) inferInstance
      · skip
        refine XK.skip ?_
        exact mt1 (_) _ _ ⟨fun x => by rw [hg, if_neg c1, if_pos x], fun x => by
          have w := Decidable.of_not_not x
          have q : inR pump 0 100000 = true := Classical.byContradiction fun z => c1 ⟨w, z⟩
          exact ⟨w, q, by rw [hg, if_neg c1, if_neg x]⟩⟩ (.c rfl (.base 0 rfl rfl)) inferInstance
theorem rNext_spec (h : Hall) (vr vw vb vc : Value) (hr hw hb hc : PHeap) [ir : Arr vr encRoom 2 hr h.rooms] [iw : Arr vw encWall 3 hw h.walls] [ib : Arr vb encBranch 3 hb h.branches] [ic : Arr vc encCooler 5 hc h.coolers] (t : List Int) (vt : Value) (ht : PHeap) [it : Arr vt encI 1 ht t] (c : HCase) (vl : Value) (hl : PHeap) [il : Arr vl encI 1 hl c.load] : Spec Try.prog 60 #[.agg #[vr, vw, vb, vc], vt, .agg #[vl, .int .i64 c.out, .int .i64 c.pump]] [] [hr, hw, hb, hc, ht, hl]
    (fun v hs => ∃ v1 k1, v = .tuple #[v1, .int .i64 (nextG h t c).2] ∧ hs = [k1] ∧ OArr v1 encI 1 3 k1 (nextG h t c).1) := by
  refine Spec.intro (fn := Try.f60) (N := 29) Try.func60 rfl Try.ntmps60 rfl fun B => ?_
  refine XK.seq (XK.region rfl ?_)
  refine XO.box rfl fun b3 => ?_
  refine XO.box rfl fun b5 => ?_
  refine XO.q (Q.assign rfl) (XO.q (Q.assign rfl) (XO.done (XK.seq (XK.seq (XK.region rfl ?_)))))
  refine XO.q (Q.ldA [_, _, _, _] rfl rfl rfl) ?_
  refine XO.call Try.call55 rfl rfl rfl (rCheck_spec h vr vw vb vc hr hw hb hc) fun v11 s11 R11 => ?_
  obtain ⟨rfl, rfl⟩ := R11
  dsimp only [lcA, lnA]
  refine XO.q (Q.assign rfl) (XO.done (XK.seq (XK.region rfl (XO.q (Q.move rfl) ?_))))
  refine XO.q (Q.neq rfl rfl) ?_
  refine XO.done ?_
  refine XK.if rfl (fun c0 => ?_) (fun c0 => ?_)
  · skip
    refine XK.seq (XK.region rfl (XO.q (Q.move rfl) (XO.q (Q.assign rfl) (XO.q (Q.assign rfl) (XO.done ?_)))))
    refine XK.rt [emp] Try.func60 Try.results60 (.t rfl (.t rfl .n)) ?_
    have hw0 : nextG h t c = ([], hcheck h) := by rw [nextG, if_pos c0]
    rw [hw0]
    exact ⟨.slice none 0 0, emp, rfl, rfl, OArr.nil (fun _ => rfl)⟩
  · skip
    refine XK.skip (XK.seq (XK.seq ?_))
    refine XK.drawn [0, 1, 3, 4, 7] [b3, b5] [] (.q 0 (.q 1 (.q 3 (.q 4 (.br 2 true (.br 5 true (.br 6 true (.q 7 .done) .stop) .stop) .stop))))) Try.mixed rfl (by kernel_rfl) ?_
    refine XT.q rfl rfl (Q.ldA [_, _, _, _] rfl rfl rfl) ?_
    refine XT.q rfl rfl (Q.move rfl) ?_
    refine XT.q rfl rfl (Q.ldA [_, _, _, _] rfl rfl rfl) ?_
    refine XT.q rfl rfl (Q.ldA [_, _, _] rfl rfl rfl) ?_
    refine XT.call rfl rfl Try.call86 rfl rfl rfl (rwarm_spec h vr vw vb vc hr vt ht t) (fun v17 s17 R17 => ?_) XT.stop
    obtain ⟨rfl, rfl⟩ := R17
    dsimp only [lcA, lnA]
    refine ⟨inferInstance, ?_⟩
    refine XT.call rfl rfl Try.call89 rfl rfl rfl (rcased_spec h vr vw vb vc hr vl hl c) (fun v20 s20 R20 => ?_) XT.stop
    obtain ⟨rfl, rfl⟩ := R20
    dsimp only [lcA, lnA]
    refine ⟨inferInstance, ?_⟩
    refine XT.call rfl rfl Try.call88 rfl rfl rfl (rjoined_spec _ _) (fun v21 s21 R21 => ?_) XT.stop
    obtain ⟨rfl, rfl⟩ := R21
    dsimp only [lcA, lnA]
    refine ⟨inferInstance, ?_⟩
    rw [join_both]
    refine XT.q rfl rfl (Q.assign rfl) ?_
    refine XT.done ?_
    refine XK.seq (XK.region rfl (XO.q (Q.move rfl) ?_))
    refine XO.q (Q.neq rfl rfl) ?_
    refine XO.done ?_
    refine XK.if rfl (fun c1 => ?_) (fun c1 => ?_)
    · skip
      refine XK.seq (XK.region rfl (XO.q (Q.move rfl) (XO.q (Q.assign rfl) (XO.q (Q.assign rfl) (XO.done ?_)))))
      refine XK.rt [emp] Try.func60 Try.results60 (.t rfl (.t rfl .n)) ?_
      have hw0 : nextG h t c = ([], bothP [warmP h t, casedP h c]) := by rw [nextG, if_neg c0, if_pos c1]
      rw [hw0]
      exact ⟨.slice none 0 0, emp, rfl, rfl, OArr.nil (fun _ => rfl)⟩
    · skip
      refine XK.skip (XK.seq (XK.region rfl ?_))
      refine XO.q (Q.ldA [_, _, _, _] rfl rfl rfl) ?_
      refine XO.q (Q.move rfl) ?_
      refine XO.q (Q.ldA [_, _, _] rfl rfl rfl) ?_
      refine XO.call Try.call90 rfl rfl rfl (rStep_spec h vr vw vb vc hr hw hb hc (hcheck_ok (Decidable.of_not_not c0)) t vt ht (both_ok (Decidable.of_not_not c1)).1 c (both_ok (Decidable.of_not_not c1)).2 vl hl) fun v28 s28 R28 => ?_
      obtain ⟨k1, rfl, O1⟩ := R28
      dsimp only [lcA, lnA]
      refine XO.q (Q.assign rfl) (XO.q (Q.assign rfl) (XO.done ?_))
      refine XK.rt [k1] Try.func60 Try.results60 (.t rfl (.t rfl .n)) ?_
      have hw0 : nextG h t c = (nextL h t c, 0) := by rw [nextG, if_neg c0, if_neg c1]
      rw [hw0]
      exact ⟨_, k1, rfl, rfl, O1⟩
end Go.X
