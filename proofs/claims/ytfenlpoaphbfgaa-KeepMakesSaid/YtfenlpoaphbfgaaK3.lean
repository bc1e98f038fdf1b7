/- Contracts of functions of the program, each proved by a walk through its operations. No condition but those that stand in each theorem. -/
import Derived.Test.YtfenlpoaphbfgaaK2
import Derived.Test.YtfenlpoaphbfgaaP1
set_option linter.unusedSimpArgs false
set_option linter.unusedVariables false
namespace Go.X
open Go.Proofs
theorem check1 (b T : Nat) (n x : Int) (cs : List Value) : Spec Try.prog 64 #[.int .i64 x, ptr b 0] [] [blk b (.int .i64 n :: cs) T] (fun v hs => v = .bool (decide (x < -1) || decide (n ≤ x)) ∧ hs = []) := by
  refine Spec.intro (fn := Try.f64) (N := 12) Try.func64 rfl Try.ntmps64 rfl fun B => ?_
  refine XK.seq ?_
  refine XK.region rfl ?_
  refine XO.q (Q.assign rfl) ?_
  refine XO.done ?_
  refine XK.seq ?_
  refine XK.region rfl ?_
  refine XO.q (Q.move rfl) ?_
  refine XO.q (Q.lss rfl rfl) ?_
  refine XO.q (Q.move rfl) ?_
  refine XO.q (Quiet.guardF rfl rfl fun g7 p7 => Q.move rfl) ?_
  refine XO.q (Quiet.guardF rfl rfl fun g8 p8 => Q.fieldAddr rfl) ?_
  refine XO.q (Quiet.guardF rfl rfl fun g9 p9 => Q.ld (lzv g9 rfl) rfl) ?_
  refine XO.q (Quiet.guardF rfl rfl fun g10 p10 => Q.geq (lzv g10 rfl) (lzv g10 rfl)) ?_
  refine XO.q (Q.or rfl (fun hp => lzv hp rfl)) ?_
  refine XO.q (Q.assign rfl) ?_
  refine XO.done ?_
  refine XK.rt [] Try.func64 Try.results64 (.t rfl .n) ?_
  exact ⟨rfl, rfl⟩
theorem check (g : G) (vn vg : Value) (hn hg : PHeap) [sn : Arr vn encI 1 hn g.next] [sg : Arr vg encB 1 hg g.good] : Spec Try.prog 38 #[.agg #[.int .i64 g.S, .int .i64 g.C, .int .i64 g.K, vn, vg]] [] [hn, hg] (fun v hs => v = .int .i64 (gcheck g) ∧ hs = []) := by
  refine Spec.intro (fn := Try.f38) (N := 58) Try.func38 rfl Try.ntmps38 rfl fun B => ?_
  refine XK.seq ?_
  refine XK.region rfl ?_
  refine XO.box rfl fun b1 => ?_
  refine XO.q (Q.assign rfl) ?_
  refine XO.done ?_
  refine XK.seq ?_
  refine XK.block ?_
  refine XK.seq ?_
  refine XK.region rfl ?_
  refine XO.q (Q.fieldAddr rfl) ?_
  refine XO.q (Q.ld rfl rfl) ?_
  refine XO.q (Q.lss rfl rfl) ?_
  refine XO.q (Q.move rfl) ?_
  refine XO.q (Quiet.guardF rfl rfl fun g8 p8 => Q.fieldAddr rfl) ?_
  refine XO.q (Quiet.guardF rfl rfl fun g9 p9 => Q.ld (lzv g9 rfl) rfl) ?_
  refine XO.q (Quiet.guardF rfl rfl fun g10 p10 => Q.gtr (lzv g10 rfl) rfl) ?_
  refine XO.q (Q.or rfl (fun hp => lzv hp rfl)) ?_
  refine XO.q (Q.move rfl) ?_
  refine XO.q (Quiet.guardF rfl rfl fun g13 p13 => Q.fieldAddr rfl) ?_
  refine XO.q (Quiet.guardF rfl rfl fun g14 p14 => Q.ld (lzv g14 rfl) rfl) ?_
  refine XO.q (Quiet.guardF rfl rfl fun g15 p15 => Q.lss (lzv g15 rfl) rfl) ?_
  refine XO.q (Q.or rfl (fun hp => lzv hp rfl)) ?_
  refine XO.q (Q.move rfl) ?_
  refine XO.q (Quiet.guardF rfl rfl fun g18 p18 => Q.fieldAddr rfl) ?_
  refine XO.q (Quiet.guardF rfl rfl fun g19 p19 => Q.ld (lzv g19 rfl) rfl) ?_
  refine XO.q (Quiet.guardF rfl rfl fun g20 p20 => Q.gtr (lzv g20 rfl) rfl) ?_
  refine XO.q (Q.or rfl (fun hp => lzv hp rfl)) ?_
  refine XO.q (Q.move rfl) ?_
  refine XO.q (Quiet.guardF rfl rfl fun g23 p23 => Q.fieldAddr rfl) ?_
  refine XO.q (Quiet.guardF rfl rfl fun g24 p24 => Q.ld (lzv g24 rfl) rfl) ?_
  refine XO.q (Quiet.guardF rfl rfl fun g25 p25 => Q.lss (lzv g25 rfl) rfl) ?_
  refine XO.q (Q.or rfl (fun hp => lzv hp rfl)) ?_
  refine XO.q (Q.move rfl) ?_
  refine XO.q (Quiet.guardF rfl rfl fun g28 p28 => Q.fieldAddr rfl) ?_
  refine XO.q (Quiet.guardF rfl rfl fun g29 p29 => Q.ld (lzv g29 rfl) rfl) ?_
  refine XO.q (Quiet.guardF rfl rfl fun g30 p30 => Q.gtr (lzv g30 rfl) rfl) ?_
  refine XO.q (Q.or rfl (fun hp => lzv hp rfl)) ?_
  refine XO.q (Q.assign rfl) ?_
  refine XO.done ?_
  refine XK.if rfl (fun c0 => ?_) (fun c0 => ?_)
  · have _t0 := True.intro
    refine XK.seq ?_
    refine XK.region rfl ?_
    refine XO.q (Q.assign rfl) ?_
    refine XO.done ?_
    refine XK.rt [] Try.func38 Try.results38 (.t rfl .n) ?_
    exact ⟨by rw [gcheck, if_pos (by omega)], rfl⟩
  · have _t0 := True.intro
    have hb := g_bd c0
    refine XK.seq ?_
    refine XK.region rfl ?_
    refine XO.q (Q.fieldAddr rfl) ?_
    refine XO.q (Q.ld rfl rfl) ?_
    refine XO.len rfl fun l35 => ?_
    refine XO.q (Q.fieldAddr rfl) ?_
    refine XO.q (Q.ld rfl rfl) ?_
    refine XO.q (Q.fieldAddr rfl) ?_
    refine XO.q (Q.ld rfl rfl) ?_
    refine XO.q (Q.mul rfl rfl ⟨by omega, by omega⟩) ?_
    refine XO.q (Q.fieldAddr rfl) ?_
    refine XO.q (Q.ld rfl rfl) ?_
    refine XO.q (Q.mul rfl rfl ⟨by omega, by omega⟩) ?_
    refine XO.q (Q.neq rfl rfl) ?_
    refine XO.q (Q.move rfl) ?_
    refine XO.q (Quiet.guardF rfl rfl fun g46 p46 => Q.fieldAddr rfl) ?_
    refine XO.q (Quiet.guardF rfl rfl fun g47 p47 => Q.ld (lzv g47 rfl) rfl) ?_
    refine XO.q (Quiet.guardF rfl rfl fun g48 p48 => Q.len (lzv g48 rfl)) ?_
    refine XO.q (Quiet.guardF rfl rfl fun g49 p49 => Q.fieldAddr rfl) ?_
    refine XO.q (Quiet.guardF rfl rfl fun g50 p50 => Q.ld (lzv g50 rfl) rfl) ?_
    refine XO.q (Quiet.guardF rfl rfl fun g51 p51 => Q.neq (lzv g51 rfl) (lzv g51 rfl)) ?_
    refine XO.q (Q.or rfl (fun hp => lzv hp rfl)) ?_
    refine XO.q (Q.assign rfl) ?_
    refine XO.done ?_
    refine XK.if rfl (fun c1 => ?_) (fun c1 => ?_)
    · have _t1 := True.intro
      refine XK.seq ?_
      refine XK.region rfl ?_
      refine XO.q (Q.assign rfl) ?_
      refine XO.done ?_
      refine XK.rt [] Try.func38 Try.results38 (.t rfl .n) ?_
      exact ⟨by rw [gcheck, if_neg (by omega), if_pos (by omega)], rfl⟩
    · have _t1 := True.intro
      refine XK.seq ?_
      refine XK.region rfl ?_
      refine XO.q (Q.fieldAddr rfl) ?_
      refine XO.q (Q.ld rfl rfl) ?_
      refine XO.q (Q.func (fun _ he => rfl) (fun _ he => evs_rel he rfl)) ?_
      refine XO.call Try.call63 rfl rfl rfl (containsFuncI vn hn g.next 64 [ptr b1 0] [blk b1 [.int .i64 g.S, .int .i64 g.C, .int .i64 g.K, vn, vg] 25] _ Try.call64 (fun x _ => check1 b1 25 g.S x _)) fun v57 s57 R57 => ?_
      obtain ⟨rfl, rfl⟩ := R57
      dsimp only [List.cons_append, List.nil_append]
      refine XO.q (Q.assign rfl) ?_
      refine XO.done ?_
      refine XK.if rfl (fun c2 => ?_) (fun c2 => ?_)
      · have _t2 := True.intro
        refine XK.seq ?_
        refine XK.region rfl ?_
        refine XO.q (Q.assign rfl) ?_
        refine XO.done ?_
        refine XK.rt [] Try.func38 Try.results38 (.t rfl .n) ?_
        exact ⟨by rw [gcheck, if_neg (by omega), if_neg (by omega), if_pos c2], rfl⟩
      · have _t2 := True.intro
        refine XK.skip ?_
        refine XK.inBlock ?_
        refine XK.seq ?_
        refine XK.region rfl ?_
        refine XO.q (Q.assign rfl) ?_
        refine XO.done ?_
        refine XK.rt [] Try.func38 Try.results38 (.t rfl .n) ?_
        exact ⟨by rw [gcheck, if_neg (by omega), if_neg (by omega), if_neg c2], rfl⟩
theorem leads_spec (S C K : Nat) (next : List Int) (good : List Bool) (ok : Ok S C K next good) (vn vg : Value) (hn : PHeap) [sn : Arr vn encI 1 hn next] (s u : Nat) (hs : s < S) (hu : u < C) : Spec Try.prog 40 #[.agg #[.int .i64 (S : Nat), .int .i64 (C : Nat), .int .i64 (K : Nat), vn, vg], .int .i64 (s : Nat), .int .i64 (u : Nat)] [] [hn]
    (fun v hs => hs = [] ∧ Arr v encI 1 hn (leads next C K s u)) := by
  have hb := ok.sc
  have hl := lead_le (K := K) hs hu
  have hlen := ok.len
  have hz := lead_int s u C K
  refine Spec.intro (fn := Try.f40) (N := 25) Try.func40 rfl Try.ntmps40 rfl fun B => ?_
  refine XK.seq ?_
  refine XK.region rfl ?_
  refine XO.box rfl fun b3 => ?_
  refine XO.q (Q.assign rfl) ?_
  refine XO.done ?_
  refine XK.seq ?_
  refine XK.region rfl ?_
  refine XO.q (Q.move rfl) ?_
  refine XO.q (Q.fieldAddr rfl) ?_
  refine XO.q (Q.ld rfl rfl) ?_
  refine XO.q (Q.mul rfl rfl ⟨by omega, by omega⟩) ?_
  refine XO.q (Q.move rfl) ?_
  refine XO.q (Q.add rfl rfl ⟨by omega, by omega⟩) ?_
  refine XO.q (Q.fieldAddr rfl) ?_
  refine XO.q (Q.ld rfl rfl) ?_
  refine XO.q (Q.mul rfl rfl ⟨by omega, by omega⟩) ?_
  refine XO.q (Q.assign rfl) ?_
  refine XO.done ?_
  refine XK.seq ?_
  refine XK.region rfl ?_
  refine XO.q (Q.fieldAddr rfl) ?_
  refine XO.q (Q.ld rfl rfl) ?_
  refine XO.q (Q.move rfl) ?_
  refine XO.q (Q.move rfl) ?_
  refine XO.q (Q.fieldAddr rfl) ?_
  refine XO.q (Q.ld rfl rfl) ?_
  refine XO.q (Q.add rfl rfl ⟨by omega, by omega⟩) ?_
  refine XO.cut (i := (s * C + u) * K) (j := (s * C + u) * K + K) rfl (.s rfl (by omega)) (.s rfl (by omega)) (by omega) (by omega) fun v24 A24 => ?_
  refine XO.q (Q.assign rfl) ?_
  refine XO.done ?_
  refine XK.rt [] Try.func40 Try.results40 (.t rfl .n) ?_
  exact ⟨rfl, by rw [Nat.add_sub_cancel_left] at A24; exact A24⟩
end Go.X
