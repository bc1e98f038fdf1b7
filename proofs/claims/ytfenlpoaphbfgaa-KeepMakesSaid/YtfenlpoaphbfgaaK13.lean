/- Contracts of functions of the program, each proved by a walk through its operations. No condition but those that stand in each theorem. -/
import Derived.Test.YtfenlpoaphbfgaaK12
set_option linter.unusedSimpArgs false
set_option linter.unusedVariables false
set_option maxRecDepth 20000
namespace Go.X
open Go.Proofs
theorem sameG_self (a : G) : sameG a a = true := by simp [sameG]
theorem KeepMakes_spec (a b : G) (vn vg wn wg : Value) (hn hg kn kg : PHeap) [sn : Arr vn encI 1 hn a.next] [sg : Arr vg encB 1 hg a.good] [tn : Arr wn encI 1 kn b.next] [tg : Arr wg encB 1 kg b.good] (u : Int) :
    Spec Try.prog 3 #[.agg #[.int .i64 a.S, .int .i64 a.C, .int .i64 a.K, vn, vg], .agg #[.int .i64 b.S, .int .i64 b.C, .int .i64 b.K, wn, wg], .int .i64 u] [] [hn, hg, kn, kg] (fun v hs => v = .bool true ∧ hs = []) := by
  refine Spec.intro (fn := Try.f3) (N := 86) Try.func3 rfl Try.ntmps3 rfl fun B => ?_
  refine XK.seq ?_
  refine XK.region rfl ?_
  refine XO.box rfl fun b3 => ?_
  refine XO.box rfl fun b4 => ?_
  refine XO.q (Q.assign rfl) ?_
  refine XO.done ?_
  refine XK.seq ?_
  refine XK.seq ?_
  refine XK.region rfl ?_
  refine XO.q (Q.ldA [_, _, _, _, _] rfl rfl rfl) ?_
  refine XO.call Try.call10 rfl rfl rfl (large a vn vg hn hg) fun v16 s16 R16 => ?_
  obtain ⟨rfl, rfl⟩ := R16
  dsimp only [List.cons_append, List.nil_append]
  refine XO.q (Q.move rfl) ?_
  refine XO.q (Quiet.guardF rfl rfl fun g18 p18 => Q.ldA [_, _, _, _, _] rfl rfl rfl) ?_
  refine XO.gcallF rfl rfl Try.call10 rfl (fun g19 => .c (lzv g19 rfl) .n) rfl (fun g19 p19 => large b wn wg kn kg) ?_
  refine XO.q (Q.or rfl (fun hp => lzv hp rfl)) ?_
  refine XO.done ?_
  refine XK.if rfl (fun c0 => ?_) (fun c0 => ?_)
  · have _t0 := True.intro
    refine XK.seq ?_
    refine XK.region rfl ?_
    refine XO.call Try.call11 rfl rfl rfl (awake_spec) fun v21 s21 R21 => ?_
    obtain ⟨rfl, rfl⟩ := R21
    dsimp only [List.cons_append, List.nil_append]
    refine XO.q (Q.assign rfl) ?_
    refine XO.done ?_
    refine XK.rt [] Try.func3 Try.results3 (.t rfl .n) ?_
    exact ⟨rfl, rfl⟩
  · have _t0 := True.intro
    refine XK.skip ?_
    refine XK.seq ?_
    refine XK.region rfl ?_
    refine XO.q (Q.ldA [_, _, _, _, _] rfl rfl rfl) ?_
    refine XO.call Try.call12 rfl rfl rfl (copied a vn vg hn hg (by omega) (by omega)) fun v24 s24 R24 => ?_
    obtain ⟨a24, b24, c24, d24, ka24, kb24, kc24, kd24, rfl, rfl, OA24, OB24, OC24, OD24⟩ := R24
    dsimp only [List.cons_append, List.nil_append]
    refine XO.q (Q.move rfl) ?_
    refine XO.q (Q.extract rfl rfl) ?_
    refine XO.q (Q.extract rfl rfl) ?_
    refine XO.alloc fun b7 => ?_
    refine XO.alloc fun b8 => ?_
    refine XO.st rfl rfl rfl ?_
    refine XO.st rfl rfl rfl ?_
    refine XO.done ?_
    refine XK.seq ?_
    refine XK.region rfl ?_
    refine XO.q (Q.ldA [_, _, _, _, _] rfl rfl rfl) ?_
    refine XO.call Try.call12 rfl rfl rfl (copied b wn wg kn kg (by omega) (by omega)) fun v29 s29 R29 => ?_
    obtain ⟨a29, b29, c29, d29, ka29, kb29, kc29, kd29, rfl, rfl, OA29, OB29, OC29, OD29⟩ := R29
    dsimp only [List.cons_append, List.nil_append]
    refine XO.q (Q.move rfl) ?_
    refine XO.q (Q.extract rfl rfl) ?_
    refine XO.q (Q.extract rfl rfl) ?_
    refine XO.alloc fun b9 => ?_
    refine XO.alloc fun b10 => ?_
    refine XO.st rfl rfl rfl ?_
    refine XO.st rfl rfl rfl ?_
    refine XO.done ?_
    refine XK.seq ?_
    refine XK.region rfl ?_
    refine XO.q (Q.ldA [_, _, _, _, _] rfl rfl rfl) ?_
    refine XO.q (Q.ldA [_, _, _, _, _] rfl rfl rfl) ?_
    refine XO.call Try.call13 rfl rfl rfl (product_spec a b a24 b24 a29 b29 ka24 kb24 ka29 kb29) fun v35 s35 R35 => ?_
    obtain ⟨x35, y35, kx35, ky35, rfl, rfl, OX35, OY35⟩ := R35
    dsimp only [List.cons_append, List.nil_append]
    refine XO.q (Q.move rfl) ?_
    refine XO.q (Q.extract rfl rfl) ?_
    refine XO.q (Q.extract rfl rfl) ?_
    refine XO.alloc fun b11 => ?_
    refine XO.st rfl rfl rfl ?_
    refine XO.q (Q.assign rfl) ?_
    refine XO.done ?_
    refine XK.seq ?_
    refine XK.region rfl ?_
    refine XO.q (Q.ldA [_, _, _, _, _] rfl rfl rfl) ?_
    refine XO.q (Q.ldA [_, _, _, _, _] rfl rfl rfl) ?_
    refine XO.call Try.call14 rfl rfl rfl (refProduct a b c24 d24 c29 d29 kc24 kd24 kc29 kd29) fun v41 s41 R41 => ?_
    obtain ⟨x41, y41, kx41, ky41, rfl, rfl, OX41, OY41⟩ := R41
    dsimp only [List.cons_append, List.nil_append]
    refine XO.q (Q.move rfl) ?_
    refine XO.q (Q.extract rfl rfl) ?_
    refine XO.q (Q.extract rfl rfl) ?_
    refine XO.alloc fun b13 => ?_
    refine XO.st rfl rfl rfl ?_
    refine XO.q (Q.assign rfl) ?_
    refine XO.done ?_
    refine XK.seq ?_
    refine XK.seq ?_
    refine XK.region rfl ?_
    refine XO.q (Q.ldA [_, _, _, _, _] rfl rfl rfl) ?_
    refine XO.q (Q.ldA [_, _, _, _, _] rfl rfl rfl) ?_
    refine XO.call Try.call15 rfl rfl rfl (alike (product a b).1 (product a b).1 x35 y35 x41 y41 kx35 ky35 kx41 ky41) fun v46 s46 R46 => ?_
    obtain ⟨rfl, rfl⟩ := R46
    dsimp only [List.cons_append, List.nil_append]
    refine XO.q (Q.not rfl) ?_
    refine XO.q (Q.move rfl) ?_
    refine XO.q (Quiet.guardF rfl rfl fun g49 p49 => Q.move rfl) ?_
    refine XO.q (Quiet.guardF rfl rfl fun g50 p50 => Q.move rfl) ?_
    refine XO.q (Quiet.guardF rfl rfl fun g51 p51 => Q.neq (lzv g51 rfl) (lzv g51 rfl)) ?_
    refine XO.q (Q.or rfl (fun hp => lzv hp rfl)) ?_
    refine XO.done ?_
    refine XK.if rfl (fun c1 => ?_) (fun c1 => ?_)
    · have _t1 := True.intro
      rw [sameG_self] at c1
      simp at c1
    · have _t1 := True.intro
      refine XK.skip ?_
      refine XK.seq ?_
      refine XK.region rfl ?_
      refine XO.q (Q.ldA [_, _, _, _, _] rfl rfl rfl) ?_
      refine XO.q (Q.move rfl) ?_
      refine XO.call Try.call16 rfl rfl rfl (without_spec a a24 b24 ka24 kb24 u) fun v56 s56 R56 => ?_
      obtain ⟨x56, y56, kx56, ky56, rfl, rfl, OX56, OY56⟩ := R56
      dsimp only [List.cons_append, List.nil_append]
      refine XO.q (Q.move rfl) ?_
      refine XO.q (Q.extract rfl rfl) ?_
      refine XO.q (Q.extract rfl rfl) ?_
      refine XO.st rfl rfl rfl ?_
      refine XO.q (Q.assign rfl) ?_
      refine XO.done ?_
      refine XK.seq ?_
      refine XK.region rfl ?_
      refine XO.q (Q.ldA [_, _, _, _, _] rfl rfl rfl) ?_
      refine XO.q (Q.move rfl) ?_
      refine XO.call Try.call17 rfl rfl rfl (refWithout a c24 d24 kc24 kd24 u) fun v62 s62 R62 => ?_
      obtain ⟨x62, y62, kx62, ky62, rfl, rfl, OX62, OY62⟩ := R62
      dsimp only [List.cons_append, List.nil_append]
      refine XO.q (Q.move rfl) ?_
      refine XO.q (Q.extract rfl rfl) ?_
      refine XO.q (Q.extract rfl rfl) ?_
      refine XO.st rfl rfl rfl ?_
      refine XO.q (Q.assign rfl) ?_
      refine XO.done ?_
      refine XK.seq ?_
      refine XK.region rfl ?_
      refine XO.q (Q.ldA [_, _, _, _, _] rfl rfl rfl) ?_
      refine XO.q (Q.ldA [_, _, _, _, _] rfl rfl rfl) ?_
      refine XO.call Try.call15 rfl rfl rfl (alike (without a u).1 (without a u).1 x56 y56 x62 y62 kx56 ky56 kx62 ky62) fun v67 s67 R67 => ?_
      obtain ⟨rfl, rfl⟩ := R67
      dsimp only [List.cons_append, List.nil_append]
      refine XO.q (Q.move rfl) ?_
      refine XO.q (Quiet.guardT rfl rfl fun g69 p69 => Q.move rfl) ?_
      refine XO.q (Quiet.guardT rfl rfl fun g70 p70 => Q.move rfl) ?_
      refine XO.q (Quiet.guardT rfl rfl fun g71 p71 => Q.eql (lzv g71 rfl) (lzv g71 rfl)) ?_
      refine XO.q (Q.and rfl (fun hp => lzv hp rfl)) ?_
      refine XO.q (Q.move rfl) ?_
      refine XO.q (Quiet.guardT rfl rfl fun g74 p74 => Q.ldA [_, _, _, _, _] rfl rfl rfl) ?_
      refine XO.q (Quiet.guardT rfl rfl fun g75 p75 => Q.ldA [_, _, _, _, _] rfl rfl rfl) ?_
      refine XO.gcallT rfl rfl Try.call18 rfl (fun g76 => .c (lzv g76 rfl) (.c (lzv g76 rfl) .n)) rfl (fun g76 p76 => kept a a a24 b24 vn vg ka24 kb24 hn hg) ?_
      refine XO.q (Q.and rfl (fun hp => lzv hp rfl)) ?_
      refine XO.q (Q.move rfl) ?_
      refine XO.q (Quiet.guardT rfl rfl fun g79 p79 => Q.ldA [_, _, _, _, _] rfl rfl rfl) ?_
      refine XO.q (Quiet.guardT rfl rfl fun g80 p80 => Q.ldA [_, _, _, _, _] rfl rfl rfl) ?_
      refine XO.gcallT rfl rfl Try.call18 rfl (fun g81 => .c (lzv g81 rfl) (.c (lzv g81 rfl) .n)) rfl (fun g81 p81 => kept b b a29 b29 wn wg ka29 kb29 kn kg) ?_
      refine XO.q (Q.and rfl (fun hp => lzv hp rfl)) ?_
      refine XO.q (Q.move rfl) ?_
      refine XO.gcallT rfl rfl Try.call11 rfl (fun g84 => .n) rfl (fun g84 p84 => awake_spec) ?_
      refine XO.q (Q.and rfl (fun hp => lzv hp rfl)) ?_
      refine XO.q (Q.assign rfl) ?_
      refine XO.done ?_
      refine XK.rt [] Try.func3 Try.results3 (.t rfl .n) ?_
      exact ⟨by simp [sameG_self], rfl⟩
end Go.X
