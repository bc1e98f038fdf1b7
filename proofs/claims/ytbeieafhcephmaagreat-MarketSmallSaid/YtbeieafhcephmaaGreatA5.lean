/- A part of the proof: a small program logic, plain laws and contracts of functions, each proved by a walk through its operations. No condition but those that stand in each theorem. -/
import Derived.Test.YtbeieafhcephmaaGreatA4
set_option linter.unusedSimpArgs false
set_option linter.unusedVariables false
set_option maxRecDepth 20000
namespace Go.X
open Go.Proofs
theorem rin_spec (a m b : Int) : Spec Tryz.prog 47 #[.int .i64 a, .int .i64 m, .int .i64 b] [] [] (fun v hs => v = .bool (decide (m ≤ a) && decide (a ≤ b)) ∧ hs = []) := by
  refine Spec.intro (fn := Tryz.f47) (N := 15) Tryz.func47 rfl Tryz.ntmps47 rfl fun B => ?_
  refine XK.seq ?_
  refine XK.region rfl ?_
  refine XO.q (Q.assign rfl) ?_
  refine XO.done ?_
  refine XK.seq ?_
  refine XK.region rfl ?_
  refine XO.q (Q.move rfl) ?_
  refine XO.q (Q.move rfl) ?_
  refine XO.q (Q.geq rfl rfl) ?_
  refine XO.q (Q.move rfl) ?_
  refine XO.q (Quiet.guardT rfl rfl fun g11 p11 => Q.move rfl) ?_
  refine XO.q (Quiet.guardT rfl rfl fun g12 p12 => Q.move rfl) ?_
  refine XO.q (Quiet.guardT rfl rfl fun g13 p13 => Q.leq (lzv g13 rfl) (lzv g13 rfl)) ?_
  refine XO.q (Q.and rfl (fun hp => lzv hp rfl)) ?_
  refine XO.q (Q.assign rfl) ?_
  refine XO.done ?_
  refine XK.rt [] Tryz.func47 Tryz.results47 (.t rfl .n) ?_
  exact ⟨rfl, rfl⟩
theorem check_two {d : KDay} (h : ((d.hours.length : Int) < 1 ∨ (24 : Int) < d.hours.length) ∨ (2 : Int) < d.jobs.length) : kcheck d = 2 := by rw [kcheck, if_pos h]
theorem check_six {d : KDay} (h : ¬ (((d.hours.length : Int) < 1 ∨ (24 : Int) < d.hours.length) ∨ (2 : Int) < d.jobs.length)) (hb : ¬ ((∀ i, i < d.hours.length → HourOk (d.hours.getD i default)) ∧ StoreOk d.store ∧ (∀ i, i < d.jobs.length → JobOk d.hours.length (d.jobs.getD i default)) ∧ (0 ≤ d.most ∧ d.most ≤ 40) ∧ 0 ≤ d.peak ∧ d.peak ≤ 1000)) : kcheck d = 6 := by
  rw [kcheck, if_neg h, if_pos]
  cases e : kbad d
  · exact absurd (kbad_false.1 e) hb
  · rfl
theorem check_eight {d : KDay} (h : ¬ (((d.hours.length : Int) < 1 ∨ (24 : Int) < d.hours.length) ∨ (2 : Int) < d.jobs.length)) (hb : (∀ i, i < d.hours.length → HourOk (d.hours.getD i default)) ∧ StoreOk d.store ∧ (∀ i, i < d.jobs.length → JobOk d.hours.length (d.jobs.getD i default)) ∧ (0 ≤ d.most ∧ d.most ≤ 40) ∧ 0 ≤ d.peak ∧ d.peak ≤ 1000) : kcheck d = if 8 < prodS d.jobs d.jobs.length then 8 else 0 := by
  rw [kcheck, if_neg h, if_neg (by rw [kbad_false.2 hb]; decide)]
theorem prod_part {js : List KJob} {n : Nat} (hn : n ≤ 24) {i : Nat} (hi : i ≤ 2) (h : ∀ k, k < i → JobOk n (js.getD k default)) : 1 ≤ prodS js i ∧ prodS js i ≤ 576 := by
  have sp : ∀ k, k < i → 1 ≤ spanS (js.getD k default) ∧ spanS (js.getD k default) ≤ 24 := fun k hk => by
    have := (h k hk).b0; have := (h k hk).b1; have := (h k hk).t1; have := (h k hk).h0
    unfold spanS; omega
  match i, hi with
  | 0, _ => exact ⟨Int.le_refl _, by show (1 : Int) ≤ 576; decide⟩
  | 1, hi => have := sp 0 (by omega); simp only [prodS]; omega
  | 2, hi =>
    have h0 := sp 0 (by omega)
    have h1 := sp 1 (by omega)
    simp only [prodS, Int.one_mul]
    have a : 1 * 1 ≤ spanS (js.getD 0 default) * spanS (js.getD 1 default) := Int.mul_le_mul h0.1 h1.1 (by omega) (by omega)
    have b : spanS (js.getD 0 default) * spanS (js.getD 1 default) ≤ 24 * 24 := Int.mul_le_mul h0.2 h1.2 (by omega) (by omega)
    omega
  | n + 3, hi => omega
set_option maxHeartbeats 2000000 in
theorem rCheck_spec (d : KDay) (vh vj : Value) (hh hj : PHeap) [ih : Arr vh encHour 6 hh d.hours] [ij : Arr vj encJob 4 hj d.jobs] : Spec Tryz.prog 11 #[.agg #[vh, .int .i64 d.store.energy, .int .i64 d.store.full, .int .i64 d.store.power, .int .i64 d.store.fin, vj, .int .i64 d.most, .int .i64 d.peak]] [] [hh, hj] (fun v hs => v = .int .i64 (kcheck d) ∧ hs = []) := by
  have lh := ih.le
  have lj := ij.le
  refine Spec.intro (fn := Tryz.f11) (N := 162) Tryz.func11 rfl Tryz.ntmps11 rfl fun B => ?_
  refine XK.seq ?_
  refine XK.region rfl ?_
  refine XO.box rfl fun b1 => ?_
  refine XO.q (Q.assign rfl) ?_
  refine XO.done ?_
  refine XK.seq ?_
  refine XK.region rfl ?_
  refine XO.q (Q.fieldAddr rfl) ?_
  refine XO.q (Q.ld rfl rfl) ?_
  refine XO.len rfl fun l12 => ?_
  refine XO.q (Q.assign rfl) ?_
  refine XO.done ?_
  refine XK.seq ?_
  refine XK.seq ?_
  refine XK.region rfl ?_
  refine XO.q (Q.move rfl) ?_
  refine XO.call Tryz.call47 rfl rfl rfl (rin_spec (d.hours.length) (1) (24)) fun v14 s14 R14 => ?_
  obtain ⟨rfl, rfl⟩ := R14
  dsimp only [List.cons_append, List.nil_append]
  refine XO.q (Q.not rfl) ?_
  refine XO.q (Q.move rfl) ?_
  refine XO.q (Quiet.guardF rfl rfl fun g17 p17 => Q.fieldAddr rfl) ?_
  refine XO.q (Quiet.guardF rfl rfl fun g18 p18 => Q.ld (lzv g18 rfl) rfl) ?_
  refine XO.q (Quiet.guardF rfl rfl fun g19 p19 => Q.len (lzv g19 rfl)) ?_
  refine XO.q (Quiet.guardF rfl rfl fun g20 p20 => Q.gtr (lzv g20 rfl) rfl) ?_
  refine XO.q (Q.or rfl (fun hp => lzv hp rfl)) ?_
  refine XO.done ?_
  refine XK.if rfl (fun c0 => ?_) (fun c0 => ?_)
  · have _t0 := True.intro
    refine XK.seq ?_
    refine XK.region rfl ?_
    refine XO.q (Q.assign rfl) ?_
    refine XO.done ?_
    refine XK.rt [] Tryz.func11 Tryz.results11 (.t rfl .n) ?_
    exact ⟨by rw [check_two (by omega)], rfl⟩
  · have _t0 := True.intro
    refine XK.skip ?_
    refine XK.seq ?_
    refine XK.seq ?_
    refine XK.region rfl ?_
    refine XO.q (Q.assign rfl) ?_
    refine XO.done ?_
    refine XK.block ?_
    refine XK.while (X := Nat) [2, 4, 5, 22, 23, 24, 25, 26, 27, 28, 29, 30, 31, 32, 33, 34, 35, 36, 37, 38, 39, 40, 41, 42, 43, 44, 45, 46, 47, 48, 49, 50, 51, 52, 53, 54, 55, 56, 57, 58, 59, 60, 61, 62, 63, 64, 65, 66, 67] (fun i => [(4, some (.int .i64 (i : Nat)))]) (fun i => []) (fun i => i ≤ d.hours.length ∧ ∀ k, k < i → HourOk (d.hours.getD k default)) (fun i => d.hours.length - i) (0) [] rfl ⟨by omega, fun k hk => by omega⟩ (.c rfl (.base 0 rfl rfl)) ?_
    rintro i ⟨hi, hok⟩ ih0
    dsimp only [List.cons_append, List.nil_append] at ih0 ⊢
    refine XK.seq ?_
    refine XK.seq ?_
    refine XK.region rfl ?_
    refine XO.q (Q.move rfl) ?_
    refine XO.q (Q.move rfl) ?_
    refine XO.q (Q.lss rfl rfl) ?_
    refine XO.done ?_
    refine XK.if rfl (fun c1 => ?_) (fun c1 => ?_)
    · have _t1 := True.intro
      refine XK.skip ?_
      refine XK.seq ?_
      refine XK.block ?_
      refine XK.seq ?_
      refine XK.region rfl ?_
      refine XO.q (Q.fieldAddr rfl) ?_
      refine XO.q (Q.ld rfl rfl) ?_
      refine XO.q (Q.move rfl) ?_
      refine XO.ix rfl rfl (by omega) (by omega) fun i30 => ?_
      refine XO.q (Q.ldEA [_, _, _, _, _, _] rfl (by first | assumption | omega) rfl rfl) ?_
      refine XO.alloc fun b5 => ?_
      refine XO.st rfl rfl rfl ?_
      refine XO.done ?_
      refine XK.seq ?_
      refine XK.region rfl ?_
      refine XO.q (Q.fieldAddr rfl) ?_
      refine XO.q (Q.ld rfl rfl) ?_
      refine XO.call Tryz.call47 rfl rfl rfl (rin_spec ((d.hours.getD i default).buy) (0) (1000)) fun v34 s34 R34 => ?_
      obtain ⟨rfl, rfl⟩ := R34
      dsimp only [List.cons_append, List.nil_append]
      refine XO.q (Q.not rfl) ?_
      refine XO.q (Q.move rfl) ?_
      refine XO.q (Quiet.guardF rfl rfl fun g37 p37 => Q.fieldAddr rfl) ?_
      refine XO.q (Quiet.guardF rfl rfl fun g38 p38 => Q.ld (lzv g38 rfl) rfl) ?_
      refine XO.q (Quiet.guardF rfl rfl fun g39 p39 => Q.fieldAddr rfl) ?_
      refine XO.q (Quiet.guardF rfl rfl fun g40 p40 => Q.ld (lzv g40 rfl) rfl) ?_
      refine XO.gcallF rfl rfl Tryz.call47 rfl (fun g41 => .c (lzv g41 rfl) (.c rfl (.c (lzv g41 rfl) .n))) rfl (fun g41 p41 => rin_spec ((d.hours.getD i default).sell) (0) ((d.hours.getD i default).buy)) ?_
      refine XO.q (Quiet.guardF rfl rfl fun g42 p42 => Q.not (lzv g42 rfl)) ?_
      refine XO.q (Q.or rfl (fun hp => lzv hp rfl)) ?_
      refine XO.q (Q.move rfl) ?_
      refine XO.q (Quiet.guardF rfl rfl fun g45 p45 => Q.fieldAddr rfl) ?_
      refine XO.q (Quiet.guardF rfl rfl fun g46 p46 => Q.ld (lzv g46 rfl) rfl) ?_
      refine XO.gcallF rfl rfl Tryz.call47 rfl (fun g47 => .c (lzv g47 rfl) (.c rfl (.c rfl .n))) rfl (fun g47 p47 => rin_spec ((d.hours.getD i default).sun) (0) (40)) ?_
      refine XO.q (Quiet.guardF rfl rfl fun g48 p48 => Q.not (lzv g48 rfl)) ?_
      refine XO.q (Q.or rfl (fun hp => lzv hp rfl)) ?_
      refine XO.q (Q.move rfl) ?_
      refine XO.q (Quiet.guardF rfl rfl fun g51 p51 => Q.fieldAddr rfl) ?_
      refine XO.q (Quiet.guardF rfl rfl fun g52 p52 => Q.ld (lzv g52 rfl) rfl) ?_
      refine XO.gcallF rfl rfl Tryz.call47 rfl (fun g53 => .c (lzv g53 rfl) (.c rfl (.c rfl .n))) rfl (fun g53 p53 => rin_spec ((d.hours.getD i default).load) (0) (40)) ?_
      refine XO.q (Quiet.guardF rfl rfl fun g54 p54 => Q.not (lzv g54 rfl)) ?_
      refine XO.q (Q.or rfl (fun hp => lzv hp rfl)) ?_
      refine XO.q (Q.move rfl) ?_
      refine XO.q (Quiet.guardF rfl rfl fun g57 p57 => Q.fieldAddr rfl) ?_
      refine XO.q (Quiet.guardF rfl rfl fun g58 p58 => Q.ld (lzv g58 rfl) rfl) ?_
      refine XO.gcallF rfl rfl Tryz.call47 rfl (fun g59 => .c (lzv g59 rfl) (.c rfl (.c rfl .n))) rfl (fun g59 p59 => rin_spec ((d.hours.getD i default).carbon) (0) (10000)) ?_
      refine XO.q (Quiet.guardF rfl rfl fun g60 p60 => Q.not (lzv g60 rfl)) ?_
      refine XO.q (Q.or rfl (fun hp => lzv hp rfl)) ?_
      refine XO.q (Q.move rfl) ?_
      refine XO.q (Quiet.guardF rfl rfl fun g63 p63 => Q.fieldAddr rfl) ?_
      refine XO.q (Quiet.guardF rfl rfl fun g64 p64 => Q.ld (lzv g64 rfl) rfl) ?_
      refine XO.gcallF rfl rfl Tryz.call47 rfl (fun g65 => .c (lzv g65 rfl) (.c rfl (.c rfl .n))) rfl (fun g65 p65 => rin_spec ((d.hours.getD i default).water) (0) (10000)) ?_
      refine XO.q (Quiet.guardF rfl rfl fun g66 p66 => Q.not (lzv g66 rfl)) ?_
      refine XO.q (Q.or rfl (fun hp => lzv hp rfl)) ?_
      refine XO.done ?_
      refine XK.if rfl (fun c2 => ?_) (fun c2 => ?_)
      · have _t2 := True.intro
        refine XK.seq ?_
        refine XK.region rfl ?_
        refine XO.q (Q.assign rfl) ?_
        refine XO.done ?_
        refine XK.rt [] Tryz.func11 Tryz.results11 (.t rfl .n) ?_
        refine ⟨?_, rfl⟩
        rw [check_six (by omega)]
        rintro ⟨a1, a2, a3, a4, a5⟩
        have q := a1 i (by omega)
        have := q.b0; have := q.b1; have := q.s0; have := q.s1; have := q.u0; have := q.u1; have := q.l0; have := q.l1; have := q.c0; have := q.c1; have := q.w0; have := q.w1
        omega
      · have _t2 := True.intro
        refine XK.skip ?_
        refine XK.inBlock ?_
        refine XK.region rfl ?_
        refine XO.q (Q.move rfl) ?_
        refine XO.q (Q.add rfl rfl ⟨by omega, by omega⟩) ?_
        refine XO.q (Q.assign rfl) ?_
        refine XO.done ?_
        exact ih0 (i + 1) _ _ ⟨by omega, fun k hk => by
          by_cases h : k < i
          · exact hok k h
          · obtain rfl : k = i := by omega
            exact ⟨by omega, by omega, by omega, by omega, by omega, by omega, by omega, by omega, by omega, by omega, by omega, by omega⟩⟩ (by first | omega | (dsimp only; omega)) (.c rfl (.base 98 rfl rfl)) inferInstance
    · have _t1 := True.intro
      have hin : i = d.hours.length := by omega
      subst hin
      refine XK.exit rfl ?_
      refine XK.seq ?_
      refine XK.region rfl ?_
      refine XO.q (Q.fieldAddr rfl) ?_
      refine XO.q (Q.ldA [_, _, _, _] rfl rfl rfl) ?_
      refine XO.alloc fun b6 => ?_
      refine XO.st rfl rfl rfl ?_
      refine XO.done ?_
      refine XK.seq ?_
      refine XK.seq ?_
      refine XK.region rfl ?_
      refine XO.q (Q.fieldAddr rfl) ?_
      refine XO.q (Q.ld rfl rfl) ?_
      refine XO.call Tryz.call47 rfl rfl rfl (rin_spec (d.store.full) (0) (10)) fun v72 s72 R72 => ?_
      obtain ⟨rfl, rfl⟩ := R72
      dsimp only [List.cons_append, List.nil_append]
      refine XO.q (Q.not rfl) ?_
      refine XO.q (Q.move rfl) ?_
      refine XO.q (Quiet.guardF rfl rfl fun g75 p75 => Q.fieldAddr rfl) ?_
      refine XO.q (Quiet.guardF rfl rfl fun g76 p76 => Q.ld (lzv g76 rfl) rfl) ?_
      refine XO.q (Quiet.guardF rfl rfl fun g77 p77 => Q.fieldAddr rfl) ?_
      refine XO.q (Quiet.guardF rfl rfl fun g78 p78 => Q.ld (lzv g78 rfl) rfl) ?_
      refine XO.gcallF rfl rfl Tryz.call47 rfl (fun g79 => .c (lzv g79 rfl) (.c rfl (.c (lzv g79 rfl) .n))) rfl (fun g79 p79 => rin_spec (d.store.energy) (0) (d.store.full)) ?_
      refine XO.q (Quiet.guardF rfl rfl fun g80 p80 => Q.not (lzv g80 rfl)) ?_
      refine XO.q (Q.or rfl (fun hp => lzv hp rfl)) ?_
      refine XO.q (Q.move rfl) ?_
      refine XO.q (Quiet.guardF rfl rfl fun g83 p83 => Q.fieldAddr rfl) ?_
      refine XO.q (Quiet.guardF rfl rfl fun g84 p84 => Q.ld (lzv g84 rfl) rfl) ?_
      refine XO.gcallF rfl rfl Tryz.call47 rfl (fun g85 => .c (lzv g85 rfl) (.c rfl (.c rfl .n))) rfl (fun g85 p85 => rin_spec (d.store.power) (0) (10)) ?_
      refine XO.q (Quiet.guardF rfl rfl fun g86 p86 => Q.not (lzv g86 rfl)) ?_
      refine XO.q (Q.or rfl (fun hp => lzv hp rfl)) ?_
      refine XO.q (Q.move rfl) ?_
      refine XO.q (Quiet.guardF rfl rfl fun g89 p89 => Q.fieldAddr rfl) ?_
      refine XO.q (Quiet.guardF rfl rfl fun g90 p90 => Q.ld (lzv g90 rfl) rfl) ?_
      refine XO.q (Quiet.guardF rfl rfl fun g91 p91 => Q.fieldAddr rfl) ?_
      refine XO.q (Quiet.guardF rfl rfl fun g92 p92 => Q.ld (lzv g92 rfl) rfl) ?_
      refine XO.gcallF rfl rfl Tryz.call47 rfl (fun g93 => .c (lzv g93 rfl) (.c rfl (.c (lzv g93 rfl) .n))) rfl (fun g93 p93 => rin_spec (d.store.fin) (0) (d.store.full)) ?_
      refine XO.q (Quiet.guardF rfl rfl fun g94 p94 => Q.not (lzv g94 rfl)) ?_
      refine XO.q (Q.or rfl (fun hp => lzv hp rfl)) ?_
      refine XO.done ?_
      refine XK.if rfl (fun c3 => ?_) (fun c3 => ?_)
      · have _t3 := True.intro
        refine XK.seq ?_
        refine XK.region rfl ?_
        refine XO.q (Q.assign rfl) ?_
        refine XO.done ?_
        refine XK.rt [] Tryz.func11 Tryz.results11 (.t rfl .n) ?_
        refine ⟨?_, rfl⟩
        rw [check_six (by omega)]
        rintro ⟨a1, a2, a3, a4, a5⟩
        have := a2.f0; have := a2.f1; have := a2.p0; have := a2.p1; have := a2.e0; have := a2.e1; have := a2.n0; have := a2.n1
        omega
      · have _t3 := True.intro
        have sk : StoreOk d.store := ⟨by omega, by omega, by omega, by omega, by omega, by omega, by omega, by omega⟩
        refine XK.skip ?_
        refine XK.seq ?_
        refine XK.region rfl ?_
        refine XO.q (Q.assign rfl) ?_
        refine XO.done ?_
        refine XK.seq ?_
        refine XK.seq ?_
        refine XK.region rfl ?_
        refine XO.q (Q.assign rfl) ?_
        refine XO.done ?_
        refine XK.block ?_
        refine XK.while (X := Nat × Int) [2, 7, 8, 9, 96, 97, 98, 99, 100, 101, 102, 103, 104, 105, 106, 107, 108, 109, 110, 111, 112, 113, 114, 115, 116, 117, 118, 119, 120, 121, 122, 123, 124, 125, 126, 127, 128, 129, 130, 131, 132, 133, 134, 135, 136, 137, 138, 139, 140, 141, 142, 143, 144, 145, 146, 147, 148, 149] (fun ⟨i, p⟩ => [(8, some (.int .i64 (i : Nat))), (7, some (.int .i64 p))]) (fun ⟨i, p⟩ => []) (fun ⟨i, p⟩ => (i ≤ d.jobs.length ∧ p = prodS d.jobs i) ∧ ∀ k, k < i → JobOk d.hours.length (d.jobs.getD k default)) (fun ⟨i, p⟩ => d.jobs.length - i) (0, 1) [] rfl ⟨⟨by omega, rfl⟩, fun k hk => by (try dsimp only at hk); omega⟩ (.c rfl (.c rfl (.base 0 rfl rfl))) ?_
        rintro ⟨i, p⟩ ⟨⟨hi, hp⟩, jok⟩ ih1
        dsimp only [List.cons_append, List.nil_append] at ih1 ⊢
        refine XK.seq ?_
        refine XK.seq ?_
        refine XK.region rfl ?_
        refine XO.q (Q.move rfl) ?_
        refine XO.q (Q.fieldAddr rfl) ?_
        refine XO.q (Q.ld rfl rfl) ?_
        refine XO.len rfl fun l99 => ?_
        refine XO.q (Q.lss rfl rfl) ?_
        refine XO.done ?_
        refine XK.if rfl (fun c4 => ?_) (fun c4 => ?_)
        · have _t4 := True.intro
          refine XK.skip ?_
          refine XK.seq ?_
          refine XK.block ?_
          refine XK.seq ?_
          refine XK.region rfl ?_
          refine XO.q (Q.fieldAddr rfl) ?_
          refine XO.q (Q.ld rfl rfl) ?_
          refine XO.q (Q.move rfl) ?_
          refine XO.ix rfl rfl (by omega) (by omega) fun i106 => ?_
          refine XO.q (Q.ldEA [_, _, _, _] rfl (by first | assumption | omega) rfl rfl) ?_
          refine XO.alloc fun b9 => ?_
          refine XO.st rfl rfl rfl ?_
          refine XO.done ?_
          refine XK.seq ?_
          refine XK.seq ?_
          refine XK.region rfl ?_
          refine XO.q (Q.fieldAddr rfl) ?_
          refine XO.q (Q.ld rfl rfl) ?_
          refine XO.q (Q.move rfl) ?_
          refine XO.call Tryz.call47 rfl rfl rfl (rin_spec ((d.jobs.getD i default).beg) (0) (d.hours.length)) fun v111 s111 R111 => ?_
          obtain ⟨rfl, rfl⟩ := R111
          dsimp only [List.cons_append, List.nil_append]
          refine XO.q (Q.not rfl) ?_
          refine XO.q (Q.move rfl) ?_
          refine XO.q (Quiet.guardF rfl rfl fun g114 p114 => Q.fieldAddr rfl) ?_
          refine XO.q (Quiet.guardF rfl rfl fun g115 p115 => Q.ld (lzv g115 rfl) rfl) ?_
          refine XO.q (Quiet.guardF rfl rfl fun g116 p116 => Q.fieldAddr rfl) ?_
          refine XO.q (Quiet.guardF rfl rfl fun g117 p117 => Q.ld (lzv g117 rfl) rfl) ?_
          refine XO.q (Quiet.guardF rfl rfl fun g118 p118 => Q.move rfl) ?_
          refine XO.gcallF rfl rfl Tryz.call47 rfl (fun g119 => .c (lzv g119 rfl) (.c (lzv g119 rfl) (.c (lzv g119 rfl) .n))) rfl (fun g119 p119 => rin_spec ((d.jobs.getD i default).fin) ((d.jobs.getD i default).beg) (d.hours.length)) ?_
          refine XO.q (Quiet.guardF rfl rfl fun g120 p120 => Q.not (lzv g120 rfl)) ?_
          refine XO.q (Q.or rfl (fun hp => lzv hp rfl)) ?_
          refine XO.q (Q.move rfl) ?_
          refine XO.q (Quiet.guardF rfl rfl fun g123 p123 => Q.fieldAddr rfl) ?_
          refine XO.q (Quiet.guardF rfl rfl fun g124 p124 => Q.ld (lzv g124 rfl) rfl) ?_
          refine XO.q (Quiet.guardF rfl rfl fun g125 p125 => Q.fieldAddr rfl) ?_
          refine XO.q (Quiet.guardF rfl rfl fun g126 p126 => Q.ld (lzv g126 rfl) rfl) ?_
          refine XO.q (Quiet.guardF rfl rfl fun g127 p127 => Q.fieldAddr rfl) ?_
          refine XO.q (Quiet.guardF rfl rfl fun g128 p128 => Q.ld (lzv g128 rfl) rfl) ?_
          refine XO.q (Quiet.guardF rfl rfl fun g129 p129 => Q.sub (lzv g129 rfl) (lzv g129 rfl) ⟨by omega, by omega⟩) ?_
          refine XO.gcallF rfl rfl Tryz.call47 rfl (fun g130 => .c (lzv g130 rfl) (.c rfl (.c (lzv g130 rfl) .n))) rfl (fun g130 p130 => rin_spec ((d.jobs.getD i default).hours) (1) ((d.jobs.getD i default).fin - (d.jobs.getD i default).beg)) ?_
          refine XO.q (Quiet.guardF rfl rfl fun g131 p131 => Q.not (lzv g131 rfl)) ?_
          refine XO.q (Q.or rfl (fun hp => lzv hp rfl)) ?_
          refine XO.q (Q.move rfl) ?_
          refine XO.q (Quiet.guardF rfl rfl fun g134 p134 => Q.fieldAddr rfl) ?_
          refine XO.q (Quiet.guardF rfl rfl fun g135 p135 => Q.ld (lzv g135 rfl) rfl) ?_
          refine XO.gcallF rfl rfl Tryz.call47 rfl (fun g136 => .c (lzv g136 rfl) (.c rfl (.c rfl .n))) rfl (fun g136 p136 => rin_spec ((d.jobs.getD i default).power) (0) (20)) ?_
          refine XO.q (Quiet.guardF rfl rfl fun g137 p137 => Q.not (lzv g137 rfl)) ?_
          refine XO.q (Q.or rfl (fun hp => lzv hp rfl)) ?_
          refine XO.done ?_
          refine XK.if rfl (fun c5 => ?_) (fun c5 => ?_)
          · have _t5 := True.intro
            refine XK.seq ?_
            refine XK.region rfl ?_
            refine XO.q (Q.assign rfl) ?_
            refine XO.done ?_
            refine XK.rt [] Tryz.func11 Tryz.results11 (.t rfl .n) ?_
            refine ⟨?_, rfl⟩
            rw [check_six (by omega)]
            rintro ⟨a1, a2, a3, a4, a5⟩
            have q := a3 i (by omega)
            have := q.b0; have := q.b1; have := q.t1; have := q.h0; have := q.p0; have := q.p1
            omega
          · have _t5 := True.intro
            have jok2 : ∀ k, k < i + 1 → JobOk d.hours.length (d.jobs.getD k default) := fun k hk => by
              by_cases h : k < i
              · exact jok k h
              · obtain rfl : k = i := by omega
                exact ⟨by omega, by omega, by omega, by omega, by omega, by omega⟩
            have pp := prod_part (js := d.jobs) (n := d.hours.length) (by omega) (show i + 1 ≤ 2 by omega) jok2
            have ps : prodS d.jobs (i + 1) = prodS d.jobs i * spanS (d.jobs.getD i default) := rfl
            have e1 : (d.jobs.getD i default).fin - (d.jobs.getD i default).beg - (d.jobs.getD i default).hours + 1 = spanS (d.jobs.getD i default) := by unfold spanS; omega
            rw [ps, ← hp] at pp
            refine XK.skip ?_
            refine XK.region rfl ?_
            refine XO.q (Q.move rfl) ?_
            refine XO.q (Q.fieldAddr rfl) ?_
            refine XO.q (Q.ld rfl rfl) ?_
            refine XO.q (Q.fieldAddr rfl) ?_
            refine XO.q (Q.ld rfl rfl) ?_
            refine XO.q (Q.sub rfl rfl ⟨by omega, by omega⟩) ?_
            refine XO.q (Q.fieldAddr rfl) ?_
            refine XO.q (Q.ld rfl rfl) ?_
            refine XO.q (Q.sub rfl rfl ⟨by omega, by omega⟩) ?_
            refine XO.q (Q.add rfl rfl ⟨by omega, by omega⟩) ?_
            rw [e1]
            refine XO.q (Q.mul rfl rfl ⟨by omega, by omega⟩) ?_
            refine XO.q (Q.assign rfl) ?_
            refine XO.done ?_
            refine XK.inBlock ?_
            refine XK.region rfl ?_
            refine XO.q (Q.move rfl) ?_
            refine XO.q (Q.add rfl rfl ⟨by omega, by omega⟩) ?_
            refine XO.q (Q.assign rfl) ?_
            refine XO.done ?_
            exact ih1 (i + 1, _) _ _ ⟨⟨by dsimp only; omega, by dsimp only; rw [hp]; rfl⟩, jok2⟩ (by first | omega | (dsimp only; omega)) (.c rfl (.c rfl (.base 117 rfl rfl))) inferInstance
        · have _t4 := True.intro
          have hij : i = d.jobs.length := by omega
          subst hij
          refine XK.exit rfl ?_
          refine XK.seq ?_
          refine XK.seq ?_
          refine XK.region rfl ?_
          refine XO.q (Q.fieldAddr rfl) ?_
          refine XO.q (Q.ld rfl rfl) ?_
          refine XO.call Tryz.call47 rfl rfl rfl (rin_spec (d.most) (0) (40)) fun v152 s152 R152 => ?_
          obtain ⟨rfl, rfl⟩ := R152
          dsimp only [List.cons_append, List.nil_append]
          refine XO.q (Q.not rfl) ?_
          refine XO.q (Q.move rfl) ?_
          refine XO.q (Quiet.guardF rfl rfl fun g155 p155 => Q.fieldAddr rfl) ?_
          refine XO.q (Quiet.guardF rfl rfl fun g156 p156 => Q.ld (lzv g156 rfl) rfl) ?_
          refine XO.gcallF rfl rfl Tryz.call47 rfl (fun g157 => .c (lzv g157 rfl) (.c rfl (.c rfl .n))) rfl (fun g157 p157 => rin_spec (d.peak) (0) (1000)) ?_
          refine XO.q (Quiet.guardF rfl rfl fun g158 p158 => Q.not (lzv g158 rfl)) ?_
          refine XO.q (Q.or rfl (fun hp => lzv hp rfl)) ?_
          refine XO.done ?_
          refine XK.if rfl (fun c6 => ?_) (fun c6 => ?_)
          · have _t6 := True.intro
            refine XK.seq ?_
            refine XK.region rfl ?_
            refine XO.q (Q.assign rfl) ?_
            refine XO.done ?_
            refine XK.rt [] Tryz.func11 Tryz.results11 (.t rfl .n) ?_
            refine ⟨?_, rfl⟩
            rw [check_six (by omega)]
            rintro ⟨a1, a2, a3, a4, a5⟩
            omega
          · have _t6 := True.intro
            refine XK.skip ?_
            refine XK.seq ?_
            refine XK.seq ?_
            refine XK.region rfl ?_
            refine XO.q (Q.move rfl) ?_
            refine XO.q (Q.gtr rfl rfl) ?_
            refine XO.done ?_
            refine XK.if rfl (fun c7 => ?_) (fun c7 => ?_)
            · have _t7 := True.intro
              refine XK.seq ?_
              refine XK.region rfl ?_
              refine XO.q (Q.assign rfl) ?_
              refine XO.done ?_
              refine XK.rt [] Tryz.func11 Tryz.results11 (.t rfl .n) ?_
              refine ⟨?_, rfl⟩
              rw [check_eight (by omega) ⟨hok, sk, jok, by omega, by omega⟩, if_pos (by omega)]
            · have _t7 := True.intro
              refine XK.skip ?_
              refine XK.seq ?_
              refine XK.region rfl ?_
              refine XO.q (Q.assign rfl) ?_
              refine XO.done ?_
              refine XK.rt [] Tryz.func11 Tryz.results11 (.t rfl .n) ?_
              refine ⟨?_, rfl⟩
              rw [check_eight (by omega) ⟨hok, sk, jok, by omega, by omega⟩, if_neg (by omega)]
theorem rused_spec (d : KDay) (vh vj : Value) (hh hj : PHeap) [ih : Arr vh encHour 6 hh d.hours] [ij : Arr vj encJob 4 hj d.jobs] (s : List Int) (vs : Value) (hs_ : PHeap) [js : Arr vs encI 1 hs_ s] (ok : DayOk d) (so : SOk d s) (i : Nat) (hi : i < d.hours.length) : Spec Tryz.prog 58 #[.agg #[vh, .int .i64 d.store.energy, .int .i64 d.store.full, .int .i64 d.store.power, .int .i64 d.store.fin, vj, .int .i64 d.most, .int .i64 d.peak], vs, .int .i64 (i : Nat)] [] [hh, hj, hs_] (fun v hs => v = .int .i64 (usedAt d s i d.jobs.length) ∧ hs = []) := by
  have sl := so.len
  have s1 := ok.store.f0
  have s2 := ok.store.f1
  have s3 := ok.store.p0
  have s4 := ok.store.p1
  have s5 := ok.store.e0
  have s6 := ok.store.e1
  have h1 := ok.h1
  have h24 := ok.h2
  have m0 := ok.m0
  have m1 := ok.m1
  have j2 := ok.j2
  have hr := ok.hour i (by omega)
  have hr1 := hr.u0
  have hr2 := hr.u1
  have hr3 := hr.l0
  have hr4 := hr.l1
  have ur := fun k hk => used_rng ok s (show i < d.hours.length by omega) k hk
  refine Spec.intro (fn := Tryz.f58) (N := 51) Tryz.func58 rfl Tryz.ntmps58 rfl fun B => ?_
  refine XK.seq ?_
  refine XK.region rfl ?_
  refine XO.box rfl fun b3 => ?_
  refine XO.q (Q.assign rfl) ?_
  refine XO.done ?_
  refine XK.seq ?_
  refine XK.region rfl ?_
  refine XO.q (Q.fieldAddr rfl) ?_
  refine XO.q (Q.ld rfl rfl) ?_
  refine XO.q (Q.move rfl) ?_
  refine XO.ix rfl rfl (by omega) (by omega) fun i12 => ?_
  refine XO.q (Q.fieldQ rfl (by first | assumption | omega)) ?_
  refine XO.q (Q.ldE rfl (by first | assumption | omega) rfl) ?_
  refine XO.q (Q.assign rfl) ?_
  refine XO.done ?_
  refine XK.seq ?_
  refine XK.seq ?_
  refine XK.region rfl ?_
  refine XO.q (Q.assign rfl) ?_
  refine XO.done ?_
  refine XK.block ?_
  refine XK.while (X := Nat × Int) [7, 8, 15, 16, 17, 18, 19, 20, 21, 22, 23, 24, 25, 26, 27, 28, 29, 30, 31, 32, 33, 34, 35, 36, 37, 38, 39, 40, 41, 42, 43, 44, 45, 46, 47, 48, 49] (fun ⟨k, u⟩ => [(8, some (.int .i64 (k : Nat))), (7, some (.int .i64 u))]) (fun ⟨k, u⟩ => []) (fun ⟨k, u⟩ => k ≤ d.jobs.length ∧ u = usedAt d s i k) (fun ⟨k, u⟩ => d.jobs.length - k) (0, _) [] rfl ⟨by omega, rfl⟩ (.c rfl (.c rfl (.base 0 rfl rfl))) ?_
  rintro ⟨k, u⟩ ⟨hk, hu⟩ ih0
  dsimp only [List.cons_append, List.nil_append] at ih0 ⊢
  refine XK.seq ?_
  refine XK.seq ?_
  refine XK.region rfl ?_
  refine XO.q (Q.move rfl) ?_
  refine XO.q (Q.move rfl) ?_
  refine XO.len rfl fun l17 => ?_
  refine XO.q (Q.lss rfl rfl) ?_
  refine XO.done ?_
  refine XK.if rfl (fun c0 => ?_) (fun c0 => ?_)
  · have _t0 := True.intro
    have jk := ok.job k (by omega)
    have jk1 := jk.b0
    have jk2 := jk.b1
    have jk3 := jk.t1
    have jk4 := jk.h0
    have jk5 := jk.p0
    have jk6 := jk.p1
    have sk := so.at' k (by omega)
    have urk := ur k (by omega)
    have ue : usedAt d s i (k + 1) = usedAt d s i k + busy (d.jobs.getD k default) (s.getD k default) i := rfl
    have bu : busy (d.jobs.getD k default) (s.getD k default) i = if s.getD k default ≤ (i : Int) ∧ (i : Int) < s.getD k default + (d.jobs.getD k default).hours then (d.jobs.getD k default).power else 0 := rfl
    refine XK.skip ?_
    refine XK.seq ?_
    refine XK.block ?_
    refine XK.seq ?_
    refine XK.drawn [0, 1, 2, 3, 4, 5, 6, 7, 8, 9, 10, 11, 12, 13, 14, 15, 16, 17, 18, 19, 20] [b3] [] (.q 0 (.q 1 (.q 2 (.q 3 (.q 4 (.q 5 (.q 6 (.q 7 (.q 8 (.q 9 (.q 10 (.q 11 (.q 12 (.q 13 (.q 14 (.q 15 (.q 16 (.q 17 (.q 18 (.q 19 (.q 20 .done))))))))))))))))))))) Tryz.mixed rfl (by kernel_rfl) ?_
    refine XT.q rfl rfl (Q.move rfl) ?_
    refine XT.q rfl rfl (Q.move rfl) ?_
    refine XT.q rfl rfl (Q.move rfl) ?_
    refine XT.ix rfl rfl rfl rfl (by omega) (by omega) fun i24 => ?_
    refine XT.q rfl rfl (Q.ldE rfl (by first | assumption | omega) rfl) ?_
    refine XT.q rfl rfl (Q.geq rfl rfl) ?_
    refine XT.q rfl rfl (Q.move rfl) ?_
    refine XT.q rfl rfl (Quiet.guardT rfl rfl fun g28 p28 => Q.move rfl) ?_
    refine XT.q rfl rfl (Quiet.guardT rfl rfl fun g29 p29 => Q.move rfl) ?_
    refine XT.q rfl rfl (Quiet.guardT rfl rfl fun g30 p30 => Q.move rfl) ?_
    refine XT.q rfl rfl (Quiet.guardT rfl rfl fun g31 p31 => Q.ix (lzv g31 rfl) (lzv g31 rfl) (by omega) (by omega)) ?_
    refine XT.q rfl rfl (Quiet.guardT rfl rfl fun g32 p32 => Q.ldE (lzv g32 rfl) (by first | assumption | omega) rfl) ?_
    refine XT.q rfl rfl (Quiet.guardT rfl rfl fun g33 p33 => Q.fieldAddr rfl) ?_
    refine XT.q rfl rfl (Quiet.guardT rfl rfl fun g34 p34 => Q.ld (lzv g34 rfl) rfl) ?_
    refine XT.q rfl rfl (Quiet.guardT rfl rfl fun g35 p35 => Q.move rfl) ?_
    refine XT.q rfl rfl (Quiet.guardT rfl rfl fun g36 p36 => Q.ix (lzv g36 rfl) (lzv g36 rfl) (by omega) (by omega)) ?_
    refine XT.q rfl rfl (Quiet.guardT rfl rfl fun g37 p37 => Q.fieldQ (lzv g37 rfl) (by first | assumption | omega)) ?_
    refine XT.q rfl rfl (Quiet.guardT rfl rfl fun g38 p38 => Q.ldE (lzv g38 rfl) (by first | assumption | omega) rfl) ?_
    refine XT.q rfl rfl (Quiet.guardT rfl rfl fun g39 p39 => Q.add (lzv g39 rfl) (lzv g39 rfl) ⟨by omega, by omega⟩) ?_
    refine XT.q rfl rfl (Quiet.guardT rfl rfl fun g40 p40 => Q.lss (lzv g40 rfl) (lzv g40 rfl)) ?_
    refine XT.q rfl rfl (Q.and rfl (fun hp => lzv hp rfl)) ?_
    refine XT.done ?_
    refine XK.if rfl (fun c1 => ?_) (fun c1 => ?_)
    · have _t1 := True.intro
      rw [if_pos (by omega)] at bu
      refine XK.region rfl ?_
      refine XO.q (Q.move rfl) ?_
      refine XO.q (Q.fieldAddr rfl) ?_
      refine XO.q (Q.ld rfl rfl) ?_
      refine XO.q (Q.move rfl) ?_
      refine XO.ix rfl rfl (by omega) (by omega) fun i46 => ?_
      refine XO.q (Q.fieldQ rfl (by first | assumption | omega)) ?_
      refine XO.q (Q.ldE rfl (by first | assumption | omega) rfl) ?_
      refine XO.q (Q.add rfl rfl ⟨by omega, by omega⟩) ?_
      refine XO.q (Q.assign rfl) ?_
      refine XO.done ?_
      refine XK.inBlock ?_
      refine XK.region rfl ?_
      refine XO.q (Q.move rfl) ?_
      refine XO.q (Q.add rfl rfl ⟨by omega, by omega⟩) ?_
      refine XO.q (Q.assign rfl) ?_
      refine XO.done ?_
      exact ih0 (k + 1, u + (d.jobs.getD k default).power) _ _ ⟨by dsimp only; omega, by dsimp only; omega⟩ (by first | omega | (dsimp only; omega)) (.c rfl (.c rfl (.base 76 rfl rfl))) inferInstance
    · have _t1 := True.intro
      rw [if_neg (by omega)] at bu
      refine XK.skip ?_
      refine XK.inBlock ?_
      refine XK.region rfl ?_
      refine XO.q (Q.move rfl) ?_
      refine XO.q (Q.add rfl rfl ⟨by omega, by omega⟩) ?_
      refine XO.q (Q.assign rfl) ?_
      refine XO.done ?_
      exact ih0 (k + 1, u) _ _ ⟨by dsimp only; omega, by dsimp only; omega⟩ (by first | omega | (dsimp only; omega)) (.c rfl (.c rfl (.base 67 rfl rfl))) inferInstance
  · have _t0 := True.intro
    have hkn : k = d.jobs.length := by omega
    subst hkn
    subst hu
    refine XK.exit rfl ?_
    refine XK.seq ?_
    refine XK.region rfl ?_
    refine XO.q (Q.move rfl) ?_
    refine XO.q (Q.assign rfl) ?_
    refine XO.done ?_
    refine XK.rt [] Tryz.func58 Tryz.results58 (.t rfl .n) ?_
    exact ⟨rfl, rfl⟩
theorem rneed_spec (d : KDay) (vh vj : Value) (hh hj : PHeap) [ih : Arr vh encHour 6 hh d.hours] [ij : Arr vj encJob 4 hj d.jobs] (s : List Int) (vs : Value) (hs_ : PHeap) [js : Arr vs encI 1 hs_ s] (ok : DayOk d) (so : SOk d s) (i : Nat) (hi : i < d.hours.length) (c : Int) (c0 : -2000 ≤ c) (c1 : c ≤ 2000) : Spec Tryz.prog 54 #[.agg #[vh, .int .i64 d.store.energy, .int .i64 d.store.full, .int .i64 d.store.power, .int .i64 d.store.fin, vj, .int .i64 d.most, .int .i64 d.peak], vs, .int .i64 (i : Nat), .int .i64 c] [] [hh, hj, hs_] (fun v hs => v = .int .i64 (((needsL d s).getD i default) + c) ∧ hs = []) := by
  have na := needs_at (s := s) hi
  have s1 := ok.store.f0
  have s2 := ok.store.f1
  have s3 := ok.store.p0
  have s4 := ok.store.p1
  have s5 := ok.store.e0
  have s6 := ok.store.e1
  have h1 := ok.h1
  have h24 := ok.h2
  have m0 := ok.m0
  have m1 := ok.m1
  have j2 := ok.j2
  have hr := ok.hour i (by omega)
  have hr1 := hr.u0
  have hr2 := hr.u1
  have hr3 := hr.l0
  have hr4 := hr.l1
  have ur := fun k hk => used_rng ok s (show i < d.hours.length by omega) k hk
  have ur2 := ur d.jobs.length (Nat.le_refl _)
  refine Spec.intro (fn := Tryz.f54) (N := 22) Tryz.func54 rfl Tryz.ntmps54 rfl fun B => ?_
  refine XK.seq ?_
  refine XK.region rfl ?_
  refine XO.box rfl fun b4 => ?_
  refine XO.q (Q.assign rfl) ?_
  refine XO.done ?_
  refine XK.seq ?_
  refine XK.drawn [0, 1, 2, 4, 6, 7, 8, 9, 10, 11, 5, 12, 13] [b4] [] (.q 0 (.q 1 (.q 2 (.q 4 (.q 6 (.q 7 (.q 8 (.q 9 (.q 10 (.q 11 (.br 3 true (.q 5 (.q 12 (.q 13 .done))) .stop))))))))))) Tryz.mixed rfl (by kernel_rfl) ?_
  refine XT.q rfl rfl (Q.ldA [_, _, _, _, _, _, _, _] rfl rfl rfl) ?_
  refine XT.q rfl rfl (Q.move rfl) ?_
  refine XT.q rfl rfl (Q.move rfl) ?_
  refine XT.q rfl rfl (Q.move rfl) ?_
  refine XT.q rfl rfl (Q.fieldAddr rfl) ?_
  refine XT.q rfl rfl (Q.ld rfl rfl) ?_
  refine XT.q rfl rfl (Q.move rfl) ?_
  refine XT.ix rfl rfl rfl rfl (by omega) (by omega) fun i18 => ?_
  refine XT.q rfl rfl (Q.fieldQ rfl (by first | assumption | omega)) ?_
  refine XT.q rfl rfl (Q.ldE rfl (by first | assumption | omega) rfl) ?_
  refine XT.call rfl rfl Tryz.call58 rfl rfl rfl (rused_spec d vh vj hh hj s vs hs_ ok so i hi) (fun v12 s12 R12 => ?_) XT.stop
  obtain ⟨rfl, rfl⟩ := R12
  dsimp only [List.cons_append, List.nil_append]
  refine ⟨inferInstance, ?_⟩
  refine XT.q rfl rfl (Q.add rfl rfl ⟨by omega, by omega⟩) ?_
  refine XT.q rfl rfl (Q.sub rfl rfl ⟨by omega, by omega⟩) ?_
  refine XT.q rfl rfl (Q.assign rfl) ?_
  refine XT.done ?_
  refine XK.rt [] Tryz.func54 Tryz.results54 (.t rfl .n) ?_
  exact ⟨by rw [na]; congr 1; omega, rfl⟩
theorem price_pos {h : KHour} {n : Int} (hn : 0 ≤ n) : priceH h n = n * h.buy := by
  rw [priceH, show max n 0 = n by omega, show max (-n) 0 = 0 by omega]; omega
theorem price_neg {h : KHour} {n : Int} (hn : n < 0) : priceH h n = n * h.sell := by
  rw [priceH, show max n 0 = 0 by omega, show max (-n) 0 = -n by omega, Int.neg_mul]; omega
theorem rbill_spec (d : KDay) (vh vj : Value) (hh hj : PHeap) [ih : Arr vh encHour 6 hh d.hours] [ij : Arr vj encJob 4 hj d.jobs] (ok : DayOk d) (i : Nat) (hi : i < d.hours.length) (n : Int) (n0 : -1000 ≤ n) (n1 : n ≤ 1000) : Spec Tryz.prog 55 #[.agg #[vh, .int .i64 d.store.energy, .int .i64 d.store.full, .int .i64 d.store.power, .int .i64 d.store.fin, vj, .int .i64 d.most, .int .i64 d.peak], .int .i64 (i : Nat), .int .i64 n] [] [hh, hj] (fun v hs => v = .int .i64 (priceH (d.hours.getD i default) n) ∧ hs = []) := by
  have pr := price_rng (ok.hour i hi) n0 n1
  refine Spec.intro (fn := Tryz.f55) (N := 25) Tryz.func55 rfl Tryz.ntmps55 rfl fun B => ?_
  refine XK.seq ?_
  refine XK.region rfl ?_
  refine XO.box rfl fun b3 => ?_
  refine XO.q (Q.assign rfl) ?_
  refine XO.done ?_
  refine XK.seq ?_
  refine XK.seq ?_
  refine XK.region rfl ?_
  refine XO.q (Q.move rfl) ?_
  refine XO.q (Q.geq rfl rfl) ?_
  refine XO.done ?_
  refine XK.if rfl (fun c0 => ?_) (fun c0 => ?_)
  · have _t0 := True.intro
    rw [price_pos (by omega)] at pr
    refine XK.seq ?_
    refine XK.region rfl ?_
    refine XO.q (Q.move rfl) ?_
    refine XO.q (Q.fieldAddr rfl) ?_
    refine XO.q (Q.ld rfl rfl) ?_
    refine XO.q (Q.move rfl) ?_
    refine XO.ix rfl rfl (by omega) (by omega) fun i13 => ?_
    refine XO.q (Q.fieldQ rfl (by first | assumption | omega)) ?_
    refine XO.q (Q.ldE rfl (by first | assumption | omega) rfl) ?_
    refine XO.q (Q.mul rfl rfl ⟨by omega, by omega⟩) ?_
    refine XO.q (Q.assign rfl) ?_
    refine XO.done ?_
    refine XK.rt [] Tryz.func55 Tryz.results55 (.t rfl .n) ?_
    exact ⟨by rw [price_pos (by omega)], rfl⟩
  · have _t0 := True.intro
    rw [price_neg (by omega)] at pr
    refine XK.skip ?_
    refine XK.seq ?_
    refine XK.region rfl ?_
    refine XO.q (Q.move rfl) ?_
    refine XO.q (Q.fieldAddr rfl) ?_
    refine XO.q (Q.ld rfl rfl) ?_
    refine XO.q (Q.move rfl) ?_
    refine XO.ix rfl rfl (by omega) (by omega) fun i21 => ?_
    refine XO.q (Q.fieldQ rfl (by first | assumption | omega)) ?_
    refine XO.q (Q.ldE rfl (by first | assumption | omega) rfl) ?_
    refine XO.q (Q.mul rfl rfl ⟨by omega, by omega⟩) ?_
    refine XO.q (Q.assign rfl) ?_
    refine XO.done ?_
    refine XK.rt [] Tryz.func55 Tryz.results55 (.t rfl .n) ?_
    exact ⟨by rw [price_neg (by omega)], rfl⟩
def posB (d : KDay) (n e c : Int) : Bool := ((decide (-d.store.power ≤ c) && decide (c ≤ d.store.power)) && (decide (0 ≤ e + c) && decide (e + c ≤ d.store.full))) && decide (n + c ≤ d.most)
theorem rpossible_spec (d : KDay) (vh vj : Value) (hh hj : PHeap) [ih : Arr vh encHour 6 hh d.hours] [ij : Arr vj encJob 4 hj d.jobs] (s : List Int) (vs : Value) (hs_ : PHeap) [js : Arr vs encI 1 hs_ s] (ok : DayOk d) (so : SOk d s) (i : Nat) (hi : i < d.hours.length) (e c : Int) (e0 : -1000 ≤ e) (e1 : e ≤ 1000) : Spec Tryz.prog 87 #[.agg #[vh, .int .i64 d.store.energy, .int .i64 d.store.full, .int .i64 d.store.power, .int .i64 d.store.fin, vj, .int .i64 d.most, .int .i64 d.peak], vs, .int .i64 (i : Nat), .int .i64 e, .int .i64 c] [] [hh, hj, hs_] (fun v hs => v = .bool (posB d ((needsL d s).getD i default) e c) ∧ hs = []) := by
  have s1 := ok.store.f0
  have s2 := ok.store.f1
  have s3 := ok.store.p0
  have s4 := ok.store.p1
  have s5 := ok.store.e0
  have s6 := ok.store.e1
  have h1 := ok.h1
  have h24 := ok.h2
  have m0 := ok.m0
  have m1 := ok.m1
  have j2 := ok.j2
  refine Spec.intro (fn := Tryz.f87) (N := 39) Tryz.func87 rfl Tryz.ntmps87 rfl fun B => ?_
  refine XK.seq ?_
  refine XK.region rfl ?_
  refine XO.box rfl fun b5 => ?_
  refine XO.q (Q.assign rfl) ?_
  refine XO.done ?_
  refine XK.seq ?_
  refine XK.drawn [0, 1, 2, 3, 4, 5, 6, 7, 9, 10, 11, 12, 13, 14, 15, 17, 18, 19, 20, 21, 22, 24, 25, 26, 27, 28] [b5] [] (.q 0 (.q 1 (.q 2 (.q 3 (.q 4 (.q 5 (.q 6 (.q 7 (.br 8 true (.q 9 (.q 10 (.q 11 (.q 12 (.q 13 (.q 14 (.q 15 (.br 16 true (.q 17 (.q 18 (.q 19 (.q 20 (.q 21 (.q 22 (.q 24 (.q 25 (.br 23 true (.q 26 (.q 27 (.q 28 .done))) .stop))))))))) .stop)))))))) .stop))))))))) Tryz.mixed rfl (by kernel_rfl) ?_
  refine XT.q rfl rfl (Q.move rfl) ?_
  refine XT.q rfl rfl (Q.fieldAddr rfl) ?_
  refine XT.q rfl rfl (Q.fieldAddr rfl) ?_
  refine XT.q rfl rfl (Q.ld rfl rfl) ?_
  refine XT.q rfl rfl (Q.neg rfl ⟨by omega, by omega⟩) ?_
  rw [show (0 : Int) - d.store.power = -d.store.power by omega]
  refine XT.q rfl rfl (Q.fieldAddr rfl) ?_
  refine XT.q rfl rfl (Q.fieldAddr rfl) ?_
  refine XT.q rfl rfl (Q.ld rfl rfl) ?_
  refine XT.call rfl rfl Tryz.call47 rfl rfl rfl (rin_spec (c) (-d.store.power) (d.store.power)) (fun v19 s19 R19 => ?_) XT.stop
  obtain ⟨rfl, rfl⟩ := R19
  dsimp only [List.cons_append, List.nil_append]
  refine ⟨inferInstance, ?_⟩
  refine XT.q rfl rfl (Q.move rfl) ?_
  refine XT.q rfl rfl (Quiet.guardT rfl rfl fun g21 p21 => Q.move rfl) ?_
  refine XT.q rfl rfl (Quiet.guardT rfl rfl fun g22 p22 => Q.move rfl) ?_
  refine XT.q rfl rfl (Quiet.guardT rfl rfl fun g23 p23 => Q.add (lzv g23 rfl) (lzv g23 rfl) ⟨by omega, by omega⟩) ?_
  refine XT.q rfl rfl (Quiet.guardT rfl rfl fun g24 p24 => Q.fieldAddr rfl) ?_
  refine XT.q rfl rfl (Quiet.guardT rfl rfl fun g25 p25 => Q.fieldAddr (lzv g25 rfl)) ?_
  refine XT.q rfl rfl (Quiet.guardT rfl rfl fun g26 p26 => Q.ld (lzv g26 rfl) rfl) ?_
  refine XT.gcallT rfl rfl rfl rfl Tryz.call47 rfl (fun g27 => .c (lzv g27 rfl) (.c rfl (.c (lzv g27 rfl) .n))) rfl (fun g27 p27 => rin_spec (e + c) (0) (d.store.full)) ⟨inferInstance, ?_⟩ XT.stop
  refine XT.q rfl rfl (Q.and rfl (fun hp => lzv hp rfl)) ?_
  refine XT.q rfl rfl (Q.move rfl) ?_
  refine XT.q rfl rfl (Quiet.guardT rfl rfl fun g30 p30 => Q.ldA [_, _, _, _, _, _, _, _] rfl rfl rfl) ?_
  refine XT.q rfl rfl (Quiet.guardT rfl rfl fun g31 p31 => Q.move rfl) ?_
  refine XT.q rfl rfl (Quiet.guardT rfl rfl fun g32 p32 => Q.move rfl) ?_
  refine XT.q rfl rfl (Quiet.guardT rfl rfl fun g33 p33 => Q.move rfl) ?_
  refine XT.q rfl rfl (Quiet.guardT rfl rfl fun g35 p35 => Q.fieldAddr rfl) ?_
  refine XT.q rfl rfl (Quiet.guardT rfl rfl fun g36 p36 => Q.ld (lzv g36 rfl) rfl) ?_
  refine XT.gcallT rfl rfl rfl rfl Tryz.call54 rfl (fun g34 => .c (lzv g34 rfl) (.c (lzv g34 rfl) (.c (lzv g34 rfl) (.c (lzv g34 rfl) .n)))) rfl (fun g34 p34 => rneed_spec d vh vj hh hj s vs hs_ ok so i hi c (by omega) (by omega)) ⟨inferInstance, ?_⟩ XT.stop
  refine XT.q rfl rfl (Quiet.guardT rfl rfl fun g37 p37 => Q.leq (lzv g37 rfl) (lzv g37 rfl)) ?_
  refine XT.q rfl rfl (Q.and rfl (fun hp => lzv hp rfl)) ?_
  refine XT.q rfl rfl (Q.assign rfl) ?_
  refine XT.done ?_
  refine XK.rt [] Tryz.func87 Tryz.results87 (.t rfl .n) ?_
  exact ⟨rfl, rfl⟩
end Go.X

/- Ledgers and costs of plans, as the statements use them. No condition. -/
set_option linter.unusedVariables false
namespace Go.X
theorem cost_err (d : KDay) (p : KPlan) : (costG d p).2 = (formG d p).2 := by
  unfold costG; split
  · rfl
  · rename_i h; exact (Decidable.of_not_not h).symm
theorem led_yes {d : KDay} {s ch : List Int} {c : Int} (h : formG d ⟨s, ch, c⟩ = (needsL d s, 0)) : ledgerG d ⟨s, ch, c⟩ = ((List.range d.hours.length).map (rowA d s ch), sumRow (rowA d s ch) d.hours.length, 0) := by
  rw [ledgerG, h]; rfl
theorem cost_yes {d : KDay} {s ch : List Int} {c : Int} (h : formG d ⟨s, ch, c⟩ = (needsL d s, 0)) : costG d ⟨s, ch, c⟩ = (costL d (needsL d s) ch, 0) := by
  rw [costG, h]; rfl
structure RowIs (d : KDay) (s ch : List Int) (i : Nat) (r : KRow) : Prop where
  bal : r.bought + r.made = r.sold + r.used + r.stored
  one : r.bought ≤ 0 ∨ r.sold ≤ 0
  b0 : 0 ≤ r.bought
  s0 : 0 ≤ r.sold
  made : r.made = (d.hours.getD i default).sun
  used : (d.hours.getD i default).load ≤ r.used
  carbon : r.carbon = r.bought * (d.hours.getD i default).carbon
  water : r.water = r.used * (d.hours.getD i default).water
  energy : energyTo d ch (i + 1) = energyTo d ch i + r.stored
  peak : peakTo (needsL d s) ch (i + 1) = max (peakTo (needsL d s) ch i) r.bought
  cost : costTo d (needsL d s) ch (i + 1) = costTo d (needsL d s) ch i + (r.bought * (d.hours.getD i default).buy - r.sold * (d.hours.getD i default).sell)
  small : RowSmall 1000000 r
  buy : 0 ≤ r.bought * (d.hours.getD i default).buy ∧ r.bought * (d.hours.getD i default).buy ≤ 1000000000
  sell : 0 ≤ r.sold * (d.hours.getD i default).sell ∧ r.sold * (d.hours.getD i default).sell ≤ 1000000000
theorem plan_rng {d : KDay} {s ch : List Int} {c : Int} (h : formG d ⟨s, ch, c⟩ = (needsL d s, 0)) : Poss d (needsL d s) ch ∧ s ∈ startsL d ∧ DayOk d ∧ ch.length = d.hours.length ∧ (∀ i, i ≤ d.hours.length → StateOk d (energyTo d ch i) (peakTo (needsL d s) ch i)) ∧ ∀ i, i ≤ d.hours.length → -100000000 ≤ costTo d (needsL d s) ch i ∧ costTo d (needsL d s) ch i ≤ 100000000 := by
  have h0 : (formG d ⟨s, ch, c⟩).2 = 0 := by rw [h]
  obtain ⟨kc, sm, po⟩ := form_poss h0
  have ok := kcheck_iff.1 kc
  have po : Poss d (needsL d s) ch := po
  refine ⟨po, sm, ok, po.len, poss_state ok po.ok, fun i hi => ?_⟩
  have h24 := ok.h2
  have := (cost_rng (d := d) (base := needsL d s) (ch := ch) ok.hour (by rw [po.len]; exact Nat.le_refl _) (fun j hj => by
    have o := okAt_iffK.1 (po.ok j (by rw [← po.len]; exact hj))
    have b := needs_rng ok s (show j < d.hours.length by rw [← po.len]; exact hj)
    have := ok.store.p1; have := ok.m1
    omega) i (by rw [po.len]; exact hi)).1
  omega
end Go.X

/- What Best returns is accepted, and no possible plan costs less. No condition. -/
set_option linter.unusedVariables false
namespace Go.X
structure TabsR (d : KDay) (tabs : List (List Int)) : Prop where
  len : tabs.length = (startsL d).length
  tab : ∀ j, j < (startsL d).length → TabOk d (needsL d ((startsL d).getD j default)) (tabs.getD j default)
end Go.X

set_option linter.unusedSimpArgs false
set_option linter.unusedVariables false
set_option maxRecDepth 20000
namespace Go.X
open Go.Proofs
theorem any_takeS {α : Type} [Inhabited α] {p : α → Bool} {l : List α} {i : Nat} (h : i < l.length) : (l.take (i + 1)).any p = ((l.take i).any p || p (l.getD i default)) := by
  rw [take_snocK h, List.any_append, List.any_cons, List.any_nil, Bool.or_false]
theorem posB_ok (d : KDay) (base ch : List Int) (i : Nat) : posB d (base.getD i default) (energyTo d ch i) (ch.getD i default) = okAt d base ch i := by
  rw [Bool.eq_iff_iff, okAt_iffK]
  unfold posB
  simp only [Bool.and_eq_true, decide_eq_true_eq]
  exact and_assoc
theorem mem_getD {α : Type} [Inhabited α] {l : List α} {x : α} (h : x ∈ l) : ∃ i, ∃ (_ : i < l.length), l.getD i default = x := by
  obtain ⟨i, hi, e⟩ := List.mem_iff_getElem.1 h
  exact ⟨i, hi, by rw [List.getD_eq_getElem?_getD, List.getElem?_eq_getElem hi]; exact e⟩
theorem sameInts (va vb : Value) (ha hb : PHeap) (a b : List Int) [ia : Arr va encI 1 ha a] [ib : Arr vb encI 1 hb b] : Spec Tryz.prog 79 #[va, vb] [] [ha, hb] (fun v hs => v = .bool (decide (a = b)) ∧ hs = []) := by
  have la := ia.le
  refine Spec.intro (fn := Tryz.f79) (N := 26) Tryz.func79 rfl Tryz.ntmps79 rfl fun B => ?_
  refine XK.seq ?_
  refine XK.region rfl ?_
  refine XO.q (Q.assign rfl) ?_
  refine XO.done ?_
  refine XK.seq ?_
  refine XK.seq ?_
  refine XK.region rfl ?_
  refine XO.q (Q.move rfl) ?_
  refine XO.len rfl fun l7 => ?_
  refine XO.q (Q.move rfl) ?_
  refine XO.len rfl fun l9 => ?_
  refine XO.q (Q.neq rfl rfl) ?_
  refine XO.done ?_
  refine XK.if rfl (fun c0 => ?_) (fun c0 => ?_)
  · have _t0 := True.intro
    refine XK.seq ?_
    refine XK.region rfl ?_
    refine XO.q (Q.assign rfl) ?_
    refine XO.done ?_
    refine XK.rt [] Tryz.func79 Tryz.results79 (.t rfl .n) ?_
    exact ⟨by rw [decide_eq_false (fun h => c0 (by rw [h]))], rfl⟩
  · have _t0 := True.intro
    refine XK.skip ?_
    refine XK.seq ?_
    refine XK.seq ?_
    refine XK.region rfl ?_
    refine XO.q (Q.assign rfl) ?_
    refine XO.done ?_
    refine XK.block ?_
    refine XK.while (X := Nat) [4, 5, 11, 12, 13, 14, 15, 16, 17, 18, 19, 20, 21, 22, 23, 24, 25] (fun i => [(5, some (.int .i64 (i : Nat)))]) (fun i => []) (fun i => i ≤ a.length ∧ a.take i = b.take i) (fun i => a.length - i) (0) [] rfl ⟨by omega, rfl⟩ (.c rfl (.base 0 rfl rfl)) ?_
    rintro i ⟨hi, ht⟩ ih0
    dsimp only [List.cons_append, List.nil_append] at ih0 ⊢
    refine XK.seq ?_
    refine XK.seq ?_
    refine XK.region rfl ?_
    refine XO.q (Q.move rfl) ?_
    refine XO.q (Q.move rfl) ?_
    refine XO.len rfl fun l13 => ?_
    refine XO.q (Q.lss rfl rfl) ?_
    refine XO.done ?_
    refine XK.if rfl (fun c1 => ?_) (fun c1 => ?_)
    · have _t1 := True.intro
      refine XK.skip ?_
      refine XK.seq ?_
      refine XK.block ?_
      refine XK.seq ?_
      refine XK.drawn [0, 1, 2, 3, 4, 5, 6, 7, 8] [] [] (.q 0 (.q 1 (.q 2 (.q 3 (.q 4 (.q 5 (.q 6 (.q 7 (.q 8 .done))))))))) Tryz.mixed rfl (by kernel_rfl) ?_
      refine XT.q rfl rfl (Q.move rfl) ?_
      refine XT.q rfl rfl (Q.move rfl) ?_
      refine XT.ix rfl rfl rfl rfl (by omega) (by omega) fun i19 => ?_
      refine XT.q rfl rfl (Q.ldE rfl (by first | assumption | omega) rfl) ?_
      refine XT.q rfl rfl (Q.move rfl) ?_
      refine XT.q rfl rfl (Q.move rfl) ?_
      refine XT.ix rfl rfl rfl rfl (by omega) (by omega) fun i23 => ?_
      refine XT.q rfl rfl (Q.ldE rfl (by first | assumption | omega) rfl) ?_
      refine XT.q rfl rfl (Q.neq rfl rfl) ?_
      refine XT.done ?_
      refine XK.if rfl (fun c2 => ?_) (fun c2 => ?_)
      · have _t2 := True.intro
        refine XK.seq ?_
        refine XK.region rfl ?_
        refine XO.q (Q.assign rfl) ?_
        refine XO.done ?_
        refine XK.rt [] Tryz.func79 Tryz.results79 (.t rfl .n) ?_
        exact ⟨by rw [decide_eq_false (fun h => c2 (by rw [h]))], rfl⟩
      · have _t2 := True.intro
        refine XK.skip ?_
        refine XK.inBlock ?_
        refine XK.region rfl ?_
        refine XO.q (Q.move rfl) ?_
        refine XO.q (Q.add rfl rfl ⟨by omega, by omega⟩) ?_
        refine XO.q (Q.assign rfl) ?_
        refine XO.done ?_
        exact ih0 (i + 1) _ _ ⟨by omega, take_step ht (by omega) (by omega) (Decidable.of_not_not c2)⟩ (by first | omega | (dsimp only; omega)) (.c rfl (.base 34 rfl rfl)) inferInstance
    · have _t1 := True.intro
      refine XK.exit rfl ?_
      refine XK.seq ?_
      refine XK.region rfl ?_
      refine XO.q (Q.assign rfl) ?_
      refine XO.done ?_
      refine XK.rt [] Tryz.func79 Tryz.results79 (.t rfl .n) ?_
      exact ⟨by rw [decide_eq_true (take_all ht c1 (by omega))], rfl⟩
set_option maxHeartbeats 2000000 in
theorem rstarts_spec (d : KDay) (vh vj : Value) (hh hj : PHeap) [ih : Arr vh encHour 6 hh d.hours] [ij : Arr vj encJob 4 hj d.jobs] (ok : DayOk d) (m : Nat) : ∀ (k : Nat), k + m = d.jobs.length → Spec Tryz.prog 49 #[.agg #[vh, .int .i64 d.store.energy, .int .i64 d.store.full, .int .i64 d.store.power, .int .i64 d.store.fin, vj, .int .i64 d.most, .int .i64 d.peak], .int .i64 (k : Nat)] [] [hh, hj] (fun v hs => ∃ ho us K, hs = [ho, K] ∧ OArr v encV 1 32 ho us ∧ RowsK us K (rowsR (d.jobs.drop k))) := by
  induction m using Nat.strongRecOn with
  | ind m IH =>
    intro k hk
    have lj := ij.le
    have j2 := ok.j2
    have h24 := ok.h2
    have nV : OArr (.slice none 0 0) encV 1 32 emp ([] : List Value) := OArr.nil (fun _ => rfl)
    refine Spec.intro (fn := Tryz.f49) (N := 61) Tryz.func49 rfl Tryz.ntmps49 rfl fun B => ?_
    refine XK.seq ?_
    refine XK.region rfl ?_
    refine XO.box rfl fun b2 => ?_
    refine XO.q (Q.assign rfl) ?_
    refine XO.done ?_
    refine XK.seq ?_
    refine XK.seq ?_
    refine XK.region rfl ?_
    refine XO.q (Q.move rfl) ?_
    refine XO.q (Q.fieldAddr rfl) ?_
    refine XO.q (Q.ld rfl rfl) ?_
    refine XO.len rfl fun l13 => ?_
    refine XO.q (Q.eql rfl rfl) ?_
    refine XO.done ?_
    refine XK.if rfl (fun c0 => ?_) (fun c0 => ?_)
    · have _t0 := True.intro
      obtain rfl : k = d.jobs.length := by omega
      refine XK.seq ?_
      refine XK.region rfl ?_
      refine XO.lit [_] [_] [.slice none 0 0] encV (by rfl) (by rfl) rfl (by rfl) (by exact .c 0 1 rfl rfl rfl (.n _)) (fun _ => rfl) (by rfl) rfl (by infer_instance) rfl fun v15 h15 O15 => ?_
      refine XO.q (Q.assign rfl) ?_
      refine XO.done ?_
      refine XK.rt [h15, emp] Tryz.func49 Tryz.results49 (.t rfl .n) ?_
      refine ⟨h15, [.slice none 0 0], emp, rfl, O15, ?_⟩
      rw [List.drop_length]
      exact ⟨rfl, fun i hi => by
        have h0 : i = 0 := (by simpa using hi)
        subst h0; exact Arr.nil (fun _ => rfl)⟩
    · have _t0 := True.intro
      refine XK.skip ?_
      refine XK.seq ?_
      refine XK.region rfl ?_
      refine XO.q (Q.assign rfl) ?_
      refine XO.done ?_
      refine XK.seq ?_
      refine XK.region rfl ?_
      refine XO.q (Q.ldA [_, _, _, _, _, _, _, _] rfl rfl rfl) ?_
      refine XO.q (Q.move rfl) ?_
      refine XO.q (Q.add rfl rfl ⟨by omega, by omega⟩) ?_
      refine XO.call Tryz.call49 rfl rfl rfl (IH (m - 1) (by omega) (k + 1) (by omega)) fun v19 s19 R19 => ?_
      obtain ⟨hr, ur, Kr, rfl, OR, RR⟩ := R19
      dsimp only [List.cons_append, List.nil_append]
      obtain ⟨rest, er⟩ : ∃ r, r = rowsR (d.jobs.drop (k + 1)) := ⟨_, rfl⟩
      have rln : rest.length ≤ 576 := by rw [er]; exact rowsR_len (fun j hj => by obtain ⟨i, hi, rfl⟩ := mem_getD (List.mem_of_mem_drop hj); have := span_rng ok hi; omega) (by rw [List.length_drop]; omega)
      have rea : ∀ x ∈ rest, x.length ≤ 2 := fun x hx => by rw [er] at hx; rw [rowsR_each x hx, List.length_drop]; omega
      rw [← er] at RR
      have RRL := RR.1
      have jk := ok.job k (by omega)
      have jk1 := jk.b0
      have jk2 := jk.b1
      have jk3 := jk.t1
      have jk4 := jk.h0
      have sp := span_rng ok (i := k) (by omega)
      refine XO.q (Q.assign rfl) ?_
      refine XO.done ?_
      refine XK.seq ?_
      refine XK.seq ?_
      refine XK.region rfl ?_
      refine XO.q (Q.fieldAddr rfl) ?_
      refine XO.q (Q.ld rfl rfl) ?_
      refine XO.q (Q.move rfl) ?_
      refine XO.ix rfl rfl (by omega) (by omega) fun i23 => ?_
      refine XO.q (Q.fieldQ rfl (by first | assumption | omega)) ?_
      refine XO.q (Q.ldE rfl (by first | assumption | omega) rfl) ?_
      refine XO.q (Q.assign rfl) ?_
      refine XO.done ?_
      refine XK.block ?_
      refine XK.while (X := Nat × Int × Value × PHeap × List Value × PHeap) [5, 7, 8, 9, 26, 27, 28, 29, 30, 31, 32, 33, 34, 35, 36, 37, 38, 39, 40, 41, 42, 43, 44, 45, 46, 47, 48, 49, 50, 51, 52, 53, 54, 55, 56, 57, 58, 59] (fun ⟨q, tt, vo, ko, us, K⟩ => [(7, some (.int .i64 tt)), (5, some (vo))]) (fun ⟨q, tt, vo, ko, us, K⟩ => [ko, K]) (fun ⟨q, tt, vo, ko, us, K⟩ => q ≤ (spanS (d.jobs.getD k default)).toNat ∧ tt = (d.jobs.getD k default).beg + ((q : Nat) : Int) ∧ OArr vo encV 1 32 ko us ∧ RowsK us K (rowsP (d.jobs.getD k default) rest q)) (fun ⟨q, tt, vo, ko, us, K⟩ => (spanS (d.jobs.getD k default)).toNat - q) (0, (d.jobs.getD k default).beg, .slice none 0 0, emp, [], emp) [emp, emp] rfl ⟨by omega, by (try dsimp only); omega, nV, RowsK.nil⟩ (.c rfl (.c rfl (.base 0 rfl rfl))) ?_
      rintro ⟨q, tt, vo, ko, us, K⟩ ⟨hq, htt, OU, RU⟩ ih0
      dsimp only [List.cons_append, List.nil_append] at ih0 ⊢
      refine XK.seq ?_
      refine XK.seq ?_
      refine XK.drawn [0, 1, 2, 3, 4, 5, 6, 7, 8, 9, 10, 11, 12, 13, 14] [b2] [] (.q 0 (.q 1 (.q 2 (.q 3 (.q 4 (.q 5 (.q 6 (.q 7 (.q 8 (.q 9 (.q 10 (.q 11 (.q 12 (.q 13 (.q 14 .done))))))))))))))) Tryz.mixed rfl (by kernel_rfl) ?_
      refine XT.q rfl rfl (Q.move rfl) ?_
      refine XT.q rfl rfl (Q.fieldAddr rfl) ?_
      refine XT.q rfl rfl (Q.ld rfl rfl) ?_
      refine XT.q rfl rfl (Q.move rfl) ?_
      refine XT.ix rfl rfl rfl rfl (by omega) (by omega) fun i30 => ?_
      refine XT.q rfl rfl (Q.fieldQ rfl (by first | assumption | omega)) ?_
      refine XT.q rfl rfl (Q.ldE rfl (by first | assumption | omega) rfl) ?_
      refine XT.q rfl rfl (Q.add rfl rfl ⟨by omega, by omega⟩) ?_
      refine XT.q rfl rfl (Q.fieldAddr rfl) ?_
      refine XT.q rfl rfl (Q.ld rfl rfl) ?_
      refine XT.q rfl rfl (Q.move rfl) ?_
      refine XT.ix rfl rfl rfl rfl (by omega) (by omega) fun i37 => ?_
      refine XT.q rfl rfl (Q.fieldQ rfl (by first | assumption | omega)) ?_
      refine XT.q rfl rfl (Q.ldE rfl (by first | assumption | omega) rfl) ?_
      refine XT.q rfl rfl (Q.leq rfl rfl) ?_
      refine XT.done ?_
      refine XK.if rfl (fun c1 => ?_) (fun c1 => ?_)
      · have _t1 := True.intro
        have hq2 : q < (spanS (d.jobs.getD k default)).toNat := by unfold spanS; omega
        have UL := RU.1
        have pl := rowsP_len (rest := rest) (show q ≤ (spanS (d.jobs.getD k default)).toNat by omega)
        have mq : q * rest.length ≤ 24 * 576 := Nat.mul_le_mul (by omega) (by omega)
        refine XK.skip ?_
        refine XK.seq ?_
        refine XK.block ?_
        refine XK.seq ?_
        refine XK.region rfl ?_
        refine XO.q (Q.assign rfl) ?_
        refine XO.done ?_
        refine XK.block ?_
        refine XK.while (X := Nat × Value × PHeap × List Value × PHeap) [5, 8, 9, 43, 44, 45, 46, 47, 48, 49, 50, 51, 52, 53, 54, 55, 56, 57, 58, 59] (fun ⟨i, vn, kn, un, K2⟩ => [(8, some (.int .i64 (i : Nat))), (5, some (vn))]) (fun ⟨i, vn, kn, un, K2⟩ => [kn, K2]) (fun ⟨i, vn, kn, un, K2⟩ => i ≤ rest.length ∧ OArr vn encV 1 32 kn un ∧ RowsK un K2 (rowsI (d.jobs.getD k default) rest q i)) (fun ⟨i, vn, kn, un, K2⟩ => rest.length - i) (0, vo, ko, us, K) [ko, K] rfl ⟨by omega, OU, by rw [rowsI_zero]; exact RU⟩ (.c rfl (.c rfl (.base 0 rfl rfl))) ?_
        rintro ⟨i, vn, kn, un, K2⟩ ⟨hi, ON, RN⟩ ih1
        dsimp only [List.cons_append, List.nil_append] at ih1 ⊢
        refine XK.seq ?_
        refine XK.seq ?_
        refine XK.region rfl ?_
        refine XO.q (Q.move rfl) ?_
        refine XO.q (Q.move rfl) ?_
        refine XO.len rfl fun l45 => ?_
        refine XO.q (Q.lss rfl rfl) ?_
        refine XO.done ?_
        refine XK.if rfl (fun c2 => ?_) (fun c2 => ?_)
        · have _t2 := True.intro
          have ai := RR.2 i (by omega)
          have li := rea (rest.getD i default) (getD_mem (by omega))
          have UN := RN.1
          have pli := rowsI_len (rest := rest) (i := i) (show q ≤ (spanS (d.jobs.getD k default)).toNat by omega) (by omega)
          refine XK.skip ?_
          refine XK.seq ?_
          refine XK.block ?_
          refine XK.seq ?_
          refine XK.region rfl ?_
          refine XO.q (Q.move rfl) ?_
          refine XO.lit [_] [_] [tt] encI (by rfl) (by rfl) rfl (by rfl) (by exact .c 0 1 rfl rfl rfl (.n _)) (fun _ => rfl) (by rfl) rfl (by infer_instance) rfl fun v50 h50 O50 => ?_
          refine XO.q (Q.assign rfl) ?_
          refine XO.done ?_
          refine XK.region rfl ?_
          refine XO.q (Q.move rfl) ?_
          refine XO.q (Q.move rfl) ?_
          refine XO.q (Q.move rfl) ?_
          refine XO.q (Q.move rfl) ?_
          refine XO.ix rfl rfl (by omega) (by omega) fun i55 => ?_
          refine XO.q (Q.ldE rfl (by first | assumption | omega) rfl) ?_
          refine XO.append rfl rfl rfl rfl (by simp only [List.length_cons, List.length_nil]; omega) fun v57 h57 O57 => ?_
          refine XO.lit [_] [_] [v57] encV (by rfl) (by rfl) rfl (by rfl) (by exact .c 0 1 rfl rfl rfl (.n _)) (fun _ => rfl) (by rfl) rfl (by infer_instance) rfl fun v58 h58 O58 => ?_
          refine XO.append rfl rfl rfl rfl (by simp only [List.length_cons, List.length_nil]; omega) fun v59 h59 O59 => ?_
          refine XO.q (Q.assign rfl) ?_
          refine XO.done ?_
          refine XK.inBlock ?_
          refine XK.region rfl ?_
          refine XO.q (Q.move rfl) ?_
          refine XO.q (Q.add rfl rfl ⟨by omega, by omega⟩) ?_
          refine XO.q (Q.assign rfl) ?_
          refine XO.done ?_
          refine XK.cat K2 h57 fun l1 l2 => ?_
          exact ih1 (i + 1, v59, h59, un ++ [v57], cat K2 h57) _ _ ⟨by dsimp only; omega, O59, by dsimp only; rw [rowsI_succ (by omega), ← htt]; exact (RN.mono l1).snoc (Arr.le_heap (OArr.arr (s := O57)) l2)⟩ (by first | omega | (dsimp only; omega)) (.c rfl (.c rfl (.base 42 rfl rfl))) inferInstance
        · have _t2 := True.intro
          have hir : i = rest.length := by omega
          subst hir
          refine XK.exit rfl ?_
          refine XK.inBlock ?_
          refine XK.region rfl ?_
          refine XO.q (Q.move rfl) ?_
          refine XO.q (Q.add rfl rfl ⟨by omega, by omega⟩) ?_
          refine XO.q (Q.assign rfl) ?_
          refine XO.done ?_
          exact ih0 (q + 1, tt + 1, vn, kn, un, K2) _ _ ⟨by dsimp only; omega, by dsimp only; omega, ON, by dsimp only; rw [← rowsI_all hq2]; exact RN⟩ (by first | omega | (dsimp only; omega)) (.c rfl (.c rfl (.base 85 rfl rfl))) inferInstance
      · have _t1 := True.intro
        have hqe : q = (spanS (d.jobs.getD k default)).toNat := by unfold spanS at hq ⊢; omega
        refine XK.exit rfl ?_
        refine XK.seq ?_
        refine XK.region rfl ?_
        refine XO.q (Q.move rfl) ?_
        refine XO.q (Q.assign rfl) ?_
        refine XO.done ?_
        refine XK.rt [ko, K] Tryz.func49 Tryz.results49 (.t rfl .n) ?_
        refine ⟨ko, us, K, rfl, OU, ?_⟩
        rw [drop_cons (by omega), rowsR, ← er, ← rowsP_all, ← hqe]; exact RU
theorem rstarts0_spec (d : KDay) (vh vj : Value) (hh hj : PHeap) [ih : Arr vh encHour 6 hh d.hours] [ij : Arr vj encJob 4 hj d.jobs] (ok : DayOk d) : Spec Tryz.prog 49 #[.agg #[vh, .int .i64 d.store.energy, .int .i64 d.store.full, .int .i64 d.store.power, .int .i64 d.store.fin, vj, .int .i64 d.most, .int .i64 d.peak], .int .i64 0] [] [hh, hj] (fun v hs => ∃ ho us K, hs = [ho, K] ∧ OArr v encV 1 32 ho us ∧ RowsK us K (startsL d)) := by
  have h := rstarts_spec d vh vj hh hj ok d.jobs.length 0 (by omega)
  rw [List.drop_zero, ← rowsR_few d.jobs ok.j2] at h
  exact h
theorem rStarts_spec (d : KDay) (vh vj : Value) (hh hj : PHeap) [ih : Arr vh encHour 6 hh d.hours] [ij : Arr vj encJob 4 hj d.jobs] : Spec Tryz.prog 13 #[.agg #[vh, .int .i64 d.store.energy, .int .i64 d.store.full, .int .i64 d.store.power, .int .i64 d.store.fin, vj, .int .i64 d.most, .int .i64 d.peak]] [] [hh, hj] (fun v hs => ∃ vo ho us K, v = .tuple #[vo, .int .i64 (kcheck d)] ∧ hs = [ho, K] ∧ OArr vo encV 1 32 ho us ∧ RowsK us K (if kcheck d = 0 then startsL d else [])) := by
  have nV : OArr (.slice none 0 0) encV 1 32 emp ([] : List Value) := OArr.nil (fun _ => rfl)
  refine Spec.intro (fn := Tryz.f13) (N := 12) Tryz.func13 rfl Tryz.ntmps13 rfl fun B => ?_
  refine XK.seq ?_
  refine XK.region rfl ?_
  refine XO.box rfl fun b1 => ?_
  refine XO.q (Q.assign rfl) ?_
  refine XO.q (Q.assign rfl) ?_
  refine XO.done ?_
  refine XK.seq ?_
  refine XK.seq ?_
  refine XK.region rfl ?_
  refine XO.q (Q.ldA [_, _, _, _, _, _, _, _] rfl rfl rfl) ?_
  refine XO.call Tryz.call11 rfl rfl rfl (rCheck_spec d vh vj hh hj) fun v6 s6 R6 => ?_
  obtain ⟨rfl, rfl⟩ := R6
  dsimp only [List.cons_append, List.nil_append]
  refine XO.q (Q.assign rfl) ?_
  refine XO.done ?_
  refine XK.seq ?_
  refine XK.region rfl ?_
  refine XO.q (Q.move rfl) ?_
  refine XO.q (Q.neq rfl rfl) ?_
  refine XO.done ?_
  refine XK.if rfl (fun c0 => ?_) (fun c0 => ?_)
  · have _t0 := True.intro
    refine XK.seq ?_
    refine XK.region rfl ?_
    refine XO.q (Q.move rfl) ?_
    refine XO.q (Q.assign rfl) ?_
    refine XO.q (Q.assign rfl) ?_
    refine XO.done ?_
    refine XK.rt [emp, emp] Tryz.func13 Tryz.results13 (.t rfl (.t rfl .n)) ?_
    rw [if_neg c0]
    exact ⟨.slice none 0 0, emp, [], emp, rfl, rfl, nV, RowsK.nil⟩
  · have _t0 := True.intro
    refine XK.skip ?_
    refine XK.seq ?_
    refine XK.region rfl ?_
    refine XO.q (Q.ldA [_, _, _, _, _, _, _, _] rfl rfl rfl) ?_
    refine XO.call Tryz.call49 rfl rfl rfl (rstarts0_spec d vh vj hh hj (kcheck_iff.1 (Decidable.of_not_not c0))) fun v11 s11 R11 => ?_
    obtain ⟨ho, us, K, rfl, OO, RO⟩ := R11
    dsimp only [List.cons_append, List.nil_append]
    refine XO.q (Q.assign rfl) ?_
    refine XO.q (Q.assign rfl) ?_
    refine XO.done ?_
    refine XK.rt [ho, K] Tryz.func13 Tryz.results13 (.t rfl (.t rfl .n)) ?_
    have e := Decidable.of_not_not c0
    rw [if_pos e, e]
    exact ⟨v11, ho, us, K, rfl, rfl, OO, RO⟩
end Go.X

set_option linter.unusedSimpArgs false
set_option linter.unusedVariables false
set_option maxRecDepth 20000
namespace Go.X
open Go.Proofs
theorem form_starts {d : KDay} {p : KPlan} (h0 : ¬ kcheck d ≠ 0) (h : ¬ (¬ (startsL d).any (fun l => decide (l = p.starts)) = true ∨ (p.charge.length : Int) ≠ d.hours.length)) : formG d p = if ¬ allTo (okAt d (needsL d p.starts) p.charge) p.charge.length = true then ([], 120) else if energyTo d p.charge p.charge.length < d.store.fin then ([], 120) else (needsL d p.starts, 0) := by
  rw [formG, if_neg h0, if_neg h]
set_option maxHeartbeats 2000000 in
theorem rForm_spec (d : KDay) (vh vj : Value) (hh hj : PHeap) [ih : Arr vh encHour 6 hh d.hours] [ij : Arr vj encJob 4 hj d.jobs] (p : KPlan) (vs vc : Value) (hs_ hc : PHeap) [js : Arr vs encI 1 hs_ p.starts] [jc : Arr vc encI 1 hc p.charge] : Spec Tryz.prog 53 #[.agg #[vh, .int .i64 d.store.energy, .int .i64 d.store.full, .int .i64 d.store.power, .int .i64 d.store.fin, vj, .int .i64 d.most, .int .i64 d.peak], .agg #[vs, vc, .int .i64 p.cost]] [] [hh, hj, hs_, hc] (fun v hs => v = .int .i64 (formG d p).2 ∧ hs = []) := by
  have lh := ih.le
  have lc := jc.le
  refine Spec.intro (fn := Tryz.f53) (N := 79) Tryz.func53 rfl Tryz.ntmps53 rfl fun B => ?_
  refine XK.seq ?_
  refine XK.region rfl ?_
  refine XO.box rfl fun b2 => ?_
  refine XO.box rfl fun b3 => ?_
  refine XO.q (Q.assign rfl) ?_
  refine XO.done ?_
  refine XK.seq ?_
  refine XK.seq ?_
  refine XK.region rfl ?_
  refine XO.q (Q.ldA [_, _, _, _, _, _, _, _] rfl rfl rfl) ?_
  refine XO.call Tryz.call11 rfl rfl rfl (rCheck_spec d vh vj hh hj) fun v12 s12 R12 => ?_
  obtain ⟨rfl, rfl⟩ := R12
  dsimp only [List.cons_append, List.nil_append]
  refine XO.q (Q.assign rfl) ?_
  refine XO.done ?_
  refine XK.seq ?_
  refine XK.region rfl ?_
  refine XO.q (Q.move rfl) ?_
  refine XO.q (Q.neq rfl rfl) ?_
  refine XO.done ?_
  refine XK.if rfl (fun c0 => ?_) (fun c0 => ?_)
  · have _t0 := True.intro
    refine XK.seq ?_
    refine XK.region rfl ?_
    refine XO.q (Q.move rfl) ?_
    refine XO.q (Q.assign rfl) ?_
    refine XO.done ?_
    refine XK.rt [] Tryz.func53 Tryz.results53 (.t rfl .n) ?_
    exact ⟨by rw [formG, if_pos c0], rfl⟩
  · have _t0 := True.intro
    have hz := c0
    have ok := kcheck_iff.1 (Decidable.of_not_not c0)
    have s1 := ok.store.f0
    have s2 := ok.store.f1
    have s3 := ok.store.p0
    have s4 := ok.store.p1
    have s5 := ok.store.e0
    have s6 := ok.store.e1
    have h1 := ok.h1
    have h24 := ok.h2
    have m0 := ok.m0
    have m1 := ok.m1
    have j2 := ok.j2
    refine XK.skip ?_
    refine XK.seq ?_
    refine XK.region rfl ?_
    refine XO.q (Q.assign rfl) ?_
    refine XO.done ?_
    refine XK.seq ?_
    refine XK.region rfl ?_
    refine XO.q (Q.ldA [_, _, _, _, _, _, _, _] rfl rfl rfl) ?_
    refine XO.call Tryz.call49 rfl rfl rfl (rstarts0_spec d vh vj hh hj ok) fun v17 s17 R17 => ?_
    obtain ⟨ho, us, K, rfl, OO, RO⟩ := R17
    dsimp only [List.cons_append, List.nil_append]
    have RL := RO.1
    refine XO.q (Q.assign rfl) ?_
    refine XO.done ?_
    refine XK.seq ?_
    refine XK.seq ?_
    refine XK.region rfl ?_
    refine XO.q (Q.assign rfl) ?_
    refine XO.done ?_
    refine XK.block ?_
    refine XK.while (X := Nat × Bool) [6, 8, 18, 19, 20, 21, 22, 23, 24, 25, 26, 27, 28, 29, 30, 31, 32, 33] (fun ⟨i, fd⟩ => [(8, some (.int .i64 (i : Nat))), (6, some (.bool fd))]) (fun ⟨i, fd⟩ => []) (fun ⟨i, fd⟩ => i ≤ us.length ∧ fd = ((startsL d).take i).any (fun l => decide (l = p.starts))) (fun ⟨i, fd⟩ => us.length - i) (0, false) [] rfl ⟨by omega, rfl⟩ (.c rfl (.c rfl (.base 0 rfl rfl))) ?_
    rintro ⟨i, fd⟩ ⟨hi, hf⟩ ih0
    dsimp only [List.cons_append, List.nil_append] at ih0 ⊢
    refine XK.seq ?_
    refine XK.seq ?_
    refine XK.region rfl ?_
    refine XO.q (Q.move rfl) ?_
    refine XO.q (Q.move rfl) ?_
    refine XO.len rfl fun l20 => ?_
    refine XO.q (Q.lss rfl rfl) ?_
    refine XO.done ?_
    refine XK.if rfl (fun c1 => ?_) (fun c1 => ?_)
    · have _t1 := True.intro
      have ai := RO.2 i (by omega)
      have ats := any_takeS (p := fun l => decide (l = p.starts)) (show i < (startsL d).length by omega)
      refine XK.skip ?_
      refine XK.seq ?_
      refine XK.block ?_
      refine XK.drawn [0, 1, 2, 3, 4, 5, 6, 7, 9, 10] [b3] [ho, K] (.q 0 (.q 1 (.q 2 (.q 3 (.q 4 (.q 5 (.q 6 (.q 7 (.br 8 true (.q 9 (.q 10 .done)) .stop))))))))) Tryz.mixed rfl (by kernel_rfl) ?_
      refine XT.q rfl rfl (Q.move rfl) ?_
      refine XT.q rfl rfl (Q.move rfl) ?_
      refine XT.q rfl rfl (Quiet.guardF rfl rfl fun g26 p26 => Q.move rfl) ?_
      refine XT.q rfl rfl (Quiet.guardF rfl rfl fun g27 p27 => Q.move rfl) ?_
      refine XT.q rfl rfl (Quiet.guardF rfl rfl fun g28 p28 => Q.ix (lzv g28 rfl) (lzv g28 rfl) (by omega) (by omega)) ?_
      refine XT.q rfl rfl (Quiet.guardF rfl rfl fun g29 p29 => Q.ldE (lzv g29 rfl) (by first | assumption | omega) rfl) ?_
      refine XT.q rfl rfl (Quiet.guardF rfl rfl fun g30 p30 => Q.fieldAddr rfl) ?_
      refine XT.q rfl rfl (Quiet.guardF rfl rfl fun g31 p31 => Q.ld (lzv g31 rfl) rfl) ?_
      refine XT.gcallF rfl rfl rfl rfl Tryz.call79 rfl (fun g32 => .c (lzv g32 rfl) (.c (lzv g32 rfl) .n)) rfl (fun g32 p32 => sameInts (us.getD i default) vs K hs_ ((startsL d).getD i default) p.starts) ⟨inferInstance, ?_⟩ XT.stop
      refine XT.q rfl rfl (Q.or rfl (fun hp => lzv hp rfl)) ?_
      refine XT.q rfl rfl (Q.assign rfl) ?_
      refine XT.done ?_
      refine XK.inBlock ?_
      refine XK.region rfl ?_
      refine XO.q (Q.move rfl) ?_
      refine XO.q (Q.add rfl rfl ⟨by omega, by omega⟩) ?_
      refine XO.q (Q.assign rfl) ?_
      refine XO.done ?_
      exact ih0 (i + 1, _) _ _ ⟨by dsimp only; omega, by dsimp only; rw [ats, ← hf]; cases fd <;> rfl⟩ (by first | omega | (dsimp only; omega)) (.c rfl (.c rfl (.base 38 rfl rfl))) inferInstance
    · have _t1 := True.intro
      have hin : i = us.length := by omega
      rw [List.take_of_length_le (by omega)] at hf
      subst hf
      refine XK.exit rfl ?_
      refine XK.seq ?_
      refine XK.seq ?_
      refine XK.region rfl ?_
      refine XO.q (Q.move rfl) ?_
      refine XO.q (Q.not rfl) ?_
      refine XO.q (Q.move rfl) ?_
      refine XO.q (Quiet.guardF rfl rfl fun g37 p37 => Q.fieldAddr rfl) ?_
      refine XO.q (Quiet.guardF rfl rfl fun g38 p38 => Q.ld (lzv g38 rfl) rfl) ?_
      refine XO.q (Quiet.guardF rfl rfl fun g39 p39 => Q.len (lzv g39 rfl)) ?_
      refine XO.q (Quiet.guardF rfl rfl fun g40 p40 => Q.fieldAddr rfl) ?_
      refine XO.q (Quiet.guardF rfl rfl fun g41 p41 => Q.ld (lzv g41 rfl) rfl) ?_
      refine XO.q (Quiet.guardF rfl rfl fun g42 p42 => Q.len (lzv g42 rfl)) ?_
      refine XO.q (Quiet.guardF rfl rfl fun g43 p43 => Q.neq (lzv g43 rfl) (lzv g43 rfl)) ?_
      refine XO.q (Q.or rfl (fun hp => lzv hp rfl)) ?_
      refine XO.done ?_
      refine XK.if rfl (fun c2 => ?_) (fun c2 => ?_)
      · have _t2 := True.intro
        have c2b : ¬ (startsL d).any (fun l => decide (l = p.starts)) = true ∨ (p.charge.length : Int) ≠ d.hours.length := by simpa using c2
        refine XK.seq ?_
        refine XK.region rfl ?_
        refine XO.q (Q.assign rfl) ?_
        refine XO.done ?_
        refine XK.rt [] Tryz.func53 Tryz.results53 (.t rfl .n) ?_
        exact ⟨by rw [formG, if_neg hz, if_pos c2b], rfl⟩
      · have _t2 := True.intro
        have c2b : ¬ (¬ (startsL d).any (fun l => decide (l = p.starts)) = true ∨ (p.charge.length : Int) ≠ d.hours.length) := by simpa using c2
        have fs := form_starts hz c2b
        have so := starts_any (s := p.starts) (d := d) (Classical.byContradiction fun h => c2b (.inl h))
        have cl : p.charge.length = d.hours.length := Classical.byContradiction fun h => c2b (.inr (by omega))
        clear c2
        refine XK.skip ?_
        refine XK.seq ?_
        refine XK.region rfl ?_
        refine XO.q (Q.fieldAddr rfl) ?_
        refine XO.q (Q.fieldAddr rfl) ?_
        refine XO.q (Q.ld rfl rfl) ?_
        refine XO.q (Q.assign rfl) ?_
        refine XO.done ?_
        refine XK.seq ?_
        refine XK.seq ?_
        refine XK.region rfl ?_
        refine XO.q (Q.assign rfl) ?_
        refine XO.done ?_
        refine XK.block ?_
        refine XK.while (X := Nat × Int) [4, 9, 10, 48, 49, 50, 51, 52, 53, 54, 55, 56, 57, 58, 59, 60, 61, 62, 63, 64, 65, 66, 67, 68, 69, 70, 71, 72, 73] (fun ⟨i, e⟩ => [(10, some (.int .i64 (i : Nat))), (9, some (.int .i64 e))]) (fun ⟨i, e⟩ => []) (fun ⟨i, e⟩ => i ≤ p.charge.length ∧ e = energyTo d p.charge i ∧ (0 ≤ e ∧ e ≤ d.store.full) ∧ ∀ j, j < i → okAt d (needsL d p.starts) p.charge j = true) (fun ⟨i, e⟩ => p.charge.length - i) (0, _) [] rfl ⟨by omega, rfl, ⟨s5, s6⟩, fun j hj => by (try dsimp only at hj); omega⟩ (.c rfl (.c rfl (.base 0 rfl rfl))) ?_
        rintro ⟨i, e⟩ ⟨hi, he, er, ha⟩ ih1
        dsimp only [List.cons_append, List.nil_append] at ih1 ⊢
        refine XK.seq ?_
        refine XK.seq ?_
        refine XK.region rfl ?_
        refine XO.q (Q.move rfl) ?_
        refine XO.q (Q.fieldAddr rfl) ?_
        refine XO.q (Q.ld rfl rfl) ?_
        refine XO.len rfl fun l51 => ?_
        refine XO.q (Q.lss rfl rfl) ?_
        refine XO.done ?_
        refine XK.if rfl (fun c3 => ?_) (fun c3 => ?_)
        · have _t3 := True.intro
          have po := posB_ok d (needsL d p.starts) p.charge i
          rw [← he] at po
          have es : energyTo d p.charge (i + 1) = energyTo d p.charge i + p.charge.getD i default := rfl
          refine XK.skip ?_
          refine XK.seq ?_
          refine XK.block ?_
          refine XK.seq ?_
          refine XK.seq ?_
          refine XK.drawn [0, 1, 2, 3, 4, 5, 6, 7, 8, 9, 11] [b2, b3] [] (.q 0 (.q 1 (.q 2 (.q 3 (.q 4 (.q 5 (.q 6 (.q 7 (.q 8 (.q 9 (.br 10 true (.q 11 .done) .stop))))))))))) Tryz.mixed rfl (by kernel_rfl) ?_
          refine XT.q rfl rfl (Q.ldA [_, _, _, _, _, _, _, _] rfl rfl rfl) ?_
          refine XT.q rfl rfl (Q.fieldAddr rfl) ?_
          refine XT.q rfl rfl (Q.ld rfl rfl) ?_
          refine XT.q rfl rfl (Q.move rfl) ?_
          refine XT.q rfl rfl (Q.move rfl) ?_
          refine XT.q rfl rfl (Q.fieldAddr rfl) ?_
          refine XT.q rfl rfl (Q.ld rfl rfl) ?_
          refine XT.q rfl rfl (Q.move rfl) ?_
          refine XT.ix rfl rfl rfl rfl (by omega) (by omega) fun i63 => ?_
          refine XT.q rfl rfl (Q.ldE rfl (by first | assumption | omega) rfl) ?_
          refine XT.call rfl rfl Tryz.call87 rfl rfl rfl (rpossible_spec d vh vj hh hj p.starts vs hs_ ok so i (by omega) e (p.charge.getD i default) (by omega) (by omega)) (fun v65 s65 R65 => ?_) XT.stop
          obtain ⟨rfl, rfl⟩ := R65
          dsimp only [List.cons_append, List.nil_append]
          refine ⟨inferInstance, ?_⟩
          refine XT.q rfl rfl (Q.not rfl) ?_
          refine XT.done ?_
          refine XK.if rfl (fun c4 => ?_) (fun c4 => ?_)
          · have _t4 := True.intro
            have pf : okAt d (needsL d p.starts) p.charge i = false := by rw [← po]; exact Bool.eq_false_iff.2 c4
            refine XK.seq ?_
            refine XK.region rfl ?_
            refine XO.q (Q.assign rfl) ?_
            refine XO.done ?_
            refine XK.rt [] Tryz.func53 Tryz.results53 (.t rfl .n) ?_
            exact ⟨by rw [fs, if_pos (fun h => by rw [allTo_iff.1 h i (by omega)] at pf; cases pf)], rfl⟩
          · have _t4 := True.intro
            have pt : okAt d (needsL d p.starts) p.charge i = true := by rw [← po]; exact Decidable.of_not_not c4
            have pr := okAt_iffK.1 pt
            rw [← he] at pr
            refine XK.skip ?_
            refine XK.region rfl ?_
            refine XO.q (Q.move rfl) ?_
            refine XO.q (Q.fieldAddr rfl) ?_
            refine XO.q (Q.ld rfl rfl) ?_
            refine XO.q (Q.move rfl) ?_
            refine XO.ix rfl rfl (by omega) (by omega) fun i71 => ?_
            refine XO.q (Q.ldE rfl (by first | assumption | omega) rfl) ?_
            refine XO.q (Q.add rfl rfl ⟨by omega, by omega⟩) ?_
            refine XO.q (Q.assign rfl) ?_
            refine XO.done ?_
            refine XK.inBlock ?_
            refine XK.region rfl ?_
            refine XO.q (Q.move rfl) ?_
            refine XO.q (Q.add rfl rfl ⟨by omega, by omega⟩) ?_
            refine XO.q (Q.assign rfl) ?_
            refine XO.done ?_
            exact ih1 (i + 1, _) _ _ ⟨by dsimp only; omega, by dsimp only; rw [es, ← he], by dsimp only; omega, fun j hj => by
              by_cases h : j < i
              · exact ha j h
              · rw [show j = i by (try dsimp only at hj); omega]; exact pt⟩ (by first | omega | (dsimp only; omega)) (.c rfl (.c rfl (.base 59 rfl rfl))) inferInstance
        · have _t3 := True.intro
          have hin : i = p.charge.length := by omega
          subst hin
          refine XK.exit rfl ?_
          refine XK.seq ?_
          refine XK.seq ?_
          refine XK.region rfl ?_
          refine XO.q (Q.move rfl) ?_
          refine XO.q (Q.fieldAddr rfl) ?_
          refine XO.q (Q.fieldAddr rfl) ?_
          refine XO.q (Q.ld rfl rfl) ?_
          refine XO.q (Q.lss rfl rfl) ?_
          refine XO.done ?_
          refine XK.if rfl (fun c5 => ?_) (fun c5 => ?_)
          · have _t5 := True.intro
            refine XK.seq ?_
            refine XK.region rfl ?_
            refine XO.q (Q.assign rfl) ?_
            refine XO.done ?_
            refine XK.rt [] Tryz.func53 Tryz.results53 (.t rfl .n) ?_
            exact ⟨by rw [fs, if_neg (fun h => h (allTo_iff.2 ha)), if_pos (by omega)], rfl⟩
          · have _t5 := True.intro
            refine XK.skip ?_
            refine XK.seq ?_
            refine XK.region rfl ?_
            refine XO.q (Q.assign rfl) ?_
            refine XO.done ?_
            refine XK.rt [] Tryz.func53 Tryz.results53 (.t rfl .n) ?_
            exact ⟨by rw [fs, if_neg (fun h => h (allTo_iff.2 ha)), if_neg (by omega)], rfl⟩
theorem form_needs {d : KDay} {p : KPlan} (h : (formG d p).2 = 0) : formG d ⟨p.starts, p.charge, p.cost⟩ = (needsL d p.starts, 0) := by
  obtain ⟨kc, sm, po⟩ := form_poss h
  exact form_yes kc sm po
set_option maxHeartbeats 2000000 in
theorem rCost_spec (d : KDay) (vh vj : Value) (hh hj : PHeap) [ih : Arr vh encHour 6 hh d.hours] [ij : Arr vj encJob 4 hj d.jobs] (p : KPlan) (vs vc : Value) (hs_ hc : PHeap) [js : Arr vs encI 1 hs_ p.starts] [jc : Arr vc encI 1 hc p.charge] : Spec Tryz.prog 16 #[.agg #[vh, .int .i64 d.store.energy, .int .i64 d.store.full, .int .i64 d.store.power, .int .i64 d.store.fin, vj, .int .i64 d.most, .int .i64 d.peak], .agg #[vs, vc, .int .i64 p.cost]] [] [hh, hj, hs_, hc] (fun v hs => v = .tuple #[.int .i64 (costG d p).1, .int .i64 (costG d p).2] ∧ hs = []) := by
  have lc := jc.le
  refine Spec.intro (fn := Tryz.f16) (N := 49) Tryz.func16 rfl Tryz.ntmps16 rfl fun B => ?_
  refine XK.seq ?_
  refine XK.region rfl ?_
  refine XO.box rfl fun b2 => ?_
  refine XO.box rfl fun b3 => ?_
  refine XO.q (Q.assign rfl) ?_
  refine XO.q (Q.assign rfl) ?_
  refine XO.done ?_
  refine XK.seq ?_
  refine XK.seq ?_
  refine XK.region rfl ?_
  refine XO.q (Q.ldA [_, _, _, _, _, _, _, _] rfl rfl rfl) ?_
  refine XO.q (Q.ldA [_, _, _] rfl rfl rfl) ?_
  refine XO.call Tryz.call53 rfl rfl rfl (rForm_spec d vh vj hh hj p vs vc hs_ hc) fun v13 s13 R13 => ?_
  obtain ⟨rfl, rfl⟩ := R13
  dsimp only [List.cons_append, List.nil_append]
  refine XO.q (Q.assign rfl) ?_
  refine XO.done ?_
  refine XK.seq ?_
  refine XK.region rfl ?_
  refine XO.q (Q.move rfl) ?_
  refine XO.q (Q.neq rfl rfl) ?_
  refine XO.done ?_
  refine XK.if rfl (fun c0 => ?_) (fun c0 => ?_)
  · have _t0 := True.intro
    refine XK.seq ?_
    refine XK.region rfl ?_
    refine XO.q (Q.move rfl) ?_
    refine XO.q (Q.assign rfl) ?_
    refine XO.q (Q.assign rfl) ?_
    refine XO.done ?_
    refine XK.rt [] Tryz.func16 Tryz.results16 (.t rfl (.t rfl .n)) ?_
    exact ⟨by rw [costG, if_pos c0], rfl⟩
  · have _t0 := True.intro
    have f0 := Decidable.of_not_not c0
    have fy := form_needs f0
    obtain ⟨po, sm, ok, cl, st, cr⟩ := plan_rng fy
    have so := starts_ok sm
    have fg : formG d p = (needsL d p.starts, 0) := fy
    have s1 := ok.store.f0
    have s2 := ok.store.f1
    have s3 := ok.store.p0
    have s4 := ok.store.p1
    have s5 := ok.store.e0
    have s6 := ok.store.e1
    have h1 := ok.h1
    have h24 := ok.h2
    have m0 := ok.m0
    have m1 := ok.m1
    have j2 := ok.j2
    have pk0 := ok.p0
    have pk1 := ok.p1
    refine XK.skip ?_
    refine XK.seq ?_
    refine XK.region rfl ?_
    refine XO.q (Q.assign rfl) ?_
    refine XO.q (Q.assign rfl) ?_
    refine XO.done ?_
    refine XK.seq ?_
    refine XK.seq ?_
    refine XK.region rfl ?_
    refine XO.q (Q.assign rfl) ?_
    refine XO.done ?_
    refine XK.block ?_
    refine XK.while (X := Nat) [7, 8, 9, 10, 17, 18, 19, 20, 21, 22, 23, 24, 25, 26, 27, 28, 29, 30, 31, 32, 33, 34, 35, 36, 37, 38, 39, 40, 41, 42] (fun i => [(9, some (.int .i64 (i : Nat))), (7, some (.int .i64 (costTo d (needsL d p.starts) p.charge i))), (8, some (.int .i64 (peakTo (needsL d p.starts) p.charge i)))]) (fun i => []) (fun i => i ≤ p.charge.length) (fun i => p.charge.length - i) (0) [] rfl (by omega) (.c rfl (.c rfl (.c rfl (.base 0 rfl rfl)))) ?_
    rintro i hi ih0
    dsimp only [List.cons_append, List.nil_append] at ih0 ⊢
    refine XK.seq ?_
    refine XK.seq ?_
    refine XK.region rfl ?_
    refine XO.q (Q.move rfl) ?_
    refine XO.q (Q.fieldAddr rfl) ?_
    refine XO.q (Q.ld rfl rfl) ?_
    refine XO.len rfl fun l20 => ?_
    refine XO.q (Q.lss rfl rfl) ?_
    refine XO.done ?_
    refine XK.if rfl (fun c1 => ?_) (fun c1 => ?_)
    · have _t1 := True.intro
      have oi := okAt_iffK.1 (po.ok i (by omega))
      have nr := needs_rng ok p.starts (show i < d.hours.length by omega)
      have cri := cr i (by omega)
      have cr1 := cr (i + 1) (by omega)
      have es : costTo d (needsL d p.starts) p.charge (i + 1) = costTo d (needsL d p.starts) p.charge i + priceH (d.hours.getD i default) (((needsL d p.starts).getD i default) + (p.charge.getD i default)) := rfl
      have ep : peakTo (needsL d p.starts) p.charge (i + 1) = max (peakTo (needsL d p.starts) p.charge i) (((needsL d p.starts).getD i default) + (p.charge.getD i default)) := rfl
      refine XK.skip ?_
      refine XK.seq ?_
      refine XK.block ?_
      refine XK.seq ?_
      refine XK.drawn [0, 1, 2, 3, 4, 5, 6, 7, 8, 10] [b2, b3] [] (.q 0 (.q 1 (.q 2 (.q 3 (.q 4 (.q 5 (.q 6 (.q 7 (.q 8 (.br 9 true (.q 10 .done) .stop)))))))))) Tryz.mixed rfl (by kernel_rfl) ?_
      refine XT.q rfl rfl (Q.ldA [_, _, _, _, _, _, _, _] rfl rfl rfl) ?_
      refine XT.q rfl rfl (Q.fieldAddr rfl) ?_
      refine XT.q rfl rfl (Q.ld rfl rfl) ?_
      refine XT.q rfl rfl (Q.move rfl) ?_
      refine XT.q rfl rfl (Q.fieldAddr rfl) ?_
      refine XT.q rfl rfl (Q.ld rfl rfl) ?_
      refine XT.q rfl rfl (Q.move rfl) ?_
      refine XT.ix rfl rfl rfl rfl (by omega) (by omega) fun i31 => ?_
      refine XT.q rfl rfl (Q.ldE rfl (by first | assumption | omega) rfl) ?_
      refine XT.call rfl rfl Tryz.call54 rfl rfl rfl (rneed_spec d vh vj hh hj p.starts vs hs_ ok so i (by omega) (p.charge.getD i default) (by omega) (by omega)) (fun v33 s33 R33 => ?_) XT.stop
      obtain ⟨rfl, rfl⟩ := R33
      dsimp only [List.cons_append, List.nil_append]
      refine ⟨inferInstance, ?_⟩
      refine XT.q rfl rfl (Q.assign rfl) ?_
      refine XT.done ?_
      refine XK.seq ?_
      refine XK.region rfl ?_
      refine XO.q (Q.move rfl) ?_
      refine XO.q (Q.ldA [_, _, _, _, _, _, _, _] rfl rfl rfl) ?_
      refine XO.q (Q.move rfl) ?_
      refine XO.q (Q.move rfl) ?_
      refine XO.call Tryz.call55 rfl rfl rfl (rbill_spec d vh vj hh hj ok i (by omega) (((needsL d p.starts).getD i default) + (p.charge.getD i default)) (by omega) (by omega)) fun v38 s38 R38 => ?_
      obtain ⟨rfl, rfl⟩ := R38
      dsimp only [List.cons_append, List.nil_append]
      refine XO.q (Q.add rfl rfl ⟨by omega, by omega⟩) ?_
      refine XO.q (Q.assign rfl) ?_
      refine XO.done ?_
      refine XK.region rfl ?_
      refine XO.q (Q.move rfl) ?_
      refine XO.q (Q.move rfl) ?_
      refine XO.q (Q.max rfl rfl) ?_
      refine XO.q (Q.assign rfl) ?_
      refine XO.done ?_
      refine XK.inBlock ?_
      refine XK.region rfl ?_
      refine XO.q (Q.move rfl) ?_
      refine XO.q (Q.add rfl rfl ⟨by omega, by omega⟩) ?_
      refine XO.q (Q.assign rfl) ?_
      refine XO.done ?_
      rw [← es, ← ep]
      exact ih0 (i + 1) _ _ (by omega) (by first | omega | (dsimp only; omega)) (.c rfl (.c rfl (.c rfl (.base 63 rfl rfl)))) inferInstance
    · have _t1 := True.intro
      have hin : i = p.charge.length := by omega
      subst hin
      have cri := cr _ (show p.charge.length ≤ d.hours.length by omega)
      have sti := st _ (show p.charge.length ≤ d.hours.length by omega)
      have sm0 := sti.m0
      have sm1 := sti.m1
      have pp := mul_rng (a := peakTo (needsL d p.starts) p.charge p.charge.length) (b := d.peak) (m := 40) (n := 1000) sm0 (by omega) pk0 pk1 (by omega)
      refine XK.exit rfl ?_
      refine XK.seq ?_
      refine XK.region rfl ?_
      refine XO.q (Q.move rfl) ?_
      refine XO.q (Q.move rfl) ?_
      refine XO.q (Q.fieldAddr rfl) ?_
      refine XO.q (Q.ld rfl rfl) ?_
      refine XO.q (Q.mul rfl rfl ⟨by omega, by omega⟩) ?_
      refine XO.q (Q.add rfl rfl ⟨by omega, by omega⟩) ?_
      refine XO.q (Q.assign rfl) ?_
      refine XO.q (Q.assign rfl) ?_
      refine XO.done ?_
      refine XK.rt [] Tryz.func16 Tryz.results16 (.t rfl (.t rfl .n)) ?_
      refine ⟨?_, rfl⟩
      rw [costG, if_neg c0, fg, costL, Int.mul_comm d.peak]
end Go.X

/- Deliveries of plans, as the statement uses them. No condition. -/
set_option linter.unusedVariables false
namespace Go.X
theorem offered_yes {d : KDay} {o : KOffer} (ok : DayOk d) (ofk : OfferOk d.hours.length o) (h : 1 ≤ (patternsG o).length) : offeredG d o = (patternsG o, 0) := by
  rw [offeredG, if_neg (by rw [kcheck_iff.2 ok]; decide), if_neg (by rw [offerR_iff.2 ofk]; decide), if_neg (by omega)]
end Go.X

set_option linter.unusedSimpArgs false
set_option linter.unusedVariables false
set_option maxRecDepth 20000
namespace Go.X
open Go.Proofs
theorem copyInts (v : Value) (h : PHeap) (xs : List Int) [s : Arr v encI 1 h xs] (hl : xs.length ≤ 68719476736) : Spec Tryz.prog 92 #[v] [] [h] (fun v' hs => ∃ h', hs = [h'] ∧ OArr v' encI 1 3 h' xs) := by
  have hn : OArr (.slice none 0 0) encI 1 3 emp ([] : List Int) := OArr.nil (fun _ => rfl)
  refine Spec.intro (fn := Tryz.f92) (N := 7) Tryz.func92 rfl Tryz.ntmps92 rfl fun B => ?_
  refine XK.seq ?_
  refine XK.region rfl ?_
  refine XO.q (Q.assign rfl) ?_
  refine XO.done ?_
  refine XK.seq ?_
  refine XK.region rfl ?_
  refine XO.q (Q.assign rfl) ?_
  refine XO.done ?_
  refine XK.seq ?_
  refine XK.region rfl ?_
  refine XO.q (Q.move rfl) ?_
  refine XO.q (Q.move rfl) ?_
  refine XO.drop (o' := [emp]) ?_
  refine XO.append rfl rfl rfl rfl (by simp; omega) fun v6 h6 O6 => ?_
  refine XO.q (Q.assign rfl) ?_
  refine XO.done ?_
  refine XK.rt [h6] Tryz.func92 Tryz.results92 (.t rfl .n) ?_
  exact ⟨h6, rfl, O6⟩
theorem RowsK.append {us vs : List Value} {K : PHeap} {xs ys : List (List Int)} (r : RowsK us K xs) (s : RowsK vs K ys) : RowsK (us ++ vs) K (xs ++ ys) := by
  refine ⟨by rw [List.length_append, List.length_append, r.1, s.1], fun i hi => ?_⟩
  have hl := r.1
  by_cases h : i < us.length
  · rw [getD_left h, getD_left (by omega)]; exact r.2 i h
  · rw [List.getD_eq_getElem?_getD, List.getElem?_append_right (by omega), List.getD_eq_getElem?_getD, List.getElem?_append_right (by omega), ← hl, ← List.getD_eq_getElem?_getD, ← List.getD_eq_getElem?_getD]
    exact s.2 _ (by rw [List.length_append] at hi; omega)
/-- Where the next call may begin. -/
def FromOk (o : KOffer) (l : List Int) (frm : Int) : Prop := if l.length = 0 then frm = o.beg else frm = l.getD (l.length - 1) default + o.hours + o.pause ∧ 0 ≤ l.getD (l.length - 1) default ∧ l.getD (l.length - 1) default + o.hours ≤ o.fin
set_option maxHeartbeats 4000000 in
theorem rpat_spec (o : KOffer) (ok : OfferOk 24 o) (h63 : o.hours ≤ 9223372036854775807) (c : Nat) : ∀ (l : List Int) (v : Value) (hl : PHeap) [_ow : One v] [_al : Arr v encI 1 hl l] (frm : Int) (hf : FromOk o l frm) (hc : (l.length : Int) + (c : Int) = o.calls),
    Spec Tryz.prog 74 #[.agg #[.int .i64 o.beg, .int .i64 o.fin, .int .i64 o.power, .int .i64 o.hours, .int .i64 o.calls, .int .i64 o.pause], v] [hl] [] (fun v' hs => ∃ ho us K, hs = [ho, K] ∧ OArr v' encV 1 32 ho us ∧ RowsK us K (patR o c l frm)) := by
  induction c using Nat.strongRecOn with
  | ind c IH =>
    intro l v hl _ow _al frm hf hc
    have b0 := ok.b0
    have bf := ok.bf
    have o2 := ok.fn
    have o4 := ok.h0
    have o5 := ok.q0
    have o6 := ok.q1
    have o7 := ok.c1
    have o8 := ok.c0
    have fr0 : 0 ≤ frm ∧ frm ≤ 100 := by
      unfold FromOk at hf
      split at hf
      · omega
      · omega
    unfold FromOk at hf
    refine Spec.intro (fn := Tryz.f74) (N := 63) Tryz.func74 rfl Tryz.ntmps74 rfl fun B => ?_
    refine XK.seq ?_
    refine XK.region rfl ?_
    refine XO.box rfl fun b2 => ?_
    refine XO.q (Q.assign rfl) ?_
    refine XO.done ?_
    refine XK.seq ?_
    refine XK.region rfl ?_
    refine XO.q (Q.move rfl) ?_
    refine XO.lit [_] [_] [v] encV (by rfl) (by rfl) rfl (by rfl) (by exact .c 0 1 rfl rfl rfl (.n _)) (fun _ => rfl) (by rfl) rfl (by infer_instance) rfl fun v9 h9 O9 => ?_
    refine XO.q (Q.assign rfl) ?_
    refine XO.done ?_
    refine XK.seq ?_
    refine XK.seq ?_
    refine XK.region rfl ?_
    refine XO.q (Q.move rfl) ?_
    refine XO.len rfl fun l11 => ?_
    refine XO.q (Q.fieldAddr rfl) ?_
    refine XO.q (Q.ld rfl rfl) ?_
    refine XO.q (Q.eql rfl rfl) ?_
    refine XO.done ?_
    refine XK.if rfl (fun c0 => ?_) (fun c0 => ?_)
    · have _t0 := True.intro
      have hc0 : c = 0 := by omega
      subst hc0
      refine XK.seq ?_
      refine XK.region rfl ?_
      refine XO.q (Q.move rfl) ?_
      refine XO.q (Q.assign rfl) ?_
      refine XO.done ?_
      refine XK.rt [h9, hl] Tryz.func74 Tryz.results74 (.t rfl .n) ?_
      rw [patR]
      exact ⟨h9, [v], hl, rfl, O9, ⟨rfl, fun i hi => by
        have h0 : i = 0 := (by simpa using hi)
        subst h0; exact _al⟩⟩
    · have _t0 := True.intro
      obtain ⟨c', rfl⟩ : ∃ c', c = c' + 1 := ⟨c - 1, by omega⟩
      refine XK.skip ?_
      refine XK.seq ?_
      refine XK.region rfl ?_
      refine XO.q (Q.fieldAddr rfl) ?_
      refine XO.q (Q.ld rfl rfl) ?_
      refine XO.q (Q.assign rfl) ?_
      refine XO.done ?_
      refine XK.seq ?_
      refine XK.seq ?_
      refine XK.region rfl ?_
      refine XO.q (Q.move rfl) ?_
      refine XO.len rfl fun l19 => ?_
      refine XO.q (Q.gtr rfl rfl) ?_
      refine XO.done ?_
      refine XK.meet (X := Unit) [6, 21, 22, 23, 24, 25, 26, 27, 28, 29, 30, 31, 32] (fun _u => [(6, some (.int .i64 frm))]) (fun _u => []) (fun _u => True) [] ?_ ?_
      · rintro _u _
        dsimp only [List.cons_append, List.nil_append]
        refine XK.seq ?_
        refine XK.seq ?_
        refine XK.region rfl ?_
        refine XO.q (Q.move rfl) ?_
        refine XO.q (Q.assign rfl) ?_
        refine XO.done ?_
        refine XK.block ?_
        refine XK.while (X := Nat × Int × Value × PHeap × List Value × PHeap) [4, 5, 7, 34, 35, 36, 37, 38, 39, 40, 41, 42, 43, 44, 45, 46, 47, 48, 49, 50, 51, 52, 53, 54, 55, 56, 57, 58, 59, 60, 61] (fun ⟨j, t, vo, ho, us, K⟩ => [(7, some (.int .i64 t)), (5, some (vo))]) (fun ⟨j, t, vo, ho, us, K⟩ => [ho, K]) (fun ⟨j, t, vo, ho, us, K⟩ => j ≤ cntO o frm ∧ t = (frm + ((j : Nat) : Int)) ∧ OArr vo encV 1 32 ho us ∧ RowsK us K (itR (patR o c') (o.hours + o.pause) l frm j) ∧ leH hl K ∧ ¬ 4096 < (itR (patR o c') (o.hours + o.pause) l frm j).length) (fun ⟨j, t, vo, ho, us, K⟩ => cntO o frm - j) (0, frm, v9, h9, [v], hl) [h9, hl] rfl ⟨by omega, by (try dsimp only); omega, O9, ⟨rfl, fun i hi => by
          have h0 : i = 0 := (by simpa using hi)
          subst h0; exact _al⟩, leH.refl _, by rw [itR]; simp⟩ (.c rfl (.c rfl (.base 0 rfl rfl))) ?_
        rintro ⟨j, t, vo, ho, us, K⟩ ⟨hj, ht, OU, RU, LK, hle⟩ ih0
        dsimp only [List.cons_append, List.nil_append] at ih0 ⊢
        subst ht
        refine XK.seq ?_
        refine XK.seq ?_
        refine XK.region rfl ?_
        refine XO.q (Q.move rfl) ?_
        refine XO.q (Q.fieldAddr rfl) ?_
        refine XO.q (Q.ld rfl rfl) ?_
        refine XO.q (Q.lss rfl rfl) ?_
        refine XO.q (Q.move rfl) ?_
        refine XO.q (Quiet.guardT rfl rfl fun g39 p39 => Q.move rfl) ?_
        refine XO.q (Quiet.guardT rfl rfl fun g40 p40 => Q.fieldAddr rfl) ?_
        refine XO.q (Quiet.guardT rfl rfl fun g41 p41 => Q.ld (lzv g41 rfl) rfl) ?_
        refine XO.q (Quiet.guardT rfl rfl fun g42 p42 => Q.fieldAddr rfl) ?_
        refine XO.q (Quiet.guardT rfl rfl fun g43 p43 => Q.ld (lzv g43 rfl) rfl) ?_
        refine XO.q (Quiet.guardT rfl rfl fun g44 p44 => Q.sub (lzv g44 rfl) (lzv g44 rfl) ⟨by omega, by omega⟩) ?_
        refine XO.q (Quiet.guardT rfl rfl fun g45 p45 => Q.leq (lzv g45 rfl) (lzv g45 rfl)) ?_
        refine XO.q (Q.and rfl (fun hp => lzv hp rfl)) ?_
        refine XO.done ?_
        refine XK.if rfl (fun c2 => ?_) (fun c2 => ?_)
        · have _t2 := True.intro
          have hjc : j < cntO o frm := by unfold cntO; omega
          have hfr : FromOk o (l ++ [(frm + ((j : Nat) : Int))]) ((frm + ((j : Nat) : Int)) + (o.hours + o.pause)) := by
            unfold FromOk
            rw [List.length_append, List.length_singleton, if_neg (by omega), snocK_at, if_neg (by omega), if_pos (by omega)]
            omega
          have al2 := Arr.le_heap _al LK
          have RUL := RU.1
          refine XK.skip ?_
          refine XK.seq ?_
          refine XK.block ?_
          refine XK.seq ?_
          refine XK.meet (X := Value × PHeap × List Value × PHeap) [5, 49, 50, 51, 52, 53, 54, 55, 56, 57] (fun ⟨vo3, ho3, us3, K3⟩ => [(5, some (vo3))]) (fun ⟨vo3, ho3, us3, K3⟩ => [ho3, K3]) (fun ⟨vo3, ho3, us3, K3⟩ => OArr vo3 encV 1 32 ho3 us3 ∧ RowsK us3 K3 ((itR (patR o c') (o.hours + o.pause) l frm j) ++ patR o c' (l ++ [(frm + ((j : Nat) : Int))]) ((frm + ((j : Nat) : Int)) + (o.hours + o.pause))) ∧ leH hl K3) [ho, K] ?_ ?_
          · rintro ⟨vo3, ho3, us3, K3⟩ ⟨O3, R3, L3⟩
            dsimp only [List.cons_append, List.nil_append]
            have hsj : (itR (patR o c') (o.hours + o.pause) l frm (j + 1)) = (itR (patR o c') (o.hours + o.pause) l frm j) ++ patR o c' (l ++ [(frm + ((j : Nat) : Int))]) ((frm + ((j : Nat) : Int)) + (o.hours + o.pause)) := by rw [itR, if_neg hle]
            rw [← hsj] at R3
            refine XK.seq ?_
            refine XK.region rfl ?_
            refine XO.q (Q.move rfl) ?_
            refine XO.len rfl fun l59 => ?_
            refine XO.q (Q.gtr rfl rfl) ?_
            refine XO.done ?_
            refine XK.if rfl (fun c3 => ?_) (fun c3 => ?_)
            · have _t3 := True.intro
              have hst := itR_stay (n := cntO o frm) (show 4096 < (itR (patR o c') (o.hours + o.pause) l frm (j + 1)).length by have := R3.1; omega) (by omega)
              refine XK.seq ?_
              refine XK.region rfl ?_
              refine XO.q (Q.move rfl) ?_
              refine XO.q (Q.assign rfl) ?_
              refine XO.done ?_
              refine XK.rt [ho3, K3] Tryz.func74 Tryz.results74 (.t rfl .n) ?_
              rw [patR, hst]
              exact ⟨ho3, us3, K3, rfl, O3, R3⟩
            · have _t3 := True.intro
              refine XK.skip ?_
              refine XK.inBlock ?_
              refine XK.region rfl ?_
              refine XO.q (Q.move rfl) ?_
              refine XO.q (Q.add rfl rfl ⟨by omega, by omega⟩) ?_
              refine XO.q (Q.assign rfl) ?_
              refine XO.done ?_
              exact ih0 (j + 1, _, vo3, ho3, us3, K3) _ _ ⟨by dsimp only; omega, by (try dsimp only); omega, O3, R3, L3, by dsimp only; have := R3.1; omega⟩ (by first | omega | (dsimp only; omega)) (.c rfl (.c rfl (.base 63 rfl rfl))) inferInstance
          · intro mtr10
            dsimp only [List.cons_append, List.nil_append] at mtr10
            refine XK.drawn [0, 1, 2, 4, 9] [b2] [] (.q 0 (.q 1 (.q 2 (.q 4 (.br 3 true (.br 5 true (.br 6 true (.br 7 true (.br 8 true (.q 9 .done) .stop) .stop) .stop) .stop) (.br 5 true (.br 3 true (.br 6 true (.br 7 true (.br 8 true (.q 9 .done) .stop) .stop) .stop) .stop) .stop)))))) Tryz.mixed rfl (by kernel_rfl) ?_
            refine XT.q rfl rfl (Q.move rfl) ?_
            refine XT.q rfl rfl (Q.ldA [_, _, _, _, _, _] rfl rfl rfl) ?_
            refine XT.q rfl rfl (Q.move rfl) ?_
            refine XT.q rfl rfl (Q.move rfl) ?_
            refine XT.call rfl rfl Tryz.call92 rfl rfl rfl (copyInts v K l (by omega)) (fun v52 s52 R52 => ?_) ?_
            · skip
              obtain ⟨k52, rfl, O52⟩ := R52
              dsimp only [List.cons_append, List.nil_append]
              refine ⟨inferInstance, ?_⟩
              refine XT.lit [_] [_] [(frm + ((j : Nat) : Int))] encI rfl rfl (by rfl) (by rfl) rfl (by rfl) (by exact .c 0 1 rfl rfl rfl (.n _)) (fun _ => rfl) (by rfl) rfl (by infer_instance) rfl (fun v54 h54 O54 => ⟨inferInstance, ?_⟩) XT.stop
              refine XT.append rfl rfl rfl rfl rfl rfl (by simp only [List.length_cons, List.length_nil]; omega) (fun v55 h55 O55 => ⟨inferInstance, ?_⟩) XT.stop
              refine XT.call rfl rfl Tryz.call74 rfl rfl rfl (IH c' (by omega) (l ++ [(frm + ((j : Nat) : Int))]) v55 h55 ((frm + ((j : Nat) : Int)) + (o.hours + o.pause)) hfr (by rw [List.length_append, List.length_singleton]; omega)) (fun v56 s56 R56 => ?_) XT.stop
              obtain ⟨ho2, us2, K2, rfl, O2, R2⟩ := R56
              dsimp only [List.cons_append, List.nil_append]
              refine ⟨inferInstance, ?_⟩
              have r2l := R2.1
              have r2m := patR_len o c' (l ++ [(frm + ((j : Nat) : Int))]) ((frm + ((j : Nat) : Int)) + (o.hours + o.pause))
              refine XT.append rfl rfl rfl rfl rfl rfl (by omega) (fun v57 h57 O57 => ⟨inferInstance, ?_⟩) XT.stop
              refine XT.q rfl rfl (Q.assign rfl) ?_
              refine XT.done ?_
              refine XK.cat K K2 fun l1 l2 => ?_
              exact mtr10 ((v57, h57, us ++ us2, cat K K2)) _ _ ⟨O57, (RU.mono l1).append (R2.mono l2), LK.trans l1⟩ (.c rfl (.base 10 rfl rfl)) inferInstance
            · skip
              refine XT.lit [_] [_] [(frm + ((j : Nat) : Int))] encI rfl rfl (by rfl) (by rfl) rfl (by rfl) (by exact .c 0 1 rfl rfl rfl (.n _)) (fun _ => rfl) (by rfl) rfl (by infer_instance) rfl (fun v54 h54 O54 => ⟨inferInstance, ?_⟩) XT.stop
              refine XT.call rfl rfl Tryz.call92 rfl rfl rfl (copyInts v K l (by omega)) (fun v52 s52 R52 => ?_) XT.stop
              obtain ⟨k52, rfl, O52⟩ := R52
              dsimp only [List.cons_append, List.nil_append]
              refine ⟨inferInstance, ?_⟩
              refine XT.append rfl rfl rfl rfl rfl rfl (by simp only [List.length_cons, List.length_nil]; omega) (fun v55 h55 O55 => ⟨inferInstance, ?_⟩) XT.stop
              refine XT.call rfl rfl Tryz.call74 rfl rfl rfl (IH c' (by omega) (l ++ [(frm + ((j : Nat) : Int))]) v55 h55 ((frm + ((j : Nat) : Int)) + (o.hours + o.pause)) hfr (by rw [List.length_append, List.length_singleton]; omega)) (fun v56 s56 R56 => ?_) XT.stop
              obtain ⟨ho2, us2, K2, rfl, O2, R2⟩ := R56
              dsimp only [List.cons_append, List.nil_append]
              refine ⟨inferInstance, ?_⟩
              have r2l := R2.1
              have r2m := patR_len o c' (l ++ [(frm + ((j : Nat) : Int))]) ((frm + ((j : Nat) : Int)) + (o.hours + o.pause))
              refine XT.append rfl rfl rfl rfl rfl rfl (by omega) (fun v57 h57 O57 => ⟨inferInstance, ?_⟩) XT.stop
              refine XT.q rfl rfl (Q.assign rfl) ?_
              refine XT.done ?_
              refine XK.cat K K2 fun l1 l2 => ?_
              exact mtr10 ((v57, h57, us ++ us2, cat K K2)) _ _ ⟨O57, (RU.mono l1).append (R2.mono l2), LK.trans l1⟩ (.c rfl (.base 10 rfl rfl)) inferInstance
        · have _t2 := True.intro
          have hjc : j = cntO o frm := by unfold cntO at hj ⊢; omega
          subst hjc
          refine XK.exit rfl ?_
          refine XK.seq ?_
          refine XK.region rfl ?_
          refine XO.q (Q.move rfl) ?_
          refine XO.q (Q.assign rfl) ?_
          refine XO.done ?_
          refine XK.rt [ho, K] Tryz.func74 Tryz.results74 (.t rfl .n) ?_
          rw [patR]
          exact ⟨ho, us, K, rfl, OU, RU⟩
      · intro mt1
        dsimp only [List.cons_append, List.nil_append] at mt1
        refine XK.if rfl (fun c1 => ?_) (fun c1 => ?_)
        · have _t1 := True.intro
          rw [if_neg (by omega)] at hf
          have ei : ((l.length : Int) - 1).toNat = l.length - 1 := by omega
          rw [← ei] at hf
          refine XK.drawn [0, 1, 2, 3, 4, 5, 6, 7, 8, 9, 10, 11, 12] [b2] [hl] (.q 0 (.q 1 (.q 2 (.q 3 (.q 4 (.q 5 (.q 6 (.q 7 (.q 8 (.q 9 (.q 10 (.q 11 (.q 12 .done))))))))))))) Tryz.mixed rfl (by kernel_rfl) ?_
          refine XT.q rfl rfl (Q.move rfl) ?_
          refine XT.q rfl rfl (Q.move rfl) ?_
          refine XT.q rfl rfl (Q.len rfl) ?_
          refine XT.q rfl rfl (Q.sub rfl rfl ⟨by omega, by omega⟩) ?_
          refine XT.ix rfl rfl rfl rfl (by omega) (by omega) fun i25 => ?_
          refine XT.q rfl rfl (Q.ldE rfl (by first | assumption | omega) rfl) ?_
          refine XT.q rfl rfl (Q.fieldAddr rfl) ?_
          refine XT.q rfl rfl (Q.ld rfl rfl) ?_
          refine XT.q rfl rfl (Q.add rfl rfl ⟨by omega, by omega⟩) ?_
          refine XT.q rfl rfl (Q.fieldAddr rfl) ?_
          refine XT.q rfl rfl (Q.ld rfl rfl) ?_
          refine XT.q rfl rfl (Q.add rfl rfl ⟨by omega, by omega⟩) ?_
          refine XT.q rfl rfl (Q.assign rfl) ?_
          refine XT.done ?_
          rw [← hf.1]
          exact mt1 (()) _ _ trivial (.c rfl (.base 13 rfl rfl)) inferInstance
        · have _t1 := True.intro
          rw [if_pos (by omega)] at hf
          refine XK.skip ?_
          subst hf
          exact mt1 (()) _ _ trivial (.c rfl (.base 0 rfl rfl)) inferInstance
theorem from_nil (o : KOffer) : FromOk o [] o.beg := by unfold FromOk; simp
theorem offer_bad {o : KOffer} {n : Int} (h : ¬ OfferOk n o) : offerR o n = true → False := fun hh => h (offerR_iff.1 hh)
set_option maxHeartbeats 2000000 in
theorem rPatterns_spec (d : KDay) (vh vj : Value) (hh hj : PHeap) [ih : Arr vh encHour 6 hh d.hours] [ij : Arr vj encJob 4 hj d.jobs] (o : KOffer) (h63 : o.hours ≤ 9223372036854775807) : Spec Tryz.prog 30 #[.agg #[vh, .int .i64 d.store.energy, .int .i64 d.store.full, .int .i64 d.store.power, .int .i64 d.store.fin, vj, .int .i64 d.most, .int .i64 d.peak], .agg #[.int .i64 o.beg, .int .i64 o.fin, .int .i64 o.power, .int .i64 o.hours, .int .i64 o.calls, .int .i64 o.pause]] [] [hh, hj] (fun v hs => ∃ vo ho us K, v = .tuple #[vo, .int .i64 (offeredG d o).2] ∧ hs = [ho, K] ∧ OArr vo encV 1 32 ho us ∧ RowsK us K (offeredG d o).1) := by
  have lh := ih.le
  have nV : OArr (.slice none 0 0) encV 1 32 emp ([] : List Value) := OArr.nil (fun _ => rfl)
  have nA : Arr (.slice none 0 0) encI 1 emp ([] : List Int) := Arr.nil (fun _ => rfl)
  refine Spec.intro (fn := Tryz.f30) (N := 59) Tryz.func30 rfl Tryz.ntmps30 rfl fun B => ?_
  refine XK.seq ?_
  refine XK.region rfl ?_
  refine XO.box rfl fun b2 => ?_
  refine XO.box rfl fun b3 => ?_
  refine XO.q (Q.assign rfl) ?_
  refine XO.q (Q.assign rfl) ?_
  refine XO.done ?_
  refine XK.seq ?_
  refine XK.seq ?_
  refine XK.region rfl ?_
  refine XO.q (Q.ldA [_, _, _, _, _, _, _, _] rfl rfl rfl) ?_
  refine XO.call Tryz.call11 rfl rfl rfl (rCheck_spec d vh vj hh hj) fun v10 s10 R10 => ?_
  obtain ⟨rfl, rfl⟩ := R10
  dsimp only [List.cons_append, List.nil_append]
  refine XO.q (Q.assign rfl) ?_
  refine XO.done ?_
  refine XK.seq ?_
  refine XK.region rfl ?_
  refine XO.q (Q.move rfl) ?_
  refine XO.q (Q.neq rfl rfl) ?_
  refine XO.done ?_
  refine XK.if rfl (fun c0 => ?_) (fun c0 => ?_)
  · have _t0 := True.intro
    refine XK.seq ?_
    refine XK.region rfl ?_
    refine XO.q (Q.move rfl) ?_
    refine XO.q (Q.assign rfl) ?_
    refine XO.q (Q.assign rfl) ?_
    refine XO.done ?_
    refine XK.rt [emp, emp] Tryz.func30 Tryz.results30 (.t rfl (.t rfl .n)) ?_
    have e : offeredG d o = ([], kcheck d) := by rw [offeredG, if_pos c0]
    rw [e]
    exact ⟨.slice none 0 0, emp, [], emp, rfl, rfl, nV, RowsK.nil⟩
  · have _t0 := True.intro
    have hz := c0
    have ok := kcheck_iff.1 (Decidable.of_not_not c0)
    have h24 := ok.h2
    refine XK.skip ?_
    refine XK.seq ?_
    refine XK.region rfl ?_
    refine XO.q (Q.fieldAddr rfl) ?_
    refine XO.q (Q.ld rfl rfl) ?_
    refine XO.len rfl fun l16 => ?_
    refine XO.q (Q.assign rfl) ?_
    refine XO.done ?_
    refine XK.seq ?_
    refine XK.seq ?_
    refine XK.region rfl ?_
    refine XO.q (Q.fieldAddr rfl) ?_
    refine XO.q (Q.ld rfl rfl) ?_
    refine XO.q (Q.move rfl) ?_
    refine XO.call Tryz.call47 rfl rfl rfl (rin_spec (o.fin) (0) (d.hours.length)) fun v20 s20 R20 => ?_
    obtain ⟨rfl, rfl⟩ := R20
    dsimp only [List.cons_append, List.nil_append]
    refine XO.q (Q.not rfl) ?_
    refine XO.q (Q.move rfl) ?_
    refine XO.q (Quiet.guardF rfl rfl fun g23 p23 => Q.fieldAddr rfl) ?_
    refine XO.q (Quiet.guardF rfl rfl fun g24 p24 => Q.ld (lzv g24 rfl) rfl) ?_
    refine XO.q (Quiet.guardF rfl rfl fun g25 p25 => Q.fieldAddr rfl) ?_
    refine XO.q (Quiet.guardF rfl rfl fun g26 p26 => Q.ld (lzv g26 rfl) rfl) ?_
    refine XO.gcallF rfl rfl Tryz.call47 rfl (fun g27 => .c (lzv g27 rfl) (.c rfl (.c (lzv g27 rfl) .n))) rfl (fun g27 p27 => rin_spec (o.beg) (0) (o.fin)) ?_
    refine XO.q (Quiet.guardF rfl rfl fun g28 p28 => Q.not (lzv g28 rfl)) ?_
    refine XO.q (Q.or rfl (fun hp => lzv hp rfl)) ?_
    refine XO.q (Q.move rfl) ?_
    refine XO.q (Quiet.guardF rfl rfl fun g31 p31 => Q.fieldAddr rfl) ?_
    refine XO.q (Quiet.guardF rfl rfl fun g32 p32 => Q.ld (lzv g32 rfl) rfl) ?_
    refine XO.gcallF rfl rfl Tryz.call47 rfl (fun g33 => .c (lzv g33 rfl) (.c rfl (.c rfl .n))) rfl (fun g33 p33 => rin_spec (o.power) (1) (40)) ?_
    refine XO.q (Quiet.guardF rfl rfl fun g34 p34 => Q.not (lzv g34 rfl)) ?_
    refine XO.q (Q.or rfl (fun hp => lzv hp rfl)) ?_
    refine XO.q (Q.move rfl) ?_
    refine XO.q (Quiet.guardF rfl rfl fun g37 p37 => Q.fieldAddr rfl) ?_
    refine XO.q (Quiet.guardF rfl rfl fun g38 p38 => Q.ld (lzv g38 rfl) rfl) ?_
    refine XO.q (Quiet.guardF rfl rfl fun g39 p39 => Q.lss (lzv g39 rfl) rfl) ?_
    refine XO.q (Q.or rfl (fun hp => lzv hp rfl)) ?_
    refine XO.q (Q.move rfl) ?_
    refine XO.q (Quiet.guardF rfl rfl fun g42 p42 => Q.fieldAddr rfl) ?_
    refine XO.q (Quiet.guardF rfl rfl fun g43 p43 => Q.ld (lzv g43 rfl) rfl) ?_
    refine XO.gcallF rfl rfl Tryz.call47 rfl (fun g44 => .c (lzv g44 rfl) (.c rfl (.c rfl .n))) rfl (fun g44 p44 => rin_spec (o.calls) (0) (4)) ?_
    refine XO.q (Quiet.guardF rfl rfl fun g45 p45 => Q.not (lzv g45 rfl)) ?_
    refine XO.q (Q.or rfl (fun hp => lzv hp rfl)) ?_
    refine XO.q (Q.move rfl) ?_
    refine XO.q (Quiet.guardF rfl rfl fun g48 p48 => Q.fieldAddr rfl) ?_
    refine XO.q (Quiet.guardF rfl rfl fun g49 p49 => Q.ld (lzv g49 rfl) rfl) ?_
    refine XO.gcallF rfl rfl Tryz.call47 rfl (fun g50 => .c (lzv g50 rfl) (.c rfl (.c rfl .n))) rfl (fun g50 p50 => rin_spec (o.pause) (0) (24)) ?_
    refine XO.q (Quiet.guardF rfl rfl fun g51 p51 => Q.not (lzv g51 rfl)) ?_
    refine XO.q (Q.or rfl (fun hp => lzv hp rfl)) ?_
    refine XO.done ?_
    refine XK.if rfl (fun c1 => ?_) (fun c1 => ?_)
    · have _t1 := True.intro
      have ob : ¬ OfferOk d.hours.length o := fun k => by
        have := k.b0; have := k.bf; have := k.fn; have := k.p0; have := k.p1; have := k.h0; have := k.c0; have := k.c1; have := k.q0; have := k.q1
        omega
      refine XK.seq ?_
      refine XK.region rfl ?_
      refine XO.q (Q.assign rfl) ?_
      refine XO.q (Q.assign rfl) ?_
      refine XO.done ?_
      refine XK.rt [emp, emp] Tryz.func30 Tryz.results30 (.t rfl (.t rfl .n)) ?_
      have e : offeredG d o = ([], 100) := by rw [offeredG, if_neg hz, if_pos (fun h => offer_bad ob h)]
      rw [e]
      exact ⟨.slice none 0 0, emp, [], emp, rfl, rfl, nV, RowsK.nil⟩
    · have _t1 := True.intro
      have ofk : OfferOk d.hours.length o := ⟨by omega, by omega, by omega, by omega, by omega, by omega, by omega, by omega, by omega, by omega⟩
      refine XK.skip ?_
      refine XK.seq ?_
      refine XK.region rfl ?_
      refine XO.q (Q.ldA [_, _, _, _, _, _] rfl rfl rfl) ?_
      refine XO.drop (o' := [emp]) ?_
      refine XO.call Tryz.call74 rfl rfl rfl (rpat_spec o (ofk.wide (by omega)) h63 o.calls.toNat [] (.slice none 0 0) emp o.beg (from_nil o) (by have := ofk.c0; simp; omega)) fun v54 s54 R54 => ?_
      obtain ⟨ho, us, K, rfl, OO, RO⟩ := R54
      dsimp only [List.cons_append, List.nil_append]
      have RL := RO.1
      refine XO.q (Q.assign rfl) ?_
      refine XO.done ?_
      refine XK.seq ?_
      refine XK.seq ?_
      refine XK.region rfl ?_
      refine XO.q (Q.move rfl) ?_
      refine XO.len rfl fun l56 => ?_
      refine XO.q (Q.gtr rfl rfl) ?_
      refine XO.done ?_
      refine XK.if rfl (fun c2 => ?_) (fun c2 => ?_)
      · have _t2 := True.intro
        have pm := patR_many (o := o) (by omega)
        refine XK.seq ?_
        refine XK.region rfl ?_
        refine XO.q (Q.assign rfl) ?_
        refine XO.q (Q.assign rfl) ?_
        refine XO.done ?_
        refine XK.rt [emp, emp] Tryz.func30 Tryz.results30 (.t rfl (.t rfl .n)) ?_
        have e : offeredG d o = ([], 8) := by rw [offeredG, if_neg hz, if_neg (fun h => h (offerR_iff.2 ofk)), if_pos pm]
        rw [e]
        exact ⟨.slice none 0 0, emp, [], emp, rfl, rfl, nV, RowsK.nil⟩
      · have _t2 := True.intro
        obtain ⟨pf, pl⟩ := patR_few (o := o) (by omega)
        rw [pf] at RO
        refine XK.skip ?_
        refine XK.seq ?_
        refine XK.region rfl ?_
        refine XO.q (Q.move rfl) ?_
        refine XO.q (Q.assign rfl) ?_
        refine XO.q (Q.assign rfl) ?_
        refine XO.done ?_
        refine XK.rt [ho, K] Tryz.func30 Tryz.results30 (.t rfl (.t rfl .n)) ?_
        have e : offeredG d o = (patternsG o, 0) := offered_yes ok ofk (by omega)
        rw [e]
        exact ⟨v54, ho, us, K, rfl, rfl, OO, RO⟩
end Go.X

set_option linter.unusedSimpArgs false
set_option linter.unusedVariables false
set_option maxRecDepth 20000
namespace Go.X
open Go.Proofs
theorem called_yes {o : KOffer} {pat : List Int} {i k : Nat} (hk : k < pat.length) (h : pat.getD k default ≤ (i : Int) ∧ (i : Int) < pat.getD k default + o.hours) : called o pat i = true :=
 List.any_eq_true.2 ⟨_, getD_mem hk, by rw [decide_eq_true h.1, decide_eq_true h.2]; rfl⟩
theorem called_step {o : KOffer} {pat : List Int} {i k : Nat} (hk : k < pat.length) (h : ¬ (pat.getD k default ≤ (i : Int) ∧ (i : Int) < pat.getD k default + o.hours)) (h0 : called o (pat.take k) i = false) : called o (pat.take (k + 1)) i = false := by
 unfold called at h0 ⊢
 rw [any_takeS hk, h0, Bool.false_or, Bool.and_eq_false_iff, decide_eq_false_iff_not, decide_eq_false_iff_not]
 omega
theorem rlimit_spec (d : KDay) (vh vj : Value) (hh hj : PHeap) [ih : Arr vh encHour 6 hh d.hours] [ij : Arr vj encJob 4 hj d.jobs] (p : KPlan) (vs vc : Value) (hs_ hc : PHeap) [js : Arr vs encI 1 hs_ p.starts] [jc : Arr vc encI 1 hc p.charge] (o : KOffer) (pat : List Int) (vt : Value) (ht : PHeap) [jt : Arr vt encI 1 ht pat] (ok : DayOk d) (so : SOk d p.starts) (ofk : OfferOk d.hours.length o) (cl : p.charge.length = d.hours.length) (hr : ∀ i, i < d.hours.length → -1000 ≤ p.charge.getD i default ∧ p.charge.getD i default ≤ 1000) (pc : ∀ k, k < pat.length → Call o (pat.getD k default)) (i : Nat) (hi : i < d.hours.length) : Spec Tryz.prog 100 #[.agg #[vh, .int .i64 d.store.energy, .int .i64 d.store.full, .int .i64 d.store.power, .int .i64 d.store.fin, vj, .int .i64 d.most, .int .i64 d.peak], .agg #[vs, vc, .int .i64 p.cost], .agg #[.int .i64 o.beg, .int .i64 o.fin, .int .i64 o.power, .int .i64 o.hours, .int .i64 o.calls, .int .i64 o.pause], vt, .int .i64 (i : Nat)] [] [hh, hj, hs_, hc, ht] (fun v hs => v = .int .i64 (limAt d o (needsL d p.starts) p.charge pat i) ∧ hs = []) := by
 have lt := jt.le
 have hri := hr i hi
 have nr := needs_rng ok p.starts hi
 have s1 := ok.store.f0
 have s2 := ok.store.f1
 have s3 := ok.store.p0
 have s4 := ok.store.p1
 have s5 := ok.store.e0
 have s6 := ok.store.e1
 have h1 := ok.h1
 have h24 := ok.h2
 have m0 := ok.m0
 have m1 := ok.m1
 have j2 := ok.j2
 have o1 := ofk.b0
 have o2 := ofk.fn
 have o3 := ofk.h0
 have o4 := ofk.p0
 have o5 := ofk.p1
 refine Spec.intro (fn := Tryz.f100) (N := 51) Tryz.func100 rfl Tryz.ntmps100 rfl fun B => ?_
 refine XK.seq ?_
 refine XK.region rfl ?_
 refine XO.box rfl fun b5 => ?_
 refine XO.box rfl fun b6 => ?_
 refine XO.box rfl fun b7 => ?_
 refine XO.q (Q.assign rfl) ?_
 refine XO.done ?_
 refine XK.seq ?_
 refine XK.seq ?_
 refine XK.region rfl ?_
 refine XO.q (Q.assign rfl) ?_
 refine XO.done ?_
 refine XK.block ?_
 refine XK.while (X := Nat) [10, 11, 12, 13, 14, 15, 16, 17, 18, 19, 20, 21, 22, 23, 24, 25, 26, 27, 28, 29, 30, 31, 32, 33, 34, 35, 36, 37, 38, 39, 40, 41, 42, 43, 44, 45, 46, 47, 48] (fun k => [(11, some (.int .i64 (k : Nat)))]) (fun k => []) (fun k => k ≤ pat.length ∧ called o (pat.take k) i = false) (fun k => pat.length - k) (0) [] rfl ⟨by omega, rfl⟩ (.c rfl (.base 0 rfl rfl)) ?_
 rintro k ⟨hk, hnc⟩ ih0
 dsimp only [List.cons_append, List.nil_append] at ih0 ⊢
 refine XK.seq ?_
 refine XK.seq ?_
 refine XK.region rfl ?_
 refine XO.q (Q.move rfl) ?_
 refine XO.q (Q.move rfl) ?_
 refine XO.len rfl fun l14 => ?_
 refine XO.q (Q.lss rfl rfl) ?_
 refine XO.done ?_
 refine XK.if rfl (fun c0 => ?_) (fun c0 => ?_)
 ·have _t0 := True.intro
  have pk := pc k (by omega)
  have pk1 := pk.1
  have pk2 := pk.2
  refine XK.skip ?_
  refine XK.seq ?_
  refine XK.block ?_
  refine XK.seq ?_
  refine XK.drawn [0, 1, 2, 3, 4, 5, 6, 7, 8, 9, 10, 11, 12, 13, 14, 15, 16] [b7] [] (.q 0 (.q 1 (.q 2 (.q 3 (.q 4 (.q 5 (.q 6 (.q 7 (.q 8 (.q 9 (.q 10 (.q 11 (.q 12 (.q 13 (.q 14 (.q 15 (.q 16 .done))))))))))))))))) Tryz.mixed rfl (by kernel_rfl) ?_
  refine XT.q rfl rfl (Q.move rfl) ?_
  refine XT.q rfl rfl (Q.move rfl) ?_
  refine XT.q rfl rfl (Q.move rfl) ?_
  refine XT.ix rfl rfl rfl rfl (by omega) (by omega) fun i21 => ?_
  refine XT.q rfl rfl (Q.ldE rfl (by first | assumption | omega) rfl) ?_
  refine XT.q rfl rfl (Q.geq rfl rfl) ?_
  refine XT.q rfl rfl (Q.move rfl) ?_
  refine XT.q rfl rfl (Quiet.guardT rfl rfl fun g25 p25 => Q.move rfl) ?_
  refine XT.q rfl rfl (Quiet.guardT rfl rfl fun g26 p26 => Q.move rfl) ?_
  refine XT.q rfl rfl (Quiet.guardT rfl rfl fun g27 p27 => Q.move rfl) ?_
  refine XT.q rfl rfl (Quiet.guardT rfl rfl fun g28 p28 => Q.ix (lzv g28 rfl) (lzv g28 rfl) (by omega) (by omega)) ?_
  refine XT.q rfl rfl (Quiet.guardT rfl rfl fun g29 p29 => Q.ldE (lzv g29 rfl) (by first | assumption | omega) rfl) ?_
  refine XT.q rfl rfl (Quiet.guardT rfl rfl fun g30 p30 => Q.fieldAddr rfl) ?_
  refine XT.q rfl rfl (Quiet.guardT rfl rfl fun g31 p31 => Q.ld (lzv g31 rfl) rfl) ?_
  refine XT.q rfl rfl (Quiet.guardT rfl rfl fun g32 p32 => Q.add (lzv g32 rfl) (lzv g32 rfl) ⟨by omega, by omega⟩) ?_
  refine XT.q rfl rfl (Quiet.guardT rfl rfl fun g33 p33 => Q.lss (lzv g33 rfl) (lzv g33 rfl)) ?_
  refine XT.q rfl rfl (Q.and rfl (fun hp => lzv hp rfl)) ?_
  refine XT.done ?_
  refine XK.if rfl (fun c1 => ?_) (fun c1 => ?_)
  ·have _t1 := True.intro
   have cy := called_yes (o := o) (i := i) (show k < pat.length by omega) (by omega)
   refine XK.seq ?_
   refine XK.drawn [0, 1, 2, 3, 4, 5, 6, 7, 8, 11, 12, 10, 13, 14] [b5, b6, b7] [] (.q 0 (.q 1 (.q 2 (.q 3 (.q 4 (.q 5 (.q 6 (.q 7 (.q 8 (.q 11 (.q 12 (.br 9 true (.q 10 (.q 13 (.q 14 .done))) .stop)))))))))))) Tryz.mixed rfl (by kernel_rfl) ?_
   refine XT.q rfl rfl (Q.ldA [_, _, _, _, _, _, _, _] rfl rfl rfl) ?_
   refine XT.q rfl rfl (Q.fieldAddr rfl) ?_
   refine XT.q rfl rfl (Q.ld rfl rfl) ?_
   refine XT.q rfl rfl (Q.move rfl) ?_
   refine XT.q rfl rfl (Q.fieldAddr rfl) ?_
   refine XT.q rfl rfl (Q.ld rfl rfl) ?_
   refine XT.q rfl rfl (Q.move rfl) ?_
   refine XT.ix rfl rfl rfl rfl (by omega) (by omega) fun i42 => ?_
   refine XT.q rfl rfl (Q.ldE rfl (by first | assumption | omega) rfl) ?_
   refine XT.q rfl rfl (Q.fieldAddr rfl) ?_
   refine XT.q rfl rfl (Q.ld rfl rfl) ?_
   refine XT.call rfl rfl Tryz.call54 rfl rfl rfl (rneed_spec d vh vj hh hj p.starts vs hs_ ok so i hi (p.charge.getD i default) (by omega) (by omega)) (fun v44 s44 R44 => ?_) XT.stop
   obtain ⟨rfl, rfl⟩ := R44
   dsimp only [List.cons_append, List.nil_append]
   refine ⟨inferInstance, ?_⟩
   refine XT.q rfl rfl (Q.max rfl rfl) ?_
   refine XT.q rfl rfl (Q.sub rfl rfl ⟨by omega, by omega⟩) ?_
   refine XT.q rfl rfl (Q.assign rfl) ?_
   refine XT.done ?_
   refine XK.rt [] Tryz.func100 Tryz.results100 (.t rfl .n) ?_
   exact ⟨by rw [limAt, if_pos cy]; rfl, rfl⟩
  ·have _t1 := True.intro
   have cn := called_step (o := o) (i := i) (show k < pat.length by omega) (by omega) hnc
   refine XK.skip ?_
   refine XK.inBlock ?_
   refine XK.region rfl ?_
   refine XO.q (Q.move rfl) ?_
   refine XO.q (Q.add rfl rfl ⟨by omega, by omega⟩) ?_
   refine XO.q (Q.assign rfl) ?_
   refine XO.done ?_
   exact ih0 (k + 1) _ _ ⟨by omega, cn⟩ (by first | omega | (dsimp only; omega)) (.c rfl (.base 64 rfl rfl)) inferInstance
 ·have _t0 := True.intro
  have hkn : k = pat.length := by omega
  subst hkn
  rw [List.take_length] at hnc
  refine XK.exit rfl ?_
  refine XK.seq ?_
  refine XK.region rfl ?_
  refine XO.q (Q.fieldAddr rfl) ?_
  refine XO.q (Q.ld rfl rfl) ?_
  refine XO.q (Q.assign rfl) ?_
  refine XO.done ?_
  refine XK.rt [] Tryz.func100 Tryz.results100 (.t rfl .n) ?_
  exact ⟨by rw [limAt, hnc]; rfl, rfl⟩
theorem gre_all {d : KDay} (so : StoreOk d.store) {e n lim c : Int} (e0 : 0 ≤ e) (e1 : e ≤ d.store.full) (hc : c < -10) (h : ∀ x : Int, c < x → x ≤ 10 → ¬ (((-d.store.power ≤ x ∧ x ≤ d.store.power) ∧ 0 ≤ e + x ∧ e + x ≤ d.store.full) ∧ n + x ≤ lim)) : greC d e lim n < max (-d.store.power) (-e) := by
 have p0 := so.p0; have p1 := so.p1
 unfold greC
 by_cases hg : min (min d.store.power (d.store.full - e)) (lim - n) < max (-d.store.power) (-e)
 ·exact hg
 ·exact absurd ⟨⟨⟨by omega, by omega⟩, by omega, by omega⟩, by omega⟩ (h (min (min d.store.power (d.store.full - e)) (lim - n)) (by omega) (by omega))
theorem gre_is {d : KDay} (so : StoreOk d.store) {e n lim c : Int} (e0 : 0 ≤ e) (e1 : e ≤ d.store.full) (hp : ((-d.store.power ≤ c ∧ c ≤ d.store.power) ∧ 0 ≤ e + c ∧ e + c ≤ d.store.full) ∧ n + c ≤ lim) (h : ∀ x : Int, c < x → x ≤ 10 → ¬ (((-d.store.power ≤ x ∧ x ≤ d.store.power) ∧ 0 ≤ e + x ∧ e + x ≤ d.store.full) ∧ n + x ≤ lim)) : c = greC d e lim n ∧ ¬ greC d e lim n < max (-d.store.power) (-e) := by
 have p0 := so.p0; have p1 := so.p1
 have h2 : c ≤ greC d e lim n := by unfold greC; omega
 have h3 : ¬ greC d e lim n < max (-d.store.power) (-e) := by omega
 refine ⟨?_, h3⟩
 by_cases hg : c = greC d e lim n
 ·exact hg
 ·refine absurd ⟨⟨⟨?_, ?_⟩, ?_, ?_⟩, ?_⟩ (h (greC d e lim n) (by omega) ?_) <;> unfold greC at * <;> omega
set_option maxHeartbeats 2000000 in
theorem ranswer_spec (d : KDay) (vh vj : Value) (hh hj : PHeap) [ih : Arr vh encHour 6 hh d.hours] [ij : Arr vj encJob 4 hj d.jobs] (p : KPlan) (vs vc : Value) (hs_ hc : PHeap) [js : Arr vs encI 1 hs_ p.starts] [jc : Arr vc encI 1 hc p.charge] (o : KOffer) (pat : List Int) (vt : Value) (ht : PHeap) [jt : Arr vt encI 1 ht pat] (ok : DayOk d) (so : SOk d p.starts) (ofk : OfferOk d.hours.length o) (cl : p.charge.length = d.hours.length) (hr : ∀ i, i < d.hours.length → -1000 ≤ p.charge.getD i default ∧ p.charge.getD i default ≤ 1000) (pc : ∀ k, k < pat.length → Call o (pat.getD k default)) : Spec Tryz.prog 80 #[.agg #[vh, .int .i64 d.store.energy, .int .i64 d.store.full, .int .i64 d.store.power, .int .i64 d.store.fin, vj, .int .i64 d.most, .int .i64 d.peak], .agg #[vs, vc, .int .i64 p.cost], .agg #[.int .i64 o.beg, .int .i64 o.fin, .int .i64 o.power, .int .i64 o.hours, .int .i64 o.calls, .int .i64 o.pause], vt] [] [hh, hj, hs_, hc, ht] (fun v hs => ∃ v1 k1, v = .tuple #[v1, .bool (answerG d (needsL d p.starts) p.charge o pat).2] ∧ hs = [k1] ∧ OArr v1 encI 1 3 k1 (answerG d (needsL d p.starts) p.charge o pat).1) := by
 have nI : OArr (.slice none 0 0) encI 1 3 emp ([] : List Int) := OArr.nil (fun _ => rfl)
 have lh := ih.le
 have bl := needsL_len d p.starts
 have s1 := ok.store.f0
 have s2 := ok.store.f1
 have s3 := ok.store.p0
 have s4 := ok.store.p1
 have s5 := ok.store.e0
 have s6 := ok.store.e1
 have h1 := ok.h1
 have h24 := ok.h2
 have m0 := ok.m0
 have m1 := ok.m1
 have j2 := ok.j2
 refine Spec.intro (fn := Tryz.f80) (N := 80) Tryz.func80 rfl Tryz.ntmps80 rfl fun B => ?_
 refine XK.seq ?_
 refine XK.region rfl ?_
 refine XO.box rfl fun b4 => ?_
 refine XO.box rfl fun b5 => ?_
 refine XO.box rfl fun b6 => ?_
 refine XO.q (Q.assign rfl) ?_
 refine XO.q (Q.assign rfl) ?_
 refine XO.done ?_
 refine XK.seq ?_
 refine XK.region rfl ?_
 refine XO.q (Q.assign rfl) ?_
 refine XO.done ?_
 refine XK.seq ?_
 refine XK.region rfl ?_
 refine XO.q (Q.fieldAddr rfl) ?_
 refine XO.q (Q.fieldAddr rfl) ?_
 refine XO.q (Q.ld rfl rfl) ?_
 refine XO.q (Q.assign rfl) ?_
 refine XO.done ?_
 refine XK.seq ?_
 refine XK.seq ?_
 refine XK.region rfl ?_
 refine XO.q (Q.assign rfl) ?_
 refine XO.done ?_
 refine XK.block ?_
 refine XK.while (X := Nat × Value × PHeap) [8, 9, 10, 11, 12, 13, 17, 18, 19, 20, 21, 22, 23, 24, 25, 26, 27, 28, 29, 30, 31, 32, 33, 34, 35, 36, 37, 38, 39, 40, 41, 42, 43, 44, 45, 46, 47, 48, 49, 50, 51, 52, 53, 54, 55, 56, 57, 58, 59, 60, 61, 62, 63, 64, 65, 66, 67, 68, 69, 70, 71, 72, 73] (fun ⟨i, vo, ko⟩ => [(12, some (.int .i64 (i : Nat))), (10, some (vo)), (11, some (.int .i64 (ansTo d (needsL d p.starts) (limL d o (needsL d p.starts) p.charge pat) i).e))]) (fun ⟨i, vo, ko⟩ => [ko]) (fun ⟨i, vo, ko⟩ => i ≤ d.hours.length ∧ (ansTo d (needsL d p.starts) (limL d o (needsL d p.starts) p.charge pat) i).ok = true ∧ OArr vo encI 1 3 ko (ansTo d (needsL d p.starts) (limL d o (needsL d p.starts) p.charge pat) i).l) (fun ⟨i, vo, ko⟩ => d.hours.length - i) (0, .slice none 0 0, emp) [emp] rfl ⟨by omega, rfl, nI⟩ (.c rfl (.c rfl (.c rfl (.base 0 rfl rfl)))) ?_
 rintro ⟨i, vo, ko⟩ ⟨hi, hok, OA⟩ ih0
 dsimp only [List.cons_append, List.nil_append] at ih0 ⊢
 refine XK.seq ?_
 refine XK.seq ?_
 refine XK.region rfl ?_
 refine XO.q (Q.move rfl) ?_
 refine XO.q (Q.fieldAddr rfl) ?_
 refine XO.q (Q.ld rfl rfl) ?_
 refine XO.len rfl fun l20 => ?_
 refine XO.q (Q.lss rfl rfl) ?_
 refine XO.done ?_
 refine XK.if rfl (fun c0 => ?_) (fun c0 => ?_)
 ·have _t0 := True.intro
  obtain ⟨⟨al, _, _⟩, e0, e1⟩ := ans_to ok.store i hok
  have le : (limL d o (needsL d p.starts) p.charge pat).getD i default = (limAt d o (needsL d p.starts) p.charge pat i) := by rw [limL, range_at (by omega)]
  have nr := needs_rng ok p.starts (show i < d.hours.length by omega)
  refine XK.skip ?_
  refine XK.seq ?_
  refine XK.block ?_
  refine XK.seq ?_
  refine XK.region rfl ?_
  refine XO.q (Q.assign rfl) ?_
  refine XO.done ?_
  refine XK.seq ?_
  refine XK.block ?_
  refine XK.while (X := Int) [13, 24, 25, 26, 27, 28, 29, 30, 31, 32, 33, 34, 35, 36, 37, 38, 39, 40, 41, 42, 43, 44, 45, 46, 47, 48, 49, 50, 51, 52, 53, 54, 55, 56, 57, 58, 59, 60, 61, 62, 63] (fun c => [(13, some (.int .i64 c))]) (fun c => []) (fun c => (-11 ≤ c ∧ c ≤ 10) ∧ ∀ x : Int, c < x → x ≤ 10 → ¬ (((-d.store.power ≤ x ∧ x ≤ d.store.power) ∧ 0 ≤ (ansTo d (needsL d p.starts) (limL d o (needsL d p.starts) p.charge pat) i).e + x ∧ (ansTo d (needsL d p.starts) (limL d o (needsL d p.starts) p.charge pat) i).e + x ≤ d.store.full) ∧ ((needsL d p.starts).getD i default) + x ≤ (limAt d o (needsL d p.starts) p.charge pat i))) (fun c => (c + 11).toNat) (10) [] rfl ⟨by omega, fun x h1 h2 => by omega⟩ (.c rfl (.base 0 rfl rfl)) ?_
  rintro c ⟨hcr, hx⟩ ih1
  dsimp only [List.cons_append, List.nil_append] at ih1 ⊢
  refine XK.seq ?_
  refine XK.seq ?_
  refine XK.drawn [0, 1, 2, 3, 4, 5, 6, 7, 8, 9, 10, 12, 13, 14, 15, 16, 17, 18, 20, 21, 22, 23, 24, 25, 26, 28, 29, 30, 31, 32, 34, 35, 36, 37] [b4, b5, b6] [] (.q 0 (.q 1 (.q 2 (.q 3 (.q 4 (.q 5 (.q 6 (.q 7 (.q 8 (.q 9 (.q 10 (.br 11 true (.q 12 (.q 13 (.q 14 (.q 15 (.q 16 (.q 17 (.q 18 (.br 19 true (.q 20 (.q 21 (.q 22 (.q 23 (.q 24 (.q 25 (.q 26 (.q 28 (.q 29 (.q 30 (.q 31 (.q 32 (.br 27 true (.br 33 true (.q 34 (.q 35 (.q 36 (.q 37 .done)))) .stop) .stop))))))))))))) .stop)))))))) .stop)))))))))))) Tryz.mixed rfl (by kernel_rfl) ?_
  refine XT.q rfl rfl (Q.move rfl) ?_
  refine XT.q rfl rfl (Q.geq rfl rfl) ?_
  refine XT.q rfl rfl (Q.move rfl) ?_
  refine XT.q rfl rfl (Quiet.guardT rfl rfl fun g27 p27 => Q.move rfl) ?_
  refine XT.q rfl rfl (Quiet.guardT rfl rfl fun g28 p28 => Q.fieldAddr rfl) ?_
  refine XT.q rfl rfl (Quiet.guardT rfl rfl fun g29 p29 => Q.fieldAddr (lzv g29 rfl)) ?_
  refine XT.q rfl rfl (Quiet.guardT rfl rfl fun g30 p30 => Q.ld (lzv g30 rfl) rfl) ?_
  refine XT.q rfl rfl (Quiet.guardT rfl rfl fun g31 p31 => Q.neg (lzv g31 rfl) ⟨by omega, by omega⟩) ?_
  rw [show (0 : Int) - d.store.power = -d.store.power by omega]
  refine XT.q rfl rfl (Quiet.guardT rfl rfl fun g32 p32 => Q.fieldAddr rfl) ?_
  refine XT.q rfl rfl (Quiet.guardT rfl rfl fun g33 p33 => Q.fieldAddr (lzv g33 rfl)) ?_
  refine XT.q rfl rfl (Quiet.guardT rfl rfl fun g34 p34 => Q.ld (lzv g34 rfl) rfl) ?_
  refine XT.gcallT rfl rfl rfl rfl Tryz.call47 rfl (fun g35 => .c (lzv g35 rfl) (.c (lzv g35 rfl) (.c (lzv g35 rfl) .n))) rfl (fun g35 p35 => rin_spec (c) (-d.store.power) (d.store.power)) ⟨inferInstance, ?_⟩ XT.stop
  refine XT.q rfl rfl (Quiet.guardT rfl rfl fun g36 p36 => Q.move (lzv g36 rfl)) ?_
  refine XT.q rfl rfl (Quiet.guard2 rfl rfl fun g37a g37b => have p37a := bpT g37a; have p37b := bpT g37b; Q.move rfl) ?_
  refine XT.q rfl rfl (Quiet.guard2 rfl rfl fun g38a g38b => have p38a := bpT g38a; have p38b := bpT g38b; Q.move rfl) ?_
  refine XT.q rfl rfl (Quiet.guard2 rfl rfl fun g39a g39b => have p39a := bpT g39a; have p39b := bpT g39b; Q.add (lzv g39b (lzv g39a rfl)) (lzv g39b (lzv g39a rfl)) ⟨by omega, by omega⟩) ?_
  refine XT.q rfl rfl (Quiet.guard2 rfl rfl fun g40a g40b => have p40a := bpT g40a; have p40b := bpT g40b; Q.fieldAddr rfl) ?_
  refine XT.q rfl rfl (Quiet.guard2 rfl rfl fun g41a g41b => have p41a := bpT g41a; have p41b := bpT g41b; Q.fieldAddr (lzv g41b (lzv g41a rfl))) ?_
  refine XT.q rfl rfl (Quiet.guard2 rfl rfl fun g42a g42b => have p42a := bpT g42a; have p42b := bpT g42b; Q.ld (lzv g42b (lzv g42a rfl)) rfl) ?_
  refine XT.vg2 rfl rfl rfl rfl (fun g43a g43b => rfl) (fun g43a g43b => .c (lzv g43b (lzv g43a rfl)) (.c rfl (.c (lzv g43b (lzv g43a rfl)) .n))) (fun g43a g43b => have p43a := bpT g43a; have p43b := bpT g43b; VSpec.fn (P := Tryz.prog) Tryz.call47 rfl (rin_spec ((ansTo d (needsL d p.starts) (limL d o (needsL d p.starts) p.charge pat) i).e + c) (0) (d.store.full))) ⟨inferInstance, ?_⟩ XT.stop
  refine XT.q rfl rfl (Quiet.guardT rfl rfl fun g44 p44 => Q.and (lzv g44 rfl) (fun hp => (lzv hp (lzv g44 rfl)))) ?_
  refine XT.q rfl rfl (Quiet.guardT rfl rfl fun g45 p45 => Q.move (lzv g45 rfl)) ?_
  refine XT.q rfl rfl (Quiet.guard2 rfl rfl fun g46a g46b => have p46a := bpT g46a; have p46b := bpT g46b; Q.ldA [_, _, _, _, _, _, _, _] rfl rfl rfl) ?_
  refine XT.q rfl rfl (Quiet.guard2 rfl rfl fun g47a g47b => have p47a := bpT g47a; have p47b := bpT g47b; Q.fieldAddr rfl) ?_
  refine XT.q rfl rfl (Quiet.guard2 rfl rfl fun g48a g48b => have p48a := bpT g48a; have p48b := bpT g48b; Q.ld (lzv g48b (lzv g48a rfl)) rfl) ?_
  refine XT.q rfl rfl (Quiet.guard2 rfl rfl fun g49a g49b => have p49a := bpT g49a; have p49b := bpT g49b; Q.move rfl) ?_
  refine XT.q rfl rfl (Quiet.guard2 rfl rfl fun g50a g50b => have p50a := bpT g50a; have p50b := bpT g50b; Q.move rfl) ?_
  refine XT.q rfl rfl (Quiet.guard2 rfl rfl fun g52a g52b => have p52a := bpT g52a; have p52b := bpT g52b; Q.ldA [_, _, _, _, _, _, _, _] rfl rfl rfl) ?_
  refine XT.q rfl rfl (Quiet.guard2 rfl rfl fun g53a g53b => have p53a := bpT g53a; have p53b := bpT g53b; Q.ldA [_, _, _] rfl rfl rfl) ?_
  refine XT.q rfl rfl (Quiet.guard2 rfl rfl fun g54a g54b => have p54a := bpT g54a; have p54b := bpT g54b; Q.ldA [_, _, _, _, _, _] rfl rfl rfl) ?_
  refine XT.q rfl rfl (Quiet.guard2 rfl rfl fun g55a g55b => have p55a := bpT g55a; have p55b := bpT g55b; Q.move rfl) ?_
  refine XT.q rfl rfl (Quiet.guard2 rfl rfl fun g56a g56b => have p56a := bpT g56a; have p56b := bpT g56b; Q.move rfl) ?_
  refine XT.vg2 rfl rfl rfl rfl (fun g51a g51b => rfl) (fun g51a g51b => .c (lzv g51b (lzv g51a rfl)) (.c (lzv g51b (lzv g51a rfl)) (.c (lzv g51b (lzv g51a rfl)) (.c (lzv g51b (lzv g51a rfl)) .n)))) (fun g51a g51b => have p51a := bpT g51a; have p51b := bpT g51b; VSpec.fn (P := Tryz.prog) Tryz.call54 rfl (rneed_spec d vh vj hh hj p.starts vs hs_ ok so i (by omega) c (by omega) (by omega))) ⟨inferInstance, ?_⟩ XT.stop
  refine XT.vg2 rfl rfl rfl rfl (fun g57a g57b => rfl) (fun g57a g57b => .c (lzv g57b (lzv g57a rfl)) (.c (lzv g57b (lzv g57a rfl)) (.c (lzv g57b (lzv g57a rfl)) (.c (lzv g57b (lzv g57a rfl)) (.c (lzv g57b (lzv g57a rfl)) .n))))) (fun g57a g57b => have p57a := bpT g57a; have p57b := bpT g57b; VSpec.fn (P := Tryz.prog) Tryz.call100 rfl (rlimit_spec d vh vj hh hj p vs vc hs_ hc o pat vt ht ok so ofk cl hr pc i (by omega))) ⟨inferInstance, ?_⟩ XT.stop
  refine XT.q rfl rfl (Quiet.guard2 rfl rfl fun g58a g58b => have p58a := bpT g58a; have p58b := bpT g58b; Q.leq (lzv g58b (lzv g58a rfl)) (lzv g58b (lzv g58a rfl))) ?_
  refine XT.q rfl rfl (Quiet.guardT rfl rfl fun g59 p59 => Q.and (lzv g59 rfl) (fun hp => (lzv hp (lzv g59 rfl)))) ?_
  refine XT.q rfl rfl (Quiet.guardT rfl rfl fun g60 p60 => Q.not (lzv g60 rfl)) ?_
  refine XT.q rfl rfl (Q.and rfl (fun hp => lzv hp rfl)) ?_
  refine XT.done ?_
  refine XK.if rfl (fun c1 => ?_) (fun c1 => ?_)
  ·have _t1 := True.intro
   refine XK.skip ?_
   refine XK.block ?_
   refine XK.region rfl ?_
   refine XO.q (Q.move rfl) ?_
   refine XO.q (Q.sub rfl rfl ⟨by omega, by omega⟩) ?_
   refine XO.q (Q.assign rfl) ?_
   refine XO.done ?_
   refine XK.inBlock ?_
   exact ih1 (c - 1) _ _ ⟨by omega, fun x h1 h2 => by
    by_cases hxc : c < x
    ·exact hx x hxc h2
    ·obtain rfl : x = c := by omega
     omega⟩ (by first | omega | (dsimp only; omega)) (.c rfl (.base 83 rfl rfl)) inferInstance
  ·have _t1 := True.intro
   refine XK.exit rfl ?_
   refine XK.seq ?_
   refine XK.seq ?_
   refine XK.region rfl ?_
   refine XO.q (Q.move rfl) ?_
   refine XO.q (Q.lss rfl rfl) ?_
   refine XO.done ?_
   refine XK.if rfl (fun c2 => ?_) (fun c2 => ?_)
   ·have _t2 := True.intro
    have ga := gre_all ok.store (n := ((needsL d p.starts).getD i default)) (lim := (limAt d o (needsL d p.starts) p.charge pat i)) e0 e1 c2 hx
    rw [← le] at ga
    have he : (ansTo d (needsL d p.starts) (limL d o (needsL d p.starts) p.charge pat) (i + 1)) = ⟨(ansTo d (needsL d p.starts) (limL d o (needsL d p.starts) p.charge pat) i).l, (ansTo d (needsL d p.starts) (limL d o (needsL d p.starts) p.charge pat) i).e, false⟩ := by rw [ansTo, if_pos hok, if_pos ga]
    have hs : (ansTo d (needsL d p.starts) (limL d o (needsL d p.starts) p.charge pat) d.hours.length) = (ansTo d (needsL d p.starts) (limL d o (needsL d p.starts) p.charge pat) (i + 1)) := ansTo_stay (by rw [he]) _ (by omega)
    refine XK.seq ?_
    refine XK.region rfl ?_
    refine XO.q (Q.move rfl) ?_
    refine XO.q (Q.assign rfl) ?_
    refine XO.q (Q.assign rfl) ?_
    refine XO.done ?_
    refine XK.rt [ko] Tryz.func80 Tryz.results80 (.t rfl (.t rfl .n)) ?_
    rw [answerG, bl, hs, he]
    exact ⟨vo, ko, rfl, rfl, OA⟩
   ·have _t2 := True.intro
    have gi := gre_is ok.store (n := ((needsL d p.starts).getD i default)) (lim := (limAt d o (needsL d p.starts) p.charge pat i)) (c := c) e0 e1 (by omega) hx
    rw [← le] at gi
    have gc := gi.1
    have gn := gi.2
    have he : (ansTo d (needsL d p.starts) (limL d o (needsL d p.starts) p.charge pat) (i + 1)) = ⟨(ansTo d (needsL d p.starts) (limL d o (needsL d p.starts) p.charge pat) i).l ++ [(greC d (ansTo d (needsL d p.starts) (limL d o (needsL d p.starts) p.charge pat) i).e ((limL d o (needsL d p.starts) p.charge pat).getD i default) ((needsL d p.starts).getD i default))], (ansTo d (needsL d p.starts) (limL d o (needsL d p.starts) p.charge pat) i).e + (greC d (ansTo d (needsL d p.starts) (limL d o (needsL d p.starts) p.charge pat) i).e ((limL d o (needsL d p.starts) p.charge pat).getD i default) ((needsL d p.starts).getD i default)), true⟩ := by rw [ansTo, if_pos hok, if_neg gn]
    rw [← gc] at he
    refine XK.skip ?_
    refine XK.seq ?_
    refine XK.region rfl ?_
    refine XO.q (Q.move rfl) ?_
    refine XO.q (Q.move rfl) ?_
    refine XO.lit [_] [_] [c] encI (by rfl) (by rfl) rfl (by rfl) (by exact .c 0 1 rfl rfl rfl (.n _)) (fun _ => rfl) (by rfl) rfl (by infer_instance) rfl fun v69 h69 O69 => ?_
    refine XO.append rfl rfl rfl rfl (by simp only [List.length_cons, List.length_nil]; omega) fun v70 h70 O70 => ?_
    refine XO.q (Q.assign rfl) ?_
    refine XO.done ?_
    refine XK.region rfl ?_
    refine XO.q (Q.move rfl) ?_
    refine XO.q (Q.move rfl) ?_
    refine XO.q (Q.add rfl rfl ⟨by omega, by omega⟩) ?_
    refine XO.q (Q.assign rfl) ?_
    refine XO.done ?_
    refine XK.inBlock ?_
    refine XK.region rfl ?_
    refine XO.q (Q.move rfl) ?_
    refine XO.q (Q.add rfl rfl ⟨by omega, by omega⟩) ?_
    refine XO.q (Q.assign rfl) ?_
    refine XO.done ?_
    rw [show (ansTo d (needsL d p.starts) (limL d o (needsL d p.starts) p.charge pat) i).e + c = (ansTo d (needsL d p.starts) (limL d o (needsL d p.starts) p.charge pat) (i + 1)).e by rw [he]]
    exact ih0 (i + 1, v70, h70) _ _ ⟨by dsimp only; omega, by dsimp only; rw [he], by dsimp only; rw [he]; exact O70⟩ (by first | omega | (dsimp only; omega)) (.c rfl (.c rfl (.c rfl (.base 166 rfl rfl)))) inferInstance
 ·have _t0 := True.intro
  have hin : i = d.hours.length := by omega
  rw [← bl] at hin
  subst hin
  refine XK.exit rfl ?_
  refine XK.seq ?_
  refine XK.drawn [0, 1, 2, 3, 4, 5, 6, 7] [b4] [] (.q 0 (.q 1 (.q 2 (.q 3 (.q 4 (.q 5 (.q 6 (.q 7 .done)))))))) Tryz.mixed rfl (by kernel_rfl) ?_
  refine XT.q rfl rfl (Q.move rfl) ?_
  refine XT.q rfl rfl (Q.move rfl) ?_
  refine XT.q rfl rfl (Q.fieldAddr rfl) ?_
  refine XT.q rfl rfl (Q.fieldAddr rfl) ?_
  refine XT.q rfl rfl (Q.ld rfl rfl) ?_
  refine XT.q rfl rfl (Q.geq rfl rfl) ?_
  refine XT.q rfl rfl (Q.assign rfl) ?_
  refine XT.q rfl rfl (Q.assign rfl) ?_
  refine XT.done ?_
  refine XK.rt [ko] Tryz.func80 Tryz.results80 (.t rfl (.t rfl .n)) ?_
  rw [answerG, hok]
  exact ⟨vo, ko, rfl, rfl, OA⟩
end Go.X

set_option linter.unusedSimpArgs false
set_option linter.unusedVariables false
set_option maxRecDepth 20000
namespace Go.X
open Go.Proofs
set_option maxHeartbeats 1000000 in
theorem rAnswer_spec (d : KDay) (vh vj : Value) (hh hj : PHeap) [ih : Arr vh encHour 6 hh d.hours] [ij : Arr vj encJob 4 hj d.jobs] (p : KPlan) (vs vc : Value) (hs_ hc : PHeap) [js : Arr vs encI 1 hs_ p.starts] [jc : Arr vc encI 1 hc p.charge] (o : KOffer) (h63 : o.hours ≤ 9223372036854775807) (pat : List Int) (vt : Value) (ht : PHeap) [jt : Arr vt encI 1 ht pat] : Spec Tryz.prog 33 #[.agg #[vh, .int .i64 d.store.energy, .int .i64 d.store.full, .int .i64 d.store.power, .int .i64 d.store.fin, vj, .int .i64 d.most, .int .i64 d.peak], .agg #[vs, vc, .int .i64 p.cost], .agg #[.int .i64 o.beg, .int .i64 o.fin, .int .i64 o.power, .int .i64 o.hours, .int .i64 o.calls, .int .i64 o.pause], vt] [] [hh, hj, hs_, hc, ht] (fun v hs => ∃ v1 k1, v = .tuple #[v1, .bool (AnswerG d p o pat).2.1, .int .i64 (AnswerG d p o pat).2.2] ∧ hs = [k1] ∧ OArr v1 encI 1 3 k1 (AnswerG d p o pat).1) := by
  have nI : OArr (.slice none 0 0) encI 1 3 emp ([] : List Int) := OArr.nil (fun _ => rfl)
  refine Spec.intro (fn := Tryz.f33) (N := 54) Tryz.func33 rfl Tryz.ntmps33 rfl fun B => ?_
  refine XK.seq ?_
  refine XK.region rfl ?_
  refine XO.box rfl fun b4 => ?_
  refine XO.box rfl fun b5 => ?_
  refine XO.box rfl fun b6 => ?_
  refine XO.q (Q.assign rfl) ?_
  refine XO.q (Q.assign rfl) ?_
  refine XO.q (Q.assign rfl) ?_
  refine XO.done ?_
  refine XK.seq ?_
  refine XK.region rfl ?_
  refine XO.q (Q.ldA [_, _, _, _, _, _, _, _] rfl rfl rfl) ?_
  refine XO.q (Q.ldA [_, _, _, _, _, _] rfl rfl rfl) ?_
  refine XO.call Tryz.call30 rfl rfl rfl (rPatterns_spec d vh vj hh hj o h63) fun v20 s20 R20 => ?_
  obtain ⟨vo, ho, us, K, rfl, rfl, OO, RO⟩ := R20
  dsimp only [List.cons_append, List.nil_append]
  refine XO.q (Q.move rfl) ?_
  refine XO.q (Q.extract rfl rfl) ?_
  refine XO.q (Q.extract rfl rfl) ?_
  refine XO.q (Q.assign rfl) ?_
  refine XO.q (Q.assign rfl) ?_
  refine XO.done ?_
  refine XK.seq ?_
  refine XK.seq ?_
  refine XK.region rfl ?_
  refine XO.q (Q.move rfl) ?_
  refine XO.q (Q.neq rfl rfl) ?_
  refine XO.done ?_
  refine XK.if rfl (fun c0 => ?_) (fun c0 => ?_)
  · have _t0 := True.intro
    refine XK.seq ?_
    refine XK.region rfl ?_
    refine XO.q (Q.move rfl) ?_
    refine XO.q (Q.assign rfl) ?_
    refine XO.q (Q.assign rfl) ?_
    refine XO.q (Q.assign rfl) ?_
    refine XO.done ?_
    refine XK.rt [emp] Tryz.func33 Tryz.results33 (.t rfl (.t rfl (.t rfl .n))) ?_
    have e : AnswerG d p o pat = ([], false, (offeredG d o).2) := by rw [AnswerG, show readyG d p o = (offeredG d o).2 by rw [readyG, if_pos c0], if_pos c0]
    rw [e]
    exact ⟨.slice none 0 0, emp, rfl, rfl, nI⟩
  · have _t0 := True.intro
    have hz := c0
    have of1 := offered_fine (Decidable.of_not_not c0)
    rw [of1.2.2.1] at RO
    have RL := RO.1
    refine XK.skip ?_
    refine XK.seq ?_
    refine XK.seq ?_
    refine XK.region rfl ?_
    refine XO.q (Q.ldA [_, _, _, _, _, _, _, _] rfl rfl rfl) ?_
    refine XO.q (Q.ldA [_, _, _] rfl rfl rfl) ?_
    refine XO.call Tryz.call53 rfl rfl rfl (rForm_spec d vh vj hh hj p vs vc hs_ hc) fun v28 s28 R28 => ?_
    obtain ⟨rfl, rfl⟩ := R28
    dsimp only [List.cons_append, List.nil_append]
    refine XO.q (Q.assign rfl) ?_
    refine XO.done ?_
    refine XK.seq ?_
    refine XK.region rfl ?_
    refine XO.q (Q.move rfl) ?_
    refine XO.q (Q.neq rfl rfl) ?_
    refine XO.done ?_
    refine XK.if rfl (fun c1 => ?_) (fun c1 => ?_)
    · have _t1 := True.intro
      refine XK.seq ?_
      refine XK.region rfl ?_
      refine XO.q (Q.move rfl) ?_
      refine XO.q (Q.assign rfl) ?_
      refine XO.q (Q.assign rfl) ?_
      refine XO.q (Q.assign rfl) ?_
      refine XO.done ?_
      refine XK.rt [emp] Tryz.func33 Tryz.results33 (.t rfl (.t rfl (.t rfl .n))) ?_
      have e : AnswerG d p o pat = ([], false, (formG d p).2) := by rw [AnswerG, show readyG d p o = (formG d p).2 by rw [readyG, if_neg hz], if_pos c1]
      rw [e]
      exact ⟨.slice none 0 0, emp, rfl, rfl, nI⟩
    · have _t1 := True.intro
      have ff := form_fine (Decidable.of_not_not c1)
      have rz : readyG d p o = 0 := by rw [readyG, if_neg hz]; exact Decidable.of_not_not c1
      have fy := form_needs (Decidable.of_not_not c1)
      obtain ⟨po, sm, ok, cl, st, cr⟩ := plan_rng fy
      have so := starts_ok sm
      have chr : ∀ i, i < d.hours.length → -1000 ≤ p.charge.getD i default ∧ p.charge.getD i default ≤ 1000 := fun i hi => by have := okAt_iffK.1 (po.ok i hi); have := ok.store.p0; have := ok.store.p1; omega
      have fb : (formG d p).1 = needsL d p.starts := ff.2.2.2.2.2.2
      refine XK.skip ?_
      refine XK.seq ?_
      refine XK.seq ?_
      refine XK.region rfl ?_
      refine XO.q (Q.assign rfl) ?_
      refine XO.done ?_
      refine XK.block ?_
      refine XK.while (X := Nat) [8, 9, 10, 14, 15, 16, 32, 33, 34, 35, 36, 37, 38, 39, 40, 41, 42, 43, 44, 45, 46, 47, 48, 49, 50, 51, 52, 53] (fun i => [(14, some (.int .i64 (i : Nat)))]) (fun i => []) (fun i => i ≤ us.length ∧ ((patternsG o).take i).any (fun x => decide (x = pat)) = false) (fun i => us.length - i) (0) [] rfl ⟨by omega, rfl⟩ (.c rfl (.base 0 rfl rfl)) ?_
      rintro i ⟨hi, hn⟩ ih0
      dsimp only [List.cons_append, List.nil_append] at ih0 ⊢
      refine XK.seq ?_
      refine XK.seq ?_
      refine XK.region rfl ?_
      refine XO.q (Q.move rfl) ?_
      refine XO.q (Q.move rfl) ?_
      refine XO.len rfl fun l34 => ?_
      refine XO.q (Q.lss rfl rfl) ?_
      refine XO.done ?_
      refine XK.if rfl (fun c2 => ?_) (fun c2 => ?_)
      · have _t2 := True.intro
        have ai := RO.2 i (by omega)
        have ats := any_takeS (p := fun x => decide (x = pat)) (show i < (patternsG o).length by omega)
        refine XK.skip ?_
        refine XK.seq ?_
        refine XK.block ?_
        refine XK.seq ?_
        refine XK.region rfl ?_
        refine XO.q (Q.move rfl) ?_
        refine XO.q (Q.move rfl) ?_
        refine XO.ix rfl rfl (by omega) (by omega) fun i40 => ?_
        refine XO.q (Q.ldE rfl (by first | assumption | omega) rfl) ?_
        refine XO.q (Q.move rfl) ?_
        refine XO.call Tryz.call79 rfl rfl rfl (sameInts (us.getD i default) vt K ht ((patternsG o).getD i default) pat) fun v43 s43 R43 => ?_
        obtain ⟨rfl, rfl⟩ := R43
        dsimp only [List.cons_append, List.nil_append]
        refine XO.done ?_
        refine XK.if rfl (fun c3 => ?_) (fun c3 => ?_)
        · have _t3 := True.intro
          have pm : pat ∈ patternsG o := c3 ▸ getD_mem (by omega)
          have pc : ∀ k, k < pat.length → Call o (pat.getD k default) := fun k hk => patterns_calls of1.2.1 pm _ (getD_mem hk)
          have anyT : (patternsG o).any (fun x => decide (x = pat)) = true := List.any_eq_true.2 ⟨pat, pm, decide_eq_true rfl⟩
          refine XK.seq ?_
          refine XK.region rfl ?_
          refine XO.q (Q.ldA [_, _, _, _, _, _, _, _] rfl rfl rfl) ?_
          refine XO.q (Q.ldA [_, _, _] rfl rfl rfl) ?_
          refine XO.q (Q.ldA [_, _, _, _, _, _] rfl rfl rfl) ?_
          refine XO.q (Q.move rfl) ?_
          refine XO.call Tryz.call80 rfl rfl rfl (ranswer_spec d vh vj hh hj p vs vc hs_ hc o pat vt ht ok so of1.2.1 cl chr pc) fun v49 s49 R49 => ?_
          obtain ⟨v1, k1, rfl, rfl, O1⟩ := R49
          dsimp only [List.cons_append, List.nil_append]
          refine XO.q (Q.move rfl) ?_
          refine XO.q (Q.extract rfl rfl) ?_
          refine XO.q (Q.extract rfl rfl) ?_
          refine XO.q (Q.assign rfl) ?_
          refine XO.q (Q.assign rfl) ?_
          refine XO.done ?_
          refine XK.seq ?_
          refine XK.region rfl ?_
          refine XO.q (Q.move rfl) ?_
          refine XO.q (Q.move rfl) ?_
          refine XO.q (Q.assign rfl) ?_
          refine XO.q (Q.assign rfl) ?_
          refine XO.q (Q.assign rfl) ?_
          refine XO.done ?_
          refine XK.rt [k1] Tryz.func33 Tryz.results33 (.t rfl (.t rfl (.t rfl .n))) ?_
          have e : AnswerG d p o pat = ((answerG d (needsL d p.starts) p.charge o pat).1, (answerG d (needsL d p.starts) p.charge o pat).2, 0) := by rw [AnswerG, rz, if_neg (by decide), if_neg (fun h => h anyT), fb]
          rw [e]
          exact ⟨v1, k1, rfl, rfl, O1⟩
        · have _t3 := True.intro
          refine XK.skip ?_
          refine XK.inBlock ?_
          refine XK.region rfl ?_
          refine XO.q (Q.move rfl) ?_
          refine XO.q (Q.add rfl rfl ⟨by omega, by omega⟩) ?_
          refine XO.q (Q.assign rfl) ?_
          refine XO.done ?_
          exact ih0 (i + 1) _ _ ⟨by omega, by rw [ats, hn, decide_eq_false c3]; rfl⟩ (by first | omega | (dsimp only; omega)) (.c rfl (.base 42 rfl rfl)) inferInstance
      · have _t2 := True.intro
        rw [List.take_of_length_le (by omega)] at hn
        refine XK.exit rfl ?_
        refine XK.seq ?_
        refine XK.region rfl ?_
        refine XO.q (Q.assign rfl) ?_
        refine XO.q (Q.assign rfl) ?_
        refine XO.q (Q.assign rfl) ?_
        refine XO.done ?_
        refine XK.rt [emp] Tryz.func33 Tryz.results33 (.t rfl (.t rfl (.t rfl .n))) ?_
        have e : AnswerG d p o pat = ([], false, 1) := by rw [AnswerG, rz, if_neg (by decide), if_pos (by rw [hn]; decide)]
        rw [e]
        exact ⟨.slice none 0 0, emp, rfl, rfl, nI⟩
set_option maxHeartbeats 1000000 in
theorem rDeliver_spec (d : KDay) (vh vj : Value) (hh hj : PHeap) [ih : Arr vh encHour 6 hh d.hours] [ij : Arr vj encJob 4 hj d.jobs] (p : KPlan) (vs vc : Value) (hs_ hc : PHeap) [js : Arr vs encI 1 hs_ p.starts] [jc : Arr vc encI 1 hc p.charge] (o : KOffer) (h63 : o.hours ≤ 9223372036854775807) : Spec Tryz.prog 36 #[.agg #[vh, .int .i64 d.store.energy, .int .i64 d.store.full, .int .i64 d.store.power, .int .i64 d.store.fin, vj, .int .i64 d.most, .int .i64 d.peak], .agg #[vs, vc, .int .i64 p.cost], .agg #[.int .i64 o.beg, .int .i64 o.fin, .int .i64 o.power, .int .i64 o.hours, .int .i64 o.calls, .int .i64 o.pause]] [] [hh, hj, hs_, hc] (fun v hs => ∃ v1 k1, v = .tuple #[.bool (DeliverG d p o).1, v1, .int .i64 (DeliverG d p o).2.2] ∧ hs = [k1] ∧ One v1 ∧ Arr v1 encI 1 k1 (DeliverG d p o).2.1) := by
  have nI : OArr (.slice none 0 0) encI 1 3 emp ([] : List Int) := OArr.nil (fun _ => rfl)
  have nA : Arr (.slice none 0 0) encI 1 emp ([] : List Int) := OArr.arr (s := nI)
  refine Spec.intro (fn := Tryz.f36) (N := 53) Tryz.func36 rfl Tryz.ntmps36 rfl fun B => ?_
  refine XK.seq ?_
  refine XK.region rfl ?_
  refine XO.box rfl fun b3 => ?_
  refine XO.box rfl fun b4 => ?_
  refine XO.box rfl fun b5 => ?_
  refine XO.q (Q.assign rfl) ?_
  refine XO.q (Q.assign rfl) ?_
  refine XO.q (Q.assign rfl) ?_
  refine XO.done ?_
  refine XK.seq ?_
  refine XK.region rfl ?_
  refine XO.q (Q.ldA [_, _, _, _, _, _, _, _] rfl rfl rfl) ?_
  refine XO.q (Q.ldA [_, _, _, _, _, _] rfl rfl rfl) ?_
  refine XO.call Tryz.call30 rfl rfl rfl (rPatterns_spec d vh vj hh hj o h63) fun v18 s18 R18 => ?_
  obtain ⟨vo, ho, us, K, rfl, rfl, OO, RO⟩ := R18
  dsimp only [List.cons_append, List.nil_append]
  refine XO.q (Q.move rfl) ?_
  refine XO.q (Q.extract rfl rfl) ?_
  refine XO.q (Q.extract rfl rfl) ?_
  refine XO.q (Q.assign rfl) ?_
  refine XO.q (Q.assign rfl) ?_
  refine XO.done ?_
  refine XK.seq ?_
  refine XK.seq ?_
  refine XK.region rfl ?_
  refine XO.q (Q.move rfl) ?_
  refine XO.q (Q.neq rfl rfl) ?_
  refine XO.done ?_
  refine XK.if rfl (fun c0 => ?_) (fun c0 => ?_)
  · have _t0 := True.intro
    refine XK.seq ?_
    refine XK.region rfl ?_
    refine XO.q (Q.move rfl) ?_
    refine XO.q (Q.assign rfl) ?_
    refine XO.q (Q.assign rfl) ?_
    refine XO.q (Q.assign rfl) ?_
    refine XO.done ?_
    refine XK.rt [emp] Tryz.func36 Tryz.results36 (.t rfl (.t rfl (.t rfl .n))) ?_
    have e : DeliverG d p o = (false, [], (offeredG d o).2) := by rw [DeliverG, show readyG d p o = (offeredG d o).2 by rw [readyG, if_pos c0], if_pos c0]
    rw [e]
    exact ⟨.slice none 0 0, emp, rfl, rfl, inferInstance, nA⟩
  · have _t0 := True.intro
    have hz := c0
    have of1 := offered_fine (Decidable.of_not_not c0)
    rw [of1.2.2.1] at RO
    have RL := RO.1
    refine XK.skip ?_
    refine XK.seq ?_
    refine XK.seq ?_
    refine XK.region rfl ?_
    refine XO.q (Q.ldA [_, _, _, _, _, _, _, _] rfl rfl rfl) ?_
    refine XO.q (Q.ldA [_, _, _] rfl rfl rfl) ?_
    refine XO.call Tryz.call53 rfl rfl rfl (rForm_spec d vh vj hh hj p vs vc hs_ hc) fun v26 s26 R26 => ?_
    obtain ⟨rfl, rfl⟩ := R26
    dsimp only [List.cons_append, List.nil_append]
    refine XO.q (Q.assign rfl) ?_
    refine XO.done ?_
    refine XK.seq ?_
    refine XK.region rfl ?_
    refine XO.q (Q.move rfl) ?_
    refine XO.q (Q.neq rfl rfl) ?_
    refine XO.done ?_
    refine XK.if rfl (fun c1 => ?_) (fun c1 => ?_)
    · have _t1 := True.intro
      refine XK.seq ?_
      refine XK.region rfl ?_
      refine XO.q (Q.move rfl) ?_
      refine XO.q (Q.assign rfl) ?_
      refine XO.q (Q.assign rfl) ?_
      refine XO.q (Q.assign rfl) ?_
      refine XO.done ?_
      refine XK.rt [emp] Tryz.func36 Tryz.results36 (.t rfl (.t rfl (.t rfl .n))) ?_
      have e : DeliverG d p o = (false, [], (formG d p).2) := by rw [DeliverG, show readyG d p o = (formG d p).2 by rw [readyG, if_neg hz], if_pos c1]
      rw [e]
      exact ⟨.slice none 0 0, emp, rfl, rfl, inferInstance, nA⟩
    · have _t1 := True.intro
      have ff := form_fine (Decidable.of_not_not c1)
      have rz : readyG d p o = 0 := by rw [readyG, if_neg hz]; exact Decidable.of_not_not c1
      have fy := form_needs (Decidable.of_not_not c1)
      obtain ⟨po, sm, ok, cl, st, cr⟩ := plan_rng fy
      have so := starts_ok sm
      have chr : ∀ i, i < d.hours.length → -1000 ≤ p.charge.getD i default ∧ p.charge.getD i default ≤ 1000 := fun i hi => by have := okAt_iffK.1 (po.ok i hi); have := ok.store.p0; have := ok.store.p1; omega
      have fb : (formG d p).1 = needsL d p.starts := ff.2.2.2.2.2.2
      refine XK.skip ?_
      refine XK.seq ?_
      refine XK.seq ?_
      refine XK.region rfl ?_
      refine XO.q (Q.assign rfl) ?_
      refine XO.done ?_
      refine XK.block ?_
      refine XK.while (X := Nat) [6, 7, 8, 12, 13, 14, 30, 31, 32, 33, 34, 35, 36, 37, 38, 39, 40, 41, 42, 43, 44, 45, 46, 47, 48, 49, 50, 51, 52] (fun i => [(12, some (.int .i64 (i : Nat)))]) (fun i => []) (fun i => i ≤ us.length ∧ ((patternsG o).take i).any (badPat d p o) = false) (fun i => us.length - i) (0) [] rfl ⟨by omega, rfl⟩ (.c rfl (.base 0 rfl rfl)) ?_
      rintro i ⟨hi, hg⟩ ih0
      dsimp only [List.cons_append, List.nil_append] at ih0 ⊢
      refine XK.seq ?_
      refine XK.seq ?_
      refine XK.region rfl ?_
      refine XO.q (Q.move rfl) ?_
      refine XO.q (Q.move rfl) ?_
      refine XO.len rfl fun l32 => ?_
      refine XO.q (Q.lss rfl rfl) ?_
      refine XO.done ?_
      refine XK.if rfl (fun c2 => ?_) (fun c2 => ?_)
      · have _t2 := True.intro
        have ai := RO.2 i (by omega)
        have pc : ∀ k, k < ((patternsG o).getD i default).length → Call o (((patternsG o).getD i default).getD k default) := fun k hk => patterns_calls of1.2.1 (getD_mem (show i < (patternsG o).length by omega)) _ (getD_mem hk)
        refine XK.skip ?_
        refine XK.seq ?_
        refine XK.block ?_
        refine XK.seq ?_
        refine XK.drawn [0, 1, 2, 3, 4, 5, 6, 8, 9, 10, 11, 12] [b3, b4, b5] [ho, K] (.q 0 (.q 1 (.q 2 (.q 3 (.q 4 (.q 5 (.q 6 (.br 7 true (.q 8 (.q 9 (.q 10 (.q 11 (.q 12 .done))))) .stop)))))))) Tryz.mixed rfl (by kernel_rfl) ?_
        refine XT.q rfl rfl (Q.ldA [_, _, _, _, _, _, _, _] rfl rfl rfl) ?_
        refine XT.q rfl rfl (Q.ldA [_, _, _] rfl rfl rfl) ?_
        refine XT.q rfl rfl (Q.ldA [_, _, _, _, _, _] rfl rfl rfl) ?_
        refine XT.q rfl rfl (Q.move rfl) ?_
        refine XT.q rfl rfl (Q.move rfl) ?_
        refine XT.ix rfl rfl rfl rfl (by omega) (by omega) fun i42 => ?_
        refine XT.q rfl rfl (Q.ldE rfl (by first | assumption | omega) rfl) ?_
        refine XT.call rfl rfl Tryz.call80 rfl rfl rfl (ranswer_spec d vh vj hh hj p vs vc hs_ hc o ((patternsG o).getD i default) (us.getD i default) K ok so of1.2.1 cl chr pc) (fun v44 s44 R44 => ?_) XT.stop
        obtain ⟨v1, k1, rfl, rfl, O1⟩ := R44
        dsimp only [List.cons_append, List.nil_append]
        refine ⟨inferInstance, ?_⟩
        refine XT.q rfl rfl (Q.move rfl) ?_
        refine XT.q rfl rfl (Q.extract rfl rfl) ?_
        refine XT.q rfl rfl (Q.extract rfl rfl) ?_
        refine XT.q rfl rfl (Q.assign rfl) ?_
        refine XT.q rfl rfl (Q.assign rfl) ?_
        refine XT.done ?_
        refine XK.seq ?_
        refine XK.region rfl ?_
        refine XO.q (Q.move rfl) ?_
        refine XO.q (Q.not rfl) ?_
        refine XO.done ?_
        refine XK.if rfl (fun c3 => ?_) (fun c3 => ?_)
        · have _t3 := True.intro
          have hbad : badPat d p o ((patternsG o).getD i default) = true := by unfold badPat; rw [fb, Bool.not_eq_true']; exact Bool.eq_false_iff.2 c3
          refine XK.seq ?_
          refine XK.drawn [0, 1, 2, 3, 4, 5, 6] [] [ho, K] (.q 0 (.q 1 (.q 2 (.q 3 (.q 4 (.q 5 (.q 6 .done))))))) Tryz.mixed rfl (by kernel_rfl) ?_
          refine XT.q rfl rfl (Q.move rfl) ?_
          refine XT.q rfl rfl (Q.move rfl) ?_
          refine XT.ix rfl rfl rfl rfl (by omega) (by omega) fun i51 => ?_
          refine XT.q rfl rfl (Q.ldE rfl (by first | assumption | omega) rfl) ?_
          refine XT.q rfl rfl (Q.assign rfl) ?_
          refine XT.q rfl rfl (Q.assign rfl) ?_
          refine XT.q rfl rfl (Q.assign rfl) ?_
          refine XT.done ?_
          refine XK.rt [K] Tryz.func36 Tryz.results36 (.t rfl (.t rfl (.t rfl .n))) ?_
          have e : DeliverG d p o = (false, (patternsG o).getD i default, 0) := by rw [DeliverG, rz, if_neg (by decide), deliver_bad hg (by omega) hbad]
          rw [e]
          exact ⟨us.getD i default, K, rfl, rfl, inferInstance, ai⟩
        · have _t3 := True.intro
          have hgood : badPat d p o ((patternsG o).getD i default) = false := by unfold badPat; rw [fb, Decidable.of_not_not c3]; rfl
          refine XK.skip ?_
          refine XK.inBlock ?_
          refine XK.region rfl ?_
          refine XO.q (Q.move rfl) ?_
          refine XO.q (Q.add rfl rfl ⟨by omega, by omega⟩) ?_
          refine XO.q (Q.assign rfl) ?_
          refine XO.done ?_
          exact ih0 (i + 1) _ _ ⟨by omega, any_step hg (by omega) hgood⟩ (by first | omega | (dsimp only; omega)) (.c rfl (.base 52 rfl rfl)) inferInstance
      · have _t2 := True.intro
        refine XK.exit rfl ?_
        refine XK.seq ?_
        refine XK.region rfl ?_
        refine XO.q (Q.assign rfl) ?_
        refine XO.q (Q.assign rfl) ?_
        refine XO.q (Q.assign rfl) ?_
        refine XO.done ?_
        refine XK.rt [emp] Tryz.func36 Tryz.results36 (.t rfl (.t rfl (.t rfl .n))) ?_
        have e : DeliverG d p o = (true, [], 0) := by rw [DeliverG, rz, if_neg (by decide), deliver_good (by rw [List.take_of_length_le (by omega)] at hg; exact hg)]
        rw [e]
        exact ⟨.slice none 0 0, emp, rfl, rfl, inferInstance, nA⟩
theorem sameList (va vb : Value) (ha hb : PHeap) (a b : List Int) [ia : Arr va encI 1 ha a] [ib : Arr vb encI 1 hb b] : Spec Tryz.prog 50 #[va, vb] [] [ha, hb] (fun v hs => v = .bool (decide (a = b)) ∧ hs = []) := by
  refine Spec.intro (fn := Tryz.f50) (N := 8) Tryz.func50 rfl Tryz.ntmps50 rfl fun B => ?_
  refine XK.seq ?_
  refine XK.region rfl ?_
  refine XO.q (Q.assign rfl) ?_
  refine XO.done ?_
  refine XK.seq ?_
  refine XK.region rfl ?_
  refine XO.q (Q.move rfl) ?_
  refine XO.q (Q.move rfl) ?_
  refine XO.call Tryz.call79 rfl rfl rfl (sameInts va vb ha hb a b) fun v7 s7 R7 => ?_
  obtain ⟨rfl, rfl⟩ := R7
  dsimp only [List.cons_append, List.nil_append]
  refine XO.q (Q.assign rfl) ?_
  refine XO.done ?_
  refine XK.rt [] Tryz.func50 Tryz.results50 (.t rfl .n) ?_
  exact ⟨rfl, rfl⟩
theorem sameLists (va vb : Value) (ha hb Ka Kb : PHeap) (us ws : List Value) [ia : Arr va encV 1 ha us] [ib : Arr vb encV 1 hb ws] (a b : List (List Int)) (ra : RowsK us Ka a) (rb : RowsK ws Kb b) : Spec Tryz.prog 14 #[va, vb] [] [ha, hb, Ka, Kb] (fun v hs => v = .bool (decide (a = b)) ∧ hs = []) := by
  have la := ia.le
  have l1 := ra.1
  have l2 := rb.1
  refine Spec.intro (fn := Tryz.f14) (N := 27) Tryz.func14 rfl Tryz.ntmps14 rfl fun B => ?_
  refine XK.seq ?_
  refine XK.region rfl ?_
  refine XO.q (Q.assign rfl) ?_
  refine XO.done ?_
  refine XK.seq ?_
  refine XK.seq ?_
  refine XK.region rfl ?_
  refine XO.q (Q.move rfl) ?_
  refine XO.len rfl fun l7 => ?_
  refine XO.q (Q.move rfl) ?_
  refine XO.len rfl fun l9 => ?_
  refine XO.q (Q.neq rfl rfl) ?_
  refine XO.done ?_
  refine XK.if rfl (fun c0 => ?_) (fun c0 => ?_)
  · have _t0 := True.intro
    refine XK.seq ?_
    refine XK.region rfl ?_
    refine XO.q (Q.assign rfl) ?_
    refine XO.done ?_
    refine XK.rt [] Tryz.func14 Tryz.results14 (.t rfl .n) ?_
    exact ⟨by rw [decide_eq_false (fun h => c0 (by rw [l1, l2, h]))], rfl⟩
  · have _t0 := True.intro
    refine XK.skip ?_
    refine XK.seq ?_
    refine XK.seq ?_
    refine XK.region rfl ?_
    refine XO.q (Q.assign rfl) ?_
    refine XO.done ?_
    refine XK.block ?_
    refine XK.while (X := Nat) [4, 5, 11, 12, 13, 14, 15, 16, 17, 18, 19, 20, 21, 22, 23, 24, 25, 26] (fun i => [(5, some (.int .i64 (i : Nat)))]) (fun i => []) (fun i => i ≤ us.length ∧ a.take i = b.take i) (fun i => us.length - i) (0) [] rfl ⟨by omega, rfl⟩ (.c rfl (.base 0 rfl rfl)) ?_
    rintro i ⟨hi, ht⟩ ih0
    dsimp only [List.cons_append, List.nil_append] at ih0 ⊢
    refine XK.seq ?_
    refine XK.seq ?_
    refine XK.region rfl ?_
    refine XO.q (Q.move rfl) ?_
    refine XO.q (Q.move rfl) ?_
    refine XO.len rfl fun l13 => ?_
    refine XO.q (Q.lss rfl rfl) ?_
    refine XO.done ?_
    refine XK.if rfl (fun c1 => ?_) (fun c1 => ?_)
    · have _t1 := True.intro
      have aa := ra.2 i (by omega)
      have ab := rb.2 i (by omega)
      refine XK.skip ?_
      refine XK.seq ?_
      refine XK.block ?_
      refine XK.seq ?_
      refine XK.drawn [0, 1, 2, 3, 4, 5, 6, 7, 9] [] [] (.q 0 (.q 1 (.q 2 (.q 3 (.q 4 (.q 5 (.q 6 (.q 7 (.br 8 true (.q 9 .done) .stop))))))))) Tryz.mixed rfl (by kernel_rfl) ?_
      refine XT.q rfl rfl (Q.move rfl) ?_
      refine XT.q rfl rfl (Q.move rfl) ?_
      refine XT.ix rfl rfl rfl rfl (by omega) (by omega) fun i19 => ?_
      refine XT.q rfl rfl (Q.ldE rfl (by first | assumption | omega) rfl) ?_
      refine XT.q rfl rfl (Q.move rfl) ?_
      refine XT.q rfl rfl (Q.move rfl) ?_
      refine XT.ix rfl rfl rfl rfl (by omega) (by omega) fun i23 => ?_
      refine XT.q rfl rfl (Q.ldE rfl (by first | assumption | omega) rfl) ?_
      refine XT.call rfl rfl Tryz.call50 rfl rfl rfl (sameList (us.getD i default) (ws.getD i default) Ka Kb (a.getD i default) (b.getD i default)) (fun v25 s25 R25 => ?_) XT.stop
      obtain ⟨rfl, rfl⟩ := R25
      dsimp only [List.cons_append, List.nil_append]
      refine ⟨inferInstance, ?_⟩
      refine XT.q rfl rfl (Q.not rfl) ?_
      refine XT.done ?_
      refine XK.if rfl (fun c2 => ?_) (fun c2 => ?_)
      · have _t2 := True.intro
        refine XK.seq ?_
        refine XK.region rfl ?_
        refine XO.q (Q.assign rfl) ?_
        refine XO.done ?_
        refine XK.rt [] Tryz.func14 Tryz.results14 (.t rfl .n) ?_
        exact ⟨by rw [decide_eq_false (fun h => c2 (by rw [h]))], rfl⟩
      · have _t2 := True.intro
        refine XK.skip ?_
        refine XK.inBlock ?_
        refine XK.region rfl ?_
        refine XO.q (Q.move rfl) ?_
        refine XO.q (Q.add rfl rfl ⟨by omega, by omega⟩) ?_
        refine XO.q (Q.assign rfl) ?_
        refine XO.done ?_
        exact ih0 (i + 1) _ _ ⟨by omega, take_step ht (by omega) (by omega) (Decidable.of_not_not c2)⟩ (by first | omega | (dsimp only; omega)) (.c rfl (.base 36 rfl rfl)) inferInstance
    · have _t1 := True.intro
      refine XK.exit rfl ?_
      refine XK.seq ?_
      refine XK.region rfl ?_
      refine XO.q (Q.assign rfl) ?_
      refine XO.done ?_
      refine XK.rt [] Tryz.func14 Tryz.results14 (.t rfl .n) ?_
      exact ⟨by rw [decide_eq_true (take_all ht (by omega) (by omega))], rfl⟩
theorem cloneH (v : Value) (h : PHeap) (xs : List KHour) [s : Arr v encHour 6 h xs] (hl : xs.length ≤ 68719476736) :
    Spec Tryz.prog 37 #[v] [] [h] (fun v' hs => ∃ h', hs = [h'] ∧ OArr v' encHour 6 29 h' xs) := by
  refine Spec.intro (fn := Tryz.f37) (N := 8) Tryz.func37 rfl Tryz.ntmps37 rfl fun B => ?_
  refine XK.seq ?_
  refine XK.region rfl ?_
  refine XO.q (Q.assign rfl) ?_
  refine XO.done ?_
  refine XK.seq ?_
  refine XK.seq ?_
  refine XK.region rfl ?_
  refine XO.q (Q.move rfl) ?_
  refine XO.eqNil rfl fun z4 hz4 => ?_
  refine XO.done ?_
  refine XK.if rfl (fun c0 => ?_) (fun c0 => ?_)
  · have _t0 := True.intro
    refine XK.seq ?_
    refine XK.region rfl ?_
    refine XO.q (Q.assign rfl) ?_
    refine XO.done ?_
    refine XK.rt [emp] Tryz.func37 Tryz.results37 (.t rfl .n) ?_
    exact ⟨emp, rfl, by rw [(hz4 c0).1]; exact OArr.nil (fun _ => rfl)⟩
  · have _t0 := True.intro
    refine XK.skip ?_
    refine XK.seq ?_
    refine XK.region rfl ?_
    refine XO.lit [] [] [] encHour (by rfl) (by rfl) rfl (by rfl) (by exact .n _) (fun _ => rfl) (by rfl) rfl (by infer_instance) rfl fun v5 h5 O5 => ?_
    refine XO.q (Q.move rfl) ?_
    refine XO.append rfl rfl rfl rfl (by first | omega | (simp; omega)) fun v7 h7 O7 => ?_
    refine XO.q (Q.assign rfl) ?_
    refine XO.done ?_
    refine XK.rt [h7] Tryz.func37 Tryz.results37 (.t rfl .n) ?_
    exact ⟨h7, rfl, O7⟩
theorem cloneJ (v : Value) (h : PHeap) (xs : List KJob) [s : Arr v encJob 4 h xs] (hl : xs.length ≤ 68719476736) :
    Spec Tryz.prog 38 #[v] [] [h] (fun v' hs => ∃ h', hs = [h'] ∧ OArr v' encJob 4 31 h' xs) := by
  refine Spec.intro (fn := Tryz.f38) (N := 8) Tryz.func38 rfl Tryz.ntmps38 rfl fun B => ?_
  refine XK.seq ?_
  refine XK.region rfl ?_
  refine XO.q (Q.assign rfl) ?_
  refine XO.done ?_
  refine XK.seq ?_
  refine XK.seq ?_
  refine XK.region rfl ?_
  refine XO.q (Q.move rfl) ?_
  refine XO.eqNil rfl fun z4 hz4 => ?_
  refine XO.done ?_
  refine XK.if rfl (fun c0 => ?_) (fun c0 => ?_)
  · have _t0 := True.intro
    refine XK.seq ?_
    refine XK.region rfl ?_
    refine XO.q (Q.assign rfl) ?_
    refine XO.done ?_
    refine XK.rt [emp] Tryz.func38 Tryz.results38 (.t rfl .n) ?_
    exact ⟨emp, rfl, by rw [(hz4 c0).1]; exact OArr.nil (fun _ => rfl)⟩
  · have _t0 := True.intro
    refine XK.skip ?_
    refine XK.seq ?_
    refine XK.region rfl ?_
    refine XO.lit [] [] [] encJob (by rfl) (by rfl) rfl (by rfl) (by exact .n _) (fun _ => rfl) (by rfl) rfl (by infer_instance) rfl fun v5 h5 O5 => ?_
    refine XO.q (Q.move rfl) ?_
    refine XO.append rfl rfl rfl rfl (by first | omega | (simp; omega)) fun v7 h7 O7 => ?_
    refine XO.q (Q.assign rfl) ?_
    refine XO.done ?_
    refine XK.rt [h7] Tryz.func38 Tryz.results38 (.t rfl .n) ?_
    exact ⟨h7, rfl, O7⟩
end Go.X

set_option linter.unusedSimpArgs false
set_option linter.unusedVariables false
set_option maxRecDepth 20000
namespace Go.X
open Go.Proofs
theorem equalH_eq (x y : KHour) : (!(decide (x.buy = y.buy) && (decide (x.sell = y.sell) && (decide (x.sun = y.sun) && (decide (x.load = y.load) && (decide (x.carbon = y.carbon) && (decide (x.water = y.water) && true))))))) = decide (¬ x = y) := by
  cases x; cases y
  rw [Bool.eq_iff_iff]
  simp
theorem equalH (v1 v2 : Value) (h1 h2 : PHeap) (xs ys : List KHour) [s1 : Arr v1 encHour 6 h1 xs] [s2 : Arr v2 encHour 6 h2 ys] :
    Spec Tryz.prog 71 #[v1, v2] [] [h1, h2] (fun v hs => v = .bool (decide (xs = ys)) ∧ hs = []) := by
  refine Spec.intro (fn := Tryz.f71) (N := 26) Tryz.func71 rfl Tryz.ntmps71 rfl fun B => ?_
  refine XK.seq ?_
  refine XK.region rfl ?_
  refine XO.q (Q.assign rfl) ?_
  refine XO.done ?_
  refine XK.seq ?_
  refine XK.seq ?_
  refine XK.region rfl ?_
  refine XO.q (Q.move rfl) ?_
  refine XO.len rfl fun l7 => ?_
  refine XO.q (Q.move rfl) ?_
  refine XO.len rfl fun l9 => ?_
  refine XO.q (Q.neq rfl rfl) ?_
  refine XO.done ?_
  refine XK.if rfl (fun c0 => ?_) (fun c0 => ?_)
  · have _t0 := True.intro
    refine XK.seq ?_
    refine XK.region rfl ?_
    refine XO.q (Q.assign rfl) ?_
    refine XO.done ?_
    refine XK.rt [] Tryz.func71 Tryz.results71 (.t rfl .n) ?_
    exact ⟨by rw [decide_eq_false (fun h => c0 (by rw [h]))], rfl⟩
  · have _t0 := True.intro
    refine XK.skip ?_
    refine XK.seq ?_
    refine XK.seq ?_
    refine XK.region rfl ?_
    refine XO.q (Q.move rfl) ?_
    refine XO.len rfl fun l12 => ?_
    refine XO.q (Q.move rfl) ?_
    refine XO.done ?_
    refine XK.block ?_
    refine XK.while (X := Nat) [4, 5, 13, 14, 15, 16, 17, 18, 19, 20, 21, 22, 23, 24, 25] (fun i => [(13, some (.int .i64 (i : Nat)))]) (fun i => []) (fun i => i ≤ xs.length ∧ xs.take i = ys.take i) (fun i => xs.length - i) (0) [] rfl ⟨by omega, rfl⟩ (.c rfl (.base 0 rfl rfl)) ?_
    rintro i ⟨hi, ht⟩ ih0
    dsimp only [List.cons_append, List.nil_append] at ih0 ⊢
    refine XK.seq ?_
    refine XK.region rfl ?_
    refine XO.q (Q.lss rfl rfl) ?_
    refine XO.done ?_
    refine XK.seq ?_
    refine XK.if rfl (fun c1 => ?_) (fun c1 => ?_)
    · have _t1 := True.intro
      refine XK.skip ?_
      refine XK.seq ?_
      refine XK.block ?_
      refine XK.seq ?_
      refine XK.region rfl ?_
      refine XO.q (Q.move rfl) ?_
      refine XO.q (Q.assign rfl) ?_
      refine XO.done ?_
      refine XK.seq ?_
      refine XK.drawn [0, 1, 2, 3, 4, 5, 6, 7, 8] [] [] (.q 0 (.q 1 (.q 2 (.q 3 (.q 4 (.q 5 (.q 6 (.q 7 (.q 8 .done))))))))) Tryz.mixed rfl (by kernel_rfl) ?_
      refine XT.q rfl rfl (Q.move rfl) ?_
      refine XT.q rfl rfl (Q.move rfl) ?_
      refine XT.ix rfl rfl rfl rfl (by omega) (by omega) fun i18 => ?_
      refine XT.q rfl rfl (Q.ldEA [_, _, _, _, _, _] rfl (by first | assumption | omega) rfl rfl) ?_
      refine XT.q rfl rfl (Q.move rfl) ?_
      refine XT.q rfl rfl (Q.move rfl) ?_
      refine XT.ix rfl rfl rfl rfl (by omega) (by omega) fun i22 => ?_
      refine XT.q rfl rfl (Q.ldEA [_, _, _, _, _, _] rfl (by first | assumption | omega) rfl rfl) ?_
      refine XT.q rfl rfl (Q.neqS (us := [_, _, _, _, _, _]) (vs := [_, _, _, _, _, _]) rfl rfl inferInstance (by kernel_rfl) (by kernel_rfl) (.c rfl inferInstance inferInstance rfl rfl (.c rfl inferInstance inferInstance rfl rfl (.c rfl inferInstance inferInstance rfl rfl (.c rfl inferInstance inferInstance rfl rfl (.c rfl inferInstance inferInstance rfl rfl (.c rfl inferInstance inferInstance rfl rfl .n))))))) ?_
      rw [equalH_eq]
      refine XT.done ?_
      refine XK.if rfl (fun c2 => ?_) (fun c2 => ?_)
      · have _t2 := True.intro
        refine XK.seq ?_
        refine XK.region rfl ?_
        refine XO.q (Q.assign rfl) ?_
        refine XO.done ?_
        refine XK.rt [] Tryz.func71 Tryz.results71 (.t rfl .n) ?_
        exact ⟨by rw [decide_eq_false (fun h => c2 (by rw [h]))], rfl⟩
      · have _t2 := True.intro
        refine XK.skip ?_
        refine XK.inBlock ?_
        refine XK.region rfl ?_
        refine XO.q (Q.add rfl rfl ⟨by omega, by omega⟩) ?_
        refine XO.q (Q.move rfl) ?_
        refine XO.done ?_
        exact ih0 (i + 1) _ _ ⟨by omega, take_step ht (by omega) (by omega) (Decidable.of_not_not c2)⟩ (by first | omega | (dsimp only; omega)) (.c rfl (.base 30 rfl rfl)) inferInstance
    · have _t1 := True.intro
      refine XK.exit rfl ?_
      refine XK.seq ?_
      refine XK.region rfl ?_
      refine XO.q (Q.assign rfl) ?_
      refine XO.done ?_
      refine XK.rt [] Tryz.func71 Tryz.results71 (.t rfl .n) ?_
      exact ⟨by rw [decide_eq_true (take_all ht c1 (by omega))], rfl⟩
theorem equalJ_eq (x y : KJob) : (!(decide (x.beg = y.beg) && (decide (x.fin = y.fin) && (decide (x.hours = y.hours) && (decide (x.power = y.power) && true))))) = decide (¬ x = y) := by
  cases x; cases y
  rw [Bool.eq_iff_iff]
  simp
theorem equalJ (v1 v2 : Value) (h1 h2 : PHeap) (xs ys : List KJob) [s1 : Arr v1 encJob 4 h1 xs] [s2 : Arr v2 encJob 4 h2 ys] :
    Spec Tryz.prog 72 #[v1, v2] [] [h1, h2] (fun v hs => v = .bool (decide (xs = ys)) ∧ hs = []) := by
  refine Spec.intro (fn := Tryz.f72) (N := 26) Tryz.func72 rfl Tryz.ntmps72 rfl fun B => ?_
  refine XK.seq ?_
  refine XK.region rfl ?_
  refine XO.q (Q.assign rfl) ?_
  refine XO.done ?_
  refine XK.seq ?_
  refine XK.seq ?_
  refine XK.region rfl ?_
  refine XO.q (Q.move rfl) ?_
  refine XO.len rfl fun l7 => ?_
  refine XO.q (Q.move rfl) ?_
  refine XO.len rfl fun l9 => ?_
  refine XO.q (Q.neq rfl rfl) ?_
  refine XO.done ?_
  refine XK.if rfl (fun c0 => ?_) (fun c0 => ?_)
  · have _t0 := True.intro
    refine XK.seq ?_
    refine XK.region rfl ?_
    refine XO.q (Q.assign rfl) ?_
    refine XO.done ?_
    refine XK.rt [] Tryz.func72 Tryz.results72 (.t rfl .n) ?_
    exact ⟨by rw [decide_eq_false (fun h => c0 (by rw [h]))], rfl⟩
  · have _t0 := True.intro
    refine XK.skip ?_
    refine XK.seq ?_
    refine XK.seq ?_
    refine XK.region rfl ?_
    refine XO.q (Q.move rfl) ?_
    refine XO.len rfl fun l12 => ?_
    refine XO.q (Q.move rfl) ?_
    refine XO.done ?_
    refine XK.block ?_
    refine XK.while (X := Nat) [4, 5, 13, 14, 15, 16, 17, 18, 19, 20, 21, 22, 23, 24, 25] (fun i => [(13, some (.int .i64 (i : Nat)))]) (fun i => []) (fun i => i ≤ xs.length ∧ xs.take i = ys.take i) (fun i => xs.length - i) (0) [] rfl ⟨by omega, rfl⟩ (.c rfl (.base 0 rfl rfl)) ?_
    rintro i ⟨hi, ht⟩ ih0
    dsimp only [List.cons_append, List.nil_append] at ih0 ⊢
    refine XK.seq ?_
    refine XK.region rfl ?_
    refine XO.q (Q.lss rfl rfl) ?_
    refine XO.done ?_
    refine XK.seq ?_
    refine XK.if rfl (fun c1 => ?_) (fun c1 => ?_)
    · have _t1 := True.intro
      refine XK.skip ?_
      refine XK.seq ?_
      refine XK.block ?_
      refine XK.seq ?_
      refine XK.region rfl ?_
      refine XO.q (Q.move rfl) ?_
      refine XO.q (Q.assign rfl) ?_
      refine XO.done ?_
      refine XK.seq ?_
      refine XK.drawn [0, 1, 2, 3, 4, 5, 6, 7, 8] [] [] (.q 0 (.q 1 (.q 2 (.q 3 (.q 4 (.q 5 (.q 6 (.q 7 (.q 8 .done))))))))) Tryz.mixed rfl (by kernel_rfl) ?_
      refine XT.q rfl rfl (Q.move rfl) ?_
      refine XT.q rfl rfl (Q.move rfl) ?_
      refine XT.ix rfl rfl rfl rfl (by omega) (by omega) fun i18 => ?_
      refine XT.q rfl rfl (Q.ldEA [_, _, _, _] rfl (by first | assumption | omega) rfl rfl) ?_
      refine XT.q rfl rfl (Q.move rfl) ?_
      refine XT.q rfl rfl (Q.move rfl) ?_
      refine XT.ix rfl rfl rfl rfl (by omega) (by omega) fun i22 => ?_
      refine XT.q rfl rfl (Q.ldEA [_, _, _, _] rfl (by first | assumption | omega) rfl rfl) ?_
      refine XT.q rfl rfl (Q.neqS (us := [_, _, _, _]) (vs := [_, _, _, _]) rfl rfl inferInstance (by kernel_rfl) (by kernel_rfl) (.c rfl inferInstance inferInstance rfl rfl (.c rfl inferInstance inferInstance rfl rfl (.c rfl inferInstance inferInstance rfl rfl (.c rfl inferInstance inferInstance rfl rfl .n))))) ?_
      rw [equalJ_eq]
      refine XT.done ?_
      refine XK.if rfl (fun c2 => ?_) (fun c2 => ?_)
      · have _t2 := True.intro
        refine XK.seq ?_
        refine XK.region rfl ?_
        refine XO.q (Q.assign rfl) ?_
        refine XO.done ?_
        refine XK.rt [] Tryz.func72 Tryz.results72 (.t rfl .n) ?_
        exact ⟨by rw [decide_eq_false (fun h => c2 (by rw [h]))], rfl⟩
      · have _t2 := True.intro
        refine XK.skip ?_
        refine XK.inBlock ?_
        refine XK.region rfl ?_
        refine XO.q (Q.add rfl rfl ⟨by omega, by omega⟩) ?_
        refine XO.q (Q.move rfl) ?_
        refine XO.done ?_
        exact ih0 (i + 1) _ _ ⟨by omega, take_step ht (by omega) (by omega) (Decidable.of_not_not c2)⟩ (by first | omega | (dsimp only; omega)) (.c rfl (.base 30 rfl rfl)) inferInstance
    · have _t1 := True.intro
      refine XK.exit rfl ?_
      refine XK.seq ?_
      refine XK.region rfl ?_
      refine XO.q (Q.assign rfl) ?_
      refine XO.done ?_
      refine XK.rt [] Tryz.func72 Tryz.results72 (.t rfl .n) ?_
      exact ⟨by rw [decide_eq_true (take_all ht c1 (by omega))], rfl⟩
set_option maxHeartbeats 2000000 in
theorem copied_spec (d : KDay) (vh vj : Value) (hh hj : PHeap) [ih : Arr vh encHour 6 hh d.hours] [ij : Arr vj encJob 4 hj d.jobs] (nh : d.hours.length ≤ 1000) (nj : d.jobs.length ≤ 1000) : Spec Tryz.prog 8 #[.agg #[vh, .int .i64 d.store.energy, .int .i64 d.store.full, .int .i64 d.store.power, .int .i64 d.store.fin, vj, .int .i64 d.most, .int .i64 d.peak]] [] [hh, hj] (fun v hs => ∃ a1 a2 a3 a4 k1 k2 k3 k4, v = .tuple #[.agg #[a1, .int .i64 d.store.energy, .int .i64 d.store.full, .int .i64 d.store.power, .int .i64 d.store.fin, a2, .int .i64 d.most, .int .i64 d.peak], .agg #[a3, .int .i64 d.store.energy, .int .i64 d.store.full, .int .i64 d.store.power, .int .i64 d.store.fin, a4, .int .i64 d.most, .int .i64 d.peak]] ∧ hs = [k1, k2, k3, k4] ∧ OArr a1 encHour 6 29 k1 d.hours ∧ OArr a2 encJob 4 31 k2 d.jobs ∧ OArr a3 encHour 6 100 k3 d.hours ∧ OArr a4 encJob 4 101 k4 d.jobs) := by
  have nB : OArr (.slice none 0 0) encHour 6 100 emp ([] : List KHour) := OArr.nil (fun _ => rfl)
  have nG : OArr (.slice none 0 0) encJob 4 101 emp ([] : List KJob) := OArr.nil (fun _ => rfl)
  refine Spec.intro (fn := Tryz.f8) (N := 60) Tryz.func8 rfl Tryz.ntmps8 rfl fun B => ?_
  refine XK.seq ?_
  refine XK.region rfl ?_
  refine XO.box rfl fun b1 => ?_
  refine XO.alloc fun b2 => ?_
  refine XO.alloc fun b3 => ?_
  refine XO.done ?_
  refine XK.seq ?_
  refine XK.meet (X := Nat × Value × Value × PHeap × PHeap) [4, 10, 11, 12, 13, 14, 15, 16, 17, 18, 19, 20, 21, 22] (fun ⟨b4, v12, v17, k12, k17⟩ => [(4, some (ptr b4 0))]) (fun ⟨b4, v12, v17, k12, k17⟩ => [blk b4 [v12, .int .i64 d.store.energy, .int .i64 d.store.full, .int .i64 d.store.power, .int .i64 d.store.fin, v17, .int .i64 d.most, .int .i64 d.peak] 27, k12, k17]) (fun ⟨b4, v12, v17, k12, k17⟩ => OArr v12 encHour 6 29 k12 d.hours ∧ OArr v17 encJob 4 31 k17 d.jobs) [] ?_ ?_
  · rintro ⟨b4, v12, v17, k12, k17⟩ ⟨O12, O17⟩
    dsimp only [List.cons_append, List.nil_append]
    refine XK.seq ?_
    refine XK.region rfl ?_
    refine XO.q (Q.fieldAddr rfl) ?_
    refine XO.q (Q.ldA [_, _, _, _] rfl rfl rfl) ?_
    refine XO.q (Q.fieldAddr rfl) ?_
    refine XO.q (Q.ld rfl rfl) ?_
    refine XO.q (Q.fieldAddr rfl) ?_
    refine XO.q (Q.ld rfl rfl) ?_
    refine XO.q (Q.build [_, _, _, _, _, _, _, _] (.c 1 4 rfl rfl rfl (.c 6 1 rfl rfl rfl (.c 7 1 rfl rfl rfl (.n _))))) ?_
    refine XO.alloc fun b5 => ?_
    refine XO.st rfl rfl rfl ?_
    refine XO.done ?_
    refine XK.seq ?_
    refine XK.seq ?_
    refine XK.region rfl ?_
    refine XO.q (Q.fieldAddr rfl) ?_
    refine XO.q (Q.ld rfl rfl) ?_
    refine XO.len rfl fun l32 => ?_
    refine XO.q (Q.move rfl) ?_
    refine XO.done ?_
    refine XK.block ?_
    refine XK.while (X := Nat × Value × PHeap) [7, 33, 34, 35, 36, 37, 38, 39, 40, 41, 42, 43] (fun ⟨i, w, k⟩ => [(33, some (.int .i64 (i : Nat)))]) (fun ⟨i, w, k⟩ => [blk b5 [w, .int .i64 d.store.energy, .int .i64 d.store.full, .int .i64 d.store.power, .int .i64 d.store.fin, .slice none 0 0, .int .i64 d.most, .int .i64 d.peak] 50, k]) (fun ⟨i, w, k⟩ => i ≤ d.hours.length ∧ OArr w encHour 6 100 k (d.hours.take i)) (fun ⟨i, w, k⟩ => d.hours.length - i) (0, .slice none 0 0, emp) [blk b5 [.slice none 0 0, .int .i64 d.store.energy, .int .i64 d.store.full, .int .i64 d.store.power, .int .i64 d.store.fin, .slice none 0 0, .int .i64 d.most, .int .i64 d.peak] 50, emp] rfl ⟨by omega, nB⟩ (.c rfl (.base 0 rfl rfl)) ?_
    rintro ⟨i, w, k⟩ ⟨hi, OB⟩ ih0
    dsimp only [List.cons_append, List.nil_append] at ih0 ⊢
    have el : (d.hours.take i).length = i := by rw [List.length_take]; omega
    refine XK.seq ?_
    refine XK.region rfl ?_
    refine XO.q (Q.lss rfl rfl) ?_
    refine XO.done ?_
    refine XK.seq ?_
    refine XK.if rfl (fun c0 => ?_) (fun c0 => ?_)
    · have _t0 := True.intro
      refine XK.skip ?_
      refine XK.seq ?_
      refine XK.block ?_
      refine XK.seq ?_
      refine XK.region rfl ?_
      refine XO.ix rfl rfl (by omega) (by omega) fun i35 => ?_
      refine XO.q (Q.ldEA [_, _, _, _, _, _] rfl (by first | assumption | omega) rfl rfl) ?_
      refine XO.alloc fun b7 => ?_
      refine XO.st rfl rfl rfl ?_
      refine XO.done ?_
      refine XK.region rfl ?_
      refine XO.q (Q.fieldAddr rfl) ?_
      refine XO.q (Q.ld rfl rfl) ?_
      refine XO.q (Q.ldA [_, _, _, _, _, _] rfl rfl rfl) ?_
      refine XO.lit [_, _, _, _, _, _] [_, _, _, _, _, _] [d.hours.getD i default] encHour (by rfl) (by rfl) rfl (by rfl) (by exact .c 0 6 rfl rfl rfl (.n _)) (fun _ => rfl) (by rfl) rfl (by infer_instance) rfl fun v40 h40 O40 => ?_
      refine XO.append rfl rfl rfl rfl (by simp only [List.length_cons, List.length_nil]; omega) fun v41 h41 O41 => ?_
      refine XO.q (Q.fieldAddr rfl) ?_
      refine XO.st rfl rfl rfl ?_
      refine XO.done ?_
      refine XK.inBlock ?_
      refine XK.region rfl ?_
      refine XO.q (Q.add rfl rfl ⟨by omega, by omega⟩) ?_
      refine XO.q (Q.move rfl) ?_
      refine XO.done ?_
      exact ih0 (i + 1, v41, h41) _ _ ⟨by dsimp only; omega, by dsimp only; rw [take_snocK (by omega)]; exact O41⟩ (by first | omega | (dsimp only; omega)) (.c rfl (.base 25 rfl rfl)) inferInstance
    · have _t0 := True.intro
      have hil : i = d.hours.length := by omega
      subst hil
      rw [List.take_length] at OB
      clear ih0
      refine XK.exit rfl ?_
      refine XK.seq ?_
      refine XK.seq ?_
      refine XK.region rfl ?_
      refine XO.q (Q.fieldAddr rfl) ?_
      refine XO.q (Q.ld rfl rfl) ?_
      refine XO.len rfl fun l46 => ?_
      refine XO.q (Q.move rfl) ?_
      refine XO.done ?_
      refine XK.block ?_
      refine XK.while (X := Nat × Value × PHeap) [9, 47, 48, 49, 50, 51, 52, 53, 54, 55, 56, 57] (fun ⟨i, w2, k2⟩ => [(47, some (.int .i64 (i : Nat)))]) (fun ⟨i, w2, k2⟩ => [blk b5 [w, .int .i64 d.store.energy, .int .i64 d.store.full, .int .i64 d.store.power, .int .i64 d.store.fin, w2, .int .i64 d.most, .int .i64 d.peak] 50, k2]) (fun ⟨i, w2, k2⟩ => i ≤ d.jobs.length ∧ OArr w2 encJob 4 101 k2 (d.jobs.take i)) (fun ⟨i, w2, k2⟩ => d.jobs.length - i) (0, .slice none 0 0, emp) [blk b5 [w, .int .i64 d.store.energy, .int .i64 d.store.full, .int .i64 d.store.power, .int .i64 d.store.fin, .slice none 0 0, .int .i64 d.most, .int .i64 d.peak] 50, emp] rfl ⟨by omega, nG⟩ (.c rfl (.base 0 rfl rfl)) ?_
      rintro ⟨i, w2, k2⟩ ⟨hi, OG⟩ ih1
      dsimp only [List.cons_append, List.nil_append] at ih1 ⊢
      have el : (d.jobs.take i).length = i := by rw [List.length_take]; omega
      refine XK.seq ?_
      refine XK.region rfl ?_
      refine XO.q (Q.lss rfl rfl) ?_
      refine XO.done ?_
      refine XK.seq ?_
      refine XK.if rfl (fun c1 => ?_) (fun c1 => ?_)
      · have _t1 := True.intro
        refine XK.skip ?_
        refine XK.seq ?_
        refine XK.block ?_
        refine XK.seq ?_
        refine XK.region rfl ?_
        refine XO.ix rfl rfl (by omega) (by omega) fun i49 => ?_
        refine XO.q (Q.ldEA [_, _, _, _] rfl (by first | assumption | omega) rfl rfl) ?_
        refine XO.alloc fun b9 => ?_
        refine XO.st rfl rfl rfl ?_
        refine XO.done ?_
        refine XK.region rfl ?_
        refine XO.q (Q.fieldAddr rfl) ?_
        refine XO.q (Q.ld rfl rfl) ?_
        refine XO.q (Q.ldA [_, _, _, _] rfl rfl rfl) ?_
        refine XO.lit [_, _, _, _] [_, _, _, _] [d.jobs.getD i default] encJob (by rfl) (by rfl) rfl (by rfl) (by exact .c 0 4 rfl rfl rfl (.n _)) (fun _ => rfl) (by rfl) rfl (by infer_instance) rfl fun v54 h54 O54 => ?_
        refine XO.append rfl rfl rfl rfl (by simp only [List.length_cons, List.length_nil]; omega) fun v55 h55 O55 => ?_
        refine XO.q (Q.fieldAddr rfl) ?_
        refine XO.st rfl rfl rfl ?_
        refine XO.done ?_
        refine XK.inBlock ?_
        refine XK.region rfl ?_
        refine XO.q (Q.add rfl rfl ⟨by omega, by omega⟩) ?_
        refine XO.q (Q.move rfl) ?_
        refine XO.done ?_
        exact ih1 (i + 1, v55, h55) _ _ ⟨by dsimp only; omega, by dsimp only; rw [take_snocK (by omega)]; exact O55⟩ (by first | omega | (dsimp only; omega)) (.c rfl (.base 25 rfl rfl)) inferInstance
      · have _t1 := True.intro
        refine XK.exit rfl ?_
        refine XK.seq ?_
        refine XK.drawn [0, 1] [b4, b5] [] (.q 0 (.q 1 (.br 2 true (.br 3 false .done .stop) .stop))) Tryz.mixed rfl (by kernel_rfl) ?_
        refine XT.q rfl rfl (Q.ldA [_, _, _, _, _, _, _, _] rfl rfl rfl) ?_
        refine XT.q rfl rfl (Q.ldA [_, _, _, _, _, _, _, _] rfl rfl rfl) ?_
        refine XT.st rfl rfl rfl rfl rfl ⟨inferInstance, ?_⟩ XT.stop
        refine XT.st rfl rfl rfl rfl rfl ⟨inferInstance, ?_⟩ XT.stop
        refine XT.done ?_
        refine XK.rt [k12, k17, k, k2] Tryz.func8 Tryz.results8 (.cell [_, _, _, _, _, _, _, _] rfl rfl rfl (.cell [_, _, _, _, _, _, _, _] rfl rfl rfl (.n))) ?_
        have hil : i = d.jobs.length := by omega
        subst hil
        rw [List.take_length] at OG
        exact ⟨v12, v17, w, w2, k12, k17, k, k2, rfl, rfl, O12, O17, OB, OG⟩
  · intro mtr1
    dsimp only [List.cons_append, List.nil_append] at mtr1
    refine XK.drawn [0, 1, 3, 4, 5, 6, 8, 9, 10, 11, 12] [b1] [] (.q 0 (.q 1 (.q 3 (.q 4 (.q 5 (.q 6 (.q 8 (.q 9 (.q 10 (.q 11 (.br 2 true (.br 7 true (.q 12 (.br 13 true (.br 14 false .done .stop) .stop)) (.br 13 true (.br 7 true (.q 12 (.br 14 false .done .stop)) .stop) .stop)) (.br 13 true (.br 2 true (.br 7 true (.q 12 (.br 14 false .done .stop)) .stop) .stop) .stop)))))))))))) Tryz.mixed rfl (by kernel_rfl) ?_
    refine XT.q rfl rfl (Q.fieldAddr rfl) ?_
    refine XT.q rfl rfl (Q.ld rfl rfl) ?_
    refine XT.q rfl rfl (Q.fieldAddr rfl) ?_
    refine XT.q rfl rfl (Q.ldA [_, _, _, _] rfl rfl rfl) ?_
    refine XT.q rfl rfl (Q.fieldAddr rfl) ?_
    refine XT.q rfl rfl (Q.ld rfl rfl) ?_
    refine XT.q rfl rfl (Q.fieldAddr rfl) ?_
    refine XT.q rfl rfl (Q.ld rfl rfl) ?_
    refine XT.q rfl rfl (Q.fieldAddr rfl) ?_
    refine XT.q rfl rfl (Q.ld rfl rfl) ?_
    refine XT.call rfl rfl Tryz.call37 rfl rfl rfl (cloneH vh hh d.hours (by omega)) (fun v12 s12 R12 => ?_) ?_
    · skip
      obtain ⟨k12, rfl, O12⟩ := R12
      dsimp only [List.cons_append, List.nil_append]
      refine ⟨inferInstance, ?_⟩
      refine XT.call rfl rfl Tryz.call38 rfl rfl rfl (cloneJ vj hj d.jobs (by omega)) (fun v17 s17 R17 => ?_) ?_
      · skip
        obtain ⟨k17, rfl, O17⟩ := R17
        dsimp only [List.cons_append, List.nil_append]
        refine ⟨inferInstance, ?_⟩
        refine XT.q rfl rfl (Q.build [_, _, _, _, _, _, _, _] (.c 0 1 rfl rfl rfl (.c 1 4 rfl rfl rfl (.c 5 1 rfl rfl rfl (.c 6 1 rfl rfl rfl (.c 7 1 rfl rfl rfl (.n _))))))) ?_
        refine XT.alloc rfl rfl (fun b4 => ⟨inferInstance, ?_⟩) XT.stop
        refine XT.st rfl rfl rfl rfl rfl ⟨inferInstance, ?_⟩ XT.stop
        refine XT.done ?_
        exact mtr1 ((b4, v12, v17, k12, k17)) _ _ ⟨O12, O17⟩ (.c rfl (.base 14 rfl rfl)) inferInstance
      · skip
        refine XT.alloc rfl rfl (fun b4 => ⟨inferInstance, ?_⟩) XT.stop
        refine XT.call rfl rfl Tryz.call38 rfl rfl rfl (cloneJ vj hj d.jobs (by omega)) (fun v17 s17 R17 => ?_) XT.stop
        obtain ⟨k17, rfl, O17⟩ := R17
        dsimp only [List.cons_append, List.nil_append]
        refine ⟨inferInstance, ?_⟩
        refine XT.q rfl rfl (Q.build [_, _, _, _, _, _, _, _] (.c 0 1 rfl rfl rfl (.c 1 4 rfl rfl rfl (.c 5 1 rfl rfl rfl (.c 6 1 rfl rfl rfl (.c 7 1 rfl rfl rfl (.n _))))))) ?_
        refine XT.st rfl rfl rfl rfl rfl ⟨inferInstance, ?_⟩ XT.stop
        refine XT.done ?_
        exact mtr1 ((b4, v12, v17, k12, k17)) _ _ ⟨O12, O17⟩ (.c rfl (.base 14 rfl rfl)) inferInstance
    · skip
      refine XT.alloc rfl rfl (fun b4 => ⟨inferInstance, ?_⟩) XT.stop
      refine XT.call rfl rfl Tryz.call37 rfl rfl rfl (cloneH vh hh d.hours (by omega)) (fun v12 s12 R12 => ?_) XT.stop
      obtain ⟨k12, rfl, O12⟩ := R12
      dsimp only [List.cons_append, List.nil_append]
      refine ⟨inferInstance, ?_⟩
      refine XT.call rfl rfl Tryz.call38 rfl rfl rfl (cloneJ vj hj d.jobs (by omega)) (fun v17 s17 R17 => ?_) XT.stop
      obtain ⟨k17, rfl, O17⟩ := R17
      dsimp only [List.cons_append, List.nil_append]
      refine ⟨inferInstance, ?_⟩
      refine XT.q rfl rfl (Q.build [_, _, _, _, _, _, _, _] (.c 0 1 rfl rfl rfl (.c 1 4 rfl rfl rfl (.c 5 1 rfl rfl rfl (.c 6 1 rfl rfl rfl (.c 7 1 rfl rfl rfl (.n _))))))) ?_
      refine XT.st rfl rfl rfl rfl rfl ⟨inferInstance, ?_⟩ XT.stop
      refine XT.done ?_
      exact mtr1 ((b4, v12, v17, k12, k17)) _ _ ⟨O12, O17⟩ (.c rfl (.base 14 rfl rfl)) inferInstance
set_option maxHeartbeats 2000000 in
theorem planned_spec (p : KPlan) (vs vc : Value) (hs_ hc : PHeap) [js : Arr vs encI 1 hs_ p.starts] [jc : Arr vc encI 1 hc p.charge] (ns : p.starts.length ≤ 1000) (nc : p.charge.length ≤ 1000) : Spec Tryz.prog 9 #[.agg #[vs, vc, .int .i64 p.cost]] [] [hs_, hc] (fun v hs => ∃ a1 a2 a3 a4 k1 k2 k3 k4, v = .tuple #[.agg #[a1, a2, .int .i64 p.cost], .agg #[a3, a4, .int .i64 p.cost]] ∧ hs = [k1, k2, k3, k4] ∧ OArr a1 encI 1 3 k1 p.starts ∧ OArr a2 encI 1 3 k2 p.charge ∧ OArr a3 encI 1 3 k3 p.starts ∧ OArr a4 encI 1 3 k4 p.charge) := by
  refine Spec.intro (fn := Tryz.f9) (N := 22) Tryz.func9 rfl Tryz.ntmps9 rfl fun B => ?_
  refine XK.seq ?_
  refine XK.region rfl ?_
  refine XO.box rfl fun b1 => ?_
  refine XO.alloc fun b2 => ?_
  refine XO.alloc fun b3 => ?_
  refine XO.done ?_
  refine XK.seq ?_
  refine XK.drawn [0, 1, 3, 4, 6, 7, 9, 10, 12, 13, 15, 16, 8, 17] [b1] [] (.q 0 (.q 1 (.q 3 (.q 4 (.q 6 (.q 7 (.q 9 (.q 10 (.q 12 (.q 13 (.q 15 (.q 16 (.br 2 true (.br 5 true (.q 8 (.br 11 true (.br 14 true (.q 17 (.br 18 true (.br 19 false .done .stop) .stop)) .stop) .stop)) .stop) .stop))))))))))))) Tryz.mixed rfl (by kernel_rfl) ?_
  refine XT.q rfl rfl (Q.fieldAddr rfl) ?_
  refine XT.q rfl rfl (Q.ld rfl rfl) ?_
  refine XT.q rfl rfl (Q.fieldAddr rfl) ?_
  refine XT.q rfl rfl (Q.ld rfl rfl) ?_
  refine XT.q rfl rfl (Q.fieldAddr rfl) ?_
  refine XT.q rfl rfl (Q.ld rfl rfl) ?_
  refine XT.q rfl rfl (Q.fieldAddr rfl) ?_
  refine XT.q rfl rfl (Q.ld rfl rfl) ?_
  refine XT.q rfl rfl (Q.fieldAddr rfl) ?_
  refine XT.q rfl rfl (Q.ld rfl rfl) ?_
  refine XT.q rfl rfl (Q.fieldAddr rfl) ?_
  refine XT.q rfl rfl (Q.ld rfl rfl) ?_
  refine XT.call rfl rfl Tryz.call31 rfl rfl rfl (cloneI vs hs_ p.starts (by omega)) (fun v6 s6 R6 => ?_) XT.stop
  obtain ⟨k6, rfl, O6⟩ := R6
  dsimp only [List.cons_append, List.nil_append]
  refine ⟨inferInstance, ?_⟩
  refine XT.call rfl rfl Tryz.call31 rfl rfl rfl (cloneI vc hc p.charge (by omega)) (fun v9 s9 R9 => ?_) XT.stop
  obtain ⟨k9, rfl, O9⟩ := R9
  dsimp only [List.cons_append, List.nil_append]
  refine ⟨inferInstance, ?_⟩
  refine XT.q rfl rfl (Q.build [_, _, _] (.c 0 1 rfl rfl rfl (.c 1 1 rfl rfl rfl (.c 2 1 rfl rfl rfl (.n _))))) ?_
  refine XT.call rfl rfl Tryz.call31 rfl rfl rfl (cloneI vs hs_ p.starts (by omega)) (fun v15 s15 R15 => ?_) XT.stop
  obtain ⟨k15, rfl, O15⟩ := R15
  dsimp only [List.cons_append, List.nil_append]
  refine ⟨inferInstance, ?_⟩
  refine XT.call rfl rfl Tryz.call31 rfl rfl rfl (cloneI vc hc p.charge (by omega)) (fun v18 s18 R18 => ?_) XT.stop
  obtain ⟨k18, rfl, O18⟩ := R18
  dsimp only [List.cons_append, List.nil_append]
  refine ⟨inferInstance, ?_⟩
  refine XT.q rfl rfl (Q.build [_, _, _] (.c 0 1 rfl rfl rfl (.c 1 1 rfl rfl rfl (.c 2 1 rfl rfl rfl (.n _))))) ?_
  refine XT.st rfl rfl rfl rfl rfl ⟨inferInstance, ?_⟩ XT.stop
  refine XT.st rfl rfl rfl rfl rfl ⟨inferInstance, ?_⟩ XT.stop
  refine XT.done ?_
  refine XK.rt [k6, k9, k15, k18] Tryz.func9 Tryz.results9 (.cell [_, _, _] rfl rfl rfl (.cell [_, _, _] rfl rfl rfl (.n))) ?_
  exact ⟨v6, v9, v15, v18, k6, k9, k15, k18, rfl, rfl, O6, O9, O15, O18⟩
theorem kept_spec (d : KDay) (vh vj : Value) (hh hj : PHeap) [ih : Arr vh encHour 6 hh d.hours] [ij : Arr vj encJob 4 hj d.jobs] (vh2 vj2 : Value) (hh2 hj2 : PHeap) [ih2 : Arr vh2 encHour 6 hh2 d.hours] [ij2 : Arr vj2 encJob 4 hj2 d.jobs] : Spec Tryz.prog 28 #[.agg #[vh, .int .i64 d.store.energy, .int .i64 d.store.full, .int .i64 d.store.power, .int .i64 d.store.fin, vj, .int .i64 d.most, .int .i64 d.peak], .agg #[vh2, .int .i64 d.store.energy, .int .i64 d.store.full, .int .i64 d.store.power, .int .i64 d.store.fin, vj2, .int .i64 d.most, .int .i64 d.peak]] [] [hh, hj, hh2, hj2] (fun v hs => v = .bool true ∧ hs = []) := by
  refine Spec.intro (fn := Tryz.f28) (N := 38) Tryz.func28 rfl Tryz.ntmps28 rfl fun B => ?_
  refine XK.seq ?_
  refine XK.region rfl ?_
  refine XO.box rfl fun b2 => ?_
  refine XO.box rfl fun b3 => ?_
  refine XO.q (Q.assign rfl) ?_
  refine XO.done ?_
  refine XK.seq ?_
  refine XK.region rfl ?_
  refine XO.q (Q.fieldAddr rfl) ?_
  refine XO.q (Q.ld rfl rfl) ?_
  refine XO.q (Q.fieldAddr rfl) ?_
  refine XO.q (Q.ld rfl rfl) ?_
  refine XO.call Tryz.call71 rfl rfl rfl (equalH vh vh2 hh hh2 d.hours d.hours) fun v9 s9 R9 => ?_
  obtain ⟨rfl, rfl⟩ := R9
  dsimp only [List.cons_append, List.nil_append]
  refine XO.q (Q.move rfl) ?_
  refine XO.q (Quiet.guardT rfl rfl fun g11 p11 => Q.fieldAddr rfl) ?_
  refine XO.q (Quiet.guardT rfl rfl fun g12 p12 => Q.ld (lzv g12 rfl) rfl) ?_
  refine XO.q (Quiet.guardT rfl rfl fun g13 p13 => Q.fieldAddr rfl) ?_
  refine XO.q (Quiet.guardT rfl rfl fun g14 p14 => Q.ld (lzv g14 rfl) rfl) ?_
  refine XO.gcallT rfl rfl Tryz.call72 rfl (fun g15 => .c (lzv g15 rfl) (.c (lzv g15 rfl) .n)) rfl (fun g15 p15 => equalJ vj vj2 hj hj2 d.jobs d.jobs) ?_
  refine XO.q (Q.and rfl (fun hp => lzv hp rfl)) ?_
  refine XO.q (Q.move rfl) ?_
  refine XO.q (Quiet.guardT rfl rfl fun g18 p18 => Q.fieldAddr rfl) ?_
  refine XO.q (Quiet.guardT rfl rfl fun g19 p19 => Q.ldA [_, _, _, _] (lzv g19 rfl) rfl rfl) ?_
  refine XO.q (Quiet.guardT rfl rfl fun g20 p20 => Q.fieldAddr rfl) ?_
  refine XO.q (Quiet.guardT rfl rfl fun g21 p21 => Q.ldA [_, _, _, _] (lzv g21 rfl) rfl rfl) ?_
  refine XO.q (Quiet.guardT rfl rfl fun g22 p22 => Q.eqlS (us := [_, _, _, _]) (vs := [_, _, _, _]) (lzv g22 rfl) (lzv g22 rfl) inferInstance (by kernel_rfl) (by kernel_rfl) (.c rfl inferInstance inferInstance rfl rfl (.c rfl inferInstance inferInstance rfl rfl (.c rfl inferInstance inferInstance rfl rfl (.c rfl inferInstance inferInstance rfl rfl .n))))) ?_
  refine XO.q (Q.and rfl (fun hp => lzv hp rfl)) ?_
  refine XO.q (Q.move rfl) ?_
  refine XO.q (Quiet.guardT rfl rfl fun g25 p25 => Q.fieldAddr rfl) ?_
  refine XO.q (Quiet.guardT rfl rfl fun g26 p26 => Q.ld (lzv g26 rfl) rfl) ?_
  refine XO.q (Quiet.guardT rfl rfl fun g27 p27 => Q.fieldAddr rfl) ?_
  refine XO.q (Quiet.guardT rfl rfl fun g28 p28 => Q.ld (lzv g28 rfl) rfl) ?_
  refine XO.q (Quiet.guardT rfl rfl fun g29 p29 => Q.eql (lzv g29 rfl) (lzv g29 rfl)) ?_
  refine XO.q (Q.and rfl (fun hp => lzv hp rfl)) ?_
  refine XO.q (Q.move rfl) ?_
  refine XO.q (Quiet.guardT rfl rfl fun g32 p32 => Q.fieldAddr rfl) ?_
  refine XO.q (Quiet.guardT rfl rfl fun g33 p33 => Q.ld (lzv g33 rfl) rfl) ?_
  refine XO.q (Quiet.guardT rfl rfl fun g34 p34 => Q.fieldAddr rfl) ?_
  refine XO.q (Quiet.guardT rfl rfl fun g35 p35 => Q.ld (lzv g35 rfl) rfl) ?_
  refine XO.q (Quiet.guardT rfl rfl fun g36 p36 => Q.eql (lzv g36 rfl) (lzv g36 rfl)) ?_
  refine XO.q (Q.and rfl (fun hp => lzv hp rfl)) ?_
  refine XO.q (Q.assign rfl) ?_
  refine XO.done ?_
  refine XK.rt [] Tryz.func28 Tryz.results28 (.t rfl .n) ?_
  exact ⟨by simp, rfl⟩
theorem equal_spec (p : KPlan) (vs vc : Value) (hs_ hc : PHeap) [js : Arr vs encI 1 hs_ p.starts] [jc : Arr vc encI 1 hc p.charge] (vs2 vc2 : Value) (hs2 hc2 : PHeap) [js2 : Arr vs2 encI 1 hs2 p.starts] [jc2 : Arr vc2 encI 1 hc2 p.charge] : Spec Tryz.prog 23 #[.agg #[vs, vc, .int .i64 p.cost], .agg #[vs2, vc2, .int .i64 p.cost]] [] [hs_, hc, hs2, hc2] (fun v hs => v = .bool true ∧ hs = []) := by
  refine Spec.intro (fn := Tryz.f23) (N := 24) Tryz.func23 rfl Tryz.ntmps23 rfl fun B => ?_
  refine XK.seq ?_
  refine XK.region rfl ?_
  refine XO.box rfl fun b2 => ?_
  refine XO.box rfl fun b3 => ?_
  refine XO.q (Q.assign rfl) ?_
  refine XO.done ?_
  refine XK.seq ?_
  refine XK.region rfl ?_
  refine XO.q (Q.fieldAddr rfl) ?_
  refine XO.q (Q.ld rfl rfl) ?_
  refine XO.q (Q.fieldAddr rfl) ?_
  refine XO.q (Q.ld rfl rfl) ?_
  refine XO.call Tryz.call34 rfl rfl rfl (equalI vs vs2 hs_ hs2 p.starts p.starts) fun v9 s9 R9 => ?_
  obtain ⟨rfl, rfl⟩ := R9
  dsimp only [List.cons_append, List.nil_append]
  refine XO.q (Q.move rfl) ?_
  refine XO.q (Quiet.guardT rfl rfl fun g11 p11 => Q.fieldAddr rfl) ?_
  refine XO.q (Quiet.guardT rfl rfl fun g12 p12 => Q.ld (lzv g12 rfl) rfl) ?_
  refine XO.q (Quiet.guardT rfl rfl fun g13 p13 => Q.fieldAddr rfl) ?_
  refine XO.q (Quiet.guardT rfl rfl fun g14 p14 => Q.ld (lzv g14 rfl) rfl) ?_
  refine XO.gcallT rfl rfl Tryz.call34 rfl (fun g15 => .c (lzv g15 rfl) (.c (lzv g15 rfl) .n)) rfl (fun g15 p15 => equalI vc vc2 hc hc2 p.charge p.charge) ?_
  refine XO.q (Q.and rfl (fun hp => lzv hp rfl)) ?_
  refine XO.q (Q.move rfl) ?_
  refine XO.q (Quiet.guardT rfl rfl fun g18 p18 => Q.fieldAddr rfl) ?_
  refine XO.q (Quiet.guardT rfl rfl fun g19 p19 => Q.ld (lzv g19 rfl) rfl) ?_
  refine XO.q (Quiet.guardT rfl rfl fun g20 p20 => Q.fieldAddr rfl) ?_
  refine XO.q (Quiet.guardT rfl rfl fun g21 p21 => Q.ld (lzv g21 rfl) rfl) ?_
  refine XO.q (Quiet.guardT rfl rfl fun g22 p22 => Q.eql (lzv g22 rfl) (lzv g22 rfl)) ?_
  refine XO.q (Q.and rfl (fun hp => lzv hp rfl)) ?_
  refine XO.q (Q.assign rfl) ?_
  refine XO.done ?_
  refine XK.rt [] Tryz.func23 Tryz.results23 (.t rfl .n) ?_
  exact ⟨by simp, rfl⟩
end Go.X

set_option linter.unusedSimpArgs false
set_option linter.unusedVariables false
set_option maxRecDepth 20000
namespace Go.X
open Go.Proofs
theorem posB_iff {d : KDay} {n e c : Int} : posB d n e c = true ↔ PosC d n e c := by
  unfold posB PosC
  simp only [Bool.and_eq_true, decide_eq_true_eq]
theorem rat_spec (d : KDay) (vh vj : Value) (hh hj : PHeap) [ih : Arr vh encHour 6 hh d.hours] [ij : Arr vj encJob 4 hj d.jobs] (ok : DayOk d) (h e m : Int) (h0 : 0 ≤ h ∧ h ≤ 100) (e0 : 0 ≤ e ∧ e ≤ 100) (m0 : 0 ≤ m ∧ m ≤ 1000) : Spec Tryz.prog 63 #[.agg #[vh, .int .i64 d.store.energy, .int .i64 d.store.full, .int .i64 d.store.power, .int .i64 d.store.fin, vj, .int .i64 d.most, .int .i64 d.peak], .int .i64 h, .int .i64 e, .int .i64 m] [] [hh, hj] (fun v hs => v = .int .i64 (atK d h e m) ∧ hs = []) := by
  have f0 := ok.store.f0
  have f1 := ok.store.f1
  have q0 := ok.m0
  have q1 := ok.m1
  have p1 := mul_rng (a := d.store.full + 1) (b := h) (m := 11) (n := 100) (by omega) (by omega) h0.1 h0.2 (by omega)
  have p2 := mul_rng (a := d.most + 1) (b := e + (d.store.full + 1) * h) (m := 41) (n := 1200) (by omega) (by omega) (by omega) (by omega) (by omega)
  have ea : m + (d.most + 1) * (e + (d.store.full + 1) * h) = atK d h e m := by
    unfold atK
    rw [Int.mul_comm h, Int.mul_comm _ (d.most + 1), Int.add_comm ((d.store.full + 1) * h) e, Int.add_comm]
  refine Spec.intro (fn := Tryz.f63) (N := 23) Tryz.func63 rfl Tryz.ntmps63 rfl fun B => ?_
  refine XK.seq ?_
  refine XK.region rfl ?_
  refine XO.box rfl fun b4 => ?_
  refine XO.q (Q.assign rfl) ?_
  refine XO.done ?_
  refine XK.seq ?_
  refine XK.region rfl ?_
  refine XO.q (Q.move rfl) ?_
  refine XO.q (Q.fieldAddr rfl) ?_
  refine XO.q (Q.ld rfl rfl) ?_
  refine XO.q (Q.add rfl rfl ⟨by omega, by omega⟩) ?_
  refine XO.q (Q.move rfl) ?_
  refine XO.q (Q.fieldAddr rfl) ?_
  refine XO.q (Q.fieldAddr rfl) ?_
  refine XO.q (Q.ld rfl rfl) ?_
  refine XO.q (Q.add rfl rfl ⟨by omega, by omega⟩) ?_
  refine XO.q (Q.move rfl) ?_
  refine XO.q (Q.mul rfl rfl ⟨by omega, by omega⟩) ?_
  refine XO.q (Q.add rfl rfl ⟨by omega, by omega⟩) ?_
  refine XO.q (Q.mul rfl rfl ⟨by omega, by omega⟩) ?_
  refine XO.q (Q.add rfl rfl ⟨by omega, by omega⟩) ?_
  refine XO.q (Q.assign rfl) ?_
  refine XO.done ?_
  refine XK.rt [] Tryz.func63 Tryz.results63 (.t rfl .n) ?_
  exact ⟨by rw [ea], rfl⟩
set_option maxHeartbeats 2000000 in
theorem rleast_spec (d : KDay) (vh vj : Value) (hh hj : PHeap) [ih : Arr vh encHour 6 hh d.hours] [ij : Arr vj encJob 4 hj d.jobs] (s : List Int) (vs : Value) (hs_ : PHeap) [js : Arr vs encI 1 hs_ s] (vals : List Int) (vt : Value) (ht : PHeap) [jt : Arr vt encI 1 ht vals] (ok : DayOk d) (so : SOk d s) (vl : (vals.length : Int) = sizeK d) (i : Nat) (hi : i < d.hours.length) (e m : Int) (st : StateOk d e m) (hw : ∀ e' m', StateOk d e' m' → -1000000000000000 ≤ atV d vals ((i : Int) + 1) e' m' ∧ atV d vals ((i : Int) + 1) e' m' ≤ 1000000000000000) :
    Spec Tryz.prog 64 #[.agg #[vh, .int .i64 d.store.energy, .int .i64 d.store.full, .int .i64 d.store.power, .int .i64 d.store.fin, vj, .int .i64 d.most, .int .i64 d.peak], vs, vt, .int .i64 (i : Nat), .int .i64 e, .int .i64 m] [] [hh, hj, hs_, ht] (fun v hs => v = .tuple #[.int .i64 (lsF d (d.hours.getD i default) ((needsL d s).getD i default) e m (fun e' m' => atV d vals ((i : Int) + 1) e' m') 21).1, .int .i64 (lsF d (d.hours.getD i default) ((needsL d s).getD i default) e m (fun e' m' => atV d vals ((i : Int) + 1) e' m') 21).2] ∧ hs = []) := by
  have nr := needs_rng ok s hi
  have t0 := st.e0
  have t1 := st.e1
  have t2 := st.m0
  have t3 := st.m1
  have s1 := ok.store.f0
  have s2 := ok.store.f1
  have s3 := ok.store.p0
  have s4 := ok.store.p1
  have s5 := ok.store.e0
  have s6 := ok.store.e1
  have h1 := ok.h1
  have h24 := ok.h2
  have m0 := ok.m0
  have m1 := ok.m1
  have j2 := ok.j2
  refine Spec.intro (fn := Tryz.f64) (N := 69) Tryz.func64 rfl Tryz.ntmps64 rfl fun B => ?_
  refine XK.seq ?_
  refine XK.region rfl ?_
  refine XO.box rfl fun b6 => ?_
  refine XO.q (Q.assign rfl) ?_
  refine XO.q (Q.assign rfl) ?_
  refine XO.done ?_
  refine XK.seq ?_
  refine XK.region rfl ?_
  refine XO.q (Q.assign rfl) ?_
  refine XO.q (Q.assign rfl) ?_
  refine XO.done ?_
  refine XK.seq ?_
  refine XK.seq ?_
  refine XK.region rfl ?_
  refine XO.q (Q.assign rfl) ?_
  refine XO.done ?_
  refine XK.block ?_
  refine XK.while (X := Nat × Int × Int × Int) [14, 15, 16, 17, 18, 19, 20, 21, 22, 23, 24, 25, 26, 27, 28, 29, 30, 31, 32, 33, 34, 35, 36, 37, 38, 39, 40, 41, 42, 43, 44, 45, 46, 47, 48, 49, 50, 51, 52, 53, 54, 55, 56, 57, 58, 59, 60, 61, 62, 63, 64, 65, 66] (fun ⟨j, c, b, g⟩ => [(16, some (.int .i64 c)), (14, some (.int .i64 b)), (15, some (.int .i64 g))]) (fun ⟨j, c, b, g⟩ => []) (fun ⟨j, c, b, g⟩ => (j ≤ 21 ∧ c = -10 + (j : Int)) ∧ (b, g) = (lsF d (d.hours.getD i default) ((needsL d s).getD i default) e m (fun e' m' => atV d vals ((i : Int) + 1) e' m') j)) (fun ⟨j, c, b, g⟩ => 21 - j) (0, -10, 1000000000000000, 0) [] rfl ⟨⟨by omega, rfl⟩, rfl⟩ (.c rfl (.c rfl (.c rfl (.base 0 rfl rfl)))) ?_
  rintro ⟨j, c, b, g⟩ ⟨⟨hjk, hcj⟩, hb⟩ ih0
  dsimp only [List.cons_append, List.nil_append] at ih0 ⊢
  have hb1 : b = (lsF d (d.hours.getD i default) ((needsL d s).getD i default) e m (fun e' m' => atV d vals ((i : Int) + 1) e' m') j).1 := by rw [← hb]
  refine XK.seq ?_
  refine XK.seq ?_
  refine XK.region rfl ?_
  refine XO.q (Q.move rfl) ?_
  refine XO.q (Q.leq rfl rfl) ?_
  refine XO.done ?_
  refine XK.if rfl (fun c0 => ?_) (fun c0 => ?_)
  · have _t0 := True.intro
    refine XK.skip ?_
    refine XK.seq ?_
    refine XK.block ?_
    refine XK.seq ?_
    refine XK.seq ?_
    refine XK.region rfl ?_
    refine XO.q (Q.ldA [_, _, _, _, _, _, _, _] rfl rfl rfl) ?_
    refine XO.q (Q.move rfl) ?_
    refine XO.q (Q.move rfl) ?_
    refine XO.q (Q.move rfl) ?_
    refine XO.q (Q.move rfl) ?_
    refine XO.call Tryz.call87 rfl rfl rfl (rpossible_spec d vh vj hh hj s vs hs_ ok so i hi e c (by omega) (by omega)) fun v28 s28 R28 => ?_
    obtain ⟨rfl, rfl⟩ := R28
    dsimp only [List.cons_append, List.nil_append]
    refine XO.q (Q.not rfl) ?_
    refine XO.done ?_
    refine XK.if rfl (fun c1 => ?_) (fun c1 => ?_)
    · have _t1 := True.intro
      have np : ¬ PosC d ((needsL d s).getD i default) e c := fun h => c1 (posB_iff.2 h)
      have e2 : (lsF d (d.hours.getD i default) ((needsL d s).getD i default) e m (fun e' m' => atV d vals ((i : Int) + 1) e' m') (j + 1)) = (lsF d (d.hours.getD i default) ((needsL d s).getD i default) e m (fun e' m' => atV d vals ((i : Int) + 1) e' m') j) := by rw [lsF, ← hcj]; unfold stepF; rw [if_neg (fun h => np h.1)]
      refine XK.exit rfl ?_
      refine XK.region rfl ?_
      refine XO.q (Q.move rfl) ?_
      refine XO.q (Q.add rfl rfl ⟨by omega, by omega⟩) ?_
      refine XO.q (Q.assign rfl) ?_
      refine XO.done ?_
      exact ih0 (j + 1, c + 1, b, g) _ _ ⟨⟨by dsimp only; omega, by dsimp only; omega⟩, by dsimp only; rw [e2]; exact hb⟩ (by first | omega | (dsimp only; omega)) (.c rfl (.c rfl (.c rfl (.base 68 rfl rfl)))) inferInstance
    · have _t1 := True.intro
      have pc := posB_iff.1 (Decidable.of_not_not c1)
      have pc2 := pc
      unfold PosC at pc2
      have ps := pos_state st pc
      have ar := at_rng ps (show 0 ≤ ((i : Int) + 1) by omega) (by omega)
      have wv := hw _ _ ps
      have av : vals.getD (atK d ((i : Int) + 1) (e + c) (max m (((needsL d s).getD i default) + c))).toNat default = (atV d vals ((i : Int) + 1) (e + c) (max m ((needsL d s).getD i default + c))) := rfl
      have pr := price_rng (ok.hour i hi) (n := ((needsL d s).getD i default) + c) (by omega) (by omega)
      refine XK.skip ?_
      refine XK.seq ?_
      refine XK.region rfl ?_
      refine XO.q (Q.ldA [_, _, _, _, _, _, _, _] rfl rfl rfl) ?_
      refine XO.q (Q.move rfl) ?_
      refine XO.q (Q.move rfl) ?_
      refine XO.q (Q.move rfl) ?_
      refine XO.call Tryz.call54 rfl rfl rfl (rneed_spec d vh vj hh hj s vs hs_ ok so i hi c (by omega) (by omega)) fun v34 s34 R34 => ?_
      obtain ⟨rfl, rfl⟩ := R34
      dsimp only [List.cons_append, List.nil_append]
      refine XO.q (Q.assign rfl) ?_
      refine XO.done ?_
      refine XK.seq ?_
      refine XK.region rfl ?_
      refine XO.q (Q.move rfl) ?_
      refine XO.q (Q.ldA [_, _, _, _, _, _, _, _] rfl rfl rfl) ?_
      refine XO.q (Q.move rfl) ?_
      refine XO.q (Q.add rfl rfl ⟨by omega, by omega⟩) ?_
      refine XO.q (Q.move rfl) ?_
      refine XO.q (Q.move rfl) ?_
      refine XO.q (Q.add rfl rfl ⟨by omega, by omega⟩) ?_
      refine XO.q (Q.move rfl) ?_
      refine XO.q (Q.move rfl) ?_
      refine XO.q (Q.max rfl rfl) ?_
      refine XO.call Tryz.call63 rfl rfl rfl (rat_spec d vh vj hh hj ok ((i : Int) + 1) (e + c) (max m (((needsL d s).getD i default) + c)) (by omega) (by omega) (by omega)) fun v45 s45 R45 => ?_
      obtain ⟨rfl, rfl⟩ := R45
      dsimp only [List.cons_append, List.nil_append]
      refine XO.ix rfl rfl (by omega) (by omega) fun i46 => ?_
      refine XO.q (Q.ldE rfl (by first | assumption | omega) rfl) ?_
      rw [av]
      refine XO.q (Q.assign rfl) ?_
      refine XO.done ?_
      refine XK.seq ?_
      refine XK.region rfl ?_
      refine XO.q (Q.move rfl) ?_
      refine XO.q (Q.lss rfl rfl) ?_
      refine XO.q (Q.move rfl) ?_
      refine XO.q (Quiet.guardT rfl rfl fun g51 p51 => Q.ldA [_, _, _, _, _, _, _, _] rfl rfl rfl) ?_
      refine XO.q (Quiet.guardT rfl rfl fun g52 p52 => Q.move rfl) ?_
      refine XO.q (Quiet.guardT rfl rfl fun g53 p53 => Q.move rfl) ?_
      refine XO.gcallT rfl rfl Tryz.call55 rfl (fun g54 => .c (lzv g54 rfl) (.c (lzv g54 rfl) (.c (lzv g54 rfl) .n))) rfl (fun g54 p54 => rbill_spec d vh vj hh hj ok i hi (((needsL d s).getD i default) + c) (by omega) (by omega)) ?_
      refine XO.q (Quiet.guardT rfl rfl fun g55 p55 => Q.move rfl) ?_
      refine XO.q (Quiet.guardT rfl rfl fun g56 p56 => Q.add (lzv g56 rfl) (lzv g56 rfl) ⟨by omega, by omega⟩) ?_
      refine XO.q (Quiet.guardT rfl rfl fun g57 p57 => Q.move rfl) ?_
      refine XO.q (Quiet.guardT rfl rfl fun g58 p58 => Q.lss (lzv g58 rfl) (lzv g58 rfl)) ?_
      refine XO.q (Q.and rfl (fun hp => lzv hp rfl)) ?_
      refine XO.done ?_
      refine XK.if rfl (fun c2 => ?_) (fun c2 => ?_)
      · have _t2 := True.intro
        have e2 : (lsF d (d.hours.getD i default) ((needsL d s).getD i default) e m (fun e' m' => atV d vals ((i : Int) + 1) e' m') (j + 1)) = (priceH (d.hours.getD i default) (((needsL d s).getD i default) + c) + (atV d vals ((i : Int) + 1) (e + c) (max m ((needsL d s).getD i default + c))), c) := by rw [lsF, ← hcj]; unfold stepF; exact if_pos ⟨pc, c2.1, by rw [← hb1]; exact c2.2⟩
        refine XK.seq ?_
        refine XK.region rfl ?_
        refine XO.q (Q.ldA [_, _, _, _, _, _, _, _] rfl rfl rfl) ?_
        refine XO.q (Q.move rfl) ?_
        refine XO.q (Q.move rfl) ?_
        refine XO.call Tryz.call55 rfl rfl rfl (rbill_spec d vh vj hh hj ok i hi (((needsL d s).getD i default) + c) (by omega) (by omega)) fun v63 s63 R63 => ?_
        obtain ⟨rfl, rfl⟩ := R63
        dsimp only [List.cons_append, List.nil_append]
        refine XO.q (Q.move rfl) ?_
        refine XO.q (Q.add rfl rfl ⟨by omega, by omega⟩) ?_
        refine XO.q (Q.assign rfl) ?_
        refine XO.done ?_
        refine XK.region rfl ?_
        refine XO.q (Q.move rfl) ?_
        refine XO.q (Q.assign rfl) ?_
        refine XO.done ?_
        refine XK.inBlock ?_
        refine XK.region rfl ?_
        refine XO.q (Q.move rfl) ?_
        refine XO.q (Q.add rfl rfl ⟨by omega, by omega⟩) ?_
        refine XO.q (Q.assign rfl) ?_
        refine XO.done ?_
        exact ih0 (j + 1, c + 1, _, c) _ _ ⟨⟨by dsimp only; omega, by dsimp only; omega⟩, by dsimp only; rw [e2]⟩ (by first | omega | (dsimp only; omega)) (.c rfl (.c rfl (.c rfl (.base 109 rfl rfl)))) inferInstance
      · have _t2 := True.intro
        have e2 : (lsF d (d.hours.getD i default) ((needsL d s).getD i default) e m (fun e' m' => atV d vals ((i : Int) + 1) e' m') (j + 1)) = (lsF d (d.hours.getD i default) ((needsL d s).getD i default) e m (fun e' m' => atV d vals ((i : Int) + 1) e' m') j) := by rw [lsF, ← hcj]; unfold stepF; exact if_neg (fun h => c2 ⟨h.2.1, by rw [hb1]; exact h.2.2⟩)
        refine XK.skip ?_
        refine XK.inBlock ?_
        refine XK.region rfl ?_
        refine XO.q (Q.move rfl) ?_
        refine XO.q (Q.add rfl rfl ⟨by omega, by omega⟩) ?_
        refine XO.q (Q.assign rfl) ?_
        refine XO.done ?_
        exact ih0 (j + 1, c + 1, b, g) _ _ ⟨⟨by dsimp only; omega, by dsimp only; omega⟩, by dsimp only; rw [e2]; exact hb⟩ (by first | omega | (dsimp only; omega)) (.c rfl (.c rfl (.c rfl (.base 100 rfl rfl)))) inferInstance
  · have _t0 := True.intro
    have hj21 : j = 21 := by omega
    subst hj21
    refine XK.exit rfl ?_
    refine XK.seq ?_
    refine XK.region rfl ?_
    refine XO.q (Q.move rfl) ?_
    refine XO.q (Q.move rfl) ?_
    refine XO.q (Q.assign rfl) ?_
    refine XO.q (Q.assign rfl) ?_
    refine XO.done ?_
    refine XK.rt [] Tryz.func64 Tryz.results64 (.t rfl (.t rfl .n)) ?_
    exact ⟨by rw [← hb], rfl⟩
end Go.X

set_option linter.unusedSimpArgs false
set_option linter.unusedVariables false
set_option maxRecDepth 20000
namespace Go.X
open Go.Proofs
theorem table_back {d : KDay} {base vals : List Int} {i : Nat} {e m : Int} (f : Filled d base vals i e m) (hi : i < d.hours.length) : ∀ e' m', StateOk d e' m' → atV d vals ((i : Int) + 1) e' m' = valH d base (i + 1) e' m' := fun e' m' s =>
  f.val (i + 1) e' m' (by omega) s (.inl (by omega))
theorem table_small {d : KDay} (ok : DayOk d) {base vals : List Int} (bo : BaseOk d base) {i : Nat} {e m : Int} (f : Filled d base vals i e m) (hi : i < d.hours.length) : ∀ e' m', StateOk d e' m' → -1000000000000000 ≤ atV d vals ((i : Int) + 1) e' m' ∧ atV d vals ((i : Int) + 1) e' m' ≤ 1000000000000000 := fun e' m' s => by
  rw [table_back f hi e' m' s]
  have := val_rng ok bo (show i + 1 ≤ d.hours.length by omega) s
  rw [never_val] at this
  omega
theorem table_end {d : KDay} {base : List Int} {i : Nat} {e m x : Int} (hi : i = d.hours.length) (hx : x = if (i : Int) = d.hours.length ∧ e < d.store.fin then never else d.peak * m) : x = valH d base i e m := by
  subst hi
  rw [valH_end, hx]
  by_cases h : e < d.store.fin
  · rw [if_pos ⟨rfl, h⟩, if_pos h]
  · rw [if_neg (fun q => h q.2), if_neg h]
set_option maxHeartbeats 2000000 in
theorem rTable_spec (d : KDay) (vh vj : Value) (hh hj : PHeap) [ih : Arr vh encHour 6 hh d.hours] [ij : Arr vj encJob 4 hj d.jobs] (s : List Int) (vs : Value) (hs_ : PHeap) [js : Arr vs encI 1 hs_ s] (ok : DayOk d) (so : SOk d s) : Spec Tryz.prog 62 #[.agg #[vh, .int .i64 d.store.energy, .int .i64 d.store.full, .int .i64 d.store.power, .int .i64 d.store.fin, vj, .int .i64 d.most, .int .i64 d.peak], vs] [] [hh, hj, hs_] (fun v hs => ∃ k vals, hs = [k] ∧ OArr v encI 1 3 k vals ∧ TabOk d (needsL d s) vals) := by
  have bo := needs_base ok s
  have sr := size_rng ok
  have pk0 := ok.p0
  have pk1 := ok.p1
  have s1 := ok.store.f0
  have s2 := ok.store.f1
  have s3 := ok.store.p0
  have s4 := ok.store.p1
  have s5 := ok.store.e0
  have s6 := ok.store.e1
  have h1 := ok.h1
  have h24 := ok.h2
  have m0 := ok.m0
  have m1 := ok.m1
  have j2 := ok.j2
  refine Spec.intro (fn := Tryz.f62) (N := 73) Tryz.func62 rfl Tryz.ntmps62 rfl fun B => ?_
  refine XK.seq ?_
  refine XK.region rfl ?_
  refine XO.box rfl fun b2 => ?_
  refine XO.q (Q.assign rfl) ?_
  refine XO.done ?_
  refine XK.seq ?_
  refine XK.region rfl ?_
  refine XO.q (Q.fieldAddr rfl) ?_
  refine XO.q (Q.ld rfl rfl) ?_
  refine XO.len rfl fun l13 => ?_
  refine XO.q (Q.assign rfl) ?_
  refine XO.done ?_
  refine XK.seq ?_
  refine XK.region rfl ?_
  refine XO.q (Q.ldA [_, _, _, _, _, _, _, _] rfl rfl rfl) ?_
  refine XO.q (Q.move rfl) ?_
  refine XO.q (Q.add rfl rfl ⟨by omega, by omega⟩) ?_
  refine XO.call Tryz.call63 rfl rfl rfl (rat_spec d vh vj hh hj ok ((d.hours.length : Int) + 1) 0 0 (by omega) (by omega) (by omega)) fun v17 s17 R17 => ?_
  obtain ⟨rfl, rfl⟩ := R17
  dsimp only [List.cons_append, List.nil_append]
  rw [show atK d ((d.hours.length : Int) + 1) 0 0 = sizeK d from rfl]
  refine XO.make encI (0) rfl rfl rfl (by omega) (by omega) (fun _ => rfl) rfl rfl rfl (by dsimp only [encI]; infer_instance) fun v18 h18 O18 => ?_
  refine XO.q (Q.assign rfl) ?_
  refine XO.done ?_
  refine XK.seq ?_
  refine XK.seq ?_
  refine XK.region rfl ?_
  refine XO.q (Q.move rfl) ?_
  refine XO.q (Q.assign rfl) ?_
  refine XO.done ?_
  refine XK.block ?_
  refine XK.while (X := Int × PHeap × List Int) [7, 8, 9, 10, 20, 21, 22, 23, 24, 25, 26, 27, 28, 29, 30, 31, 32, 33, 34, 35, 36, 37, 38, 39, 40, 41, 42, 43, 44, 45, 46, 47, 48, 49, 50, 51, 52, 53, 54, 55, 56, 57, 58, 59, 60, 61, 62, 63, 64, 65, 66, 67, 68, 69, 70, 71] (fun ⟨h, k, vals⟩ => [(7, some (.int .i64 h))]) (fun ⟨h, k, vals⟩ => [k]) (fun ⟨h, k, vals⟩ => (-1 ≤ h ∧ h ≤ d.hours.length) ∧ OArr v18 encI 1 3 k vals ∧ Filled d (needsL d s) vals h 0 0) (fun ⟨h, k, vals⟩ => (h + 1).toNat) ((d.hours.length : Int), h18, List.replicate (sizeK d).toNat 0) [h18] rfl ⟨by (try dsimp only); omega, O18, Filled.start ok⟩ (.c rfl (.base 0 rfl rfl)) ?_
  rintro ⟨h, k, vals⟩ ⟨hr, OV, f⟩ ih0
  dsimp only [List.cons_append, List.nil_append] at ih0 ⊢
  refine XK.seq ?_
  refine XK.seq ?_
  refine XK.region rfl ?_
  refine XO.q (Q.move rfl) ?_
  refine XO.q (Q.geq rfl rfl) ?_
  refine XO.done ?_
  refine XK.if rfl (fun c0 => ?_) (fun c0 => ?_)
  · have _t0 := True.intro
    obtain ⟨i, rfl⟩ : ∃ i : Nat, h = (i : Int) := ⟨h.toNat, by omega⟩
    refine XK.skip ?_
    refine XK.seq ?_
    refine XK.block ?_
    refine XK.seq ?_
    refine XK.region rfl ?_
    refine XO.q (Q.assign rfl) ?_
    refine XO.done ?_
    refine XK.block ?_
    refine XK.while (X := Int × PHeap × List Int) [8, 9, 10, 24, 25, 26, 27, 28, 29, 30, 31, 32, 33, 34, 35, 36, 37, 38, 39, 40, 41, 42, 43, 44, 45, 46, 47, 48, 49, 50, 51, 52, 53, 54, 55, 56, 57, 58, 59, 60, 61, 62, 63, 64, 65, 66, 67, 68, 69, 70, 71] (fun ⟨e, k, vals⟩ => [(8, some (.int .i64 e))]) (fun ⟨e, k, vals⟩ => [k]) (fun ⟨e, k, vals⟩ => (0 ≤ e ∧ e ≤ d.store.full + 1) ∧ OArr v18 encI 1 3 k vals ∧ Filled d (needsL d s) vals i e 0) (fun ⟨e, k, vals⟩ => (d.store.full + 1 - e).toNat) (0, k, vals) [k] rfl ⟨by (try dsimp only); omega, OV, f⟩ (.c rfl (.base 0 rfl rfl)) ?_
    rintro ⟨e, k, vals⟩ ⟨er, OV, f⟩ ih1
    dsimp only [List.cons_append, List.nil_append] at ih1 ⊢
    refine XK.seq ?_
    refine XK.seq ?_
    refine XK.region rfl ?_
    refine XO.q (Q.move rfl) ?_
    refine XO.q (Q.fieldAddr rfl) ?_
    refine XO.q (Q.fieldAddr rfl) ?_
    refine XO.q (Q.ld rfl rfl) ?_
    refine XO.q (Q.leq rfl rfl) ?_
    refine XO.done ?_
    refine XK.if rfl (fun c1 => ?_) (fun c1 => ?_)
    · have _t1 := True.intro
      refine XK.skip ?_
      refine XK.seq ?_
      refine XK.block ?_
      refine XK.seq ?_
      refine XK.region rfl ?_
      refine XO.q (Q.assign rfl) ?_
      refine XO.done ?_
      refine XK.block ?_
      refine XK.while (X := Int × PHeap × List Int) [9, 10, 31, 32, 33, 34, 35, 36, 37, 38, 39, 40, 41, 42, 43, 44, 45, 46, 47, 48, 49, 50, 51, 52, 53, 54, 55, 56, 57, 58, 59, 60, 61, 62, 63, 64, 65, 66, 67, 68, 69, 70, 71] (fun ⟨m, k, vals⟩ => [(9, some (.int .i64 m))]) (fun ⟨m, k, vals⟩ => [k]) (fun ⟨m, k, vals⟩ => (0 ≤ m ∧ m ≤ d.most + 1) ∧ OArr v18 encI 1 3 k vals ∧ Filled d (needsL d s) vals i e m) (fun ⟨m, k, vals⟩ => (d.most + 1 - m).toNat) (0, k, vals) [k] rfl ⟨by (try dsimp only); omega, OV, f⟩ (.c rfl (.base 0 rfl rfl)) ?_
      rintro ⟨m, k, vals⟩ ⟨mr, OV, f⟩ ih2
      dsimp only [List.cons_append, List.nil_append] at ih2 ⊢
      refine XK.seq ?_
      refine XK.seq ?_
      refine XK.region rfl ?_
      refine XO.q (Q.move rfl) ?_
      refine XO.q (Q.fieldAddr rfl) ?_
      refine XO.q (Q.ld rfl rfl) ?_
      refine XO.q (Q.leq rfl rfl) ?_
      refine XO.done ?_
      refine XK.if rfl (fun c2 => ?_) (fun c2 => ?_)
      · have _t2 := True.intro
        have st : StateOk d e m := ⟨by omega, by omega, by omega, by omega⟩
        have pp := mul_rng (a := d.peak) (b := m) (m := 1000) (n := 40) pk0 pk1 (by omega) (by omega) (by omega)
        have ar := at_rng st (show (0 : Int) ≤ i by omega) (by omega)
        have vl := f.len
        refine XK.skip ?_
        refine XK.seq ?_
        refine XK.block ?_
        refine XK.seq ?_
        refine XK.region rfl ?_
        refine XO.q (Q.fieldAddr rfl) ?_
        refine XO.q (Q.ld rfl rfl) ?_
        refine XO.q (Q.move rfl) ?_
        refine XO.q (Q.mul rfl rfl ⟨by omega, by omega⟩) ?_
        refine XO.q (Q.assign rfl) ?_
        refine XO.done ?_
        refine XK.seq ?_
        refine XK.seq ?_
        refine XK.region rfl ?_
        refine XO.q (Q.move rfl) ?_
        refine XO.q (Q.move rfl) ?_
        refine XO.q (Q.eql rfl rfl) ?_
        refine XO.q (Q.move rfl) ?_
        refine XO.q (Quiet.guardT rfl rfl fun g45 p45 => Q.move rfl) ?_
        refine XO.q (Quiet.guardT rfl rfl fun g46 p46 => Q.fieldAddr rfl) ?_
        refine XO.q (Quiet.guardT rfl rfl fun g47 p47 => Q.fieldAddr (lzv g47 rfl)) ?_
        refine XO.q (Quiet.guardT rfl rfl fun g48 p48 => Q.ld (lzv g48 rfl) rfl) ?_
        refine XO.q (Quiet.guardT rfl rfl fun g49 p49 => Q.lss (lzv g49 rfl) (lzv g49 rfl)) ?_
        refine XO.q (Q.and rfl (fun hp => lzv hp rfl)) ?_
        refine XO.done ?_
        refine XK.meet (X := Int) [10] (fun x => [(10, some (.int .i64 x))]) (fun x => []) (fun x => x = if (i : Int) = d.hours.length ∧ e < d.store.fin then never else d.peak * m) [] ?_ ?_
        · rintro x hx
          dsimp only [List.cons_append, List.nil_append]
          refine XK.seq ?_
          refine XK.seq ?_
          refine XK.region rfl ?_
          refine XO.q (Q.move rfl) ?_
          refine XO.q (Q.move rfl) ?_
          refine XO.q (Q.lss rfl rfl) ?_
          refine XO.done ?_
          refine XK.meet (X := Unit) [10, 54, 55, 56, 57, 58, 59, 60, 61, 62, 63] (fun _u => [(10, some (.int .i64 (valH d (needsL d s) i e m)))]) (fun _u => []) (fun _u => True) [] ?_ ?_
          · rintro _u _
            dsimp only [List.cons_append, List.nil_append]
            refine XK.region rfl ?_
            refine XO.q (Q.move rfl) ?_
            refine XO.q (Q.ldA [_, _, _, _, _, _, _, _] rfl rfl rfl) ?_
            refine XO.q (Q.move rfl) ?_
            refine XO.q (Q.move rfl) ?_
            refine XO.q (Q.move rfl) ?_
            refine XO.call Tryz.call63 rfl rfl rfl (rat_spec d vh vj hh hj ok (i : Nat) e m (by omega) (by omega) (by omega)) fun v69 s69 R69 => ?_
            obtain ⟨rfl, rfl⟩ := R69
            dsimp only [List.cons_append, List.nil_append]
            refine XO.q (Q.move rfl) ?_
            refine XO.ix rfl rfl (by omega) (by omega) fun i71 => ?_
            refine XO.stE _ rfl rfl rfl (by assumption) rfl rfl fun h17_8 O17_8 => ?_
            refine XO.done ?_
            refine XK.inBlock ?_
            refine XK.region rfl ?_
            refine XO.q (Q.move rfl) ?_
            refine XO.q (Q.add rfl rfl ⟨by omega, by omega⟩) ?_
            refine XO.q (Q.assign rfl) ?_
            refine XO.done ?_
            exact ih2 (m + 1, h17_8, _) _ _ ⟨by dsimp only; omega, O17_8, f.put (by omega) st⟩ (by first | omega | (dsimp only; omega)) (.c rfl (.base 91 rfl rfl)) inferInstance
          · intro mt4
            dsimp only [List.cons_append, List.nil_append] at mt4
            refine XK.if rfl (fun c4 => ?_) (fun c4 => ?_)
            · have _t4 := True.intro
              refine XK.region rfl ?_
              refine XO.q (Q.ldA [_, _, _, _, _, _, _, _] rfl rfl rfl) ?_
              refine XO.q (Q.move rfl) ?_
              refine XO.q (Q.move rfl) ?_
              refine XO.q (Q.move rfl) ?_
              refine XO.q (Q.move rfl) ?_
              refine XO.q (Q.move rfl) ?_
              refine XO.call Tryz.call64 rfl rfl rfl (rleast_spec d vh vj hh hj s vs hs_ vals v18 k ok so f.len i (by omega) e m st (table_small ok bo f (by omega))) fun v61 s61 R61 => ?_
              obtain ⟨rfl, rfl⟩ := R61
              dsimp only [List.cons_append, List.nil_append]
              rw [(ls_val ok (by omega) st (table_back f (by omega))).1]
              refine XO.q (Q.move rfl) ?_
              refine XO.q (Q.extract rfl rfl) ?_
              refine XO.q (Q.extract rfl rfl) ?_
              refine XO.q (Q.assign rfl) ?_
              refine XO.done ?_
              exact mt4 (()) _ _ trivial (.c rfl (.base 11 rfl rfl)) inferInstance
            · have _t4 := True.intro
              refine XK.skip ?_
              have ex := table_end (base := needsL d s) (m := m) (show i = d.hours.length by omega) hx
              clear hx
              subst ex
              exact mt4 (()) _ _ trivial (.c rfl (.base 0 rfl rfl)) inferInstance
        · intro mt3
          dsimp only [List.cons_append, List.nil_append] at mt3
          refine XK.if rfl (fun c3 => ?_) (fun c3 => ?_)
          · have _t3 := True.intro
            refine XK.region rfl ?_
            refine XO.q (Q.assign rfl) ?_
            refine XO.done ?_
            exact mt3 (1000000000000000) _ _ (if_pos (by assumption)).symm (.c rfl (.base 1 rfl rfl)) inferInstance
          · have _t3 := True.intro
            refine XK.skip ?_
            exact mt3 ((d.peak * m)) _ _ (if_neg (by assumption)).symm (.c rfl (.base 0 rfl rfl)) inferInstance
      · have _t2 := True.intro
        obtain rfl : m = d.most + 1 := by omega
        refine XK.exit rfl ?_
        refine XK.inBlock ?_
        refine XK.region rfl ?_
        refine XO.q (Q.move rfl) ?_
        refine XO.q (Q.add rfl rfl ⟨by omega, by omega⟩) ?_
        refine XO.q (Q.assign rfl) ?_
        refine XO.done ?_
        exact ih1 (e + 1, k, vals) _ _ ⟨by dsimp only; omega, OV, f.nextE⟩ (by first | omega | (dsimp only; omega)) (.c rfl (.base 109 rfl rfl)) inferInstance
    · have _t1 := True.intro
      obtain rfl : e = d.store.full + 1 := by omega
      refine XK.exit rfl ?_
      refine XK.inBlock ?_
      refine XK.region rfl ?_
      refine XO.q (Q.move rfl) ?_
      refine XO.q (Q.sub rfl rfl ⟨by omega, by omega⟩) ?_
      refine XO.q (Q.assign rfl) ?_
      refine XO.done ?_
      exact ih0 ((i : Int) - 1, k, vals) _ _ ⟨by dsimp only; omega, OV, f.nextH⟩ (by first | omega | (dsimp only; omega)) (.c rfl (.base 120 rfl rfl)) inferInstance
  · have _t0 := True.intro
    obtain rfl : h = -1 := by omega
    refine XK.exit rfl ?_
    refine XK.seq ?_
    refine XK.region rfl ?_
    refine XO.q (Q.move rfl) ?_
    refine XO.q (Q.assign rfl) ?_
    refine XO.done ?_
    refine XK.rt [k] Tryz.func62 Tryz.results62 (.t rfl .n) ?_
    exact ⟨k, vals, rfl, OV, f.all⟩
end Go.X
