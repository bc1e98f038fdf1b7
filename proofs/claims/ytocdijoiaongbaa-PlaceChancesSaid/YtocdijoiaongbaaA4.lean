/- A part of the proof: a small program logic, plain laws and contracts of functions, each proved by a walk through its operations. No condition but those that stand in each theorem. -/
import Derived.Test.YtocdijoiaongbaaA3
import Derived.KernelRfl
import Derived.Shelf.Sort.Plain
import Derived.Test.YtocdijoiaongbaaProg
set_option linter.unusedSimpArgs false
set_option linter.unusedVariables false
set_option maxRecDepth 20000
namespace Go.X
open Go.Proofs
theorem rackRef_spec (r : PRack) : Spec Try.prog 75 #[.agg #[.int .i64 r.r0, .int .i64 r.r1, .int .i64 r.r2, .int .i64 r.cap, .int .i64 r.domain]] [] [] (fun v hs => v = .bool (rackR r) ∧ hs = []) := by
  have e : rackR r = ((inR r.r0 0 1000000 && inR r.r1 0 1000000 && inR r.r2 0 1000000) && (inR r.cap 0 10000 && inR r.domain 0 100)) := by
    rw [Bool.eq_iff_iff]
    unfold rackR
    simp only [Bool.and_eq_true, pin_three, pin_one, inR_iff]
    constructor
    · rintro ⟨⟨⟨a, b, c⟩, d⟩, e⟩; exact ⟨⟨⟨a, b⟩, c⟩, d, e⟩
    · rintro ⟨⟨⟨a, b⟩, c⟩, d, e⟩; exact ⟨⟨⟨a, b, c⟩, d⟩, e⟩
  rw [e]
  refine Spec.intro (fn := Try.f75) (N := 22) Try.func75 rfl Try.ntmps75 rfl fun B => ?_
  refine XK.seq ?_
  refine XK.region rfl ?_
  refine XO.box rfl fun b1 => ?_
  refine XO.q (Q.assign rfl) ?_
  refine XO.done ?_
  refine XK.seq ?_
  refine XK.seq ?_
  refine XK.region rfl ?_
  refine XO.q (Q.assign rfl) ?_
  refine XO.done ?_
  refine XK.block ?_
  refine XK.loop' ?_
  refine XK.seq ?_
  refine XK.seq ?_
  refine XK.region rfl ?_
  refine XO.q (Q.move rfl) ?_
  refine XO.q (Q.lss rfl rfl) ?_
  refine XO.done ?_
  refine XK.if rfl (fun c0 => ?_) (fun c0 => ?_)
  · have _t0 := True.intro
    refine XK.skip ?_
    refine XK.seq ?_
    refine XK.block ?_
    refine XK.seq ?_
    refine XK.region rfl ?_
    refine XO.q (Q.move rfl) ?_
    refine XO.q (Q.fieldAddr rfl) ?_
    refine XO.q (Q.ixA rfl rfl (by omega) (by omega)) ?_
    (try rw [show (0 + Int.toNat 0 * 1 : Nat) = 0 from rfl])
    (try rw [show (0 + Int.toNat 1 * 1 : Nat) = 1 from rfl])
    (try rw [show (0 + Int.toNat 2 * 1 : Nat) = 2 from rfl])
    refine XO.q (Q.ld rfl rfl) ?_
    refine XO.call Try.call91 rfl rfl rfl (rin_spec _ _ _) fun v12 s12 R12 => ?_
    obtain ⟨rfl, rfl⟩ := R12
    dsimp only [List.cons_append, List.nil_append]
    refine XO.q (Q.not rfl) ?_
    refine XO.done ?_
    refine XK.if rfl (fun c1 => ?_) (fun c1 => ?_)
    · have _t1 := True.intro
      refine XK.seq ?_
      refine XK.region rfl ?_
      refine XO.q (Q.assign rfl) ?_
      refine XO.done ?_
      refine XK.rt [] Try.func75 Try.results75 (.t rfl .n) ?_
      exact ⟨by rw [Bool.eq_false_iff.2 c1]; simp, rfl⟩
    · have _t1 := True.intro
      refine XK.skip ?_
      refine XK.inBlock ?_
      refine XK.region rfl ?_
      refine XO.q (Q.move rfl) ?_
      refine XO.q (Q.add rfl rfl ⟨by omega, by omega⟩) ?_
      (try rw [show ((0 : Int) + 1) = 1 from rfl])
      (try rw [show ((1 : Int) + 1) = 2 from rfl])
      (try rw [show ((2 : Int) + 1) = 3 from rfl])
      refine XO.q (Q.assign rfl) ?_
      refine XO.done ?_
      refine XK.inLoop' ?_
      refine XK.seq ?_
      refine XK.seq ?_
      refine XK.region rfl ?_
      refine XO.q (Q.move rfl) ?_
      refine XO.q (Q.lss rfl rfl) ?_
      refine XO.done ?_
      refine XK.if rfl (fun c2 => ?_) (fun c2 => ?_)
      · have _t2 := True.intro
        refine XK.skip ?_
        refine XK.seq ?_
        refine XK.block ?_
        refine XK.seq ?_
        refine XK.region rfl ?_
        refine XO.q (Q.move rfl) ?_
        refine XO.q (Q.fieldAddr rfl) ?_
        refine XO.q (Q.ixA rfl rfl (by omega) (by omega)) ?_
        (try rw [show (0 + Int.toNat 0 * 1 : Nat) = 0 from rfl])
        (try rw [show (0 + Int.toNat 1 * 1 : Nat) = 1 from rfl])
        (try rw [show (0 + Int.toNat 2 * 1 : Nat) = 2 from rfl])
        refine XO.q (Q.ld rfl rfl) ?_
        refine XO.call Try.call91 rfl rfl rfl (rin_spec _ _ _) fun v12 s12 R12 => ?_
        obtain ⟨rfl, rfl⟩ := R12
        dsimp only [List.cons_append, List.nil_append]
        refine XO.q (Q.not rfl) ?_
        refine XO.done ?_
        refine XK.if rfl (fun c3 => ?_) (fun c3 => ?_)
        · have _t3 := True.intro
          refine XK.seq ?_
          refine XK.region rfl ?_
          refine XO.q (Q.assign rfl) ?_
          refine XO.done ?_
          refine XK.rt [] Try.func75 Try.results75 (.t rfl .n) ?_
          exact ⟨by rw [Bool.eq_false_iff.2 c3]; simp, rfl⟩
        · have _t3 := True.intro
          refine XK.skip ?_
          refine XK.inBlock ?_
          refine XK.region rfl ?_
          refine XO.q (Q.move rfl) ?_
          refine XO.q (Q.add rfl rfl ⟨by omega, by omega⟩) ?_
          (try rw [show ((0 : Int) + 1) = 1 from rfl])
          (try rw [show ((1 : Int) + 1) = 2 from rfl])
          (try rw [show ((2 : Int) + 1) = 3 from rfl])
          refine XO.q (Q.assign rfl) ?_
          refine XO.done ?_
          refine XK.inLoop' ?_
          refine XK.seq ?_
          refine XK.seq ?_
          refine XK.region rfl ?_
          refine XO.q (Q.move rfl) ?_
          refine XO.q (Q.lss rfl rfl) ?_
          refine XO.done ?_
          refine XK.if rfl (fun c4 => ?_) (fun c4 => ?_)
          · have _t4 := True.intro
            refine XK.skip ?_
            refine XK.seq ?_
            refine XK.block ?_
            refine XK.seq ?_
            refine XK.region rfl ?_
            refine XO.q (Q.move rfl) ?_
            refine XO.q (Q.fieldAddr rfl) ?_
            refine XO.q (Q.ixA rfl rfl (by omega) (by omega)) ?_
            (try rw [show (0 + Int.toNat 0 * 1 : Nat) = 0 from rfl])
            (try rw [show (0 + Int.toNat 1 * 1 : Nat) = 1 from rfl])
            (try rw [show (0 + Int.toNat 2 * 1 : Nat) = 2 from rfl])
            refine XO.q (Q.ld rfl rfl) ?_
            refine XO.call Try.call91 rfl rfl rfl (rin_spec _ _ _) fun v12 s12 R12 => ?_
            obtain ⟨rfl, rfl⟩ := R12
            dsimp only [List.cons_append, List.nil_append]
            refine XO.q (Q.not rfl) ?_
            refine XO.done ?_
            refine XK.if rfl (fun c5 => ?_) (fun c5 => ?_)
            · have _t5 := True.intro
              refine XK.seq ?_
              refine XK.region rfl ?_
              refine XO.q (Q.assign rfl) ?_
              refine XO.done ?_
              refine XK.rt [] Try.func75 Try.results75 (.t rfl .n) ?_
              exact ⟨by rw [Bool.eq_false_iff.2 c5]; simp, rfl⟩
            · have _t5 := True.intro
              refine XK.skip ?_
              refine XK.inBlock ?_
              refine XK.region rfl ?_
              refine XO.q (Q.move rfl) ?_
              refine XO.q (Q.add rfl rfl ⟨by omega, by omega⟩) ?_
              (try rw [show ((0 : Int) + 1) = 1 from rfl])
              (try rw [show ((1 : Int) + 1) = 2 from rfl])
              (try rw [show ((2 : Int) + 1) = 3 from rfl])
              refine XO.q (Q.assign rfl) ?_
              refine XO.done ?_
              refine XK.inLoop' ?_
              refine XK.seq ?_
              refine XK.seq ?_
              refine XK.region rfl ?_
              refine XO.q (Q.move rfl) ?_
              refine XO.q (Q.lss rfl rfl) ?_
              refine XO.done ?_
              refine XK.if rfl (fun c6 => ?_) (fun c6 => ?_)
              · have _t6 := True.intro
                exact absurd c6 (by first | decide | simp)
              · have _t6 := True.intro
                refine XK.exit rfl ?_
                refine XK.seq ?_
                refine XK.region rfl ?_
                refine XO.q (Q.fieldAddr rfl) ?_
                refine XO.q (Q.ld rfl rfl) ?_
                refine XO.call Try.call91 rfl rfl rfl (rin_spec _ _ _) fun v16 s16 R16 => ?_
                obtain ⟨rfl, rfl⟩ := R16
                dsimp only [List.cons_append, List.nil_append]
                refine XO.q (Q.move rfl) ?_
                refine XO.q (Quiet.guardT rfl rfl fun g18 p18 => Q.fieldAddr rfl) ?_
                refine XO.q (Quiet.guardT rfl rfl fun g19 p19 => Q.ld (lzv g19 rfl) rfl) ?_
                refine XO.gcallT rfl rfl Try.call91 rfl (fun g20 => .c (lzv g20 rfl) (.c rfl (.c rfl .n))) rfl (fun g20 p20 => rin_spec _ _ _) ?_
                refine XO.q (Q.and rfl (fun hp => lzv hp rfl)) ?_
                refine XO.q (Q.assign rfl) ?_
                refine XO.done ?_
                refine XK.rt [] Try.func75 Try.results75 (.t rfl .n) ?_
                exact ⟨by rw [Decidable.of_not_not c1, Decidable.of_not_not c3, Decidable.of_not_not c5]; rfl, rfl⟩
          · have _t4 := True.intro
            exact absurd (by first | decide | simp) c4
      · have _t2 := True.intro
        exact absurd (by first | decide | simp) c2
  · have _t0 := True.intro
    exact absurd (by first | decide | simp) c0
theorem chanceRef_spec (c : PRat) : Spec Try.prog 76 #[.agg #[.int .i64 c.n, .int .i64 c.d]] [] [] (fun v hs => v = .bool (chanceR c) ∧ hs = []) := by
  have e : chanceR c = ((inR c.d 1 1000000 && inR c.n 0 c.d) && decide (Int.gcd c.n c.d = 1)) := by
    rw [Bool.eq_iff_iff]
    unfold chanceR
    simp only [Bool.and_eq_true, pin_one, inR_iff, decide_eq_true_eq]
  rw [e]
  refine Spec.intro (fn := Try.f76) (N := 21) Try.func76 rfl Try.ntmps76 rfl fun B => ?_
  refine XK.seq ?_
  refine XK.region rfl ?_
  refine XO.box rfl fun b1 => ?_
  refine XO.q (Q.assign rfl) ?_
  refine XO.done ?_
  refine XK.seq ?_
  refine XK.region rfl ?_
  refine XO.q (Q.fieldAddr rfl) ?_
  refine XO.q (Q.ld rfl rfl) ?_
  refine XO.call Try.call91 rfl rfl rfl (rin_spec _ _ _) fun v5 s5 R5 => ?_
  obtain ⟨rfl, rfl⟩ := R5
  dsimp only [List.cons_append, List.nil_append]
  refine XO.q (Q.move rfl) ?_
  refine XO.q (Quiet.guardT rfl rfl fun g7 p7 => Q.fieldAddr rfl) ?_
  refine XO.q (Quiet.guardT rfl rfl fun g8 p8 => Q.ld (lzv g8 rfl) rfl) ?_
  refine XO.q (Quiet.guardT rfl rfl fun g9 p9 => Q.fieldAddr rfl) ?_
  refine XO.q (Quiet.guardT rfl rfl fun g10 p10 => Q.ld (lzv g10 rfl) rfl) ?_
  refine XO.gcallT rfl rfl Try.call91 rfl (fun g11 => .c (lzv g11 rfl) (.c rfl (.c (lzv g11 rfl) .n))) rfl (fun g11 p11 => rin_spec _ _ _) ?_
  refine XO.q (Q.and rfl (fun hp => lzv hp rfl)) ?_
  refine XO.q (Q.move rfl) ?_
  refine XO.q (Quiet.guardT rfl rfl fun g14 p14 => Q.fieldAddr rfl) ?_
  refine XO.q (Quiet.guardT rfl rfl fun g15 p15 => Q.ld (lzv g15 rfl) rfl) ?_
  refine XO.q (Quiet.guardT rfl rfl fun g16 p16 => Q.fieldAddr rfl) ?_
  refine XO.q (Quiet.guardT rfl rfl fun g17 p17 => Q.ld (lzv g17 rfl) rfl) ?_
  refine XO.gcallT rfl rfl Try.call73 rfl (fun g18 => .c (lzv g18 rfl) (.c (lzv g18 rfl) .n)) rfl (fun g18 p18 => (by
    have h1 := inR_iff.1 p18.1
    have h2 := inR_iff.1 p18.2
    have q := rgcd_spec c.d.toNat c.n.toNat (by omega) (by omega)
    rw [show ((c.d.toNat : Nat) : Int) = c.d by omega, show ((c.n.toNat : Nat) : Int) = c.n by omega] at q
    exact q)) ?_
  refine XO.q (Quiet.guardT rfl rfl fun g19 p19 => Q.eql (lzv g19 rfl) rfl) ?_
  refine XO.q (Q.and rfl (fun hp => lzv hp rfl)) ?_
  refine XO.q (Q.assign rfl) ?_
  refine XO.done ?_
  refine XK.rt [] Try.func76 Try.results76 (.t rfl .n) ?_
  refine ⟨?_, rfl⟩
  congr 1
  cases hA : (inR c.d 1 1000000 && inR c.n 0 c.d) with
  | false => rfl
  | true =>
    rw [Bool.and_eq_true] at hA
    have h1 := inR_iff.1 hA.1
    have h2 := inR_iff.1 hA.2
    rw [Bool.true_and, Bool.true_and]
    have e2 : c.n.toNat.gcd c.d.toNat = Int.gcd c.n c.d := by unfold Int.gcd; rw [show c.n.natAbs = c.n.toNat by omega, show c.d.natAbs = c.d.toNat by omega]
    rw [e2]
    exact decide_eq_decide.2 (by omega)
set_option maxHeartbeats 2000000 in
theorem rlisted_spec (l : List (Value × PJob)) (vl : Value) (hl K : PHeap) [jl : Arr vl encPJ 6 hl l] (aL : JobsK l K) : Spec Try.prog 71 #[vl] [] [hl, K] (fun v hs => v = .tuple #[.int .i64 (listedG (l.map Prod.snd)).1, .int .i64 (listedG (l.map Prod.snd)).2] ∧ hs = []) := by
  have ll := jl.le
  have lm : (l.map Prod.snd).length = l.length := List.length_map ..
  refine Spec.intro (fn := Try.f71) (N := 38) Try.func71 rfl Try.ntmps71 rfl fun B => ?_
  refine XK.seq ?_
  refine XK.region rfl ?_
  refine XO.q (Q.assign rfl) ?_
  refine XO.q (Q.assign rfl) ?_
  refine XO.done ?_
  refine XK.seq ?_
  refine XK.seq ?_
  refine XK.region rfl ?_
  refine XO.q (Q.move rfl) ?_
  refine XO.len rfl fun l8 => ?_
  refine XO.q (Q.gtr rfl rfl) ?_
  refine XO.done ?_
  refine XK.if rfl (fun c0 => ?_) (fun c0 => ?_)
  · have _t0 := True.intro
    refine XK.seq ?_
    refine XK.region rfl ?_
    refine XO.q (Q.assign rfl) ?_
    refine XO.q (Q.assign rfl) ?_
    refine XO.done ?_
    refine XK.rt [] Try.func71 Try.results71 (.t rfl (.t rfl .n)) ?_
    exact ⟨by rw [listedG, if_pos (by omega)], rfl⟩
  · have _t0 := True.intro
    refine XK.skip ?_
    refine XK.seq ?_
    refine XK.seq ?_
    refine XK.region rfl ?_
    refine XO.q (Q.assign rfl) ?_
    refine XO.done ?_
    refine XK.block ?_
    refine XK.while (X := Nat) [2, 3, 4, 10, 11, 12, 13, 14, 15, 16, 17, 18, 19, 20, 21] (fun i => [(4, some (.int .i64 (i : Nat)))]) (fun i => []) (fun i => i ≤ l.length ∧ ∀ k, k < i → jobR (l.getD k default).2 = true) (fun i => l.length - i) (0) [] rfl ⟨by omega, fun k hk => absurd hk (Nat.not_lt_zero k)⟩ (.c rfl (.base 0 rfl rfl)) ?_
    rintro i ⟨hi, jr⟩ ih0
    dsimp only [List.cons_append, List.nil_append] at ih0 ⊢
    refine XK.seq ?_
    refine XK.seq ?_
    refine XK.region rfl ?_
    refine XO.q (Q.move rfl) ?_
    refine XO.q (Q.move rfl) ?_
    refine XO.len rfl fun l12 => ?_
    refine XO.q (Q.lss rfl rfl) ?_
    refine XO.done ?_
    refine XK.if rfl (fun c1 => ?_) (fun c1 => ?_)
    · have _t1 := True.intro
      have ai := aL i (by omega)
      refine XK.skip ?_
      refine XK.seq ?_
      refine XK.block ?_
      refine XK.seq ?_
      refine XK.region rfl ?_
      refine XO.q (Q.move rfl) ?_
      refine XO.q (Q.move rfl) ?_
      refine XO.ix rfl rfl (by omega) (by omega) fun i18 => ?_
      refine XO.q (Q.ldEA [_, _, _, _, _, _] rfl (by first | assumption | omega) rfl rfl) ?_
      refine XO.call Try.call89 rfl rfl rfl (rightJ_spec (l.getD i default).2 (l.getD i default).1 K) fun v20 s20 R20 => ?_
      obtain ⟨rfl, rfl⟩ := R20
      dsimp only [List.cons_append, List.nil_append]
      refine XO.q (Q.not rfl) ?_
      refine XO.done ?_
      refine XK.if rfl (fun c2 => ?_) (fun c2 => ?_)
      · have _t2 := True.intro
        refine XK.seq ?_
        refine XK.region rfl ?_
        refine XO.q (Q.assign rfl) ?_
        refine XO.q (Q.assign rfl) ?_
        refine XO.done ?_
        refine XK.rt [] Try.func71 Try.results71 (.t rfl (.t rfl .n)) ?_
        have ha : (l.map Prod.snd).any (fun j => !jobR j) = true := List.any_eq_true.2 ⟨(l.map Prod.snd).getD i default, getD_mem (by omega), by rw [map_snd_atP, Bool.eq_false_iff.2 c2]; rfl⟩
        exact ⟨by rw [listedG, if_neg (by omega), if_pos ha], rfl⟩
      · have _t2 := True.intro
        refine XK.skip ?_
        refine XK.inBlock ?_
        refine XK.region rfl ?_
        refine XO.q (Q.move rfl) ?_
        refine XO.q (Q.add rfl rfl ⟨by omega, by omega⟩) ?_
        refine XO.q (Q.assign rfl) ?_
        refine XO.done ?_
        exact ih0 (i + 1) _ _ ⟨by omega, fun k hk => by
          by_cases h : k = i
          · subst h; exact Decidable.of_not_not c2
          · exact jr k (by omega)⟩ (by first | omega | (dsimp only; omega)) (.c rfl (.base 29 rfl rfl)) inferInstance
    · have _t1 := True.intro
      have hJ : ∀ k, k < l.length → PJobOk (l.getD k default).2 := fun k hk => jobR_iff.1 (jr k (by omega))
      have hany : ¬ (l.map Prod.snd).any (fun j => !jobR j) = true := by
        rw [any_false_of fun k hk => by rw [map_snd_atP, jr k (by rw [lm] at hk; omega)]; rfl]; decide
      refine XK.exit rfl ?_
      refine XK.seq ?_
      refine XK.region rfl ?_
      refine XO.q (Q.assign rfl) ?_
      refine XO.done ?_
      refine XK.seq ?_
      refine XK.seq ?_
      refine XK.region rfl ?_
      refine XO.q (Q.assign rfl) ?_
      refine XO.done ?_
      refine XK.block ?_
      refine XK.while (X := Nat) [2, 3, 5, 6, 22, 23, 24, 25, 26, 27, 28, 29, 30, 31, 32, 33, 34, 35, 36] (fun i => [(6, some (.int .i64 (i : Nat))), (5, some (.int .i64 (prodJ (l.map Prod.snd) i)))]) (fun i => []) (fun i => (i ≤ l.length ∧ (1 ≤ prodJ (l.map Prod.snd) i ∧ prodJ (l.map Prod.snd) i ≤ 1099511627776)) ∧ ∀ k, k < i → prodJ (l.map Prod.snd) (k + 1) ≤ 1099511627776) (fun i => l.length - i) (0) [] rfl ⟨⟨by omega, by (try unfold prodJ); omega⟩, fun k hk => by omega⟩ (.c rfl (.c rfl (.base 0 rfl rfl))) ?_
      rintro i ⟨⟨hi2, pp⟩, hp⟩ ih1
      dsimp only [List.cons_append, List.nil_append] at ih1 ⊢
      refine XK.seq ?_
      refine XK.seq ?_
      refine XK.region rfl ?_
      refine XO.q (Q.move rfl) ?_
      refine XO.q (Q.move rfl) ?_
      refine XO.len rfl fun l24 => ?_
      refine XO.q (Q.lss rfl rfl) ?_
      refine XO.done ?_
      refine XK.if rfl (fun c3 => ?_) (fun c3 => ?_)
      · have _t3 := True.intro
        have ji := map_snd_atP l i
        have ai := aL i (by omega)
        have jok := hJ i (by omega)
        have pn := prod_next (l := l.map Prod.snd) (i := i) (by omega) (by rw [ji]; exact jok) pp
        rw [ji] at pn
        have tr := total_rng jok
        refine XK.skip ?_
        refine XK.seq ?_
        refine XK.block ?_
        refine XK.seq ?_
        refine XK.region rfl ?_
        refine XO.q (Q.move rfl) ?_
        refine XO.q (Q.move rfl) ?_
        refine XO.q (Q.move rfl) ?_
        refine XO.ix rfl rfl (by omega) (by omega) fun i31 => ?_
        refine XO.q (Q.ldEA [_, _, _, _, _, _] rfl (by first | assumption | omega) rfl rfl) ?_
        refine XO.call Try.call90 rfl rfl rfl (rtotal_spec (l.getD i default).2 (l.getD i default).1 K (hJ i (by omega))) fun v33 s33 R33 => ?_
        obtain ⟨rfl, rfl⟩ := R33
        dsimp only [List.cons_append, List.nil_append]
        refine XO.q (Q.mul rfl rfl ⟨by omega, by omega⟩) ?_
        refine XO.q (Q.assign rfl) ?_
        refine XO.done ?_
        refine XK.seq ?_
        refine XK.region rfl ?_
        refine XO.q (Q.move rfl) ?_
        refine XO.q (Q.gtr rfl rfl) ?_
        refine XO.done ?_
        refine XK.if rfl (fun c4 => ?_) (fun c4 => ?_)
        · have _t4 := True.intro
          have mt := manyTo_true (l := l.map Prod.snd) (n := (l.map Prod.snd).length) (i := i) (by omega) (by rw [pn.1]; omega)
          refine XK.seq ?_
          refine XK.region rfl ?_
          refine XO.q (Q.assign rfl) ?_
          refine XO.q (Q.assign rfl) ?_
          refine XO.done ?_
          refine XK.rt [] Try.func71 Try.results71 (.t rfl (.t rfl .n)) ?_
          exact ⟨by rw [listedG, if_neg (by omega), if_neg hany, if_pos mt], rfl⟩
        · have _t4 := True.intro
          refine XK.skip ?_
          refine XK.inBlock ?_
          refine XK.region rfl ?_
          refine XO.q (Q.move rfl) ?_
          refine XO.q (Q.add rfl rfl ⟨by omega, by omega⟩) ?_
          refine XO.q (Q.assign rfl) ?_
          refine XO.done ?_
          rw [← pn.1]
          exact ih1 (i + 1) _ _ ⟨⟨by omega, by rw [pn.1]; omega⟩, fun k hk => by
            by_cases h : k = i
            · subst h; rw [pn.1]; omega
            · exact hp k (by omega)⟩ (by first | omega | (dsimp only; omega)) (.c rfl (.c rfl (.base 38 rfl rfl))) inferInstance
      · have _t3 := True.intro
        refine XK.exit rfl ?_
        refine XK.seq ?_
        refine XK.region rfl ?_
        refine XO.q (Q.move rfl) ?_
        refine XO.q (Q.assign rfl) ?_
        refine XO.q (Q.assign rfl) ?_
        refine XO.done ?_
        refine XK.rt [] Try.func71 Try.results71 (.t rfl (.t rfl .n)) ?_
        have hil : i = (l.map Prod.snd).length := by omega
        exact ⟨by rw [listedG, if_neg (by omega), if_neg hany, if_neg (by rw [manyTo_false.2 fun k hk => hp k (by omega)]; decide), ← hil], rfl⟩
end Go.X

set_option linter.unusedSimpArgs false
set_option linter.unusedVariables false
set_option maxRecDepth 20000
namespace Go.X
open Go.Proofs
set_option maxHeartbeats 4000000 in
theorem counts_spec (l : List (Value × PJob)) (vl : Value) (hl K : PHeap) [jl : Arr vl encPJ 6 hl l] (aL : JobsK l K) (ok : ListOk (l.map Prod.snd)) : Spec Try.prog 72 #[vl] [] [hl, K] (fun v hs => ∃ k C, hs = [k] ∧ OArr v encI 1 3 k C ∧ CntIs C (combos (l.map Prod.snd)) ∧ C.length ≤ 8001) := by
  have ll := jl.le
  have lm : (l.map Prod.snd).length = l.length := List.length_map ..
  have few := ok.few
  refine Spec.intro (fn := Try.f72) (N := 83) Try.func72 rfl Try.ntmps72 rfl fun B => ?_
  refine XK.seq ?_
  refine XK.region rfl ?_
  refine XO.q (Q.assign rfl) ?_
  refine XO.done ?_
  refine XK.seq ?_
  refine XK.region rfl ?_
  refine XO.lit [_] [_] [1] encI (by rfl) (by rfl) rfl (by rfl) (by exact .c 0 1 rfl rfl rfl (.n _)) (fun _ => rfl) (by rfl) rfl (by infer_instance) rfl fun v9 h9 O9 => ?_
  refine XO.q (Q.assign rfl) ?_
  refine XO.done ?_
  refine XK.seq ?_
  refine XK.seq ?_
  refine XK.region rfl ?_
  refine XO.q (Q.assign rfl) ?_
  refine XO.done ?_
  refine XK.block ?_
  refine XK.while (X := Nat × List Int × Value × PHeap) [3, 4, 5, 6, 7, 8, 10, 11, 12, 13, 14, 15, 16, 17, 18, 19, 20, 21, 22, 23, 24, 25, 26, 27, 28, 29, 30, 31, 32, 33, 34, 35, 36, 37, 38, 39, 40, 41, 42, 43, 44, 45, 46, 47, 48, 49, 50, 51, 52, 53, 54, 55, 56, 57, 58, 59, 60, 61, 62, 63, 64, 65, 66, 67, 68, 69, 70, 71, 72, 73, 74, 75, 76, 77, 78, 79, 80, 81] (fun ⟨i, C, vc, kc⟩ => [(4, some (.int .i64 (i : Nat))), (3, some (vc))]) (fun ⟨i, C, vc, kc⟩ => [kc]) (fun ⟨i, C, vc, kc⟩ => i ≤ l.length ∧ OArr vc encI 1 3 kc C ∧ CntIs C (combos ((l.map Prod.snd).take i)) ∧ C.length ≤ 1 + 1000 * i) (fun ⟨i, C, vc, kc⟩ => l.length - i) (0, [1], v9, h9) [h9] rfl ⟨by omega, O9, by rw [List.take_zero]; exact CntIs.one, by simp⟩ (.c rfl (.c rfl (.base 0 rfl rfl))) ?_
  rintro ⟨i, C, vc, kc⟩ ⟨hi, OC, hC, hlC⟩ ih0
  dsimp only [List.cons_append, List.nil_append] at ih0 ⊢
  refine XK.seq ?_
  refine XK.seq ?_
  refine XK.region rfl ?_
  refine XO.q (Q.move rfl) ?_
  refine XO.q (Q.move rfl) ?_
  refine XO.len rfl fun l12 => ?_
  refine XO.q (Q.lss rfl rfl) ?_
  refine XO.done ?_
  refine XK.if rfl (fun c0 => ?_) (fun c0 => ?_)
  · have _t0 := True.intro
    have ji := map_snd_atP l i
    have ai := aL i (by omega)
    have sb := step_bound ok (i := i) (by omega)
    rw [ji] at sb
    have jok := ok.job i (by omega)
    rw [ji] at jok
    have jf := jok.few
    have lp := (mem_draws jok (getD_mem (show (l.getD i default).2.draws.length - 1 < (l.getD i default).2.draws.length by omega))).1
    refine XK.skip ?_
    refine XK.seq ?_
    refine XK.block ?_
    refine XK.seq ?_
    refine XK.region rfl ?_
    refine XO.q (Q.move rfl) ?_
    refine XO.q (Q.move rfl) ?_
    refine XO.ix rfl rfl (by omega) (by omega) fun i18 => ?_
    refine XO.q (Q.fieldQ rfl (by first | assumption | omega)) ?_
    refine XO.q (Q.ldE rfl (by first | assumption | omega) rfl) ?_
    refine XO.q (Q.assign rfl) ?_
    refine XO.done ?_
    refine XK.seq ?_
    refine XK.region rfl ?_
    refine XO.q (Q.move rfl) ?_
    refine XO.len rfl fun l22 => ?_
    refine XO.q (Q.move rfl) ?_
    refine XO.q (Q.move rfl) ?_
    refine XO.len rfl fun l25 => ?_
    refine XO.q (Q.sub rfl rfl ⟨by omega, by omega⟩) ?_
    refine XO.ix rfl rfl (by omega) (by omega) fun i27 => ?_
    refine XO.q (Q.fieldQ rfl (by first | assumption | omega)) ?_
    refine XO.q (Q.ldE rfl (by first | assumption | omega) rfl) ?_
    rw [show (((l.getD i default).2.draws.length : Int) - 1).toNat = (l.getD i default).2.draws.length - 1 by omega]
    refine XO.q (Q.add rfl rfl ⟨by omega, by omega⟩) ?_
    obtain ⟨N, eN⟩ : ∃ N : Nat, (C.length : Int) + ((l.getD i default).2.draws.getD ((l.getD i default).2.draws.length - 1) default).power = N := ⟨((C.length : Int) + ((l.getD i default).2.draws.getD ((l.getD i default).2.draws.length - 1) default).power).toNat, by omega⟩
    rw [eN]
    refine XO.make encI (0) rfl rfl rfl (by omega) (by omega) (fun _ => rfl) rfl rfl rfl (by dsimp only [encI]; infer_instance) fun v31 h31 O31 => ?_
    refine XO.q (Q.assign rfl) ?_
    refine XO.done ?_
    refine XK.seq ?_
    refine XK.seq ?_
    refine XK.region rfl ?_
    refine XO.q (Q.assign rfl) ?_
    refine XO.done ?_
    refine XK.block ?_
    refine XK.while (X := Nat × List Int × PHeap) [7, 8, 32, 33, 34, 35, 36, 37, 38, 39, 40, 41, 42, 43, 44, 45, 46, 47, 48, 49, 50, 51, 52, 53, 54, 55, 56, 57, 58, 59, 60, 61, 62, 63, 64, 65, 66, 67, 68, 69, 70, 71, 72, 73, 74, 75, 76, 77, 78, 79, 80] (fun ⟨s, D, kd⟩ => [(7, some (.int .i64 (s : Nat)))]) (fun ⟨s, D, kd⟩ => [kd]) (fun ⟨s, D, kd⟩ => (s ≤ C.length ∧ D.length = N) ∧ PartD C D (l.getD i default).2 s 0 ∧ OArr v31 encI 1 3 kd D) (fun ⟨s, D, kd⟩ => C.length - s) (0, List.replicate N 0, h31) [h31] rfl ⟨⟨by omega, by simp⟩, PartD.zero N, O31⟩ (.c rfl (.base 0 rfl rfl)) ?_
    rintro ⟨s, D, kd⟩ ⟨⟨hs, hlD⟩, hP, OD⟩ ih1
    dsimp only [List.cons_append, List.nil_append] at ih1 ⊢
    refine XK.seq ?_
    refine XK.seq ?_
    refine XK.region rfl ?_
    refine XO.q (Q.move rfl) ?_
    refine XO.q (Q.move rfl) ?_
    refine XO.len rfl fun l34 => ?_
    refine XO.q (Q.lss rfl rfl) ?_
    refine XO.done ?_
    refine XK.if rfl (fun c1 => ?_) (fun c1 => ?_)
    · have _t1 := True.intro
      have cs : 0 ≤ C.getD s default ∧ C.getD s default ≤ 1099511627776 := by
        rw [hC.at' s (by omega)]
        have : (combos ((l.map Prod.snd).take i)).count (s : Int) ≤ (combos ((l.map Prod.snd).take i)).length := List.count_le_length
        omega
      refine XK.skip ?_
      refine XK.seq ?_
      refine XK.block ?_
      refine XK.seq ?_
      refine XK.region rfl ?_
      refine XO.q (Q.assign rfl) ?_
      refine XO.done ?_
      refine XK.block ?_
      refine XK.while (X := Nat × List Int × PHeap) [8, 38, 39, 40, 41, 42, 43, 44, 45, 46, 47, 48, 49, 50, 51, 52, 53, 54, 55, 56, 57, 58, 59, 60, 61, 62, 63, 64, 65, 66, 67, 68, 69, 70, 71, 72, 73, 74, 75, 76, 77, 78, 79, 80] (fun ⟨q, D2, kd2⟩ => [(8, some (.int .i64 (q : Nat)))]) (fun ⟨q, D2, kd2⟩ => [kd2]) (fun ⟨q, D2, kd2⟩ => (q ≤ (l.getD i default).2.draws.length ∧ D2.length = N) ∧ PartD C D2 (l.getD i default).2 s q ∧ OArr v31 encI 1 3 kd2 D2) (fun ⟨q, D2, kd2⟩ => (l.getD i default).2.draws.length - q) (0, D, kd) [kd] rfl ⟨⟨by omega, hlD⟩, hP, OD⟩ (.c rfl (.base 0 rfl rfl)) ?_
      rintro ⟨q, D2, kd2⟩ ⟨⟨hq, hlD2⟩, hP2, OD2⟩ ih2
      dsimp only [List.cons_append, List.nil_append] at ih2 ⊢
      refine XK.seq ?_
      refine XK.seq ?_
      refine XK.region rfl ?_
      refine XO.q (Q.move rfl) ?_
      refine XO.q (Q.move rfl) ?_
      refine XO.len rfl fun l40 => ?_
      refine XO.q (Q.lss rfl rfl) ?_
      refine XO.q (Q.move rfl) ?_
      refine XO.q (Quiet.guardT rfl rfl fun g43 p43 => Q.move rfl) ?_
      refine XO.q (Quiet.guardT rfl rfl fun g44 p44 => Q.move rfl) ?_
      refine XO.q (Quiet.guardT rfl rfl fun g45 p45 => Q.ix (lzv g45 rfl) (lzv g45 rfl) (by omega) (by omega)) ?_
      refine XO.q (Quiet.guardT rfl rfl fun g46 p46 => Q.ldE (lzv g46 rfl) (by first | assumption | omega) rfl) ?_
      refine XO.q (Quiet.guardT rfl rfl fun g47 p47 => Q.gtr (lzv g47 rfl) rfl) ?_
      refine XO.q (Q.and rfl (fun hp => lzv hp rfl)) ?_
      refine XO.done ?_
      refine XK.if rfl (fun c2 => ?_) (fun c2 => ?_)
      · have _t2 := True.intro
        obtain ⟨c2a, c2b⟩ := c2
        have dk := mem_draws jok (getD_mem (show q < (l.getD i default).2.draws.length by omega))
        have lmo := last_most jok (i := q) (k := (l.getD i default).2.draws.length - 1) (by omega) (by omega)
        have pd := hP2 ((s : Int) + ((l.getD i default).2.draws.getD q default).power).toNat (by omega)
        have ar := addC_rng hC jok (by omega) ((((s : Int) + ((l.getD i default).2.draws.getD q default).power).toNat : Nat) : Int) s (by omega)
        have oj := oneJ_rng jok (((((s : Int) + ((l.getD i default).2.draws.getD q default).power).toNat : Nat) : Int) - s) q (by omega)
        have m1 := mulP (b := oneJ (l.getD i default).2 (((((s : Int) + ((l.getD i default).2.draws.getD q default).power).toNat : Nat) : Int) - s) q) (n := 512) cs (by omega)
        have m2 := mulP (b := ((l.getD i default).2.draws.getD q default).count) (n := 64) cs (by omega)
        refine XK.skip ?_
        refine XK.seq ?_
        refine XK.block ?_
        refine XK.drawn [0, 1, 2, 3, 4, 5, 6, 7, 8, 9, 10, 11, 12, 13, 14, 15, 16, 18, 19, 20, 21, 22, 23, 24, 25, 26, 27, 28, 29] [] [kc] (.q 0 (.q 1 (.q 2 (.q 3 (.q 4 (.q 5 (.q 6 (.q 7 (.q 8 (.q 9 (.q 10 (.q 11 (.q 12 (.q 13 (.q 14 (.q 15 (.q 16 (.q 18 (.q 19 (.q 20 (.q 21 (.q 22 (.q 23 (.q 24 (.q 25 (.q 26 (.q 27 (.br 17 true (.q 28 (.q 29 (.br 30 false .done .stop))) .stop)))))))))))))))))))))))))))) Try.mixed rfl (by kernel_rfl) ?_
        refine XT.q rfl rfl (Q.move rfl) ?_
        refine XT.q rfl rfl (Q.move rfl) ?_
        refine XT.q rfl rfl (Q.move rfl) ?_
        refine XT.q rfl rfl (Q.move rfl) ?_
        refine XT.ix rfl rfl rfl rfl (by omega) (by omega) fun i55 => ?_
        refine XT.q rfl rfl (Q.fieldQ rfl (by first | assumption | omega)) ?_
        refine XT.q rfl rfl (Q.ldE rfl (by first | assumption | omega) rfl) ?_
        refine XT.q rfl rfl (Q.add rfl rfl ⟨by omega, by omega⟩) ?_
        refine XT.q rfl rfl (Q.move rfl) ?_
        refine XT.q rfl rfl (Q.move rfl) ?_
        refine XT.q rfl rfl (Q.move rfl) ?_
        refine XT.q rfl rfl (Q.move rfl) ?_
        refine XT.ix rfl rfl rfl rfl (by omega) (by omega) fun i63 => ?_
        refine XT.q rfl rfl (Q.fieldQ rfl (by first | assumption | omega)) ?_
        refine XT.q rfl rfl (Q.ldE rfl (by first | assumption | omega) rfl) ?_
        refine XT.q rfl rfl (Q.add rfl rfl ⟨by omega, by omega⟩) ?_
        refine XT.ix rfl rfl rfl rfl (by omega) (by omega) fun i67 => ?_
        refine XT.q rfl rfl (Q.move rfl) ?_
        refine XT.q rfl rfl (Q.move rfl) ?_
        refine XT.ix rfl rfl rfl rfl (by omega) (by omega) fun i71 => ?_
        refine XT.q rfl rfl (Q.ldE rfl (by first | assumption | omega) rfl) ?_
        refine XT.q rfl rfl (Q.move rfl) ?_
        refine XT.q rfl rfl (Q.move rfl) ?_
        refine XT.ix rfl rfl rfl rfl (by omega) (by omega) fun i75 => ?_
        refine XT.q rfl rfl (Q.fieldQ rfl (by first | assumption | omega)) ?_
        refine XT.q rfl rfl (Q.ldE rfl (by first | assumption | omega) rfl) ?_
        refine XT.q rfl rfl (Q.mul rfl rfl ⟨by omega, by omega⟩) ?_
        refine XT.qs rfl rfl (Q.ldE rfl (by first | assumption | omega) rfl) ⟨inferInstance, ?_⟩ XT.stop
        refine XT.q rfl rfl (Q.add rfl rfl ⟨by omega, by omega⟩) ?_
        refine XT.ix rfl rfl rfl rfl (by omega) (by omega) fun i80 => ?_
        refine XT.stE (D2.getD ((s : Int) + ((l.getD i default).2.draws.getD q default).power).toNat default + C.getD s default * ((l.getD i default).2.draws.getD q default).count) rfl rfl rfl rfl rfl (by assumption) rfl rfl (fun h13_30 O13_30 => ⟨inferInstance, ?_⟩) XT.stop
        refine XT.done ?_
        refine XK.inBlock ?_
        refine XK.region rfl ?_
        refine XO.q (Q.move rfl) ?_
        refine XO.q (Q.add rfl rfl ⟨by omega, by omega⟩) ?_
        refine XO.q (Q.assign rfl) ?_
        refine XO.done ?_
        exact ih2 (q + 1, _, h13_30) _ _ ⟨⟨by dsimp only; omega, by dsimp only; rw [List.length_set]; exact hlD2⟩, by dsimp only; exact hP2.add (by omega) (by omega), O13_30⟩ (by first | omega | (dsimp only; omega)) (.c rfl (.base 89 rfl rfl)) inferInstance
      · have _t2 := True.intro
        have hq2 : q = (l.getD i default).2.draws.length ∨ C.getD s default = 0 := by
          by_cases hc : q < (l.getD i default).2.draws.length
          · right
            have : ¬ 0 < C.getD s default := fun h => c2 ⟨by omega, h⟩
            omega
          · left; omega
        refine XK.exit rfl ?_
        refine XK.inBlock ?_
        refine XK.region rfl ?_
        refine XO.q (Q.move rfl) ?_
        refine XO.q (Q.add rfl rfl ⟨by omega, by omega⟩) ?_
        refine XO.q (Q.assign rfl) ?_
        refine XO.done ?_
        exact ih1 (s + 1, D2, kd2) _ _ ⟨⟨by dsimp only; omega, by dsimp only; omega⟩, hP2.next hq2, OD2⟩ (by first | omega | (dsimp only; omega)) (.c rfl (.base 116 rfl rfl)) inferInstance
    · have _t1 := True.intro
      have hsl : s = C.length := by omega
      subst hsl
      refine XK.exit rfl ?_
      refine XK.region rfl ?_
      refine XO.q (Q.move rfl) ?_
      refine XO.q (Q.assign rfl) ?_
      refine XO.done ?_
      refine XK.inBlock ?_
      refine XK.region rfl ?_
      refine XO.q (Q.move rfl) ?_
      refine XO.q (Q.add rfl rfl ⟨by omega, by omega⟩) ?_
      refine XO.q (Q.assign rfl) ?_
      refine XO.done ?_
      exact ih0 (i + 1, D, v31, kd) _ _ ⟨by dsimp only; omega, OD, by dsimp only; rw [combos_succ (by omega), ji]; exact hC.step jok (by omega) (fun x hx => by rw [hP x hx, oneJ, Int.mul_zero, Int.add_zero]), by dsimp only; omega⟩ (by first | omega | (dsimp only; omega)) (.c rfl (.c rfl (.base 164 rfl rfl))) inferInstance
  · have _t0 := True.intro
    have hil : i = (l.map Prod.snd).length := by omega
    subst hil
    rw [List.take_length] at hC
    refine XK.exit rfl ?_
    refine XK.seq ?_
    refine XK.region rfl ?_
    refine XO.q (Q.move rfl) ?_
    refine XO.q (Q.assign rfl) ?_
    refine XO.done ?_
    refine XK.rt [kc] Try.func72 Try.results72 (.t rfl .n) ?_
    exact ⟨kc, C, rfl, OC, hC, by omega⟩
end Go.X

set_option linter.unusedSimpArgs false
set_option linter.unusedVariables false
set_option maxRecDepth 20000
namespace Go.X
open Go.Proofs
instance : KeyT Try.prog 122 encK2 := KeyT.pair Try.underlying122 inferInstance inferInstance inferInstance inferInstance
theorem apart_spec (l : List (Value × PJob)) (vl : Value) (hl K : PHeap) [jl : Arr vl encPJ 6 hl l] (aL : JobsK l K) (rs : List PRack) (vr : Value) (hr : PHeap) [jr : Arr vr encRack 5 hr rs] (m : PRat) (w : List Int) (vw : Value) (hw : PHeap) [jw : Arr vw encI 1 hw w] (ok : TaskOk (⟨(l.map Prod.snd), rs, m⟩ : PTask)) (wok : WOk (⟨(l.map Prod.snd), rs, m⟩ : PTask) w) : Spec Try.prog 66 #[.agg #[vl, vr, .int .i64 m.n, .int .i64 m.d], vw] [] [hl, K, hr, hw] (fun v hs => v = .bool (apartG (⟨(l.map Prod.snd), rs, m⟩ : PTask) w) ∧ hs = []) := by
  have ll := jl.le
  have lm : (l.map Prod.snd).length = l.length := List.length_map ..
  have hwl : w.length ≤ l.length := by have := wok.len; dsimp only at this; omega
  refine Spec.intro (fn := Try.f66) (N := 47) Try.func66 rfl Try.ntmps66 rfl fun B => ?_
  refine XK.seq ?_
  refine XK.region rfl ?_
  refine XO.box rfl fun b2 => ?_
  refine XO.q (Q.assign rfl) ?_
  refine XO.done ?_
  refine XK.seq ?_
  refine XK.region rfl ?_
  refine XO.map encK2 fun b9 => ?_
  refine XO.q (Q.assign rfl) ?_
  refine XO.done ?_
  refine XK.seq ?_
  refine XK.seq ?_
  refine XK.region rfl ?_
  refine XO.q (Q.move rfl) ?_
  refine XO.len rfl fun l11 => ?_
  refine XO.q (Q.move rfl) ?_
  refine XO.done ?_
  refine XK.block ?_
  refine XK.while (X := Nat) [4, 6, 7, 8, 12, 13, 14, 15, 16, 17, 18, 19, 20, 21, 22, 23, 24, 25, 26, 27, 28, 29, 30, 31, 32, 33, 34, 35, 36, 37, 38, 39, 40, 41, 42, 43, 44, 45, 46] (fun i => [(12, some (.int .i64 (i : Nat)))]) (fun i => [mapH b9 encK2 (seenK (keysTo (⟨(l.map Prod.snd), rs, m⟩ : PTask) w i))]) (fun i => i ≤ w.length ∧ apartTo (⟨(l.map Prod.snd), rs, m⟩ : PTask) w i = true) (fun i => w.length - i) (0) [mapH b9 encK2 []] rfl ⟨by omega, rfl⟩ (.c rfl (.base 0 rfl rfl)) ?_
  rintro i ⟨hi, ha⟩ ih0
  dsimp only [List.cons_append, List.nil_append] at ih0 ⊢
  refine XK.seq ?_
  refine XK.region rfl ?_
  refine XO.q (Q.lss rfl rfl) ?_
  refine XO.done ?_
  refine XK.seq ?_
  refine XK.if rfl (fun c0 => ?_) (fun c0 => ?_)
  · have _t0 := True.intro
    have ji := map_snd_atP l i
    have sk : skipK (⟨(l.map Prod.snd), rs, m⟩ : PTask) w i = (decide (w.getD i default < 0) || decide ((l.getD i default).2.group = 0)) := by rw [skipK]; dsimp only; rw [ji]
    refine XK.skip ?_
    refine XK.seq ?_
    refine XK.block ?_
    refine XK.seq ?_
    refine XK.region rfl ?_
    refine XO.q (Q.move rfl) ?_
    refine XO.ix rfl rfl (by omega) (by omega) fun i15 => ?_
    refine XO.q (Q.ldE rfl (by first | assumption | omega) rfl) ?_
    refine XO.q (Q.assign rfl) ?_
    refine XO.q (Q.assign rfl) ?_
    refine XO.done ?_
    refine XK.seq ?_
    refine XK.seq ?_
    refine XK.region rfl ?_
    refine XO.q (Q.move rfl) ?_
    refine XO.q (Q.lss rfl rfl) ?_
    refine XO.q (Q.move rfl) ?_
    refine XO.q (Quiet.guardF rfl rfl fun g20 p20 => Q.fieldAddr rfl) ?_
    refine XO.q (Quiet.guardF rfl rfl fun g21 p21 => Q.ld (lzv g21 rfl) rfl) ?_
    refine XO.q (Quiet.guardF rfl rfl fun g22 p22 => Q.move rfl) ?_
    refine XO.q (Quiet.guardF rfl rfl fun g23 p23 => Q.ix (lzv g23 rfl) (lzv g23 rfl) (by omega) (by omega)) ?_
    refine XO.q (Quiet.guardF rfl rfl fun g24 p24 => Q.fieldQ (lzv g24 rfl) (by first | assumption | omega)) ?_
    refine XO.q (Quiet.guardF rfl rfl fun g25 p25 => Q.ldE (lzv g25 rfl) (by first | assumption | omega) rfl) ?_
    refine XO.q (Quiet.guardF rfl rfl fun g26 p26 => Q.eql (lzv g26 rfl) rfl) ?_
    refine XO.q (Q.or rfl (fun hp => lzv hp rfl)) ?_
    refine XO.done ?_
    refine XK.if rfl (fun c1 => ?_) (fun c1 => ?_)
    · have _t1 := True.intro
      have sk1 : skipK (⟨(l.map Prod.snd), rs, m⟩ : PTask) w i = true := by rw [sk, Bool.or_eq_true, decide_eq_true_eq, decide_eq_true_eq]; exact c1
      refine XK.exit rfl ?_
      refine XK.region rfl ?_
      refine XO.q (Q.add rfl rfl ⟨by omega, by omega⟩) ?_
      refine XO.q (Q.move rfl) ?_
      refine XO.done ?_
      have e2 : (keysTo (⟨(l.map Prod.snd), rs, m⟩ : PTask) w (i + 1)) = (keysTo (⟨(l.map Prod.snd), rs, m⟩ : PTask) w i) := by rw [keysTo, if_pos sk1, List.append_nil]
      rw [← e2]
      exact ih0 (i + 1) _ _ ⟨by omega, by rw [apartTo, ha, sk1]; rfl⟩ (by first | omega | (dsimp only; omega)) (.c rfl (.base 59 rfl rfl)) inferInstance
    · have _t1 := True.intro
      have sk0 : skipK (⟨(l.map Prod.snd), rs, m⟩ : PTask) w i = false := by rw [sk, Bool.or_eq_false_iff, decide_eq_false_iff_not, decide_eq_false_iff_not]; exact ⟨fun h => c1 (.inl h), fun h => c1 (.inr h)⟩
      rw [not_or] at c1
      have gr := getD_rackP wok (i := i) (by omega) c1.1
      dsimp only at gr
      have ek : (keyOf (⟨(l.map Prod.snd), rs, m⟩ : PTask) w i) = ((l.getD i default).2.group, (rs.getD (w.getD i default).toNat default).domain) := by rw [keyOf]; dsimp only; rw [ji]
      refine XK.skip ?_
      refine XK.seq ?_
      refine XK.drawn [0, 1, 2, 3, 4, 5, 6, 7, 8, 9, 10, 11, 12] [b2] [] (.q 0 (.q 1 (.q 2 (.q 3 (.q 4 (.q 5 (.q 6 (.q 7 (.q 8 (.q 9 (.q 10 (.q 11 (.q 12 (.br 13 true (.br 14 false .done .stop) .stop)))))))))))))) Try.mixed rfl (by kernel_rfl) ?_
      refine XT.q rfl rfl (Q.fieldAddr rfl) ?_
      refine XT.q rfl rfl (Q.ld rfl rfl) ?_
      refine XT.q rfl rfl (Q.move rfl) ?_
      refine XT.ix rfl rfl rfl rfl (by omega) (by omega) fun i31 => ?_
      refine XT.q rfl rfl (Q.fieldQ rfl (by first | assumption | omega)) ?_
      refine XT.q rfl rfl (Q.ldE rfl (by first | assumption | omega) rfl) ?_
      refine XT.q rfl rfl (Q.fieldAddr rfl) ?_
      refine XT.q rfl rfl (Q.ld rfl rfl) ?_
      refine XT.q rfl rfl (Q.move rfl) ?_
      refine XT.ix rfl rfl rfl rfl (by omega) (by omega) fun i37 => ?_
      refine XT.q rfl rfl (Q.fieldQ rfl (by first | assumption | omega)) ?_
      refine XT.q rfl rfl (Q.ldE rfl (by first | assumption | omega) rfl) ?_
      refine XT.q rfl rfl (Q.build [_, _] (.c 0 1 rfl rfl rfl (.c 1 1 rfl rfl rfl (.n _)))) ?_
      refine XT.alloc rfl rfl (fun b8 => ⟨inferInstance, ?_⟩) XT.stop
      refine XT.st rfl rfl rfl rfl rfl ⟨inferInstance, ?_⟩ XT.stop
      refine XT.done ?_
      refine XK.seq ?_
      refine XK.seq ?_
      refine XK.region rfl ?_
      refine XO.q (Q.move rfl) ?_
      refine XO.q (Q.ldA [_, _] rfl rfl rfl) ?_
      refine XO.q (Q.lookup (enc := encK2) _ Try.zeroValue4 (((l.getD i default).2.group, (rs.getD (w.getD i default).toNat default).domain)) rfl rfl) ?_
      rw [← ek, get_seenK]
      refine XO.done ?_
      refine XK.if rfl (fun c2 => ?_) (fun c2 => ?_)
      · have _t2 := True.intro
        refine XK.seq ?_
        refine XK.region rfl ?_
        refine XO.q (Q.assign rfl) ?_
        refine XO.done ?_
        refine XK.rt [] Try.func66 Try.results66 (.t rfl .n) ?_
        exact ⟨by rw [apartG, apartTo_false (n := i + 1) (by rw [apartTo, sk0, c2, ha]; rfl) _ (by omega)], rfl⟩
      · have _t2 := True.intro
        have c2 := Bool.eq_false_iff.2 c2
        refine XK.skip ?_
        refine XK.region rfl ?_
        refine XO.q (Q.move rfl) ?_
        refine XO.q (Q.ldA [_, _] rfl rfl rfl) ?_
        refine XO.mapUpdate (enc := encK2) (((l.getD i default).2.group, (rs.getD (w.getD i default).toNat default).domain)) rfl rfl rfl ?_
        rw [← ek, put_seenK c2]
        refine XO.done ?_
        refine XK.inBlock ?_
        refine XK.region rfl ?_
        refine XO.q (Q.add rfl rfl ⟨by omega, by omega⟩) ?_
        refine XO.q (Q.move rfl) ?_
        refine XO.done ?_
        have e2 : (keysTo (⟨(l.map Prod.snd), rs, m⟩ : PTask) w (i + 1)) = (keysTo (⟨(l.map Prod.snd), rs, m⟩ : PTask) w i) ++ [(keyOf (⟨(l.map Prod.snd), rs, m⟩ : PTask) w i)] := by rw [keysTo, if_neg (by rw [sk0]; decide)]
        rw [← e2]
        exact ih0 (i + 1) _ _ ⟨by omega, by rw [apartTo, ha, c2]; simp⟩ (by first | omega | (dsimp only; omega)) (.c rfl (.base 78 rfl rfl)) inferInstance
  · have _t0 := True.intro
    have hin : i = w.length := by omega
    subst hin
    refine XK.exit rfl ?_
    refine XK.seq ?_
    refine XK.region rfl ?_
    refine XO.q (Q.assign rfl) ?_
    refine XO.done ?_
    refine XK.rt [] Try.func66 Try.results66 (.t rfl .n) ?_
    exact ⟨by rw [apartG, ha], rfl⟩
end Go.X

set_option linter.unusedSimpArgs false
set_option linter.unusedVariables false
set_option maxRecDepth 20000
namespace Go.X
open Go.Proofs
theorem allowed_spec (l : List (Value × PJob)) (vl : Value) (hl K : PHeap) [jl : Arr vl encPJ 6 hl l] (aL : JobsK l K) (rs : List PRack) (vr : Value) (hr : PHeap) [jr : Arr vr encRack 5 hr rs] (m : PRat) (w : List Int) (vw : Value) (hw : PHeap) [jw : Arr vw encI 1 hw w] (ok : TaskOk (⟨(l.map Prod.snd), rs, m⟩ : PTask)) (wok : WOk (⟨(l.map Prod.snd), rs, m⟩ : PTask) w) (lok : ∀ r, r < rs.length → ListOk (inL (⟨(l.map Prod.snd), rs, m⟩ : PTask) w r)) : Spec Try.prog 40 #[.agg #[vl, vr, .int .i64 m.n, .int .i64 m.d], vw] [] [hl, K, hr, hw] (fun v hs => v = .bool (allowedB (⟨(l.map Prod.snd), rs, m⟩ : PTask) w) ∧ hs = []) := by
  have ll := jl.le
  have lm : (l.map Prod.snd).length = l.length := List.length_map ..
  have few := ok.few
  have few2 : l.length ≤ 8 := by rw [← lm]; exact few
  have hwl : w.length ≤ l.length := by have := wok.len; dsimp only at this; omega
  refine Spec.intro (fn := Try.f40) (N := 38) Try.func40 rfl Try.ntmps40 rfl fun B => ?_
  refine XK.seq ?_
  refine XK.region rfl ?_
  refine XO.box rfl fun b2 => ?_
  refine XO.q (Q.assign rfl) ?_
  refine XO.done ?_
  refine XK.seq ?_
  refine XK.seq ?_
  refine XK.region rfl ?_
  refine XO.q (Q.fieldAddr rfl) ?_
  refine XO.q (Q.ld rfl rfl) ?_
  refine XO.len rfl fun l12 => ?_
  refine XO.q (Q.move rfl) ?_
  refine XO.done ?_
  refine XK.block ?_
  refine XK.while (X := Nat) [4, 5, 6, 7, 8, 9, 13, 14, 15, 16, 17, 18, 19, 20, 21, 22, 23, 24, 25, 26, 27, 28, 29, 30, 31, 32, 33, 34] (fun r => [(13, some (.int .i64 (r : Nat)))]) (fun r => []) (fun r => r ≤ rs.length ∧ (fitTo (⟨(l.map Prod.snd), rs, m⟩ : PTask) w r) = true) (fun r => rs.length - r) (0) [] rfl ⟨by omega, rfl⟩ (.c rfl (.base 0 rfl rfl)) ?_
  rintro r ⟨hr_, ft⟩ ih0
  dsimp only [List.cons_append, List.nil_append] at ih0 ⊢
  refine XK.seq ?_
  refine XK.region rfl ?_
  refine XO.q (Q.lss rfl rfl) ?_
  refine XO.done ?_
  refine XK.seq ?_
  refine XK.if rfl (fun c0 => ?_) (fun c0 => ?_)
  · have _t0 := True.intro
    refine XK.skip ?_
    refine XK.seq ?_
    refine XK.block ?_
    refine XK.seq ?_
    refine XK.region rfl ?_
    refine XO.q (Q.move rfl) ?_
    refine XO.ix rfl rfl (by omega) (by omega) fun i16 => ?_
    refine XO.q (Q.ldEA [_, _, _, _, _] rfl (by first | assumption | omega) rfl rfl) ?_
    refine XO.alloc fun b6 => ?_
    refine XO.q (Q.assign rfl) ?_
    refine XO.st rfl rfl rfl ?_
    refine XO.done ?_
    refine XK.seq ?_
    refine XK.region rfl ?_
    refine XO.q (Q.ldA [_, _, _, _] rfl rfl rfl) ?_
    refine XO.q (Q.move rfl) ?_
    refine XO.q (Q.move rfl) ?_
    refine XO.call Try.call42 rfl rfl rfl (in_spec l vl hl K aL rs vr hr m w vw hw (r : Nat) (by omega) (by omega)) fun v21 s21 R21 => ?_
    obtain ⟨k21, rfl, O21⟩ := R21
    dsimp only [List.cons_append, List.nil_append]
    refine XO.q (Q.assign rfl) ?_
    refine XO.done ?_
    refine XK.seq ?_
    refine XK.region rfl ?_
    refine XO.q (Q.move rfl) ?_
    refine XO.call Try.call25 rfl rfl rfl (listed_spec (inTo l w (r : Nat) w.length) v21 k21 K (aL.inTo (by omega))) fun v24 s24 R24 => ?_
    obtain ⟨rfl, rfl⟩ := R24
    dsimp only [List.cons_append, List.nil_append]
    have lr := listed_rng (lok r (by omega))
    have em : ((inTo l w (r : Nat) w.length).map Prod.snd) = inL (⟨(l.map Prod.snd), rs, m⟩ : PTask) w r := in_mem _
    refine XO.q (Q.move rfl) ?_
    refine XO.q (Q.extract rfl rfl) ?_
    refine XO.q (Q.extract rfl rfl) ?_
    refine XO.q (Q.assign rfl) ?_
    refine XO.q (Q.assign rfl) ?_
    refine XO.done ?_
    refine XK.seq ?_
    refine XK.region rfl ?_
    refine XO.q (Q.move rfl) ?_
    refine XO.q (Q.ldA [_, _, _, _, _] rfl rfl rfl) ?_
    refine XO.q (Q.fieldAddr rfl) ?_
    refine XO.q (Q.ldA [_, _] rfl rfl rfl) ?_
    refine XO.q (Q.move rfl) ?_
    refine XO.call Try.call65 rfl rfl rfl (fits_spec (inTo l w (r : Nat) w.length) v21 k21 K (aL.inTo (by omega)) (by rw [em]; exact lok r (by omega)) (rs.getD r default) m ok.most (listedG ((inTo l w (r : Nat) w.length).map Prod.snd)).1 (by rw [em, lr.1])) fun v32 s32 R32 => ?_
    obtain ⟨rfl, rfl⟩ := R32
    dsimp only [List.cons_append, List.nil_append]
    rw [show fitsG ((inTo l w (r : Nat) w.length).map Prod.snd) (rs.getD r default) m = fitAt (⟨(l.map Prod.snd), rs, m⟩ : PTask) w r by rw [em]; rfl]
    refine XO.q (Q.not rfl) ?_
    refine XO.done ?_
    refine XK.if rfl (fun c1 => ?_) (fun c1 => ?_)
    · have _t1 := True.intro
      refine XK.seq ?_
      refine XK.region rfl ?_
      refine XO.q (Q.assign rfl) ?_
      refine XO.done ?_
      refine XK.rt [] Try.func40 Try.results40 (.t rfl .n) ?_
      exact ⟨by rw [allowedB, fitTo_false (n := r + 1) (by rw [fitTo, ft, Bool.eq_false_iff.2 c1]; rfl) _ (by dsimp only; omega)]; rfl, rfl⟩
    · have _t1 := True.intro
      refine XK.skip ?_
      refine XK.inBlock ?_
      refine XK.region rfl ?_
      refine XO.q (Q.add rfl rfl ⟨by omega, by omega⟩) ?_
      refine XO.q (Q.move rfl) ?_
      refine XO.done ?_
      exact ih0 (r + 1) _ _ ⟨by omega, by rw [fitTo, ft, Decidable.of_not_not c1]; rfl⟩ (by first | omega | (dsimp only; omega)) (.c rfl (.base 56 rfl rfl)) inferInstance
  · have _t0 := True.intro
    have hrl : r = rs.length := by omega
    subst hrl
    refine XK.exit rfl ?_
    refine XK.seq ?_
    refine XK.region rfl ?_
    refine XO.q (Q.ldA [_, _, _, _] rfl rfl rfl) ?_
    refine XO.q (Q.move rfl) ?_
    refine XO.call Try.call66 rfl rfl rfl (apart_spec l vl hl K aL rs vr hr m w vw hw ok wok) fun v37 s37 R37 => ?_
    obtain ⟨rfl, rfl⟩ := R37
    dsimp only [List.cons_append, List.nil_append]
    refine XO.q (Q.assign rfl) ?_
    refine XO.done ?_
    refine XK.rt [] Try.func40 Try.results40 (.t rfl .n) ?_
    exact ⟨by rw [allowedB]; dsimp only; rw [ft]; rfl, rfl⟩
def fitsG0 (l : List PJob) (r : PRack) (m : PRat) : Bool × Int := if (listedG l).2 ≠ 0 then (false, (listedG l).2) else if ¬ rackR r = true then (false, 6) else if ¬ chanceR m = true then (false, 1) else (fitsG l r m, 0)
theorem Fits_spec (l : List (Value × PJob)) (vl : Value) (hl K : PHeap) [jl : Arr vl encPJ 6 hl l] (aL : JobsK l K) (r : PRack) (m : PRat) : Spec Try.prog 50 #[vl, .agg #[.int .i64 r.r0, .int .i64 r.r1, .int .i64 r.r2, .int .i64 r.cap, .int .i64 r.domain], .agg #[.int .i64 m.n, .int .i64 m.d]] [] [hl, K] (fun v hs => v = .tuple #[.bool (fitsG0 (l.map Prod.snd) r m).1, .int .i64 (fitsG0 (l.map Prod.snd) r m).2] ∧ hs = []) := by
  refine Spec.intro (fn := Try.f50) (N := 32) Try.func50 rfl Try.ntmps50 rfl fun B => ?_
  refine XK.seq ?_
  refine XK.region rfl ?_
  refine XO.box rfl fun b4 => ?_
  refine XO.box rfl fun b5 => ?_
  refine XO.q (Q.assign rfl) ?_
  refine XO.q (Q.assign rfl) ?_
  refine XO.done ?_
  refine XK.seq ?_
  refine XK.region rfl ?_
  refine XO.q (Q.move rfl) ?_
  refine XO.call Try.call25 rfl rfl rfl (listed_spec l vl hl K aL) fun v12 s12 R12 => ?_
  obtain ⟨rfl, rfl⟩ := R12
  dsimp only [List.cons_append, List.nil_append]
  refine XO.q (Q.move rfl) ?_
  refine XO.q (Q.extract rfl rfl) ?_
  refine XO.q (Q.extract rfl rfl) ?_
  refine XO.q (Q.assign rfl) ?_
  refine XO.q (Q.assign rfl) ?_
  refine XO.done ?_
  refine XK.seq ?_
  refine XK.block ?_
  refine XK.seq ?_
  refine XK.region rfl ?_
  refine XO.q (Q.move rfl) ?_
  refine XO.q (Q.neq rfl rfl) ?_
  refine XO.q (Q.assign rfl) ?_
  refine XO.done ?_
  refine XK.if rfl (fun c0 => ?_) (fun c0 => ?_)
  · have _t0 := True.intro
    refine XK.seq ?_
    refine XK.region rfl ?_
    refine XO.q (Q.move rfl) ?_
    refine XO.q (Q.assign rfl) ?_
    refine XO.q (Q.assign rfl) ?_
    refine XO.done ?_
    refine XK.rt [] Try.func50 Try.results50 (.t rfl (.t rfl .n)) ?_
    exact ⟨by rw [fitsG0, if_pos c0], rfl⟩
  · have _t0 := True.intro
    refine XK.seq ?_
    refine XK.region rfl ?_
    refine XO.q (Q.ldA [_, _, _, _, _] rfl rfl rfl) ?_
    refine XO.call Try.call74 rfl rfl rfl (rackR_spec r) fun v21 s21 R21 => ?_
    obtain ⟨rfl, rfl⟩ := R21
    dsimp only [List.cons_append, List.nil_append]
    refine XO.q (Q.not rfl) ?_
    refine XO.q (Q.assign rfl) ?_
    refine XO.done ?_
    refine XK.if rfl (fun c1 => ?_) (fun c1 => ?_)
    · have _t1 := True.intro
      refine XK.seq ?_
      refine XK.region rfl ?_
      refine XO.q (Q.assign rfl) ?_
      refine XO.q (Q.assign rfl) ?_
      refine XO.done ?_
      refine XK.rt [] Try.func50 Try.results50 (.t rfl (.t rfl .n)) ?_
      exact ⟨by rw [fitsG0, if_neg c0, if_pos c1], rfl⟩
    · have _t1 := True.intro
      refine XK.seq ?_
      refine XK.region rfl ?_
      refine XO.q (Q.ldA [_, _] rfl rfl rfl) ?_
      refine XO.call Try.call54 rfl rfl rfl (chance_spec m) fun v25 s25 R25 => ?_
      obtain ⟨rfl, rfl⟩ := R25
      dsimp only [List.cons_append, List.nil_append]
      refine XO.q (Q.not rfl) ?_
      refine XO.q (Q.assign rfl) ?_
      refine XO.done ?_
      refine XK.if rfl (fun c2 => ?_) (fun c2 => ?_)
      · have _t2 := True.intro
        refine XK.seq ?_
        refine XK.region rfl ?_
        refine XO.q (Q.assign rfl) ?_
        refine XO.q (Q.assign rfl) ?_
        refine XO.done ?_
        refine XK.rt [] Try.func50 Try.results50 (.t rfl (.t rfl .n)) ?_
        exact ⟨by rw [fitsG0, if_neg c0, if_neg c1, if_pos c2], rfl⟩
      · have _t2 := True.intro
        refine XK.skip ?_
        refine XK.inBlock ?_
        refine XK.seq ?_
        refine XK.region rfl ?_
        refine XO.q (Q.move rfl) ?_
        refine XO.q (Q.ldA [_, _, _, _, _] rfl rfl rfl) ?_
        refine XO.q (Q.ldA [_, _] rfl rfl rfl) ?_
        refine XO.q (Q.move rfl) ?_
        refine XO.call Try.call65 rfl rfl rfl (fits_spec l vl hl K aL (listed_ok.1 (Decidable.of_not_not c0)) r m (Decidable.of_not_not c2) (listedG (l.map Prod.snd)).1 (by rw [listed_prod (listed_ok.1 (Decidable.of_not_not c0))])) fun v31 s31 R31 => ?_
        obtain ⟨rfl, rfl⟩ := R31
        dsimp only [List.cons_append, List.nil_append]
        refine XO.q (Q.assign rfl) ?_
        refine XO.q (Q.assign rfl) ?_
        refine XO.done ?_
        refine XK.rt [] Try.func50 Try.results50 (.t rfl (.t rfl .n)) ?_
        exact ⟨by rw [fitsG0, if_neg c0, if_neg c1, if_neg c2], rfl⟩
def fillB (l : List PJob) (limit : Int) (m : PRat) (n : Nat) : Bool := atMostB (overG (l.take n) limit (prodJ (l.take n) (l.take n).length)) m
/-- The first number of jobs with one more of which the chance is too great. -/
def fillTo (l : List PJob) (limit : Int) (m : PRat) : Nat → Nat → Nat
  | 0, n => n
  | k + 1, n => if fillB l limit m (n + 1) = true then fillTo l limit m k (n + 1) else n
def fillG (l : List PJob) (limit : Int) (m : PRat) : Int × Int := if (listedG l).2 ≠ 0 then (0, (listedG l).2) else if ¬ chanceR m = true then (0, 1) else ((fillTo l limit m l.length 0 : Nat), 0)
theorem prodJ_take {l : List PJob} {n : Nat} : ∀ {i : Nat}, i ≤ n → prodJ (l.take n) i = prodJ l i
  | 0, _ => rfl
  | i + 1, h => by
    rw [prodJ, prodJ, prodJ_take (by omega), List.getD_eq_getElem?_getD, List.getElem?_take, if_pos (by omega), List.getD_eq_getElem?_getD]
theorem ListOk.take {l : List PJob} (ok : ListOk l) (n : Nat) : ListOk (l.take n) := by
  have hl : (l.take n).length ≤ n := by rw [List.length_take]; omega
  have hl2 : (l.take n).length ≤ l.length := by rw [List.length_take]; omega
  refine ⟨Nat.le_trans hl2 ok.few, fun i hi => ?_, fun i hi => ?_⟩
  · rw [List.getD_eq_getElem?_getD, List.getElem?_take, if_pos (by omega), ← List.getD_eq_getElem?_getD]; exact ok.job i (by omega)
  · rw [prodJ_take (by omega)]; exact ok.prod i (by omega)
theorem cut_map {l : List (Value × PJob)} {n : Nat} : (((l.drop 0).take ((n + 1) - 0)).map Prod.snd) = (l.map Prod.snd).take (n + 1) := by
  rw [List.drop_zero, Nat.sub_zero, List.map_take]
theorem JobsK.cut {l : List (Value × PJob)} {K : PHeap} (aL : JobsK l K) {n : Nat} (hn : n < l.length) : JobsK ((l.drop 0).take ((n + 1) - 0)) K := fun i hi => by
  have hl : ((l.drop 0).take ((n + 1) - 0)).length = n + 1 := by rw [List.drop_zero, Nat.sub_zero, List.length_take]; omega
  have e : (((l.drop 0).take ((n + 1) - 0))).getD i default = l.getD i default := by
    rw [List.drop_zero, Nat.sub_zero, List.getD_eq_getElem?_getD, List.getElem?_take, if_pos (by omega), ← List.getD_eq_getElem?_getD]
  rw [e]; exact aL i (by omega)
set_option maxHeartbeats 2000000 in
theorem Fill_spec (l : List (Value × PJob)) (vl : Value) (hl K : PHeap) [jl : Arr vl encPJ 6 hl l] (aL : JobsK l K) (limit : Int) (m : PRat) : Spec Try.prog 22 #[vl, .int .i64 limit, .agg #[.int .i64 m.n, .int .i64 m.d]] [] [hl, K] (fun v hs => v = .tuple #[.int .i64 (fillG (l.map Prod.snd) limit m).1, .int .i64 (fillG (l.map Prod.snd) limit m).2] ∧ hs = []) := by
  have ll := jl.le
  have lm : (l.map Prod.snd).length = l.length := List.length_map ..
  refine Spec.intro (fn := Try.f22) (N := 49) Try.func22 rfl Try.ntmps22 rfl fun B => ?_
  refine XK.seq ?_
  refine XK.region rfl ?_
  refine XO.box rfl fun b5 => ?_
  refine XO.q (Q.assign rfl) ?_
  refine XO.q (Q.assign rfl) ?_
  refine XO.done ?_
  refine XK.seq ?_
  refine XK.seq ?_
  refine XK.region rfl ?_
  refine XO.q (Q.move rfl) ?_
  refine XO.call Try.call25 rfl rfl rfl (listed_spec l vl hl K aL) fun v15 s15 R15 => ?_
  obtain ⟨rfl, rfl⟩ := R15
  dsimp only [List.cons_append, List.nil_append]
  refine XO.q (Q.move rfl) ?_
  refine XO.q (Q.extract rfl rfl) ?_
  refine XO.q (Q.extract rfl rfl) ?_
  refine XO.q (Q.assign rfl) ?_
  refine XO.q (Q.assign rfl) ?_
  refine XO.done ?_
  refine XK.seq ?_
  refine XK.region rfl ?_
  refine XO.q (Q.move rfl) ?_
  refine XO.q (Q.neq rfl rfl) ?_
  refine XO.done ?_
  refine XK.if rfl (fun c0 => ?_) (fun c0 => ?_)
  · have _t0 := True.intro
    refine XK.seq ?_
    refine XK.region rfl ?_
    refine XO.q (Q.move rfl) ?_
    refine XO.q (Q.assign rfl) ?_
    refine XO.q (Q.assign rfl) ?_
    refine XO.done ?_
    refine XK.rt [] Try.func22 Try.results22 (.t rfl (.t rfl .n)) ?_
    exact ⟨by rw [fillG, if_pos c0], rfl⟩
  · have _t0 := True.intro
    have ok := listed_ok.1 (Decidable.of_not_not c0)
    have few := ok.few
    rw [lm] at few
    refine XK.skip ?_
    refine XK.seq ?_
    refine XK.seq ?_
    refine XK.region rfl ?_
    refine XO.q (Q.ldA [_, _] rfl rfl rfl) ?_
    refine XO.call Try.call54 rfl rfl rfl (chance_spec m) fun v22 s22 R22 => ?_
    obtain ⟨rfl, rfl⟩ := R22
    dsimp only [List.cons_append, List.nil_append]
    refine XO.q (Q.not rfl) ?_
    refine XO.done ?_
    refine XK.if rfl (fun c1 => ?_) (fun c1 => ?_)
    · have _t1 := True.intro
      refine XK.seq ?_
      refine XK.region rfl ?_
      refine XO.q (Q.assign rfl) ?_
      refine XO.q (Q.assign rfl) ?_
      refine XO.done ?_
      refine XK.rt [] Try.func22 Try.results22 (.t rfl (.t rfl .n)) ?_
      exact ⟨by rw [fillG, if_neg c0, if_pos c1], rfl⟩
    · have _t1 := True.intro
      have hm : chanceR m = true := Decidable.of_not_not c1
      refine XK.skip ?_
      refine XK.seq ?_
      refine XK.region rfl ?_
      refine XO.q (Q.assign rfl) ?_
      refine XO.done ?_
      refine XK.seq ?_
      refine XK.block ?_
      refine XK.while (X := Nat) [10, 11, 12, 24, 25, 26, 27, 28, 29, 30, 31, 32, 33, 34, 35, 36, 37, 38, 39, 40, 41, 42, 43, 44, 45, 46, 47] (fun n => [(10, some (.int .i64 (n : Nat)))]) (fun n => []) (fun n => n ≤ l.length ∧ fillTo (l.map Prod.snd) limit m (l.map Prod.snd).length 0 = fillTo (l.map Prod.snd) limit m (l.length - n) n) (fun n => l.length - n) (0) [] rfl ⟨by omega, by rw [lm]; rfl⟩ (.c rfl (.base 0 rfl rfl)) ?_
      rintro n ⟨hn, hf⟩ ih0
      dsimp only [List.cons_append, List.nil_append] at ih0 ⊢
      refine XK.seq ?_
      refine XK.seq ?_
      refine XK.region rfl ?_
      refine XO.q (Q.move rfl) ?_
      refine XO.q (Q.move rfl) ?_
      refine XO.len rfl fun l26 => ?_
      refine XO.q (Q.lss rfl rfl) ?_
      refine XO.done ?_
      refine XK.if rfl (fun c2 => ?_) (fun c2 => ?_)
      · have _t2 := True.intro
        have lr := listed_rng (ok.take (n + 1))
        refine XK.skip ?_
        refine XK.block ?_
        refine XK.seq ?_
        refine XK.region rfl ?_
        refine XO.q (Q.move rfl) ?_
        refine XO.q (Q.move rfl) ?_
        refine XO.q (Q.add rfl rfl ⟨by omega, by omega⟩) ?_
        rw [show ((n : Nat) : Int) + 1 = ((n + 1 : Nat) : Int) from rfl]
        refine XO.cut (i := 0) (j := n + 1) rfl .n (.s rfl (by omega)) (by omega) (by omega) fun v32 A32 => ?_
        refine XO.call Try.call25 rfl rfl rfl (listed_spec ((l.drop 0).take ((n + 1) - 0)) v32 hl K (aL.cut (by omega))) fun v33 s33 R33 => ?_
        obtain ⟨rfl, rfl⟩ := R33
        dsimp only [List.cons_append, List.nil_append]
        rw [cut_map]
        refine XO.q (Q.move rfl) ?_
        refine XO.q (Q.extract rfl rfl) ?_
        refine XO.q (Q.extract rfl rfl) ?_
        refine XO.q (Q.assign rfl) ?_
        refine XO.q (Q.assign rfl) ?_
        refine XO.done ?_
        refine XK.seq ?_
        refine XK.seq ?_
        refine XK.drawn [0, 1, 2, 3, 4, 5, 7, 9] [b5] [] (.q 0 (.q 1 (.q 2 (.q 3 (.q 4 (.q 5 (.q 7 (.br 6 true (.br 8 true (.q 9 .done) .stop) .stop)))))))) Try.mixed rfl (by kernel_rfl) ?_
        refine XT.q rfl rfl (Q.move rfl) ?_
        refine XT.q rfl rfl (Q.move rfl) ?_
        refine XT.q rfl rfl (Q.add rfl rfl ⟨by omega, by omega⟩) ?_
        rw [show ((n : Nat) : Int) + 1 = ((n + 1 : Nat) : Int) from rfl]
        refine XT.q rfl rfl (Q.cut (i := 0) (j := n + 1) rfl .n (.s rfl (by omega)) (by omega) (by omega)) ?_
        refine XT.q rfl rfl (Q.move rfl) ?_
        refine XT.q rfl rfl (Q.move rfl) ?_
        refine XT.q rfl rfl (Q.ldA [_, _] rfl rfl rfl) ?_
        refine XT.call rfl rfl Try.call29 rfl rfl rfl (by haveI := Arr.cut jl (i := 0) (j := n + 1) (by omega) (by omega); exact over_spec ((l.drop 0).take ((n + 1) - 0)) (cutv vl 6 0 (n + 1)) hl K (aL.cut (by omega)) (by rw [cut_map]; exact ok.take (n + 1)) limit (listedG ((l.map Prod.snd).take (n + 1))).1 (by rw [lr.1]; exact lr.2)) (fun v42 s42 R42 => ?_) XT.stop
        obtain ⟨rfl, rfl⟩ := R42
        dsimp only [List.cons_append, List.nil_append]
        refine ⟨inferInstance, ?_⟩
        rw [cut_map, lr.1]
        have orr := over_rng ((l.map Prod.snd).take (n + 1)) limit (all := prodJ ((l.map Prod.snd).take (n + 1)) ((l.map Prod.snd).take (n + 1)).length) lr.2 (by have := combos_len (ok.take (n + 1)) _ (Nat.le_refl _); rw [List.take_length] at this; exact this)
        refine XT.call rfl rfl Try.call55 rfl rfl rfl (atMost_spec (overG ((l.map Prod.snd).take (n + 1)) limit (prodJ ((l.map Prod.snd).take (n + 1)) ((l.map Prod.snd).take (n + 1)).length)) m orr (chanceR_rng hm)) (fun v44 s44 R44 => ?_) XT.stop
        obtain ⟨rfl, rfl⟩ := R44
        dsimp only [List.cons_append, List.nil_append]
        refine ⟨inferInstance, ?_⟩
        refine XT.q rfl rfl (Q.not rfl) ?_
        refine XT.done ?_
        refine XK.if rfl (fun c3 => ?_) (fun c3 => ?_)
        · have _t3 := True.intro
          have e1 : fillTo (l.map Prod.snd) limit m (l.length - n) n = n := by rw [show l.length - n = (l.length - n - 1) + 1 by omega, fillTo, if_neg (show ¬ fillB (l.map Prod.snd) limit m (n + 1) = true from c3)]
          refine XK.exit rfl ?_
          refine XK.seq ?_
          refine XK.region rfl ?_
          refine XO.q (Q.move rfl) ?_
          refine XO.q (Q.assign rfl) ?_
          refine XO.q (Q.assign rfl) ?_
          refine XO.done ?_
          refine XK.rt [] Try.func22 Try.results22 (.t rfl (.t rfl .n)) ?_
          exact ⟨by rw [fillG, if_neg c0, if_neg c1, hf, e1], rfl⟩
        · have _t3 := True.intro
          have e1 : fillTo (l.map Prod.snd) limit m (l.length - n) n = fillTo (l.map Prod.snd) limit m (l.length - (n + 1)) (n + 1) := by rw [show l.length - n = (l.length - (n + 1)) + 1 by omega, fillTo, if_pos (show fillB (l.map Prod.snd) limit m (n + 1) = true from Decidable.of_not_not c3)]
          refine XK.skip ?_
          refine XK.region rfl ?_
          refine XO.q (Q.move rfl) ?_
          refine XO.q (Q.add rfl rfl ⟨by omega, by omega⟩) ?_
          refine XO.q (Q.assign rfl) ?_
          refine XO.done ?_
          refine XK.inBlock ?_
          exact ih0 (n + 1) _ _ ⟨by omega, by rw [hf, e1]⟩ (by first | omega | (dsimp only; omega)) (.c rfl (.base 55 rfl rfl)) inferInstance
      · have _t2 := True.intro
        refine XK.exit rfl ?_
        refine XK.seq ?_
        refine XK.region rfl ?_
        refine XO.q (Q.move rfl) ?_
        refine XO.q (Q.assign rfl) ?_
        refine XO.q (Q.assign rfl) ?_
        refine XO.done ?_
        refine XK.rt [] Try.func22 Try.results22 (.t rfl (.t rfl .n)) ?_
        exact ⟨by rw [fillG, if_neg c0, if_neg c1, hf, show l.length - n = 0 by omega, fillTo], rfl⟩
end Go.X

set_option linter.unusedSimpArgs false
set_option linter.unusedVariables false
set_option maxRecDepth 20000
namespace Go.X
open Go.Proofs
set_option maxHeartbeats 1000000 in
theorem rchance_spec (l : List (Value × PJob)) (vl : Value) (hl K : PHeap) [jl : Arr vl encPJ 6 hl l] (aL : JobsK l K) (limit : Int) : Spec Try.prog 49 #[vl, .int .i64 limit] [] [hl, K] (fun v hs => v = .tuple #[.agg #[.int .i64 (chanceG (l.map Prod.snd) limit).1.n, .int .i64 (chanceG (l.map Prod.snd) limit).1.d], .int .i64 (chanceG (l.map Prod.snd) limit).2] ∧ hs = []) := by
  refine Spec.intro (fn := Try.f49) (N := 48) Try.func49 rfl Try.ntmps49 rfl fun B => ?_
  refine XK.seq ?_
  refine XK.region rfl ?_
  refine XO.alloc fun b4 => ?_
  refine XO.q (Q.assign rfl) ?_
  refine XO.done ?_
  refine XK.seq ?_
  refine XK.region rfl ?_
  refine XO.q (Q.move rfl) ?_
  refine XO.call Try.call71 rfl rfl rfl (rlisted_spec l vl hl K aL) fun v14 s14 R14 => ?_
  obtain ⟨rfl, rfl⟩ := R14
  dsimp only [List.cons_append, List.nil_append]
  refine XO.q (Q.move rfl) ?_
  refine XO.q (Q.extract rfl rfl) ?_
  refine XO.q (Q.extract rfl rfl) ?_
  refine XO.q (Q.assign rfl) ?_
  refine XO.q (Q.assign rfl) ?_
  refine XO.done ?_
  refine XK.seq ?_
  refine XK.seq ?_
  refine XK.region rfl ?_
  refine XO.q (Q.move rfl) ?_
  refine XO.q (Q.neq rfl rfl) ?_
  refine XO.done ?_
  refine XK.if rfl (fun c0 => ?_) (fun c0 => ?_)
  · have _t0 := True.intro
    refine XK.seq ?_
    refine XK.region rfl ?_
    refine XO.q (Q.build [_, _] (.n _)) ?_
    refine XO.q (Q.move rfl) ?_
    refine XO.st rfl rfl rfl ?_
    refine XO.q (Q.assign rfl) ?_
    refine XO.done ?_
    refine XK.rt [] Try.func49 Try.results49 (.cell [_, _] rfl rfl rfl (.t rfl .n)) ?_
    exact ⟨by rw [chanceG, if_pos c0], rfl⟩
  · have _t0 := True.intro
    have ok := listed_ok.1 (Decidable.of_not_not c0)
    have lr := listed_rng ok
    have ca := combos_all ok
    have ol := over_len (combos (l.map Prod.snd)) limit
    have l1 : (listedG (l.map Prod.snd)).1 = prodJ (l.map Prod.snd) (l.map Prod.snd).length := by rw [lr.1]
    have gp := gcd_pos (n := (((overN (combos (l.map Prod.snd)) limit) : Nat) : Int)) (all := (listedG (l.map Prod.snd)).1) (by omega)
    refine XK.skip ?_
    refine XK.seq ?_
    refine XK.region rfl ?_
    refine XO.q (Q.assign rfl) ?_
    refine XO.done ?_
    refine XK.seq ?_
    refine XK.region rfl ?_
    refine XO.q (Q.move rfl) ?_
    refine XO.call Try.call72 rfl rfl rfl (counts_spec l vl hl K aL ok) fun v22 s22 R22 => ?_
    obtain ⟨kc, CC, rfl, OC, hC, hlC⟩ := R22
    dsimp only [List.cons_append, List.nil_append]
    refine XO.q (Q.assign rfl) ?_
    refine XO.done ?_
    refine XK.seq ?_
    refine XK.seq ?_
    refine XK.region rfl ?_
    refine XO.q (Q.assign rfl) ?_
    refine XO.done ?_
    refine XK.block ?_
    refine XK.while (X := Nat) [8, 10, 23, 24, 25, 26, 27, 28, 29, 30, 31, 32, 33, 34, 35, 36, 37] (fun i => [(10, some (.int .i64 (i : Nat))), (8, some (.int .i64 (ovC CC limit i)))]) (fun i => []) (fun i => i ≤ CC.length) (fun i => CC.length - i) (0) [] rfl (by omega) (.c rfl (.c rfl (.base 0 rfl rfl))) ?_
    rintro i hi ih0
    dsimp only [List.cons_append, List.nil_append] at ih0 ⊢
    refine XK.seq ?_
    refine XK.seq ?_
    refine XK.region rfl ?_
    refine XO.q (Q.move rfl) ?_
    refine XO.q (Q.move rfl) ?_
    refine XO.len rfl fun l25 => ?_
    refine XO.q (Q.lss rfl rfl) ?_
    refine XO.done ?_
    refine XK.if rfl (fun c1 => ?_) (fun c1 => ?_)
    · have _t1 := True.intro
      have ovr := ovC_rng hC limit i (by omega)
      have cr := cnt_rng hC (i := i) (by omega)
      have mm := mulP (a := (i : Int)) (b := ((combos (l.map Prod.snd)).length : Int)) (m := 8001) (n := 1099511627776) (by omega) (by omega)
      refine XK.skip ?_
      refine XK.seq ?_
      refine XK.block ?_
      refine XK.seq ?_
      refine XK.region rfl ?_
      refine XO.q (Q.move rfl) ?_
      refine XO.q (Q.move rfl) ?_
      refine XO.q (Q.gtr rfl rfl) ?_
      refine XO.done ?_
      refine XK.if rfl (fun c2 => ?_) (fun c2 => ?_)
      · have _t2 := True.intro
        have e1 : ovC CC limit (i + 1) = ovC CC limit i + CC.getD i default := by rw [ovC, if_pos c2]
        refine XK.region rfl ?_
        refine XO.q (Q.move rfl) ?_
        refine XO.q (Q.move rfl) ?_
        refine XO.q (Q.move rfl) ?_
        refine XO.ix rfl rfl (by omega) (by omega) fun i35 => ?_
        refine XO.q (Q.ldE rfl (by first | assumption | omega) rfl) ?_
        refine XO.q (Q.add rfl rfl ⟨by omega, by omega⟩) ?_
        refine XO.q (Q.assign rfl) ?_
        refine XO.done ?_
        refine XK.inBlock ?_
        refine XK.region rfl ?_
        refine XO.q (Q.move rfl) ?_
        refine XO.q (Q.add rfl rfl ⟨by omega, by omega⟩) ?_
        refine XO.q (Q.assign rfl) ?_
        refine XO.done ?_
        rw [← e1]
        exact ih0 (i + 1) _ _ (by omega) (by first | omega | (dsimp only; omega)) (.c rfl (.c rfl (.base 36 rfl rfl))) inferInstance
      · have _t2 := True.intro
        have e1 : ovC CC limit (i + 1) = ovC CC limit i := by rw [ovC, if_neg c2, Int.add_zero]
        refine XK.skip ?_
        refine XK.inBlock ?_
        refine XK.region rfl ?_
        refine XO.q (Q.move rfl) ?_
        refine XO.q (Q.add rfl rfl ⟨by omega, by omega⟩) ?_
        refine XO.q (Q.assign rfl) ?_
        refine XO.done ?_
        rw [← e1]
        exact ih0 (i + 1) _ _ (by omega) (by first | omega | (dsimp only; omega)) (.c rfl (.c rfl (.base 29 rfl rfl))) inferInstance
    · have _t1 := True.intro
      have hin : i = CC.length := by omega
      subst hin
      rw [ovC_all hC]
      refine XK.exit rfl ?_
      refine XK.seq ?_
      refine XK.region rfl ?_
      refine XO.q (Q.move rfl) ?_
      refine XO.q (Q.move rfl) ?_
      refine XO.call Try.call73 rfl rfl rfl ((by
        have q := rgcd_spec (listedG (l.map Prod.snd)).1.toNat (overN (combos (l.map Prod.snd)) limit) (by omega) (by omega)
        rw [show (((listedG (l.map Prod.snd)).1.toNat : Nat) : Int) = (listedG (l.map Prod.snd)).1 by omega] at q
        exact q)) fun v40 s40 R40 => ?_
      obtain ⟨rfl, rfl⟩ := R40
      dsimp only [List.cons_append, List.nil_append]
      rw [show (Nat.gcd (overN (combos (l.map Prod.snd)) limit) (listedG (l.map Prod.snd)).1.toNat : Nat) = Int.gcd (((overN (combos (l.map Prod.snd)) limit) : Nat) : Int) (listedG (l.map Prod.snd)).1 by unfold Int.gcd; rw [Int.natAbs_natCast, show (listedG (l.map Prod.snd)).1.natAbs = (listedG (l.map Prod.snd)).1.toNat by omega]]
      refine XO.q (Q.assign rfl) ?_
      refine XO.done ?_
      refine XK.seq ?_
      refine XK.drawn [0, 1, 2, 3, 4, 5, 6, 8] [] [] (.q 0 (.q 1 (.q 2 (.q 3 (.q 4 (.q 5 (.q 6 (.br 7 true (.q 8 .done) .stop)))))))) Try.mixed rfl (by kernel_rfl) ?_
      refine XT.q rfl rfl (Q.move rfl) ?_
      refine XT.q rfl rfl (Q.move rfl) ?_
      refine XT.q rfl rfl (Q.quo rfl rfl (by omega) (by omega) (by omega)) ?_
      refine XT.q rfl rfl (Q.move rfl) ?_
      refine XT.q rfl rfl (Q.move rfl) ?_
      refine XT.q rfl rfl (Q.quo rfl rfl (by omega) (by omega) (by omega)) ?_
      refine XT.q rfl rfl (Q.build [_, _] (.c 0 1 rfl rfl rfl (.c 1 1 rfl rfl rfl (.n _)))) ?_
      refine XT.st rfl rfl rfl rfl rfl ⟨inferInstance, ?_⟩ XT.stop
      refine XT.q rfl rfl (Q.assign rfl) ?_
      refine XT.done ?_
      refine XK.rt [] Try.func49 Try.results49 (.cell [_, _] rfl rfl rfl (.t rfl .n)) ?_
      exact ⟨by rw [chanceG, if_neg c0]; rfl, rfl⟩
theorem rare_spec (l : List (Value × PJob)) (vl : Value) (hl K : PHeap) [jl : Arr vl encPJ 6 hl l] (aL : JobsK l K) (ok : ListOk (l.map Prod.snd)) (limit : Int) (m : PRat) (hm : chanceR m = true) : Spec Try.prog 78 #[vl, .int .i64 limit, .agg #[.int .i64 m.n, .int .i64 m.d]] [] [hl, K] (fun v hs => v = .bool (atMostB (overG (l.map Prod.snd) limit (prodJ (l.map Prod.snd) (l.map Prod.snd).length)) m) ∧ hs = []) := by
  have lr := listed_rng ok
  have orr := over_rng (l.map Prod.snd) limit (all := (prodJ (l.map Prod.snd) (l.map Prod.snd).length)) lr.2 (combos_all ok).1
  have mr := chanceR_rng hm
  have m1 := mulP orr.1 mr.2
  have m2 := mulP mr.1 orr.2
  have ce : chanceG (l.map Prod.snd) limit = (overG (l.map Prod.snd) limit (prodJ (l.map Prod.snd) (l.map Prod.snd).length), 0) := by rw [chanceG, if_neg (by rw [listed_ok.2 ok]; decide), lr.1]
  refine Spec.intro (fn := Try.f78) (N := 26) Try.func78 rfl Try.ntmps78 rfl fun B => ?_
  refine XK.seq ?_
  refine XK.region rfl ?_
  refine XO.box rfl fun b5 => ?_
  refine XO.q (Q.assign rfl) ?_
  refine XO.done ?_
  refine XK.seq ?_
  refine XK.region rfl ?_
  refine XO.q (Q.move rfl) ?_
  refine XO.q (Q.move rfl) ?_
  refine XO.call Try.call49 rfl rfl rfl (rchance_spec l vl hl K aL limit) fun v12 s12 R12 => ?_
  obtain ⟨rfl, rfl⟩ := R12
  dsimp only [List.cons_append, List.nil_append]
  rw [ce]
  dsimp only
  refine XO.q (Q.move rfl) ?_
  refine XO.q (Q.extract rfl rfl) ?_
  refine XO.q (Q.extract rfl rfl) ?_
  refine XO.alloc fun b7 => ?_
  refine XO.st rfl rfl rfl ?_
  refine XO.q (Q.assign rfl) ?_
  refine XO.done ?_
  refine XK.seq ?_
  refine XK.region rfl ?_
  refine XO.q (Q.fieldAddr rfl) ?_
  refine XO.q (Q.ld rfl rfl) ?_
  refine XO.q (Q.fieldAddr rfl) ?_
  refine XO.q (Q.ld rfl rfl) ?_
  refine XO.q (Q.mul rfl rfl ⟨by omega, by omega⟩) ?_
  refine XO.q (Q.fieldAddr rfl) ?_
  refine XO.q (Q.ld rfl rfl) ?_
  refine XO.q (Q.fieldAddr rfl) ?_
  refine XO.q (Q.ld rfl rfl) ?_
  refine XO.q (Q.mul rfl rfl ⟨by omega, by omega⟩) ?_
  refine XO.q (Q.leq rfl rfl) ?_
  refine XO.q (Q.assign rfl) ?_
  refine XO.done ?_
  refine XK.rt [] Try.func78 Try.results78 (.t rfl .n) ?_
  exact ⟨rfl, rfl⟩
set_option maxHeartbeats 2000000 in
theorem rfits_spec (l : List (Value × PJob)) (vl : Value) (hl K : PHeap) [jl : Arr vl encPJ 6 hl l] (aL : JobsK l K) (ok : ListOk (l.map Prod.snd)) (r : PRack) (m : PRat) (hm : chanceR m = true) : Spec Try.prog 77 #[vl, .agg #[.int .i64 r.r0, .int .i64 r.r1, .int .i64 r.r2, .int .i64 r.cap, .int .i64 r.domain], .agg #[.int .i64 m.n, .int .i64 m.d]] [] [hl, K] (fun v hs => v = .bool (fitsG (l.map Prod.snd) r m) ∧ hs = []) := by
  have ll := jl.le
  have lm : (l.map Prod.snd).length = l.length := List.length_map ..
  have few := ok.few
  refine Spec.intro (fn := Try.f77) (N := 40) Try.func77 rfl Try.ntmps77 rfl fun B => ?_
  refine XK.seq ?_
  refine XK.region rfl ?_
  refine XO.box rfl fun b4 => ?_
  refine XO.box rfl fun b5 => ?_
  refine XO.q (Q.assign rfl) ?_
  refine XO.done ?_
  refine XK.seq ?_
  refine XK.seq ?_
  refine XK.region rfl ?_
  refine XO.q (Q.assign rfl) ?_
  refine XO.done ?_
  refine XK.block ?_
  refine XK.loop' ?_
  refine XK.seq ?_
  refine XK.seq ?_
  refine XK.region rfl ?_
  refine XO.q (Q.move rfl) ?_
  refine XO.q (Q.lss rfl rfl) ?_
  refine XO.done ?_
  refine XK.if rfl (fun c0 => ?_) (fun c0 => ?_)
  · have _t0 := True.intro
    refine XK.skip ?_
    refine XK.seq ?_
    refine XK.block ?_
    refine XK.seq ?_
    refine XK.region rfl ?_
    refine XO.q (Q.assign rfl) ?_
    refine XO.done ?_
    refine XK.seq ?_
    refine XK.seq ?_
    refine XK.region rfl ?_
    refine XO.q (Q.assign rfl) ?_
    refine XO.done ?_
    refine XK.block ?_
    refine XK.while (X := Nat) [8, 9, 14, 15, 16, 17, 18, 19, 20, 21, 22, 23, 24, 25, 26, 27, 28] (fun i => [(9, some (.int .i64 (i : Nat))), (8, some (.int .i64 (needK (l.map Prod.snd) 0 i)))]) (fun i => []) (fun i => i ≤ l.length) (fun i => l.length - i) (0) [] rfl (by omega) (.c rfl (.c rfl (.base 0 rfl rfl))) ?_
    rintro i hi ih1
    dsimp only [List.cons_append, List.nil_append] at ih1 ⊢
    refine XK.seq ?_
    refine XK.seq ?_
    refine XK.region rfl ?_
    refine XO.q (Q.move rfl) ?_
    refine XO.q (Q.move rfl) ?_
    refine XO.len rfl fun l16 => ?_
    refine XO.q (Q.lss rfl rfl) ?_
    refine XO.done ?_
    refine XK.if rfl (fun c1 => ?_) (fun c1 => ?_)
    · have _t1 := True.intro
      have ji := map_snd_atP l i
      have ai := aL i (by omega)
      have jok := ok.job i (by omega)
      rw [ji] at jok
      have nr := pin_three.1 jok.need
      have na := need_succ (l := l.map Prod.snd) (i := i) (by omega)
      rw [ji] at na
      have nb := need_rng ok i (by omega)
      obtain ⟨na0, na1, na2⟩ := na
      refine XK.skip ?_
      refine XK.seq ?_
      refine XK.block ?_
      refine XK.region rfl ?_
      refine XO.q (Q.move rfl) ?_
      refine XO.q (Q.move rfl) ?_
      refine XO.q (Q.move rfl) ?_
      refine XO.q (Q.move rfl) ?_
      refine XO.ix rfl rfl (by omega) (by omega) fun i24 => ?_
      refine XO.q (Q.fieldQ rfl (by first | assumption | omega)) ?_
      refine XO.q (Q.ixE rfl (by first | assumption | omega) rfl (by omega) (by omega)) ?_
      (try rw [show (0 + Int.toNat 0 * 1 : Nat) = 0 from rfl])
      (try rw [show (0 + Int.toNat 1 * 1 : Nat) = 1 from rfl])
      (try rw [show (0 + Int.toNat 2 * 1 : Nat) = 2 from rfl])
      refine XO.q (Q.ldE rfl (by first | assumption | omega) rfl) ?_
      refine XO.q (Q.add rfl rfl ⟨by omega, by omega⟩) ?_
      refine XO.q (Q.assign rfl) ?_
      refine XO.done ?_
      refine XK.inBlock ?_
      refine XK.region rfl ?_
      refine XO.q (Q.move rfl) ?_
      refine XO.q (Q.add rfl rfl ⟨by omega, by omega⟩) ?_
      refine XO.q (Q.assign rfl) ?_
      refine XO.done ?_
      rw [← na0]
      exact ih1 (i + 1) _ _ (by omega) (by first | omega | (dsimp only; omega)) (.c rfl (.c rfl (.base 36 rfl rfl))) inferInstance
    · have _t1 := True.intro
      have hil : i = (l.map Prod.snd).length := by omega
      subst hil
      refine XK.exit rfl ?_
      refine XK.seq ?_
      refine XK.region rfl ?_
      refine XO.q (Q.move rfl) ?_
      refine XO.q (Q.move rfl) ?_
      refine XO.q (Q.fieldAddr rfl) ?_
      refine XO.q (Q.ixA rfl rfl (by omega) (by omega)) ?_
      (try rw [show (0 + Int.toNat 0 * 1 : Nat) = 0 from rfl])
      (try rw [show (0 + Int.toNat 1 * 1 : Nat) = 1 from rfl])
      (try rw [show (0 + Int.toNat 2 * 1 : Nat) = 2 from rfl])
      refine XO.q (Q.ld rfl rfl) ?_
      refine XO.q (Q.gtr rfl rfl) ?_
      refine XO.done ?_
      refine XK.if rfl (fun c2 => ?_) (fun c2 => ?_)
      · have _t2 := True.intro
        refine XK.seq ?_
        refine XK.region rfl ?_
        refine XO.q (Q.assign rfl) ?_
        refine XO.done ?_
        refine XK.rt [] Try.func77 Try.results77 (.t rfl .n) ?_
        exact ⟨by rw [fitsG, decide_eq_false (by omega)]; simp, rfl⟩
      · have _t2 := True.intro
        refine XK.skip ?_
        refine XK.inBlock ?_
        refine XK.region rfl ?_
        refine XO.q (Q.move rfl) ?_
        refine XO.q (Q.add rfl rfl ⟨by omega, by omega⟩) ?_
        (try rw [show ((0 : Int) + 1) = 1 from rfl])
        (try rw [show ((1 : Int) + 1) = 2 from rfl])
        (try rw [show ((2 : Int) + 1) = 3 from rfl])
        refine XO.q (Q.assign rfl) ?_
        refine XO.done ?_
        refine XK.inLoop' ?_
        refine XK.seq ?_
        refine XK.seq ?_
        refine XK.region rfl ?_
        refine XO.q (Q.move rfl) ?_
        refine XO.q (Q.lss rfl rfl) ?_
        refine XO.done ?_
        refine XK.if rfl (fun c3 => ?_) (fun c3 => ?_)
        · have _t3 := True.intro
          refine XK.skip ?_
          refine XK.seq ?_
          refine XK.block ?_
          refine XK.seq ?_
          refine XK.region rfl ?_
          refine XO.q (Q.assign rfl) ?_
          refine XO.done ?_
          refine XK.seq ?_
          refine XK.seq ?_
          refine XK.region rfl ?_
          refine XO.q (Q.assign rfl) ?_
          refine XO.done ?_
          refine XK.block ?_
          refine XK.while (X := Nat) [8, 9, 14, 15, 16, 17, 18, 19, 20, 21, 22, 23, 24, 25, 26, 27, 28] (fun i => [(9, some (.int .i64 (i : Nat))), (8, some (.int .i64 (needK (l.map Prod.snd) 1 i)))]) (fun i => []) (fun i => i ≤ l.length) (fun i => l.length - i) (0) [] rfl (by omega) (.c rfl (.c rfl (.base 0 rfl rfl))) ?_
          rintro i hi ih2
          dsimp only [List.cons_append, List.nil_append] at ih2 ⊢
          refine XK.seq ?_
          refine XK.seq ?_
          refine XK.region rfl ?_
          refine XO.q (Q.move rfl) ?_
          refine XO.q (Q.move rfl) ?_
          refine XO.len rfl fun l16 => ?_
          refine XO.q (Q.lss rfl rfl) ?_
          refine XO.done ?_
          refine XK.if rfl (fun c4 => ?_) (fun c4 => ?_)
          · have _t4 := True.intro
            have ji := map_snd_atP l i
            have ai := aL i (by omega)
            have jok := ok.job i (by omega)
            rw [ji] at jok
            have nr := pin_three.1 jok.need
            have na := need_succ (l := l.map Prod.snd) (i := i) (by omega)
            rw [ji] at na
            have nb := need_rng ok i (by omega)
            obtain ⟨na0, na1, na2⟩ := na
            refine XK.skip ?_
            refine XK.seq ?_
            refine XK.block ?_
            refine XK.region rfl ?_
            refine XO.q (Q.move rfl) ?_
            refine XO.q (Q.move rfl) ?_
            refine XO.q (Q.move rfl) ?_
            refine XO.q (Q.move rfl) ?_
            refine XO.ix rfl rfl (by omega) (by omega) fun i24 => ?_
            refine XO.q (Q.fieldQ rfl (by first | assumption | omega)) ?_
            refine XO.q (Q.ixE rfl (by first | assumption | omega) rfl (by omega) (by omega)) ?_
            (try rw [show (0 + Int.toNat 0 * 1 : Nat) = 0 from rfl])
            (try rw [show (0 + Int.toNat 1 * 1 : Nat) = 1 from rfl])
            (try rw [show (0 + Int.toNat 2 * 1 : Nat) = 2 from rfl])
            refine XO.q (Q.ldE rfl (by first | assumption | omega) rfl) ?_
            refine XO.q (Q.add rfl rfl ⟨by omega, by omega⟩) ?_
            refine XO.q (Q.assign rfl) ?_
            refine XO.done ?_
            refine XK.inBlock ?_
            refine XK.region rfl ?_
            refine XO.q (Q.move rfl) ?_
            refine XO.q (Q.add rfl rfl ⟨by omega, by omega⟩) ?_
            refine XO.q (Q.assign rfl) ?_
            refine XO.done ?_
            rw [← na1]
            exact ih2 (i + 1) _ _ (by omega) (by first | omega | (dsimp only; omega)) (.c rfl (.c rfl (.base 36 rfl rfl))) inferInstance
          · have _t4 := True.intro
            have hil : i = (l.map Prod.snd).length := by omega
            subst hil
            refine XK.exit rfl ?_
            refine XK.seq ?_
            refine XK.region rfl ?_
            refine XO.q (Q.move rfl) ?_
            refine XO.q (Q.move rfl) ?_
            refine XO.q (Q.fieldAddr rfl) ?_
            refine XO.q (Q.ixA rfl rfl (by omega) (by omega)) ?_
            (try rw [show (0 + Int.toNat 0 * 1 : Nat) = 0 from rfl])
            (try rw [show (0 + Int.toNat 1 * 1 : Nat) = 1 from rfl])
            (try rw [show (0 + Int.toNat 2 * 1 : Nat) = 2 from rfl])
            refine XO.q (Q.ld rfl rfl) ?_
            refine XO.q (Q.gtr rfl rfl) ?_
            refine XO.done ?_
            refine XK.if rfl (fun c5 => ?_) (fun c5 => ?_)
            · have _t5 := True.intro
              refine XK.seq ?_
              refine XK.region rfl ?_
              refine XO.q (Q.assign rfl) ?_
              refine XO.done ?_
              refine XK.rt [] Try.func77 Try.results77 (.t rfl .n) ?_
              exact ⟨by rw [fitsG, decide_eq_false (show ¬ needK (l.map Prod.snd) 1 (l.map Prod.snd).length ≤ r.r1 by omega)]; simp, rfl⟩
            · have _t5 := True.intro
              refine XK.skip ?_
              refine XK.inBlock ?_
              refine XK.region rfl ?_
              refine XO.q (Q.move rfl) ?_
              refine XO.q (Q.add rfl rfl ⟨by omega, by omega⟩) ?_
              (try rw [show ((0 : Int) + 1) = 1 from rfl])
              (try rw [show ((1 : Int) + 1) = 2 from rfl])
              (try rw [show ((2 : Int) + 1) = 3 from rfl])
              refine XO.q (Q.assign rfl) ?_
              refine XO.done ?_
              refine XK.inLoop' ?_
              refine XK.seq ?_
              refine XK.seq ?_
              refine XK.region rfl ?_
              refine XO.q (Q.move rfl) ?_
              refine XO.q (Q.lss rfl rfl) ?_
              refine XO.done ?_
              refine XK.if rfl (fun c6 => ?_) (fun c6 => ?_)
              · have _t6 := True.intro
                refine XK.skip ?_
                refine XK.seq ?_
                refine XK.block ?_
                refine XK.seq ?_
                refine XK.region rfl ?_
                refine XO.q (Q.assign rfl) ?_
                refine XO.done ?_
                refine XK.seq ?_
                refine XK.seq ?_
                refine XK.region rfl ?_
                refine XO.q (Q.assign rfl) ?_
                refine XO.done ?_
                refine XK.block ?_
                refine XK.while (X := Nat) [8, 9, 14, 15, 16, 17, 18, 19, 20, 21, 22, 23, 24, 25, 26, 27, 28] (fun i => [(9, some (.int .i64 (i : Nat))), (8, some (.int .i64 (needK (l.map Prod.snd) 2 i)))]) (fun i => []) (fun i => i ≤ l.length) (fun i => l.length - i) (0) [] rfl (by omega) (.c rfl (.c rfl (.base 0 rfl rfl))) ?_
                rintro i hi ih3
                dsimp only [List.cons_append, List.nil_append] at ih3 ⊢
                refine XK.seq ?_
                refine XK.seq ?_
                refine XK.region rfl ?_
                refine XO.q (Q.move rfl) ?_
                refine XO.q (Q.move rfl) ?_
                refine XO.len rfl fun l16 => ?_
                refine XO.q (Q.lss rfl rfl) ?_
                refine XO.done ?_
                refine XK.if rfl (fun c7 => ?_) (fun c7 => ?_)
                · have _t7 := True.intro
                  have ji := map_snd_atP l i
                  have ai := aL i (by omega)
                  have jok := ok.job i (by omega)
                  rw [ji] at jok
                  have nr := pin_three.1 jok.need
                  have na := need_succ (l := l.map Prod.snd) (i := i) (by omega)
                  rw [ji] at na
                  have nb := need_rng ok i (by omega)
                  obtain ⟨na0, na1, na2⟩ := na
                  refine XK.skip ?_
                  refine XK.seq ?_
                  refine XK.block ?_
                  refine XK.region rfl ?_
                  refine XO.q (Q.move rfl) ?_
                  refine XO.q (Q.move rfl) ?_
                  refine XO.q (Q.move rfl) ?_
                  refine XO.q (Q.move rfl) ?_
                  refine XO.ix rfl rfl (by omega) (by omega) fun i24 => ?_
                  refine XO.q (Q.fieldQ rfl (by first | assumption | omega)) ?_
                  refine XO.q (Q.ixE rfl (by first | assumption | omega) rfl (by omega) (by omega)) ?_
                  (try rw [show (0 + Int.toNat 0 * 1 : Nat) = 0 from rfl])
                  (try rw [show (0 + Int.toNat 1 * 1 : Nat) = 1 from rfl])
                  (try rw [show (0 + Int.toNat 2 * 1 : Nat) = 2 from rfl])
                  refine XO.q (Q.ldE rfl (by first | assumption | omega) rfl) ?_
                  refine XO.q (Q.add rfl rfl ⟨by omega, by omega⟩) ?_
                  refine XO.q (Q.assign rfl) ?_
                  refine XO.done ?_
                  refine XK.inBlock ?_
                  refine XK.region rfl ?_
                  refine XO.q (Q.move rfl) ?_
                  refine XO.q (Q.add rfl rfl ⟨by omega, by omega⟩) ?_
                  refine XO.q (Q.assign rfl) ?_
                  refine XO.done ?_
                  rw [← na2]
                  exact ih3 (i + 1) _ _ (by omega) (by first | omega | (dsimp only; omega)) (.c rfl (.c rfl (.base 36 rfl rfl))) inferInstance
                · have _t7 := True.intro
                  have hil : i = (l.map Prod.snd).length := by omega
                  subst hil
                  refine XK.exit rfl ?_
                  refine XK.seq ?_
                  refine XK.region rfl ?_
                  refine XO.q (Q.move rfl) ?_
                  refine XO.q (Q.move rfl) ?_
                  refine XO.q (Q.fieldAddr rfl) ?_
                  refine XO.q (Q.ixA rfl rfl (by omega) (by omega)) ?_
                  (try rw [show (0 + Int.toNat 0 * 1 : Nat) = 0 from rfl])
                  (try rw [show (0 + Int.toNat 1 * 1 : Nat) = 1 from rfl])
                  (try rw [show (0 + Int.toNat 2 * 1 : Nat) = 2 from rfl])
                  refine XO.q (Q.ld rfl rfl) ?_
                  refine XO.q (Q.gtr rfl rfl) ?_
                  refine XO.done ?_
                  refine XK.if rfl (fun c8 => ?_) (fun c8 => ?_)
                  · have _t8 := True.intro
                    refine XK.seq ?_
                    refine XK.region rfl ?_
                    refine XO.q (Q.assign rfl) ?_
                    refine XO.done ?_
                    refine XK.rt [] Try.func77 Try.results77 (.t rfl .n) ?_
                    exact ⟨by rw [fitsG, decide_eq_false (show ¬ needK (l.map Prod.snd) 2 (l.map Prod.snd).length ≤ r.r2 by omega)]; simp, rfl⟩
                  · have _t8 := True.intro
                    refine XK.skip ?_
                    refine XK.inBlock ?_
                    refine XK.region rfl ?_
                    refine XO.q (Q.move rfl) ?_
                    refine XO.q (Q.add rfl rfl ⟨by omega, by omega⟩) ?_
                    (try rw [show ((0 : Int) + 1) = 1 from rfl])
                    (try rw [show ((1 : Int) + 1) = 2 from rfl])
                    (try rw [show ((2 : Int) + 1) = 3 from rfl])
                    refine XO.q (Q.assign rfl) ?_
                    refine XO.done ?_
                    refine XK.inLoop' ?_
                    refine XK.seq ?_
                    refine XK.seq ?_
                    refine XK.region rfl ?_
                    refine XO.q (Q.move rfl) ?_
                    refine XO.q (Q.lss rfl rfl) ?_
                    refine XO.done ?_
                    refine XK.if rfl (fun c9 => ?_) (fun c9 => ?_)
                    · have _t9 := True.intro
                      exact absurd c9 (by first | decide | simp)
                    · have _t9 := True.intro
                      refine XK.exit rfl ?_
                      refine XK.seq ?_
                      refine XK.region rfl ?_
                      refine XO.q (Q.move rfl) ?_
                      refine XO.q (Q.fieldAddr rfl) ?_
                      refine XO.q (Q.ld rfl rfl) ?_
                      refine XO.q (Q.ldA [_, _] rfl rfl rfl) ?_
                      refine XO.call Try.call78 rfl rfl rfl (rare_spec l vl hl K aL ok r.cap m hm) fun v39 s39 R39 => ?_
                      obtain ⟨rfl, rfl⟩ := R39
                      dsimp only [List.cons_append, List.nil_append]
                      refine XO.q (Q.assign rfl) ?_
                      refine XO.done ?_
                      refine XK.rt [] Try.func77 Try.results77 (.t rfl .n) ?_
                      exact ⟨by rw [fitsG, decide_eq_true (show needK (l.map Prod.snd) 0 (l.map Prod.snd).length ≤ r.r0 by omega), decide_eq_true (show needK (l.map Prod.snd) 1 (l.map Prod.snd).length ≤ r.r1 by omega), decide_eq_true (show needK (l.map Prod.snd) 2 (l.map Prod.snd).length ≤ r.r2 by omega)]; simp, rfl⟩
              · have _t6 := True.intro
                exact absurd (by first | decide | simp) c6
        · have _t3 := True.intro
          exact absurd (by first | decide | simp) c3
  · have _t0 := True.intro
    exact absurd (by first | decide | simp) c0
theorem rFits_spec (l : List (Value × PJob)) (vl : Value) (hl K : PHeap) [jl : Arr vl encPJ 6 hl l] (aL : JobsK l K) (r : PRack) (m : PRat) : Spec Try.prog 51 #[vl, .agg #[.int .i64 r.r0, .int .i64 r.r1, .int .i64 r.r2, .int .i64 r.cap, .int .i64 r.domain], .agg #[.int .i64 m.n, .int .i64 m.d]] [] [hl, K] (fun v hs => v = .tuple #[.bool (fitsG0 (l.map Prod.snd) r m).1, .int .i64 (fitsG0 (l.map Prod.snd) r m).2] ∧ hs = []) := by
  refine Spec.intro (fn := Try.f51) (N := 28) Try.func51 rfl Try.ntmps51 rfl fun B => ?_
  refine XK.seq ?_
  refine XK.region rfl ?_
  refine XO.box rfl fun b4 => ?_
  refine XO.box rfl fun b5 => ?_
  refine XO.q (Q.assign rfl) ?_
  refine XO.q (Q.assign rfl) ?_
  refine XO.done ?_
  refine XK.seq ?_
  refine XK.seq ?_
  refine XK.region rfl ?_
  refine XO.q (Q.move rfl) ?_
  refine XO.call Try.call71 rfl rfl rfl (rlisted_spec l vl hl K aL) fun v12 s12 R12 => ?_
  obtain ⟨rfl, rfl⟩ := R12
  dsimp only [List.cons_append, List.nil_append]
  refine XO.q (Q.move rfl) ?_
  refine XO.q (Q.extract rfl rfl) ?_
  refine XO.q (Q.extract rfl rfl) ?_
  refine XO.q (Q.assign rfl) ?_
  refine XO.q (Q.assign rfl) ?_
  refine XO.done ?_
  refine XK.seq ?_
  refine XK.region rfl ?_
  refine XO.q (Q.move rfl) ?_
  refine XO.q (Q.neq rfl rfl) ?_
  refine XO.done ?_
  refine XK.if rfl (fun c0 => ?_) (fun c0 => ?_)
  · have _t0 := True.intro
    refine XK.seq ?_
    refine XK.region rfl ?_
    refine XO.q (Q.move rfl) ?_
    refine XO.q (Q.assign rfl) ?_
    refine XO.q (Q.assign rfl) ?_
    refine XO.done ?_
    refine XK.rt [] Try.func51 Try.results51 (.t rfl (.t rfl .n)) ?_
    exact ⟨by rw [fitsG0, if_pos c0], rfl⟩
  · have _t0 := True.intro
    refine XK.skip ?_
    refine XK.seq ?_
    refine XK.seq ?_
    refine XK.region rfl ?_
    refine XO.q (Q.ldA [_, _, _, _, _] rfl rfl rfl) ?_
    refine XO.call Try.call75 rfl rfl rfl (rackRef_spec r) fun v19 s19 R19 => ?_
    obtain ⟨rfl, rfl⟩ := R19
    dsimp only [List.cons_append, List.nil_append]
    refine XO.q (Q.not rfl) ?_
    refine XO.done ?_
    refine XK.if rfl (fun c1 => ?_) (fun c1 => ?_)
    · have _t1 := True.intro
      refine XK.seq ?_
      refine XK.region rfl ?_
      refine XO.q (Q.assign rfl) ?_
      refine XO.q (Q.assign rfl) ?_
      refine XO.done ?_
      refine XK.rt [] Try.func51 Try.results51 (.t rfl (.t rfl .n)) ?_
      exact ⟨by rw [fitsG0, if_neg c0, if_pos c1], rfl⟩
    · have _t1 := True.intro
      refine XK.skip ?_
      refine XK.seq ?_
      refine XK.seq ?_
      refine XK.region rfl ?_
      refine XO.q (Q.ldA [_, _] rfl rfl rfl) ?_
      refine XO.call Try.call76 rfl rfl rfl (chanceRef_spec m) fun v22 s22 R22 => ?_
      obtain ⟨rfl, rfl⟩ := R22
      dsimp only [List.cons_append, List.nil_append]
      refine XO.q (Q.not rfl) ?_
      refine XO.done ?_
      refine XK.if rfl (fun c2 => ?_) (fun c2 => ?_)
      · have _t2 := True.intro
        refine XK.seq ?_
        refine XK.region rfl ?_
        refine XO.q (Q.assign rfl) ?_
        refine XO.q (Q.assign rfl) ?_
        refine XO.done ?_
        refine XK.rt [] Try.func51 Try.results51 (.t rfl (.t rfl .n)) ?_
        exact ⟨by rw [fitsG0, if_neg c0, if_neg c1, if_pos c2], rfl⟩
      · have _t2 := True.intro
        refine XK.skip ?_
        refine XK.seq ?_
        refine XK.region rfl ?_
        refine XO.q (Q.move rfl) ?_
        refine XO.q (Q.ldA [_, _, _, _, _] rfl rfl rfl) ?_
        refine XO.q (Q.ldA [_, _] rfl rfl rfl) ?_
        refine XO.call Try.call77 rfl rfl rfl (rfits_spec l vl hl K aL (listed_ok.1 (Decidable.of_not_not c0)) r m (Decidable.of_not_not c2)) fun v27 s27 R27 => ?_
        obtain ⟨rfl, rfl⟩ := R27
        dsimp only [List.cons_append, List.nil_append]
        refine XO.q (Q.assign rfl) ?_
        refine XO.q (Q.assign rfl) ?_
        refine XO.done ?_
        refine XK.rt [] Try.func51 Try.results51 (.t rfl (.t rfl .n)) ?_
        exact ⟨by rw [fitsG0, if_neg c0, if_neg c1, if_neg c2], rfl⟩
end Go.X

/- The library's sort at this seat: its bodies are those that the library's contract speaks of. No condition. -/
namespace Go.X
open Go.Proofs Go.Shelf
def sortRen : Ren where
  f := fun x => match x with
    | 189 => 60
    | 125 => 84
    | 257 => 83
    | 128 => 102
    | 129 => 103
    | 294 => 93
    | 295 => 94
    | 296 => 95
    | 297 => 96
    | 298 => 97
    | 299 => 98
    | 216 => 99
    | 300 => 100
    | 301 => 101
    | 328 => 105
    | 329 => 106
    | 330 => 107
    | 331 => 108
    | 332 => 109
    | 215 => 110
    | 343 => 111
    | n => n
  t := fun x => match x with
    | 28 => 36
    | 3 => 3
    | 46 => 140
    | 0 => 0
    | 51 => 157
    | 53 => 159
    | 4 => 4
    | 183 => 149
    | 182 => 148
    | 131 => 154
    | 5 => 5
    | 9 => 9
    | 218 => 161
    | 222 => 165
    | 228 => 167
    | 229 => 168
    | n => n
  g := fun n => n
theorem sortLays : Lays.n189 Try.prog sortRen := {
  mixed := by kernel_rfl,
  f125 := by kernel_rfl,
  f128 := by kernel_rfl,
  f129 := by kernel_rfl,
  f189 := by kernel_rfl,
  f215 := by kernel_rfl,
  f216 := by kernel_rfl,
  f257 := by kernel_rfl,
  f294 := by kernel_rfl,
  f295 := by kernel_rfl,
  f296 := by kernel_rfl,
  f297 := by kernel_rfl,
  f298 := by kernel_rfl,
  f299 := by kernel_rfl,
  f300 := by kernel_rfl,
  f301 := by kernel_rfl,
  f328 := by kernel_rfl,
  f329 := by kernel_rfl,
  f330 := by kernel_rfl,
  f331 := by kernel_rfl,
  f332 := by kernel_rfl,
  f343 := by kernel_rfl,
  t0 := by kernel_rfl,
  a0 := fun _ => by kernel_rfl,
  z0 := fun _ => by kernel_rfl,
  v0 := fun _ => by kernel_rfl,
  t3 := by kernel_rfl,
  a3 := fun _ => by kernel_rfl,
  z3 := fun _ => by kernel_rfl,
  v3 := fun _ => by kernel_rfl,
  t4 := by kernel_rfl,
  a4 := fun _ => by kernel_rfl,
  z4 := fun _ => by kernel_rfl,
  v4 := fun _ => by kernel_rfl,
  t5 := by kernel_rfl,
  a5 := fun _ => by kernel_rfl,
  z5 := fun _ => by kernel_rfl,
  v5 := fun _ => by kernel_rfl,
  t9 := by kernel_rfl,
  a9 := fun _ => by kernel_rfl,
  z9 := fun _ => by kernel_rfl,
  v9 := fun _ => by kernel_rfl,
  t28 := by kernel_rfl,
  a28 := fun _ => by kernel_rfl,
  z28 := fun _ => by kernel_rfl,
  v28 := fun _ => by kernel_rfl,
  t46 := by kernel_rfl,
  a46 := fun _ => by kernel_rfl,
  z46 := fun _ => by kernel_rfl,
  v46 := fun _ => by kernel_rfl,
  t51 := by kernel_rfl,
  a51 := fun _ => by kernel_rfl,
  z51 := fun _ => by kernel_rfl,
  v51 := fun _ => by kernel_rfl,
  t53 := by kernel_rfl,
  a53 := fun _ => by kernel_rfl,
  z53 := fun _ => by kernel_rfl,
  v53 := fun _ => by kernel_rfl,
  t131 := by kernel_rfl,
  a131 := fun _ => by kernel_rfl,
  z131 := fun _ => by kernel_rfl,
  v131 := fun _ => by kernel_rfl,
  t182 := by kernel_rfl,
  a182 := fun _ => by kernel_rfl,
  z182 := fun _ => by kernel_rfl,
  v182 := fun _ => by kernel_rfl,
  t183 := by kernel_rfl,
  a183 := fun _ => by kernel_rfl,
  z183 := fun _ => by kernel_rfl,
  v183 := fun _ => by kernel_rfl,
  t218 := by kernel_rfl,
  a218 := fun _ => by kernel_rfl,
  z218 := fun _ => by kernel_rfl,
  v218 := fun _ => by kernel_rfl,
  t222 := by kernel_rfl,
  a222 := fun _ => by kernel_rfl,
  z222 := fun _ => by kernel_rfl,
  v222 := fun _ => by kernel_rfl,
  t228 := by kernel_rfl,
  a228 := fun _ => by kernel_rfl,
  z228 := fun _ => by kernel_rfl,
  v228 := fun _ => by kernel_rfl,
  t229 := by kernel_rfl,
  a229 := fun _ => by kernel_rfl,
  z229 := fun _ => by kernel_rfl,
  v229 := fun _ => by kernel_rfl }
end Go.X

set_option linter.unusedSimpArgs false
set_option linter.unusedVariables false
set_option maxRecDepth 20000
namespace Go.X
open Go.Proofs
theorem keys1 (b1 bm : Nat) (es : List (Int × Value)) (f : Value) (Hr : List PHeap) (Qc : List Nat → PHeap → Prop) (Xc : PHeap → Prop)
    (round : ∀ seen i, i < es.length → ¬ i ∈ seen → ∀ q, Qc seen q → VSpec Try.prog f [.int .i64 (es.getD i default).1] [q] Hr (fun v hs => ∃ b q', v = .bool b ∧ hs = [q'] ∧ (b = true → Qc (seen ++ [i]) q') ∧ (b = false → Xc q')))
    (q : PHeap) (hQ : Qc [] q) : Spec Try.prog 61 #[f, ptr b1 0] [q] (blk b1 [.map (some bm)] 76 :: mapH bm encK1 es :: Hr) (fun _ hs => ∃ q', hs = [q'] ∧ ((∃ seen : List Nat, seen.Nodup ∧ (∀ i, i ∈ seen ↔ i < es.length) ∧ Qc seen q') ∨ Xc q')) := by
  haveI := keyI
  refine Spec.intro (fn := Try.f61) (N := 14) Try.func61 rfl Try.ntmps61 rfl fun B => ?_
  refine XK.seq ?_
  refine XK.region rfl ?_
  refine XO.q (Q.ld rfl rfl) ?_
  refine XO.range rfl fun q5 => ?_
  refine XO.done ?_
  refine XK.block ?_
  refine XK.while (X := List Nat × PHeap) [3, 6, 7, 8, 9, 10, 11, 12, 13] (fun ⟨seen, q1⟩ => []) (fun ⟨seen, q1⟩ => [itH q5 bm es.length seen, q1]) (fun ⟨seen, q1⟩ => seen.Nodup ∧ (∀ i ∈ seen, i < es.length) ∧ Qc seen q1) (fun ⟨seen, q1⟩ => es.length - seen.length) ([], q) [itH q5 bm es.length [], q] rfl ⟨List.nodup_nil, fun i h => (by cases h), hQ⟩ (.base 0 rfl rfl) ?_
  rintro ⟨seen, q1⟩ ⟨hnd, hlt, hQ1⟩ ih0
  dsimp only [List.cons_append, List.nil_append] at ih0 ⊢
  refine XK.seq ?_
  refine XK.region rfl ?_
  refine XO.next rfl rfl fun more6 nl6 seen6 out6 => ?_
  refine XO.q (Q.extract0 rfl) ?_
  refine XO.done ?_
  refine XK.seq ?_
  refine XK.if rfl (fun c0 => ?_) (fun c0 => ?_)
  · have _t0 := True.intro
    obtain ⟨p, hp, hps, rfl⟩ := (Out.next out6) c0
    refine XK.skip ?_
    refine XK.block ?_
    refine XK.seq ?_
    refine XK.region rfl ?_
    refine XO.q (Q.entry (i := p) rfl rfl hp) ?_
    refine XO.q (Q.extract rfl rfl) ?_
    refine XO.q (Q.assign rfl) ?_
    refine XO.done ?_
    refine XK.seq ?_
    refine XK.region rfl ?_
    refine XO.q (Q.move rfl) ?_
    refine XO.q (Q.move rfl) ?_
    refine XO.vcall rfl rfl (round seen p hp hps q1 hQ1) fun v12 s12 R12 => ?_
    obtain ⟨bb, q2, rfl, rfl, hT, hF⟩ := R12
    dsimp only [List.cons_append, List.nil_append]
    refine XO.q (Q.not rfl) ?_
    refine XO.done ?_
    refine XK.if rfl (fun c1 => ?_) (fun c1 => ?_)
    · have _t1 := True.intro
      refine XK.rt [q2] Try.func61 Try.results61 (.n) ?_
      exact ⟨q2, rfl, .inr (hF (by cases bb <;> simp_all))⟩
    · have _t1 := True.intro
      refine XK.skip ?_
      refine XK.inBlock ?_
      exact ih0 (seen ++ [p], q2) _ _ ⟨nodup_snoc hnd hps, mem_snoc hlt hp, hT (by cases bb <;> simp_all)⟩ (by have := seen_few (nodup_snoc hnd hps) (mem_snoc hlt hp); rw [List.length_append, List.length_singleton] at this; dsimp only; rw [List.length_append, List.length_singleton]; omega) (.base 18 rfl rfl) inferInstance
  · have _t0 := True.intro
    obtain ⟨rfl, hall⟩ := Out.done out6 (by simpa using c0)
    refine XK.exit rfl ?_
    refine XK.fn [q1] Try.func61 Try.results61 (.n) ?_
    exact ⟨q1, rfl, .inl ⟨_, hnd, fun i => ⟨hlt i, hall i⟩, hQ1⟩⟩
theorem keys_spec (bm : Nat) (es : List (Int × Value)) : Spec Try.prog 28 #[.map (some bm)] [] [] (fun v hs => ∃ b1, hs = [blk b1 [.map (some bm)] 76] ∧ One v ∧ ItM Try.prog v es.length (fun i => [.int .i64 (es.getD i default).1]) [blk b1 [.map (some bm)] 76, mapH bm encK1 es]) := by
  refine Spec.intro (fn := Try.f28) (N := 4) Try.func28 rfl Try.ntmps28 rfl fun B => ?_
  refine XK.seq ?_
  refine XK.region rfl ?_
  refine XO.box rfl fun b1 => ?_
  refine XO.q (Q.assign rfl) ?_
  refine XO.done ?_
  refine XK.seq ?_
  refine XK.region rfl ?_
  refine XO.q (Q.func (fun _ he => rfl) (fun _ he => evs_rel he rfl)) ?_
  refine XO.q (Q.assign rfl) ?_
  refine XO.done ?_
  refine XK.rt [blk b1 [.map (some bm)] 76] Try.func28 Try.results28 (.t rfl .n) ?_
  exact ⟨b1, rfl, inferInstance, fun f Hr Qc Xc round q hQ => VSpec.fn (fst := []) (cap := [ptr b1 0]) Try.call61 rfl (keys1 b1 bm es f Hr Qc Xc round q hQ)⟩
theorem appendSeq_spec (y : Value) [oy : One y] (es : List (Int × Value)) (Ha Hb : PHeap) (few : es.length ≤ 1000000) (hit : ItM Try.prog y es.length (fun i => [.int .i64 (es.getD i default).1]) [Ha, Hb]) : Spec Try.prog 82 #[.slice none 0 0, y] [] [Ha, Hb] (fun v hs => ∃ (k : PHeap) (seen : List Nat), hs = [k] ∧ seen.Nodup ∧ (∀ i, i ∈ seen ↔ i < es.length) ∧ OArr v encI 1 3 k (seen.map fun i => (es.getD i default).1)) := by
  have nI : OArr (.slice none 0 0) encI 1 3 emp ([] : List Int) := OArr.nil (fun _ => rfl)
  refine Spec.intro (fn := Try.f82) (N := 13) Try.func82 rfl Try.ntmps82 rfl fun B => ?_
  refine XK.seq ?_
  refine XK.region rfl ?_
  refine XO.box rfl fun b2 => ?_
  refine XO.q (Q.assign rfl) ?_
  refine XO.done ?_
  refine XK.seq ?_
  refine XK.seq ?_
  refine XK.region rfl ?_
  refine XO.q (Q.move rfl) ?_
  refine XO.done ?_
  refine XK.block ?_
  refine XK.rangeM (X := Value × PHeap) (ps := [7]) ((fun i => [.int .i64 (es.getD i default).1])) (fun ⟨vo, ko⟩ => [blk b2 [vo] 36, ko]) (fun seen ⟨vo, ko⟩ => seen.Nodup ∧ (∀ i ∈ seen, i < es.length) ∧ OArr vo encI 1 3 ko (seen.map fun i => (es.getD i default).1)) (fun _ _ => False) (.slice none 0 0, emp) [blk b2 [.slice none 0 0] 36, emp] rfl ⟨List.nodup_nil, fun i h => (by cases h), nI⟩ rfl (hit) rfl (fun i hi => rfl) ?_ ?_ (fun _ _ hJ => hJ.elim)
  · rintro lq rec B' seen i ⟨vo, ko⟩ hi hns ⟨hnd, hlt, OO⟩
    dsimp only [List.cons_append, List.nil_append]
    refine XK.region rfl ?_
    refine XO.q (Q.assign rfl) ?_
    refine XO.done ?_
    refine XK.beginRound ?_
    refine XK.block ?_
    refine XK.region rfl ?_
    refine XO.q (Q.ld rfl rfl) ?_
    refine XO.q (Q.move rfl) ?_
    refine XO.lit [_] [_] [(es.getD i default).1] encI (by rfl) (by rfl) rfl (by rfl) (by exact .c 0 1 rfl rfl rfl (.n _)) (fun _ => rfl) (by rfl) rfl (by infer_instance) rfl fun v10 h10 O10 => ?_
    refine XO.append rfl rfl rfl rfl (by have := seen_few hnd hlt; simp only [List.length_map, List.length_cons, List.length_nil]; omega) fun v11 h11 O11 => ?_
    refine XO.st rfl rfl rfl ?_
    refine XO.done ?_
    refine XK.inBlock ?_
    exact XK.leave (j := none) [blk b2 [v11] 36, h11] trivial ⟨(v11, h11), ⟨nodup_snoc hnd hns, mem_snoc hlt hi, by rw [List.map_append]; exact O11⟩, rfl⟩
  · rintro ⟨vo, ko⟩ seen hnd hall ⟨hnd, hlt, OO⟩
    dsimp only [List.cons_append, List.nil_append]
    refine XK.inBlock ?_
    refine XK.seq ?_
    refine XK.region rfl ?_
    refine XO.q (Q.ld rfl rfl) ?_
    refine XO.q (Q.assign rfl) ?_
    refine XO.done ?_
    refine XK.rt [ko] Try.func82 Try.results82 (.t rfl .n) ?_
    exact ⟨ko, seen, rfl, hnd, hall, OO⟩
theorem collect_spec (y : Value) [oy : One y] (es : List (Int × Value)) (Ha Hb : PHeap) (few : es.length ≤ 1000000) (hit : ItM Try.prog y es.length (fun i => [.int .i64 (es.getD i default).1]) [Ha, Hb]) : Spec Try.prog 59 #[y] [] [Ha, Hb] (fun v hs => ∃ (k : PHeap) (seen : List Nat), hs = [k] ∧ seen.Nodup ∧ (∀ i, i ∈ seen ↔ i < es.length) ∧ OArr v encI 1 3 k (seen.map fun i => (es.getD i default).1)) := by
  refine Spec.intro (fn := Try.f59) (N := 5) Try.func59 rfl Try.ntmps59 rfl fun B => ?_
  refine XK.seq ?_
  refine XK.region rfl ?_
  refine XO.q (Q.assign rfl) ?_
  refine XO.done ?_
  refine XK.seq ?_
  refine XK.region rfl ?_
  refine XO.q (Q.move rfl) ?_
  refine XO.call Try.call82 rfl rfl rfl (appendSeq_spec y es Ha Hb few hit) fun v4 s4 R4 => ?_
  obtain ⟨k4, seen, rfl, hnd, hall, O4⟩ := R4
  dsimp only [List.cons_append, List.nil_append]
  refine XO.q (Q.assign rfl) ?_
  refine XO.done ?_
  refine XK.rt [k4] Try.func59 Try.results59 (.t rfl .n) ?_
  exact ⟨k4, seen, rfl, hnd, hall, O4⟩
theorem sort_spec (v : Value) (h : PHeap) (xs : List Int) [s : OArr v encI 1 3 h xs] : Spec Try.prog 60 #[v] [h] [] (fun _ hs => ∃ h', hs = [h'] ∧ OArr v encI 1 3 h' (sortL xs)) := sort_specG sortLays 3 v h xs
theorem sorted_spec (y : Value) [oy : One y] (es : List (Int × Value)) (L : List Int) (mi : MapIs es L) (Ha Hb : PHeap) (few : es.length ≤ 1000000) (hit : ItM Try.prog y es.length (fun i => [.int .i64 (es.getD i default).1]) [Ha, Hb]) : Spec Try.prog 27 #[y] [] [Ha, Hb] (fun v hs => ∃ k, hs = [k] ∧ OArr v encI 1 3 k (sortL (dd L))) := by
  refine Spec.intro (fn := Try.f27) (N := 9) Try.func27 rfl Try.ntmps27 rfl fun B => ?_
  refine XK.seq ?_
  refine XK.region rfl ?_
  refine XO.q (Q.assign rfl) ?_
  refine XO.done ?_
  refine XK.seq ?_
  refine XK.region rfl ?_
  refine XO.q (Q.move rfl) ?_
  refine XO.call Try.call59 rfl rfl rfl (collect_spec y es Ha Hb few hit) fun v5 s5 R5 => ?_
  obtain ⟨k5, seen, rfl, hnd, hall, O5⟩ := R5
  dsimp only [List.cons_append, List.nil_append]
  refine XO.q (Q.assign rfl) ?_
  refine XO.done ?_
  refine XK.seq ?_
  refine XK.region rfl ?_
  refine XO.q (Q.move rfl) ?_
  refine XO.call Try.call60 rfl rfl rfl (sort_spec v5 k5 (seen.map fun i => (es.getD i default).1)) fun v7 s7 R7 => ?_
  obtain ⟨k7, rfl, O7⟩ := R7
  dsimp only [List.cons_append, List.nil_append]
  rw [sums_keys mi hnd hall] at O7
  refine XO.done ?_
  refine XK.seq ?_
  refine XK.region rfl ?_
  refine XO.q (Q.move rfl) ?_
  refine XO.q (Q.assign rfl) ?_
  refine XO.done ?_
  refine XK.rt [k7] Try.func27 Try.results27 (.t rfl .n) ?_
  exact ⟨k7, rfl, O7⟩
set_option maxHeartbeats 1000000 in
theorem Sums_spec (l : List (Value × PJob)) (vl : Value) (hl K : PHeap) [jl : Arr vl encPJ 6 hl l] (aL : JobsK l K) : Spec Try.prog 9 #[vl] [] [hl, K] (fun v hs => ∃ vo ko, v = .tuple #[vo, .int .i64 (sumsG (l.map Prod.snd)).2.1, .int .i64 (sumsG (l.map Prod.snd)).2.2] ∧ hs = [ko] ∧ OArr vo encDraw 2 41 ko (sumsG (l.map Prod.snd)).1) := by
  haveI := keyI
  have nD : OArr (.slice none 0 0) encDraw 2 41 emp ([] : List PDraw) := OArr.nil (fun _ => rfl)
  have lm : (l.map Prod.snd).length = l.length := List.length_map ..
  refine Spec.intro (fn := Try.f9) (N := 40) Try.func9 rfl Try.ntmps9 rfl fun B => ?_
  refine XK.seq ?_
  refine XK.region rfl ?_
  refine XO.q (Q.assign rfl) ?_
  refine XO.q (Q.assign rfl) ?_
  refine XO.q (Q.assign rfl) ?_
  refine XO.done ?_
  refine XK.seq ?_
  refine XK.region rfl ?_
  refine XO.q (Q.move rfl) ?_
  refine XO.call Try.call25 rfl rfl rfl (listed_spec l vl hl K aL) fun v13 s13 R13 => ?_
  obtain ⟨rfl, rfl⟩ := R13
  dsimp only [List.cons_append, List.nil_append]
  refine XO.q (Q.move rfl) ?_
  refine XO.q (Q.extract rfl rfl) ?_
  refine XO.q (Q.extract rfl rfl) ?_
  refine XO.q (Q.assign rfl) ?_
  refine XO.q (Q.assign rfl) ?_
  refine XO.done ?_
  refine XK.seq ?_
  refine XK.seq ?_
  refine XK.region rfl ?_
  refine XO.q (Q.move rfl) ?_
  refine XO.q (Q.neq rfl rfl) ?_
  refine XO.done ?_
  refine XK.if rfl (fun c0 => ?_) (fun c0 => ?_)
  · have _t0 := True.intro
    refine XK.seq ?_
    refine XK.region rfl ?_
    refine XO.q (Q.move rfl) ?_
    refine XO.q (Q.assign rfl) ?_
    refine XO.q (Q.assign rfl) ?_
    refine XO.q (Q.assign rfl) ?_
    refine XO.done ?_
    refine XK.rt [emp] Try.func9 Try.results9 (.t rfl (.t rfl (.t rfl .n))) ?_
    have hz : (sumsG (l.map Prod.snd)) = ([], 0, (listedG (l.map Prod.snd)).2) := by rw [sumsG, if_pos c0]
    rw [hz]
    exact ⟨.slice none 0 0, emp, rfl, rfl, nD⟩
  · have _t0 := True.intro
    have ok := listed_ok.1 (Decidable.of_not_not c0)
    refine XK.skip ?_
    refine XK.seq ?_
    refine XK.region rfl ?_
    refine XO.q (Q.move rfl) ?_
    refine XO.call Try.call26 rfl rfl rfl (sums_spec l vl hl K aL ok) fun v20 s20 R20 => ?_
    obtain ⟨bm, es, rfl, rfl, mi⟩ := R20
    dsimp only [List.cons_append, List.nil_append]
    have fk := few_keys mi (n := 100000) (fun x hx => by have := combos_rng ok (l.map Prod.snd).length (Nat.le_refl _) x (by rw [List.take_length]; exact hx); have := ok.few; omega)
    refine XO.q (Q.assign rfl) ?_
    refine XO.done ?_
    refine XK.seq ?_
    refine XK.region rfl ?_
    refine XO.q (Q.assign rfl) ?_
    refine XO.done ?_
    refine XK.seq ?_
    refine XK.seq ?_
    refine XK.region rfl ?_
    refine XO.q (Q.move rfl) ?_
    refine XO.call Try.call28 rfl rfl rfl (keys_spec bm es) fun v22 s22 R22 => ?_
    obtain ⟨bk, rfl, o22, hit⟩ := R22
    dsimp only [List.cons_append, List.nil_append]
    refine XO.call Try.call27 rfl rfl rfl (sorted_spec v22 es (combos (l.map Prod.snd)) mi _ _ (by omega) hit) fun v23 s23 R23 => ?_
    obtain ⟨k23, rfl, O23⟩ := R23
    dsimp only [List.cons_append, List.nil_append]
    have sl := sum_keys_len mi
    refine XO.len rfl fun l24 => ?_
    refine XO.q (Q.move rfl) ?_
    refine XO.done ?_
    refine XK.block ?_
    refine XK.while (X := Nat × Value × PHeap) [8, 10, 25, 26, 27, 28, 29, 30, 31, 32, 33, 34, 35, 36, 37] (fun ⟨i, vo, ko⟩ => [(25, some (.int .i64 (i : Nat))), (8, some (vo))]) (fun ⟨i, vo, ko⟩ => [ko]) (fun ⟨i, vo, ko⟩ => i ≤ (sortL (dd (combos (l.map Prod.snd)))).length ∧ OArr vo encDraw 2 41 ko ((sumsL (combos (l.map Prod.snd))).take i)) (fun ⟨i, vo, ko⟩ => (sortL (dd (combos (l.map Prod.snd)))).length - i) (0, .slice none 0 0, emp) [emp] rfl ⟨by omega, nD⟩ (.c rfl (.c rfl (.base 0 rfl rfl))) ?_
    rintro ⟨i, vo, ko⟩ ⟨hi, OO⟩ ih0
    dsimp only [List.cons_append, List.nil_append] at ih0 ⊢
    refine XK.seq ?_
    refine XK.region rfl ?_
    refine XO.q (Q.lss rfl rfl) ?_
    refine XO.done ?_
    refine XK.seq ?_
    refine XK.if rfl (fun c1 => ?_) (fun c1 => ?_)
    · have _t1 := True.intro
      have lsl : (sumsL (combos (l.map Prod.snd))).length = (sortL (dd (combos (l.map Prod.snd)))).length := List.length_map ..
      have esl : (sumsL (combos (l.map Prod.snd))).getD i default = ⟨(sortL (dd (combos (l.map Prod.snd)))).getD i default, (((combos (l.map Prod.snd)).count ((sortL (dd (combos (l.map Prod.snd)))).getD i default) : Nat) : Int)⟩ := by
        unfold sumsL
        rw [List.getD_eq_getElem?_getD, List.getElem?_map, List.getElem?_eq_getElem (by omega), List.getD_eq_getElem?_getD, List.getElem?_eq_getElem (by omega)]; rfl
      refine XK.skip ?_
      refine XK.seq ?_
      refine XK.block ?_
      refine XK.seq ?_
      refine XK.region rfl ?_
      refine XO.ix rfl rfl (by omega) (by omega) fun i27 => ?_
      refine XO.q (Q.ldE rfl (by first | assumption | omega) rfl) ?_
      refine XO.q (Q.assign rfl) ?_
      refine XO.done ?_
      refine XK.region rfl ?_
      refine XO.q (Q.move rfl) ?_
      refine XO.q (Q.move rfl) ?_
      refine XO.q (Q.move rfl) ?_
      refine XO.q (Q.move rfl) ?_
      refine XO.q (Q.lookup (enc := encK1) _ Try.zeroValue3 (((sortL (dd (combos (l.map Prod.snd)))).getD i default)) rfl rfl) ?_
      rw [mi.get]
      refine XO.q (Q.build [_, _] (.c 0 1 rfl rfl rfl (.c 1 1 rfl rfl rfl (.n _)))) ?_
      refine XO.lit [_, _] [_, _] [⟨(sortL (dd (combos (l.map Prod.snd)))).getD i default, (((combos (l.map Prod.snd)).count ((sortL (dd (combos (l.map Prod.snd)))).getD i default) : Nat) : Int)⟩] encDraw (by rfl) (by rfl) rfl (by rfl) (by exact .c 0 2 rfl rfl rfl (.n _)) (fun _ => rfl) (by rfl) rfl (by infer_instance) rfl fun v35 h35 O35 => ?_
      refine XO.append rfl rfl rfl rfl (by simp only [List.length_take, List.length_cons, List.length_nil]; omega) fun v36 h36 O36 => ?_
      refine XO.q (Q.assign rfl) ?_
      refine XO.done ?_
      refine XK.inBlock ?_
      refine XK.region rfl ?_
      refine XO.q (Q.add rfl rfl ⟨by omega, by omega⟩) ?_
      refine XO.q (Q.move rfl) ?_
      refine XO.done ?_
      exact ih0 (i + 1, v36, h36) _ _ ⟨by dsimp only; omega, by dsimp only; rw [take_snocP (by omega), esl]; exact O36⟩ (by first | omega | (dsimp only; omega)) (.c rfl (.c rfl (.base 32 rfl rfl))) inferInstance
    · have _t1 := True.intro
      refine XK.exit rfl ?_
      refine XK.seq ?_
      refine XK.region rfl ?_
      refine XO.q (Q.move rfl) ?_
      refine XO.q (Q.move rfl) ?_
      refine XO.q (Q.assign rfl) ?_
      refine XO.q (Q.assign rfl) ?_
      refine XO.q (Q.assign rfl) ?_
      refine XO.done ?_
      refine XK.rt [ko] Try.func9 Try.results9 (.t rfl (.t rfl (.t rfl .n))) ?_
      have hz : (sumsG (l.map Prod.snd)) = (sumsL (combos (l.map Prod.snd)), (listedG (l.map Prod.snd)).1, 0) := by rw [sumsG, if_neg c0]
      rw [hz]
      rw [List.take_of_length_le (by unfold sumsL; rw [List.length_map]; omega)] at OO
      exact ⟨vo, ko, rfl, rfl, OO⟩
end Go.X

set_option linter.unusedSimpArgs false
set_option linter.unusedVariables false
set_option maxRecDepth 20000
namespace Go.X
open Go.Proofs
theorem cloneI (v : Value) (h : PHeap) (xs : List Int) [s : Arr v encI 1 h xs] (hl : xs.length ≤ 68719476736) :
    Spec Try.prog 17 #[v] [] [h] (fun v' hs => ∃ h', hs = [h'] ∧ OArr v' encI 1 3 h' xs) := by
  refine Spec.intro (fn := Try.f17) (N := 8) Try.func17 rfl Try.ntmps17 rfl fun B => ?_
  refine XK.seq ?_
  refine XK.region rfl ?_
  refine XO.q (Q.assign rfl) ?_
  refine XO.done ?_
  refine XK.seq ?_
  refine XK.seq ?_
  refine XK.region rfl ?_
  refine XO.q (Q.move rfl) ?_
  refine XO.eqNil rfl fun z4 hz4 => ?_
  refine XO.done ?_
  refine XK.if rfl (fun c0 => ?_) (fun c0 => ?_)
  · have _t0 := True.intro
    refine XK.seq ?_
    refine XK.region rfl ?_
    refine XO.q (Q.assign rfl) ?_
    refine XO.done ?_
    refine XK.rt [emp] Try.func17 Try.results17 (.t rfl .n) ?_
    exact ⟨emp, rfl, by rw [(hz4 c0).1]; exact OArr.nil (fun _ => rfl)⟩
  · have _t0 := True.intro
    refine XK.skip ?_
    refine XK.seq ?_
    refine XK.region rfl ?_
    refine XO.lit [] [] [] encI (by rfl) (by rfl) rfl (by rfl) (by exact .n _) (fun _ => rfl) (by rfl) rfl (by infer_instance) rfl fun v5 h5 O5 => ?_
    refine XO.q (Q.move rfl) ?_
    refine XO.append rfl rfl rfl rfl (by first | omega | (simp; omega)) fun v7 h7 O7 => ?_
    refine XO.q (Q.assign rfl) ?_
    refine XO.done ?_
    refine XK.rt [h7] Try.func17 Try.results17 (.t rfl .n) ?_
    exact ⟨h7, rfl, O7⟩
/-- What sons yields. -/
def SonY (t : PTask) (w : List Int) (i : Nat) (g : PHeap) (vs : List Value) : Prop := ∃ v, vs = [v] ∧ OArr v encI 1 3 g ((psons t w).getD i [])
/-- What is known of sets of jobs. -/
def KnownS (t : PTask) (bm : Nat) (s : PHeap) : Prop := ∃ es, s = mapH bm encK2 es ∧ KnownP t es
set_option maxHeartbeats 4000000 in
theorem sons1 (l : List (Value × PJob)) (vl : Value) (hl K : PHeap) [jl : Arr vl encPJ 6 hl l] (aL : JobsK l K) (rs : List PRack) (vr : Value) (hr : PHeap) [jr : Arr vr encRack 5 hr rs] (m : PRat) (w : List Int) (vw : Value) (hw : PHeap) [jw : Arr vw encI 1 hw w] (ok : TaskOk (⟨(l.map Prod.snd), rs, m⟩ : PTask)) (lok : ListOk (l.map Prod.snd)) (hwl : w.length < l.length) (wok : WOk (⟨(l.map Prod.snd), rs, m⟩ : PTask) w) (b1 b2 bt bm : Nat) (f : Value) (Hr : List PHeap) (Qc : Nat → PHeap → Prop) (Xc : PHeap → Prop)
    (round : ∀ i, i < (psons (⟨(l.map Prod.snd), rs, m⟩ : PTask) w).length → ∀ g vs q s, SonY (⟨(l.map Prod.snd), rs, m⟩ : PTask) w i g vs → Qc i q → KnownS (⟨(l.map Prod.snd), rs, m⟩ : PTask) bm s → VSpec Try.prog f vs [q, s, g] Hr (fun v hs => ∃ b q' s', v = .bool b ∧ hs = [q', s'] ∧ KnownS (⟨(l.map Prod.snd), rs, m⟩ : PTask) bm s' ∧ (b = true → Qc (i + 1) q') ∧ (b = false → Xc q')))
    (q : PHeap) (hQ : Qc 0 q) (es : List ((Int × Int) × Value)) (kn : KnownP (⟨(l.map Prod.snd), rs, m⟩ : PTask) es) :
    Spec Try.prog 64 #[f, ptr b1 0, ptr b2 0] [q, mapH bm encK2 es] (blk b1 [ptr bt 0] 87 :: blk b2 [vw] 36 :: blk bt [vl, vr, .int .i64 m.n, .int .i64 m.d, .map (some bm)] 90 :: hl :: K :: hr :: hw :: Hr)
      (fun _ hs => ∃ q' s', hs = [q', s'] ∧ KnownS (⟨(l.map Prod.snd), rs, m⟩ : PTask) bm s' ∧ (Qc (psons (⟨(l.map Prod.snd), rs, m⟩ : PTask) w).length q' ∨ Xc q')) := by
  have ll := jl.le
  have lm : (l.map Prod.snd).length = l.length := List.length_map ..
  have few := ok.few
  have few2 : l.length ≤ 8 := by rw [← lm]; exact few
  have rk5 := ok.rk5
  have sl : ∀ r : Nat, (w ++ [((r : Nat) : Int)]).length = w.length + 1 := fun r => by rw [List.length_append]; rfl
  refine Spec.intro (fn := Try.f64) (N := 114) Try.func64 rfl Try.ntmps64 rfl fun B => ?_
  refine XK.seq ?_
  refine XK.seq ?_
  refine XK.region rfl ?_
  refine XO.q (Q.ld rfl rfl) ?_
  refine XO.q (Q.nilCheck rfl) ?_
  refine XO.q (Q.fieldAddr rfl) ?_
  refine XO.q (Q.fieldAddr rfl) ?_
  refine XO.q (Q.ld rfl rfl) ?_
  refine XO.len rfl fun l19 => ?_
  refine XO.q (Q.move rfl) ?_
  refine XO.done ?_
  refine XK.block ?_
  refine XK.while (X := Nat × PHeap × List ((Int × Int) × Value)) [4, 5, 6, 7, 8, 9, 10, 11, 12, 13, 20, 21, 22, 23, 24, 25, 26, 27, 28, 29, 30, 31, 32, 33, 34, 35, 36, 37, 38, 39, 40, 41, 42, 43, 44, 45, 46, 47, 48, 49, 50, 51, 52, 53, 54, 55, 56, 57, 58, 59, 60, 61, 62, 63, 64, 65, 66, 67, 68, 69, 70, 71, 72, 73, 74, 75, 76, 77, 78, 79, 80, 81, 82, 83, 84, 85, 86, 87, 88, 89, 90, 91, 92, 93, 94, 95, 96, 97, 98, 99, 100, 101, 102, 103, 104, 105, 106, 107] (fun ⟨r, q1, es1⟩ => [(20, some (.int .i64 (r : Nat)))]) (fun ⟨r, q1, es1⟩ => [q1, mapH bm encK2 es1]) (fun ⟨r, q1, es1⟩ => r ≤ rs.length ∧ KnownP (⟨(l.map Prod.snd), rs, m⟩ : PTask) es1 ∧ Qc (psonsTo (⟨(l.map Prod.snd), rs, m⟩ : PTask) w r).length q1) (fun ⟨r, q1, es1⟩ => rs.length - r) (0, q, es) [q, mapH bm encK2 es] rfl ⟨by omega, kn, hQ⟩ (.c rfl (.base 0 rfl rfl)) ?_
  rintro ⟨r, q1, es1⟩ ⟨hr0, kn1, hQ1⟩ ih0
  dsimp only [List.cons_append, List.nil_append] at ih0 ⊢
  refine XK.seq ?_
  refine XK.region rfl ?_
  refine XO.q (Q.lss rfl rfl) ?_
  refine XO.done ?_
  refine XK.seq ?_
  refine XK.if rfl (fun c0 => ?_) (fun c0 => ?_)
  · have _t0 := True.intro
    have hr1 : r < rs.length := by omega
    have wok2 : WOk (⟨(l.map Prod.snd), rs, m⟩ : PTask) (w ++ [((r : Nat) : Int)]) := wok.snoc (by dsimp only; omega) (by omega) (by dsimp only; omega)
    have fs := fit_set (t := (⟨(l.map Prod.snd), rs, m⟩ : PTask)) (w := (w ++ [((r : Nat) : Int)])) (by dsimp only; rw [sl r]; omega) r
    have slr := sl r
    refine XK.skip ?_
    refine XK.seq ?_
    refine XK.block ?_
    refine XK.seq ?_
    refine XK.region rfl ?_
    refine XO.q (Q.move rfl) ?_
    refine XO.q (Q.assign rfl) ?_
    refine XO.done ?_
    refine XK.seq ?_
    refine XK.region rfl ?_
    refine XO.q (Q.ld rfl rfl) ?_
    refine XO.call Try.call17 rfl rfl rfl (cloneI vw hw w (by omega)) fun v24 s24 R24 => ?_
    obtain ⟨k24, rfl, O24⟩ := R24
    dsimp only [List.cons_append, List.nil_append]
    refine XO.q (Q.move rfl) ?_
    refine XO.lit [_] [_] [((r : Nat) : Int)] encI (by rfl) (by rfl) rfl (by rfl) (by exact .c 0 1 rfl rfl rfl (.n _)) (fun _ => rfl) (by rfl) rfl (by infer_instance) rfl fun v26 h26 O26 => ?_
    refine XO.append rfl rfl rfl rfl (by simp only [List.length_cons, List.length_nil]; omega) fun v27 h27 O27 => ?_
    refine XO.q (Q.assign rfl) ?_
    refine XO.done ?_
    refine XK.seq ?_
    refine XK.region rfl ?_
    refine XO.q (Q.assign rfl) ?_
    refine XO.done ?_
    refine XK.seq ?_
    refine XK.seq ?_
    refine XK.region rfl ?_
    refine XO.q (Q.move rfl) ?_
    refine XO.len rfl fun l29 => ?_
    rw [sl r]
    refine XO.q (Q.move rfl) ?_
    refine XO.done ?_
    refine XK.block ?_
    refine XK.while (X := Nat) [6, 7, 8, 30, 31, 32, 33, 34, 35, 36, 37, 38, 39, 40, 41, 42] (fun i => [(30, some (.int .i64 (i : Nat))), (6, some (.int .i64 ((setTo (w ++ [((r : Nat) : Int)]) ((r : Nat) : Int) i) : Nat)))]) (fun i => []) (fun i => i ≤ w.length + 1) (fun i => w.length + 1 - i) (0) [] rfl (by omega) (.c rfl (.c rfl (.base 0 rfl rfl))) ?_
    rintro i hi ih1
    dsimp only [List.cons_append, List.nil_append] at ih1 ⊢
    refine XK.seq ?_
    refine XK.region rfl ?_
    refine XO.q (Q.lss rfl rfl) ?_
    refine XO.done ?_
    refine XK.seq ?_
    refine XK.if rfl (fun c1 => ?_) (fun c1 => ?_)
    · have _t1 := True.intro
      have sb := set_lt (w ++ [((r : Nat) : Int)]) ((r : Nat) : Int) i (by omega)
      have pw : 2 ^ i < 1152921504606846976 := by
        have := Nat.pow_lt_pow_right (a := 2) (m := i) (n := 60) (by decide) (by omega)
        exact this
      refine XK.skip ?_
      refine XK.seq ?_
      refine XK.block ?_
      refine XK.seq ?_
      refine XK.region rfl ?_
      refine XO.q (Q.move rfl) ?_
      refine XO.ix rfl rfl (by omega) (by omega) fun i33 => ?_
      refine XO.q (Q.ldE rfl (by first | assumption | omega) rfl) ?_
      refine XO.q (Q.assign rfl) ?_
      refine XO.q (Q.assign rfl) ?_
      refine XO.done ?_
      refine XK.seq ?_
      refine XK.region rfl ?_
      refine XO.q (Q.move rfl) ?_
      refine XO.q (Q.move rfl) ?_
      refine XO.q (Q.eql rfl rfl) ?_
      refine XO.done ?_
      refine XK.if rfl (fun c2 => ?_) (fun c2 => ?_)
      · have _t2 := True.intro
        refine XK.region rfl ?_
        refine XO.q (Q.move rfl) ?_
        refine XO.q (Q.move rfl) ?_
        refine XO.q (Q.shlOne rfl rfl (by omega)) ?_
        refine XO.q (Q.orN (m := (setTo (w ++ [((r : Nat) : Int)]) ((r : Nat) : Int) i)) (n := 2 ^ i) rfl rfl (by omega) pw) ?_
        refine XO.q (Q.assign rfl) ?_
        refine XO.done ?_
        refine XK.inBlock ?_
        refine XK.region rfl ?_
        refine XO.q (Q.add rfl rfl ⟨by omega, by omega⟩) ?_
        refine XO.q (Q.move rfl) ?_
        refine XO.done ?_
        rw [show (setTo (w ++ [((r : Nat) : Int)]) ((r : Nat) : Int) i) ||| 2 ^ i = (setTo (w ++ [((r : Nat) : Int)]) ((r : Nat) : Int) (i + 1)) by rw [setTo, if_pos c2]]
        exact ih1 (i + 1) _ _ (by omega) (by first | omega | (dsimp only; omega)) (.c rfl (.c rfl (.base 34 rfl rfl))) inferInstance
      · have _t2 := True.intro
        refine XK.skip ?_
        refine XK.inBlock ?_
        refine XK.region rfl ?_
        refine XO.q (Q.add rfl rfl ⟨by omega, by omega⟩) ?_
        refine XO.q (Q.move rfl) ?_
        refine XO.done ?_
        rw [show (setTo (w ++ [((r : Nat) : Int)]) ((r : Nat) : Int) i) = (setTo (w ++ [((r : Nat) : Int)]) ((r : Nat) : Int) (i + 1)) by rw [setTo, if_neg c2]]
        exact ih1 (i + 1) _ _ (by omega) (by first | omega | (dsimp only; omega)) (.c rfl (.c rfl (.base 29 rfl rfl))) inferInstance
    · have _t1 := True.intro
      have hin : i = w.length + 1 := by omega
      rw [hin, ← sl r]
      refine XK.exit rfl ?_
      refine XK.seq ?_
      refine XK.region rfl ?_
      refine XO.q (Q.ld rfl rfl) ?_
      refine XO.q (Q.nilCheck rfl) ?_
      refine XO.q (Q.fieldAddr rfl) ?_
      refine XO.q (Q.ld rfl rfl) ?_
      refine XO.q (Q.move rfl) ?_
      refine XO.q (Q.move rfl) ?_
      refine XO.q (Q.build [_, _] (.c 0 1 rfl rfl rfl (.c 1 1 rfl rfl rfl (.n _)))) ?_
      refine XO.q (Q.lookup2 (enc := encK2) _ Try.zeroValue4 ((((r : Nat) : Int), ((((setTo (w ++ [((r : Nat) : Int)]) ((r : Nat) : Int) (w ++ [((r : Nat) : Int)]).length) : Nat)) : Int))) rfl rfl) ?_
      obtain ⟨gv, egv⟩ : ∃ gv, gv = (getM (((r : Nat) : Int), ((((setTo (w ++ [((r : Nat) : Int)]) ((r : Nat) : Int) (w ++ [((r : Nat) : Int)]).length) : Nat)) : Int)) es1).getD (.bool false) := ⟨_, rfl⟩
      rw [← egv]
      obtain ⟨gb, egb⟩ : ∃ gb, gb = (getM (((r : Nat) : Int), ((((setTo (w ++ [((r : Nat) : Int)]) ((r : Nat) : Int) (w ++ [((r : Nat) : Int)]).length) : Nat)) : Int)) es1).isSome := ⟨_, rfl⟩
      rw [← egb]
      refine XO.q (Q.move rfl) ?_
      refine XO.q (Q.extract rfl rfl) ?_
      refine XO.q (Q.extract rfl rfl) ?_
      refine XO.q (Q.assign rfl) ?_
      refine XO.q (Q.assign rfl) ?_
      refine XO.done ?_
      refine XK.seq ?_
      refine XK.seq ?_
      refine XK.region rfl ?_
      refine XO.q (Q.move rfl) ?_
      refine XO.q (Q.not rfl) ?_
      refine XO.done ?_
      refine XK.meet (X := List ((Int × Int) × Value)) [9, 11, 12, 13, 56, 57, 58, 59, 60, 61, 62, 63, 64, 65, 66, 67, 68, 69, 70, 71, 72, 73, 74, 75, 76, 77, 78, 79, 80, 81, 82, 83, 84, 85, 86, 87, 88, 89, 90, 91] (fun es2 => [(9, some (.bool (fitAt (⟨(l.map Prod.snd), rs, m⟩ : PTask) (w ++ [((r : Nat) : Int)]) r)))]) (fun es2 => [mapH bm encK2 es2]) (fun es2 => KnownP (⟨(l.map Prod.snd), rs, m⟩ : PTask) es2) [mapH bm encK2 es1] ?_ ?_
      · rintro es2 kn2
        dsimp only [List.cons_append, List.nil_append]
        refine XK.seq ?_
        refine XK.region rfl ?_
        refine XO.q (Q.move rfl) ?_
        refine XO.q (Q.move rfl) ?_
        refine XO.q (Quiet.guardT rfl rfl fun g94 p94 => Q.ld rfl rfl) ?_
        refine XO.q (Quiet.guardT rfl rfl fun g95 p95 => Q.nilCheck (lzv g95 rfl)) ?_
        refine XO.q (Quiet.guardT rfl rfl fun g96 p96 => Q.fieldAddr (lzv g96 rfl)) ?_
        refine XO.q (Quiet.guardT rfl rfl fun g97 p97 => Q.ldA [_, _, _, _] (lzv g97 rfl) rfl rfl) ?_
        refine XO.q (Quiet.guardT rfl rfl fun g98 p98 => Q.move rfl) ?_
        refine XO.gcallT rfl rfl Try.call66 rfl (fun g99 => .c (lzv g99 rfl) (.c (lzv g99 rfl) .n)) rfl (fun g99 p99 => apart_spec l vl hl K aL rs vr hr m (w ++ [((r : Nat) : Int)]) v27 h27 ok wok2) ?_
        refine XO.q (Q.and rfl (fun hp => lzv hp rfl)) ?_
        refine XO.q (Q.move rfl) ?_
        refine XO.q (Quiet.guardT rfl rfl fun g102 p102 => Q.move rfl) ?_
        refine XO.q (Quiet.guardT rfl rfl fun g103 p103 => Q.move rfl) ?_
        refine XO.gvcall rfl rfl (fun g104 => lzv g104 rfl) (fun g104 => .c (lzv g104 rfl) .n) (fun g104 => round _ (psons_at (t := (⟨(l.map Prod.snd), rs, m⟩ : PTask)) (w := w) hr1 g104).2 h27 _ q1 _ ⟨v27, rfl, by rw [(psons_at (t := (⟨(l.map Prod.snd), rs, m⟩ : PTask)) (w := w) hr1 g104).1]; exact O27⟩ hQ1 ⟨es2, rfl, kn2⟩) (fun g104 v104 s104 R104 => ?_) (fun g104 => ?_)
        · have _tb := True.intro
          obtain ⟨bb, q2, s2, rfl, rfl, ⟨es3, rfl, kn3⟩, hT, hF⟩ := R104
          dsimp only [List.cons_append, List.nil_append]
          refine XO.q (Quiet.guardT rfl rfl fun g105 p105 => Q.not rfl) ?_
          refine XO.q (Q.and rfl (fun hp => lzv hp rfl)) ?_
          refine XO.done ?_
          refine XK.if rfl (fun c4 => ?_) (fun c4 => ?_)
          · have _t4 := True.intro
            refine XK.rt [q2, mapH bm encK2 es3] Try.func64 Try.results64 (.n) ?_
            exact ⟨q2, _, rfl, ⟨es3, rfl, kn3⟩, .inr (hF (by cases bb <;> simp_all))⟩
          · have _t4 := True.intro
            refine XK.skip ?_
            refine XK.inBlock ?_
            refine XK.region rfl ?_
            refine XO.q (Q.add rfl rfl ⟨by omega, by omega⟩) ?_
            refine XO.q (Q.move rfl) ?_
            refine XO.done ?_
            exact ih0 (r + 1, q2, es3) _ _ ⟨by dsimp only; omega, kn3, by dsimp only; rw [psons_step, if_pos (show sonOk (⟨(l.map Prod.snd), rs, m⟩ : PTask) w r = true from g104)]; exact hT (by cases bb <;> simp_all)⟩ (by first | omega | (dsimp only; omega)) (.c rfl (.base 204 rfl rfl)) inferInstance
        · have _tb := True.intro
          refine XO.q (Quiet.guardT (v := .bool false) rfl rfl fun g105 p105 => absurd g105 g104) ?_
          refine XO.q (Q.and rfl (fun hp => lzv hp rfl)) ?_
          refine XO.done ?_
          refine XK.if rfl (fun c5 => ?_) (fun c5 => ?_)
          · have _t5 := True.intro
            refine XK.rt [q1, mapH bm encK2 es2] Try.func64 Try.results64 (.n) ?_
            exact False.elim c5.2
          · have _t5 := True.intro
            refine XK.skip ?_
            refine XK.inBlock ?_
            refine XK.region rfl ?_
            refine XO.q (Q.add rfl rfl ⟨by omega, by omega⟩) ?_
            refine XO.q (Q.move rfl) ?_
            refine XO.done ?_
            exact ih0 (r + 1, q1, es2) _ _ ⟨by dsimp only; omega, kn2, by dsimp only; rw [psons_step, if_neg (show ¬ sonOk (⟨(l.map Prod.snd), rs, m⟩ : PTask) w r = true from g104)]; exact hQ1⟩ (by first | omega | (dsimp only; omega)) (.c rfl (.base 204 rfl rfl)) inferInstance
      · intro mt3
        dsimp only [List.cons_append, List.nil_append] at mt3
        refine XK.if rfl (fun c3 => ?_) (fun c3 => ?_)
        · have _t3 := True.intro
          refine XK.seq ?_
          refine XK.region rfl ?_
          refine XO.q (Q.ld rfl rfl) ?_
          refine XO.q (Q.nilCheck rfl) ?_
          refine XO.q (Q.fieldAddr rfl) ?_
          refine XO.q (Q.ldA [_, _, _, _] rfl rfl rfl) ?_
          refine XO.q (Q.move rfl) ?_
          refine XO.q (Q.move rfl) ?_
          refine XO.call Try.call42 rfl rfl rfl (in_spec l vl hl K aL rs vr hr m (w ++ [((r : Nat) : Int)]) v27 h27 (r : Nat) (by omega) (by omega)) fun v62 s62 R62 => ?_
          obtain ⟨k62, rfl, O62⟩ := R62
          dsimp only [List.cons_append, List.nil_append]
          refine XO.q (Q.assign rfl) ?_
          refine XO.done ?_
          refine XK.seq ?_
          refine XK.region rfl ?_
          refine XO.q (Q.move rfl) ?_
          refine XO.call Try.call25 rfl rfl rfl (listed_spec (inTo l (w ++ [((r : Nat) : Int)]) (r : Nat) (w ++ [((r : Nat) : Int)]).length) v62 k62 K (aL.inTo (by omega))) fun v65 s65 R65 => ?_
          obtain ⟨rfl, rfl⟩ := R65
          dsimp only [List.cons_append, List.nil_append]
          have em : (inTo l (w ++ [((r : Nat) : Int)]) (r : Nat) (w ++ [((r : Nat) : Int)]).length).map Prod.snd = inL (⟨(l.map Prod.snd), rs, m⟩ : PTask) (w ++ [((r : Nat) : Int)]) r := in_mem _
          have lin : ListOk (inL (⟨(l.map Prod.snd), rs, m⟩ : PTask) (w ++ [((r : Nat) : Int)]) r) := lok.inTo (w ++ [((r : Nat) : Int)]) (r : Nat) (by omega)
          have lr := listed_rng lin
          refine XO.q (Q.move rfl) ?_
          refine XO.q (Q.extract rfl rfl) ?_
          refine XO.q (Q.extract rfl rfl) ?_
          refine XO.q (Q.assign rfl) ?_
          refine XO.q (Q.assign rfl) ?_
          refine XO.done ?_
          refine XK.seq ?_
          refine XK.drawn [0, 1, 2, 3, 4, 5, 6, 7, 8, 9, 10, 11, 12, 13, 14, 16] [b1] [k62] (.q 0 (.q 1 (.q 2 (.q 3 (.q 4 (.q 5 (.q 6 (.q 7 (.q 8 (.q 9 (.q 10 (.q 11 (.q 12 (.q 13 (.q 14 (.br 15 true (.q 16 .done) .stop)))))))))))))))) Try.mixed rfl (by kernel_rfl) ?_
          refine XT.q rfl rfl (Q.move rfl) ?_
          refine XT.q rfl rfl (Q.ld rfl rfl) ?_
          refine XT.q rfl rfl (Q.nilCheck rfl) ?_
          refine XT.q rfl rfl (Q.fieldAddr rfl) ?_
          refine XT.q rfl rfl (Q.fieldAddr rfl) ?_
          refine XT.q rfl rfl (Q.ld rfl rfl) ?_
          refine XT.q rfl rfl (Q.move rfl) ?_
          refine XT.ix rfl rfl rfl rfl (by omega) (by omega) fun i75 => ?_
          refine XT.q rfl rfl (Q.ldEA [_, _, _, _, _] rfl (by first | assumption | omega) rfl rfl) ?_
          refine XT.q rfl rfl (Q.ld rfl rfl) ?_
          refine XT.q rfl rfl (Q.nilCheck rfl) ?_
          refine XT.q rfl rfl (Q.fieldAddr rfl) ?_
          refine XT.q rfl rfl (Q.fieldAddr rfl) ?_
          refine XT.q rfl rfl (Q.ldA [_, _] rfl rfl rfl) ?_
          refine XT.q rfl rfl (Q.move rfl) ?_
          refine XT.call rfl rfl Try.call65 rfl rfl rfl (fits_spec (inTo l (w ++ [((r : Nat) : Int)]) (r : Nat) (w ++ [((r : Nat) : Int)]).length) v62 k62 K (aL.inTo (by omega)) (by rw [em]; exact lin) (rs.getD r default) m ok.most _ (by rw [em, lr.1])) (fun v83 s83 R83 => ?_) XT.stop
          obtain ⟨rfl, rfl⟩ := R83
          dsimp only [List.cons_append, List.nil_append]
          refine ⟨inferInstance, ?_⟩
          rw [show fitsG ((inTo l (w ++ [((r : Nat) : Int)]) (r : Nat) (w ++ [((r : Nat) : Int)]).length).map Prod.snd) (rs.getD r default) m = fitAt (⟨(l.map Prod.snd), rs, m⟩ : PTask) (w ++ [((r : Nat) : Int)]) r by rw [em]; rfl]
          refine XT.q rfl rfl (Q.assign rfl) ?_
          refine XT.done ?_
          refine XK.region rfl ?_
          refine XO.q (Q.ld rfl rfl) ?_
          refine XO.q (Q.nilCheck rfl) ?_
          refine XO.q (Q.fieldAddr rfl) ?_
          refine XO.q (Q.ld rfl rfl) ?_
          refine XO.q (Q.move rfl) ?_
          refine XO.q (Q.move rfl) ?_
          refine XO.q (Q.build [_, _] (.c 0 1 rfl rfl rfl (.c 1 1 rfl rfl rfl (.n _)))) ?_
          refine XO.q (Q.move rfl) ?_
          refine XO.mapUpdate (enc := encK2) ((((r : Nat) : Int), ((((setTo (w ++ [((r : Nat) : Int)]) ((r : Nat) : Int) (w ++ [((r : Nat) : Int)]).length) : Nat)) : Int))) rfl rfl rfl ?_
          refine XO.done ?_
          exact mt3 ((putM (((r : Nat) : Int), ((((setTo (w ++ [((r : Nat) : Int)]) ((r : Nat) : Int) (w ++ [((r : Nat) : Int)]).length) : Nat)) : Int)) (.bool (fitAt (⟨(l.map Prod.snd), rs, m⟩ : PTask) (w ++ [((r : Nat) : Int)]) r)) es1)) _ _ (by rw [fs]; exact kn1.put r (setTo (w ++ [((r : Nat) : Int)]) ((r : Nat) : Int) (w ++ [((r : Nat) : Int)]).length)) (.c rfl (.base 40 rfl rfl)) inferInstance
        · have _t3 := True.intro
          refine XK.skip ?_
          have e1 : gv = .bool (fitAt (⟨(l.map Prod.snd), rs, m⟩ : PTask) (w ++ [((r : Nat) : Int)]) r) := by
            rw [egv]
            cases hg : getM (((r : Nat) : Int), ((((setTo (w ++ [((r : Nat) : Int)]) ((r : Nat) : Int) (w ++ [((r : Nat) : Int)]).length) : Nat)) : Int)) es1 with
            | none => rw [hg] at egb; subst egb; exact absurd (Decidable.of_not_not c3) (by decide)
            | some v => rw [fs]; exact kn1 r (setTo (w ++ [((r : Nat) : Int)]) ((r : Nat) : Int) (w ++ [((r : Nat) : Int)]).length) v hg
          subst e1
          exact mt3 (es1) _ _ kn1 (.c rfl (.base 0 rfl rfl)) inferInstance
  · have _t0 := True.intro
    have hre : r = rs.length := by omega
    subst hre
    refine XK.exit rfl ?_
    refine XK.region rfl ?_
    refine XO.q (Q.move rfl) ?_
    refine XO.q (Q.ld rfl rfl) ?_
    refine XO.call Try.call17 rfl rfl rfl (cloneI vw hw w (by omega)) fun v110 s110 R110 => ?_
    obtain ⟨k110, rfl, O110⟩ := R110
    dsimp only [List.cons_append, List.nil_append]
    refine XO.lit [_] [_] [-1] encI (by rfl) (by rfl) rfl (by rfl) (by exact .c 0 1 rfl rfl rfl (.n _)) (fun _ => rfl) (by rfl) rfl (by infer_instance) rfl fun v111 h111 O111 => ?_
    refine XO.append rfl rfl rfl rfl (by simp only [List.length_cons, List.length_nil]; omega) fun v112 h112 O112 => ?_
    refine XO.vcall rfl rfl (round _ (by rw [psons_len]; exact Nat.lt_succ_self _) h112 _ q1 _ ⟨v112, rfl, by rw [psons_last]; exact O112⟩ hQ1 ⟨es1, rfl, kn1⟩) fun v113 s113 R113 => ?_
    obtain ⟨bb, q2, s2, rfl, rfl, ks2, hT, hF⟩ := R113
    dsimp only [List.cons_append, List.nil_append]
    refine XO.done ?_
    refine XK.fn [q2, s2] Try.func64 Try.results64 (.n) ?_
    refine ⟨q2, s2, rfl, ks2, ?_⟩
    cases bb with
    | true => left; rw [psons_len]; exact hT rfl
    | false => right; exact hF rfl
end Go.X

set_option linter.unusedSimpArgs false
set_option linter.unusedVariables false
set_option maxRecDepth 20000
namespace Go.X
open Go.Proofs
theorem sons_spec (l : List (Value × PJob)) (vl : Value) (hl K : PHeap) [jl : Arr vl encPJ 6 hl l] (aL : JobsK l K) (rs : List PRack) (vr : Value) (hr : PHeap) [jr : Arr vr encRack 5 hr rs] (m : PRat) (w : List Int) (vw : Value) (hw : PHeap) [jw : Arr vw encI 1 hw w] (ok : TaskOk (⟨(l.map Prod.snd), rs, m⟩ : PTask)) (lok : ListOk (l.map Prod.snd)) (hwl : w.length < l.length) (wok : WOk (⟨(l.map Prod.snd), rs, m⟩ : PTask) w) (bt bm : Nat) : Spec Try.prog 37 #[ptr bt 0, vw] [] [blk bt [vl, vr, .int .i64 m.n, .int .i64 m.d, .map (some bm)] 90, hl, K, hr, hw]
    (fun v hs => ∃ bx by_, hs = [blk bx [ptr bt 0] 87, blk by_ [vw] 36] ∧ ItG Try.prog v (psons (⟨(l.map Prod.snd), rs, m⟩ : PTask) w).length (SonY (⟨(l.map Prod.snd), rs, m⟩ : PTask) w) (KnownS (⟨(l.map Prod.snd), rs, m⟩ : PTask) bm) (blk bx [ptr bt 0] 87 :: blk by_ [vw] 36 :: blk bt [vl, vr, .int .i64 m.n, .int .i64 m.d, .map (some bm)] 90 :: hl :: K :: hr :: [hw])) := by
  refine Spec.intro (fn := Try.f37) (N := 6) Try.func37 rfl Try.ntmps37 rfl fun B => ?_
  refine XK.seq ?_
  refine XK.region rfl ?_
  refine XO.box rfl fun b2 => ?_
  refine XO.box rfl fun b3 => ?_
  refine XO.q (Q.assign rfl) ?_
  refine XO.done ?_
  refine XK.seq ?_
  refine XK.region rfl ?_
  refine XO.q (Q.func (fun _ he => rfl) (fun _ he => evs_rel he rfl)) ?_
  refine XO.q (Q.assign rfl) ?_
  refine XO.done ?_
  refine XK.rt [blk b2 [ptr bt 0] 87, blk b3 [vw] 36] Try.func37 Try.results37 (.t rfl .n) ?_
  refine ⟨b2, b3, rfl, fun f Hr Qc Xc round q s hQ hSt => ?_⟩
  obtain ⟨es, rfl, kn⟩ := hSt
  exact VSpec.fn (fst := []) (cap := [ptr b2 0, ptr b3 0]) Try.call64 rfl (sons1 l vl hl K aL rs vr hr m w vw hw ok lok hwl wok b2 b3 bt bm f Hr Qc Xc round q hQ es kn)
set_option maxHeartbeats 4000000 in
theorem look_spec (l : List (Value × PJob)) (vl : Value) (hl K : PHeap) [jl : Arr vl encPJ 6 hl l] (aL : JobsK l K) (rs : List PRack) (vr : Value) (hr : PHeap) [jr : Arr vr encRack 5 hr rs] (m : PRat) (ok : TaskOk (⟨(l.map Prod.snd), rs, m⟩ : PTask)) (lok : ListOk (l.map Prod.snd)) (b1 b2 b3 b4 bt bm : Nat) (vp : Value) [op : One vp] :
    ∀ (m_ : Nat) (w : List Int) (vw : Value) (gw : PHeap) (vW : Value) (gW : PHeap) (bw : List Int) (s : Int) (sm : PHeap), OArr vw encI 1 3 gw w → OArr vW encI 1 3 gW bw → KnownS (⟨(l.map Prod.snd), rs, m⟩ : PTask) bm sm → w.length ≤ l.length → l.length - w.length ≤ m_ → WOk (⟨(l.map Prod.snd), rs, m⟩ : PTask) w → (-1 ≤ s ∧ s ≤ 8000000) →
    Spec Try.prog 34 #[vw, ptr b1 0, ptr b2 0, ptr b3 0, ptr b4 0] [gw, gW, blk b2 [vW, .int .i64 s, vp] 46, sm] [blk b1 [vl, vr, .int .i64 m.n, .int .i64 m.d] 28, blk b3 [ptr bt 0] 87, blk b4 [(.func (.func 34) #[] #[ptr b1 0, ptr b2 0, ptr b3 0, ptr b4 0])] 91, blk bt [vl, vr, .int .i64 m.n, .int .i64 m.d, .map (some bm)] 90, hl, K, hr]
      (fun _ hs => ∃ vW2 gW2 sm2, hs = [gW2, blk b2 [vW2, .int .i64 (lookG (⟨(l.map Prod.snd), rs, m⟩ : PTask) w (bw, s)).2, vp] 46, sm2] ∧ KnownS (⟨(l.map Prod.snd), rs, m⟩ : PTask) bm sm2 ∧ OArr vW2 encI 1 3 gW2 (lookG (⟨(l.map Prod.snd), rs, m⟩ : PTask) w (bw, s)).1 ∧ -1 ≤ (lookG (⟨(l.map Prod.snd), rs, m⟩ : PTask) w (bw, s)).2 ∧ (lookG (⟨(l.map Prod.snd), rs, m⟩ : PTask) w (bw, s)).2 ≤ 8000000) := by
  intro m_
  have ll := jl.le
  have lm : (l.map Prod.snd).length = l.length := List.length_map ..
  have few := ok.few
  have few2 : l.length ≤ 8 := by rw [← lm]; exact few
  have rk5 := ok.rk5
  induction m_ with
  | zero =>
    intro w vw gw vW gW bw s sm ow oW ks hwl hm wok hs
    have le := lookF_eq (t := (⟨(l.map Prod.snd), rs, m⟩ : PTask)) (w := w) (by dsimp only; omega) (bw, s)
    have wr := worth_rng ok (w := w) w.length (by dsimp only; omega)
    refine Spec.intro (fn := Try.f34) (N := 32) Try.func34 rfl Try.ntmps34 rfl fun B => ?_
    refine XK.seq ?_
    refine XK.seq ?_
    refine XK.drawn [0, 1, 3, 4, 5] [b1, b2] [] (.q 0 (.q 1 (.q 3 (.q 4 (.br 2 true (.q 5 .done) .stop))))) Try.mixed rfl (by kernel_rfl) ?_
    refine XT.q rfl rfl (Q.ldA [_, _, _, _] rfl rfl rfl) ?_
    refine XT.q rfl rfl (Q.move rfl) ?_
    refine XT.q rfl rfl (Q.fieldAddr rfl) ?_
    refine XT.q rfl rfl (Q.ld rfl rfl) ?_
    refine XT.call rfl rfl Try.call35 rfl rfl rfl (hope_spec l vl hl K aL rs vr hr m w vw gw ok hwl) (fun v9 s9 R9 => ?_) XT.stop
    obtain ⟨rfl, rfl⟩ := R9
    dsimp only [List.cons_append, List.nil_append]
    refine ⟨inferInstance, ?_⟩
    refine XT.q rfl rfl (Q.leq rfl rfl) ?_
    refine XT.done ?_
    refine XK.if rfl (fun c0 => ?_) (fun c0 => ?_)
    · have _t0 := True.intro
      refine XK.rt [gW, blk b2 [vW, .int .i64 s, vp] 46, sm] Try.func34 Try.results34 (.n) ?_
      rw [if_pos (by dsimp only; exact c0)] at le
      rw [le]
      exact ⟨vW, gW, sm, rfl, ks, oW, hs.1, hs.2⟩
    · have _t0 := True.intro
      refine XK.skip ?_
      refine XK.seq ?_
      refine XK.seq ?_
      refine XK.region rfl ?_
      refine XO.q (Q.move rfl) ?_
      refine XO.len rfl fun l14 => ?_
      refine XO.q (Q.fieldAddr rfl) ?_
      refine XO.q (Q.ld rfl rfl) ?_
      refine XO.len rfl fun l17 => ?_
      refine XO.q (Q.eql rfl rfl) ?_
      refine XO.done ?_
      refine XK.if rfl (fun c1 => ?_) (fun c1 => ?_)
      · have _t1 := True.intro
        refine XK.seq ?_
        refine XK.region rfl ?_
        refine XO.q (Q.move rfl) ?_
        refine XO.q (Q.ldA [_, _, _, _] rfl rfl rfl) ?_
        refine XO.q (Q.move rfl) ?_
        refine XO.call Try.call36 rfl rfl rfl (worth_spec l vl hl K aL rs vr hr m w vw gw ok hwl) fun v22 s22 R22 => ?_
        obtain ⟨rfl, rfl⟩ := R22
        dsimp only [List.cons_append, List.nil_append]
        refine XO.q (Q.fieldAddr rfl) ?_
        refine XO.st rfl rfl rfl ?_
        refine XO.q (Q.fieldAddr rfl) ?_
        refine XO.st rfl rfl rfl ?_
        refine XO.done ?_
        refine XK.rt [gw, blk b2 [vw, .int .i64 (worthG (⟨(l.map Prod.snd), rs, m⟩ : PTask) w), vp] 46, sm] Try.func34 Try.results34 (.n) ?_
        rw [if_neg c0, if_pos (show w.length = (l.map Prod.snd).length by omega)] at le
        rw [le]
        exact ⟨vw, gw, sm, rfl, ks, ow, by have : worthG (⟨(l.map Prod.snd), rs, m⟩ : PTask) w = worthTo (⟨(l.map Prod.snd), rs, m⟩ : PTask) w w.length := rfl; dsimp only; omega, by have : worthG (⟨(l.map Prod.snd), rs, m⟩ : PTask) w = worthTo (⟨(l.map Prod.snd), rs, m⟩ : PTask) w w.length := rfl; dsimp only; omega⟩
      · have _t1 := True.intro
        exact absurd (show (w.length : Int) = l.length by omega) c1
  | succ m_ ih =>
    intro w vw gw vW gW bw s sm ow oW ks hwl hm wok hs
    have le := lookF_eq (t := (⟨(l.map Prod.snd), rs, m⟩ : PTask)) (w := w) (by dsimp only; omega) (bw, s)
    have wr := worth_rng ok (w := w) w.length (by dsimp only; omega)
    refine Spec.intro (fn := Try.f34) (N := 32) Try.func34 rfl Try.ntmps34 rfl fun B => ?_
    refine XK.seq ?_
    refine XK.seq ?_
    refine XK.drawn [0, 1, 3, 4, 5] [b1, b2] [] (.q 0 (.q 1 (.q 3 (.q 4 (.br 2 true (.q 5 .done) .stop))))) Try.mixed rfl (by kernel_rfl) ?_
    refine XT.q rfl rfl (Q.ldA [_, _, _, _] rfl rfl rfl) ?_
    refine XT.q rfl rfl (Q.move rfl) ?_
    refine XT.q rfl rfl (Q.fieldAddr rfl) ?_
    refine XT.q rfl rfl (Q.ld rfl rfl) ?_
    refine XT.call rfl rfl Try.call35 rfl rfl rfl (hope_spec l vl hl K aL rs vr hr m w vw gw ok hwl) (fun v9 s9 R9 => ?_) XT.stop
    obtain ⟨rfl, rfl⟩ := R9
    dsimp only [List.cons_append, List.nil_append]
    refine ⟨inferInstance, ?_⟩
    refine XT.q rfl rfl (Q.leq rfl rfl) ?_
    refine XT.done ?_
    refine XK.if rfl (fun c0 => ?_) (fun c0 => ?_)
    · have _t0 := True.intro
      refine XK.rt [gW, blk b2 [vW, .int .i64 s, vp] 46, sm] Try.func34 Try.results34 (.n) ?_
      rw [if_pos (by dsimp only; exact c0)] at le
      rw [le]
      exact ⟨vW, gW, sm, rfl, ks, oW, hs.1, hs.2⟩
    · have _t0 := True.intro
      refine XK.skip ?_
      refine XK.seq ?_
      refine XK.seq ?_
      refine XK.region rfl ?_
      refine XO.q (Q.move rfl) ?_
      refine XO.len rfl fun l14 => ?_
      refine XO.q (Q.fieldAddr rfl) ?_
      refine XO.q (Q.ld rfl rfl) ?_
      refine XO.len rfl fun l17 => ?_
      refine XO.q (Q.eql rfl rfl) ?_
      refine XO.done ?_
      refine XK.if rfl (fun c1 => ?_) (fun c1 => ?_)
      · have _t1 := True.intro
        refine XK.seq ?_
        refine XK.region rfl ?_
        refine XO.q (Q.move rfl) ?_
        refine XO.q (Q.ldA [_, _, _, _] rfl rfl rfl) ?_
        refine XO.q (Q.move rfl) ?_
        refine XO.call Try.call36 rfl rfl rfl (worth_spec l vl hl K aL rs vr hr m w vw gw ok hwl) fun v22 s22 R22 => ?_
        obtain ⟨rfl, rfl⟩ := R22
        dsimp only [List.cons_append, List.nil_append]
        refine XO.q (Q.fieldAddr rfl) ?_
        refine XO.st rfl rfl rfl ?_
        refine XO.q (Q.fieldAddr rfl) ?_
        refine XO.st rfl rfl rfl ?_
        refine XO.done ?_
        refine XK.rt [gw, blk b2 [vw, .int .i64 (worthG (⟨(l.map Prod.snd), rs, m⟩ : PTask) w), vp] 46, sm] Try.func34 Try.results34 (.n) ?_
        rw [if_neg c0, if_pos (show w.length = (l.map Prod.snd).length by omega)] at le
        rw [le]
        exact ⟨vw, gw, sm, rfl, ks, ow, by have : worthG (⟨(l.map Prod.snd), rs, m⟩ : PTask) w = worthTo (⟨(l.map Prod.snd), rs, m⟩ : PTask) w w.length := rfl; dsimp only; omega, by have : worthG (⟨(l.map Prod.snd), rs, m⟩ : PTask) w = worthTo (⟨(l.map Prod.snd), rs, m⟩ : PTask) w w.length := rfl; dsimp only; omega⟩
      · have _t1 := True.intro
        refine XK.skip ?_
        refine XK.seq ?_
        refine XK.region rfl ?_
        refine XO.q (Q.ld rfl rfl) ?_
        refine XO.q (Q.move rfl) ?_
        refine XO.call Try.call37 rfl rfl rfl (sons_spec l vl hl K aL rs vr hr m w vw gw ok lok (by omega) wok bt bm) fun v27 s27 R27 => ?_
        obtain ⟨bx, by_, rfl, hit⟩ := R27
        dsimp only [List.cons_append, List.nil_append]
        refine XO.done ?_
        refine XK.block ?_
        refine XK.rangeG (X := Value × PHeap × List Int × Int) (ps := [28]) (fun ⟨vW1, gW1, bw1, s1⟩ => [gW1, blk b2 [vW1, .int .i64 s1, vp] 46]) (fun i ⟨vW1, gW1, bw1, s1⟩ => (bw1, s1) = (foldTo (fun s son => lookG (⟨(l.map Prod.snd), rs, m⟩ : PTask) son s) (psons (⟨(l.map Prod.snd), rs, m⟩ : PTask) w) (bw, s) i) ∧ OArr vW1 encI 1 3 gW1 bw1 ∧ -1 ≤ s1 ∧ s1 ≤ 8000000) (fun j0 ⟨vW1, gW1, bw1, s1⟩ => False) (vW, gW, bw, s) [gW, blk b2 [vW, .int .i64 s, vp] 46] (sm) rfl (hit) rfl (⟨rfl, oW, hs.1, hs.2⟩) (ks) rfl (fun i g vs hY => by obtain ⟨v, rfl, _⟩ := hY; rfl) ?_ ?_ (fun _ _ _ hJ _ => hJ.elim)
        · rintro lq rec B' i ⟨vW1, gW1, bw1, s1⟩ sm1 g1 vs hi ⟨v28, rfl, O28⟩ ⟨e1, oW1, r1, r2⟩ ks1
          dsimp only [List.cons_append, List.nil_append]
          obtain ⟨y, ey, y1, y2⟩ := psons_get (t := (⟨(l.map Prod.snd), rs, m⟩ : PTask)) (w := w) hi
          change (psons (⟨(l.map Prod.snd), rs, m⟩ : PTask) w).getD i [] = w ++ [y] at ey
          have el : ((psons (⟨(l.map Prod.snd), rs, m⟩ : PTask) w).getD i []).length = w.length + 1 := by
            have := congrArg List.length ey
            rw [List.length_append] at this; exact this
          refine XK.region rfl ?_
          refine XO.q (Q.assign rfl) ?_
          refine XO.done ?_
          refine XK.beginRound ?_
          refine XK.block ?_
          refine XK.region rfl ?_
          refine XO.q (Q.ld rfl rfl) ?_
          refine XO.q (Q.move rfl) ?_
          refine XO.call Try.call34 rfl rfl rfl (ih ((psons (⟨(l.map Prod.snd), rs, m⟩ : PTask) w).getD i []) v28 g1 vW1 gW1 bw1 s1 sm1 O28 oW1 ks1 (by rw [el]; omega) (by rw [el]; omega) (by rw [ey]; exact wok.snoc (by dsimp only; omega) y1 y2) ⟨r1, r2⟩) fun v31 s31 R31 => ?_
          obtain ⟨vW2, gW2, sm2, rfl, ks2, oW2, r3, r4⟩ := R31
          dsimp only [List.cons_append, List.nil_append]
          refine XO.done ?_
          refine XK.inBlock ?_
          exact XK.leave (j := none) [gW2, blk b2 [vW2, .int .i64 (lookG (⟨(l.map Prod.snd), rs, m⟩ : PTask) ((psons (⟨(l.map Prod.snd), rs, m⟩ : PTask) w).getD i []) (bw1, s1)).2, vp] 46, sm2] trivial ⟨(vW2, gW2, (lookG (⟨(l.map Prod.snd), rs, m⟩ : PTask) ((psons (⟨(l.map Prod.snd), rs, m⟩ : PTask) w).getD i []) (bw1, s1)).1, (lookG (⟨(l.map Prod.snd), rs, m⟩ : PTask) ((psons (⟨(l.map Prod.snd), rs, m⟩ : PTask) w).getD i []) (bw1, s1)).2), sm2, ⟨by rw [foldTo, ← e1]; rfl, oW2, r3, r4⟩, ks2, rfl⟩
        · rintro ⟨vW1, gW1, bw1, s1⟩ sm1 ⟨e1, oW1, r1, r2⟩ ks1
          dsimp only [List.cons_append, List.nil_append]
          refine XK.inBlock ?_
          refine XK.fn [gW1, blk b2 [vW1, .int .i64 s1, vp] 46, sm1] Try.func34 Try.results34 (.n) ?_
          rw [if_neg (by dsimp only; exact c0), if_neg (show ¬ w.length = (l.map Prod.snd).length by omega), ← e1] at le
          rw [le]
          exact ⟨vW1, gW1, sm1, rfl, ks1, oW1, r1, r2⟩
end Go.X

set_option linter.unusedSimpArgs false
set_option linter.unusedVariables false
set_option maxRecDepth 20000
namespace Go.X
open Go.Proofs
set_option maxHeartbeats 4000000 in
theorem prove_spec (l : List (Value × PJob)) (vl : Value) (hl K : PHeap) [jl : Arr vl encPJ 6 hl l] (aL : JobsK l K) (rs : List PRack) (vr : Value) (hr : PHeap) [jr : Arr vr encRack 5 hr rs] (m : PRat) (ok : TaskOk (⟨(l.map Prod.snd), rs, m⟩ : PTask)) (lok : ListOk (l.map Prod.snd)) (b1 b2 b3 b4 bt bm : Nat) (vW : Value) [oW : One vW] (bst : Int) :
    ∀ (m_ : Nat) (w : List Int) (vw : Value) (gw : PHeap) (vP : Value) (gP : PHeap) (p : List Bool) (sm : PHeap), OArr vw encI 1 3 gw w → OArr vP encB 1 4 gP p → KnownS (⟨(l.map Prod.snd), rs, m⟩ : PTask) bm sm → w.length ≤ l.length → l.length - w.length ≤ m_ → WOk (⟨(l.map Prod.snd), rs, m⟩ : PTask) w → belowG (⟨(l.map Prod.snd), rs, m⟩ : PTask) bst w → p.length + 2 * 6 ^ m_ ≤ 10000000 →
    Spec Try.prog 38 #[vw, ptr b1 0, ptr b2 0, ptr b3 0, ptr b4 0] [gw, gP, blk b2 [vW, .int .i64 bst, vP] 46, sm] [blk b1 [vl, vr, .int .i64 m.n, .int .i64 m.d] 28, blk b3 [ptr bt 0] 87, blk b4 [(.func (.func 38) #[] #[ptr b1 0, ptr b2 0, ptr b3 0, ptr b4 0])] 91, blk bt [vl, vr, .int .i64 m.n, .int .i64 m.d, .map (some bm)] 90, hl, K, hr]
      (fun _ hs => ∃ vP2 gP2 sm2, hs = [gP2, blk b2 [vW, .int .i64 bst, vP2] 46, sm2] ∧ KnownS (⟨(l.map Prod.snd), rs, m⟩ : PTask) bm sm2 ∧ OArr vP2 encB 1 4 gP2 (proveG (⟨(l.map Prod.snd), rs, m⟩ : PTask) bst w p)) := by
  intro m_
  have ll := jl.le
  have lm : (l.map Prod.snd).length = l.length := List.length_map ..
  have few := ok.few
  have few2 : l.length ≤ 8 := by rw [← lm]; exact few
  have rk5 := ok.rk5
  induction m_ with
  | zero =>
    intro w vw gw vP gP p sm ow oP ks hwl hm wok bel room
    have le := prove_case (t := (⟨(l.map Prod.snd), rs, m⟩ : PTask)) (w := w) (by dsimp only; omega) bel p
    have hcut := cut_leaf bel (show w.length = (l.map Prod.snd).length by omega)
    refine Spec.intro (fn := Try.f38) (N := 28) Try.func38 rfl Try.ntmps38 rfl fun B => ?_
    refine XK.seq ?_
    refine XK.drawn [0, 1, 3, 4, 5, 6] [b1, b2] [] (.q 0 (.q 1 (.q 3 (.q 4 (.br 2 true (.q 5 (.q 6 .done)) .stop))))) Try.mixed rfl (by kernel_rfl) ?_
    refine XT.q rfl rfl (Q.ldA [_, _, _, _] rfl rfl rfl) ?_
    refine XT.q rfl rfl (Q.move rfl) ?_
    refine XT.q rfl rfl (Q.fieldAddr rfl) ?_
    refine XT.q rfl rfl (Q.ld rfl rfl) ?_
    refine XT.call rfl rfl Try.call35 rfl rfl rfl (hope_spec l vl hl K aL rs vr hr m w vw gw ok hwl) (fun v10 s10 R10 => ?_) XT.stop
    obtain ⟨rfl, rfl⟩ := R10
    dsimp only [List.cons_append, List.nil_append]
    refine ⟨inferInstance, ?_⟩
    refine XT.q rfl rfl (Q.leq rfl rfl) ?_
    refine XT.q rfl rfl (Q.assign rfl) ?_
    refine XT.done ?_
    refine XK.seq ?_
    refine XK.region rfl ?_
    refine XO.q (Q.fieldAddr rfl) ?_
    refine XO.q (Q.ld rfl rfl) ?_
    refine XO.q (Q.move rfl) ?_
    refine XO.lit [_] [_] [decide (hopeG (⟨(l.map Prod.snd), rs, m⟩ : PTask) w ≤ bst)] encB (by rfl) (by rfl) rfl (by rfl) (by exact .c 0 1 rfl rfl rfl (.n _)) (fun _ => rfl) (by rfl) rfl (by infer_instance) rfl fun v17 h17 O17 => ?_
    refine XO.append rfl rfl rfl rfl (by simp only [List.length_cons, List.length_nil]; omega) fun v18 h18 O18 => ?_
    refine XO.q (Q.fieldAddr rfl) ?_
    refine XO.st rfl rfl rfl ?_
    refine XO.done ?_
    refine XK.seq ?_
    refine XK.seq ?_
    refine XK.region rfl ?_
    refine XO.q (Q.move rfl) ?_
    refine XO.done ?_
    refine XK.if rfl (fun c0 => ?_) (fun c0 => ?_)
    · have _t0 := True.intro
      refine XK.rt [h18, blk b2 [vW, .int .i64 bst, v18] 46, sm] Try.func38 Try.results38 (.n) ?_
      rw [if_pos c0] at le
      rw [le]
      rw [decide_eq_true c0] at O18
      exact ⟨v18, h18, sm, rfl, ks, O18⟩
    · have _t0 := True.intro
      exact absurd hcut c0
  | succ m_ ih =>
    intro w vw gw vP gP p sm ow oP ks hwl hm wok bel room
    have h6 : 1 ≤ 6 ^ (m_ + 1) := Nat.one_le_pow _ _ (by decide)
    have le := prove_case (t := (⟨(l.map Prod.snd), rs, m⟩ : PTask)) (w := w) (by dsimp only; omega) bel p
    refine Spec.intro (fn := Try.f38) (N := 28) Try.func38 rfl Try.ntmps38 rfl fun B => ?_
    refine XK.seq ?_
    refine XK.drawn [0, 1, 3, 4, 5, 6] [b1, b2] [] (.q 0 (.q 1 (.q 3 (.q 4 (.br 2 true (.q 5 (.q 6 .done)) .stop))))) Try.mixed rfl (by kernel_rfl) ?_
    refine XT.q rfl rfl (Q.ldA [_, _, _, _] rfl rfl rfl) ?_
    refine XT.q rfl rfl (Q.move rfl) ?_
    refine XT.q rfl rfl (Q.fieldAddr rfl) ?_
    refine XT.q rfl rfl (Q.ld rfl rfl) ?_
    refine XT.call rfl rfl Try.call35 rfl rfl rfl (hope_spec l vl hl K aL rs vr hr m w vw gw ok hwl) (fun v10 s10 R10 => ?_) XT.stop
    obtain ⟨rfl, rfl⟩ := R10
    dsimp only [List.cons_append, List.nil_append]
    refine ⟨inferInstance, ?_⟩
    refine XT.q rfl rfl (Q.leq rfl rfl) ?_
    refine XT.q rfl rfl (Q.assign rfl) ?_
    refine XT.done ?_
    refine XK.seq ?_
    refine XK.region rfl ?_
    refine XO.q (Q.fieldAddr rfl) ?_
    refine XO.q (Q.ld rfl rfl) ?_
    refine XO.q (Q.move rfl) ?_
    refine XO.lit [_] [_] [decide (hopeG (⟨(l.map Prod.snd), rs, m⟩ : PTask) w ≤ bst)] encB (by rfl) (by rfl) rfl (by rfl) (by exact .c 0 1 rfl rfl rfl (.n _)) (fun _ => rfl) (by rfl) rfl (by infer_instance) rfl fun v17 h17 O17 => ?_
    refine XO.append rfl rfl rfl rfl (by simp only [List.length_cons, List.length_nil]; omega) fun v18 h18 O18 => ?_
    refine XO.q (Q.fieldAddr rfl) ?_
    refine XO.st rfl rfl rfl ?_
    refine XO.done ?_
    refine XK.seq ?_
    refine XK.seq ?_
    refine XK.region rfl ?_
    refine XO.q (Q.move rfl) ?_
    refine XO.done ?_
    refine XK.if rfl (fun c0 => ?_) (fun c0 => ?_)
    · have _t0 := True.intro
      refine XK.rt [h18, blk b2 [vW, .int .i64 bst, v18] 46, sm] Try.func38 Try.results38 (.n) ?_
      rw [if_pos c0] at le
      rw [le]
      rw [decide_eq_true c0] at O18
      exact ⟨v18, h18, sm, rfl, ks, O18⟩
    · have _t0 := True.intro
      have hlt : w.length < l.length := by
        rcases Nat.lt_or_ge w.length l.length with h | h
        · exact h
        · exact absurd (cut_leaf bel (show w.length = (l.map Prod.snd).length by omega)) c0
      rw [decide_eq_false c0] at O18
      refine XK.skip ?_
      refine XK.seq ?_
      refine XK.region rfl ?_
      refine XO.q (Q.ld rfl rfl) ?_
      refine XO.q (Q.move rfl) ?_
      refine XO.call Try.call37 rfl rfl rfl (sons_spec l vl hl K aL rs vr hr m w vw gw ok lok hlt wok bt bm) fun v23 s23 R23 => ?_
      obtain ⟨bx, by_, rfl, hit⟩ := R23
      dsimp only [List.cons_append, List.nil_append]
      refine XO.done ?_
      refine XK.block ?_
      refine XK.rangeG (X := Value × PHeap × List Bool) (ps := [24]) (fun ⟨vP1, gP1, p1⟩ => [gP1, blk b2 [vW, .int .i64 bst, vP1] 46]) (fun i ⟨vP1, gP1, p1⟩ => p1 = (foldTo (fun p son => proveG (⟨(l.map Prod.snd), rs, m⟩ : PTask) bst son p) (psons (⟨(l.map Prod.snd), rs, m⟩ : PTask) w) (p ++ [false]) i) ∧ OArr vP1 encB 1 4 gP1 p1) (fun j0 ⟨vP1, gP1, p1⟩ => False) (v18, h18, p ++ [false]) [h18, blk b2 [vW, .int .i64 bst, v18] 46] (sm) rfl (hit) rfl (⟨rfl, O18⟩) (ks) rfl (fun i g vs hY => by obtain ⟨v, rfl, _⟩ := hY; rfl) ?_ ?_ (fun _ _ _ hJ _ => hJ.elim)
      · rintro lq rec B' i ⟨vP1, gP1, p1⟩ sm1 g1 vs hi ⟨v24, rfl, O24⟩ ⟨e1, oP1⟩ ks1
        dsimp only [List.cons_append, List.nil_append]
        obtain ⟨y, ey, y1, y2⟩ := psons_get (t := (⟨(l.map Prod.snd), rs, m⟩ : PTask)) (w := w) hi
        change (psons (⟨(l.map Prod.snd), rs, m⟩ : PTask) w).getD i [] = w ++ [y] at ey
        have el : ((psons (⟨(l.map Prod.snd), rs, m⟩ : PTask) w).getD i []).length = w.length + 1 := by
          have := congrArg List.length ey
          rw [List.length_append] at this; exact this
        refine XK.region rfl ?_
        refine XO.q (Q.assign rfl) ?_
        refine XO.done ?_
        refine XK.beginRound ?_
        refine XK.block ?_
        refine XK.region rfl ?_
        refine XO.q (Q.ld rfl rfl) ?_
        refine XO.q (Q.move rfl) ?_
        refine XO.call Try.call38 rfl rfl rfl (ih ((psons (⟨(l.map Prod.snd), rs, m⟩ : PTask) w).getD i []) v24 g1 vP1 gP1 p1 sm1 O24 oP1 ks1 (by rw [el]; omega) (by rw [el]; omega) (by rw [ey]; exact wok.snoc (by dsimp only; omega) y1 y2) (below_son (by dsimp only; omega) bel hi) (by have := prove_room ok (m := m_) (w := w) (by dsimp only; omega) (by dsimp only; omega) bel p hi; rw [← e1] at this; omega)) fun v27 s27 R27 => ?_
        obtain ⟨vP2, gP2, sm2, rfl, ks2, oP2⟩ := R27
        dsimp only [List.cons_append, List.nil_append]
        refine XO.done ?_
        refine XK.inBlock ?_
        exact XK.leave (j := none) [gP2, blk b2 [vW, .int .i64 bst, vP2] 46, sm2] trivial ⟨(vP2, gP2, (proveG (⟨(l.map Prod.snd), rs, m⟩ : PTask) bst ((psons (⟨(l.map Prod.snd), rs, m⟩ : PTask) w).getD i []) p1)), sm2, ⟨by rw [foldTo, ← e1]; rfl, oP2⟩, ks2, rfl⟩
      · rintro ⟨vP1, gP1, p1⟩ sm1 ⟨e1, oP1⟩ ks1
        dsimp only [List.cons_append, List.nil_append]
        refine XK.inBlock ?_
        refine XK.fn [gP1, blk b2 [vW, .int .i64 bst, vP1] 46, sm1] Try.func38 Try.results38 (.n) ?_
        rw [if_neg c0, ← e1] at le
        rw [le]
        exact ⟨vP1, gP1, sm1, rfl, ks1, oP1⟩
set_option maxHeartbeats 4000000 in
theorem Best_spec (l : List (Value × PJob)) (vl : Value) (hl K : PHeap) [jl : Arr vl encPJ 6 hl l] (aL : JobsK l K) (rs : List PRack) (vr : Value) (hr : PHeap) [jr : Arr vr encRack 5 hr rs] (m : PRat) : Spec Try.prog 12 #[.agg #[vl, vr, .int .i64 m.n, .int .i64 m.d]] [] [hl, K, hr] (fun v hs => ∃ vW vP kW kP bw s p, v = .tuple #[.agg #[vW, .int .i64 s, vP], .int .i64 (readyG (⟨(l.map Prod.snd), rs, m⟩ : PTask))] ∧ hs = [kW, kP] ∧ OArr vW encI 1 3 kW bw ∧ OArr vP encB 1 4 kP p ∧ (readyG (⟨(l.map Prod.snd), rs, m⟩ : PTask) = 0 → (bw, s, p) = (bestP (⟨(l.map Prod.snd), rs, m⟩ : PTask))) ∧ (readyG (⟨(l.map Prod.snd), rs, m⟩ : PTask) ≠ 0 → (bw, s, p) = ([], 0, []))) := by
  have nI : OArr (.slice none 0 0) encI 1 3 emp ([] : List Int) := OArr.nil (fun _ => rfl)
  have nB : OArr (.slice none 0 0) encB 1 4 emp ([] : List Bool) := OArr.nil (fun _ => rfl)
  have lm : (l.map Prod.snd).length = l.length := List.length_map ..
  refine Spec.intro (fn := Try.f12) (N := 27) Try.func12 rfl Try.ntmps12 rfl fun B => ?_
  refine XK.seq ?_
  refine XK.region rfl ?_
  refine XO.box rfl fun b1 => ?_
  refine XO.alloc fun b2 => ?_
  refine XO.q (Q.assign rfl) ?_
  refine XO.done ?_
  refine XK.seq ?_
  refine XK.seq ?_
  refine XK.region rfl ?_
  refine XO.q (Q.ldA [_, _, _, _] rfl rfl rfl) ?_
  refine XO.call Try.call33 rfl rfl rfl (ready_spec l vl hl K aL rs vr hr m) fun v10 s10 R10 => ?_
  obtain ⟨rfl, rfl⟩ := R10
  dsimp only [List.cons_append, List.nil_append]
  refine XO.q (Q.assign rfl) ?_
  refine XO.done ?_
  refine XK.seq ?_
  refine XK.region rfl ?_
  refine XO.q (Q.move rfl) ?_
  refine XO.q (Q.neq rfl rfl) ?_
  refine XO.done ?_
  refine XK.if rfl (fun c0 => ?_) (fun c0 => ?_)
  · have _t0 := True.intro
    refine XK.seq ?_
    refine XK.region rfl ?_
    refine XO.q (Q.build [_, _, _] (.n _)) ?_
    refine XO.q (Q.move rfl) ?_
    refine XO.st rfl rfl rfl ?_
    refine XO.q (Q.assign rfl) ?_
    refine XO.done ?_
    refine XK.rt [emp, emp] Try.func12 Try.results12 (.cell [_, _, _] rfl rfl rfl (.t rfl .n)) ?_
    exact ⟨.slice none 0 0, .slice none 0 0, emp, emp, [], 0, [], rfl, rfl, nI, nB, fun h => absurd h c0, fun _ => rfl⟩
  · have _t0 := True.intro
    have rk := ready_ok (Decidable.of_not_not c0)
    refine XK.skip ?_
    refine XK.seq ?_
    refine XK.region rfl ?_
    refine XO.q (Q.ldA [_, _, _, _] rfl rfl rfl) ?_
    refine XO.map encK2 fun b16 => ?_
    refine XO.q (Q.build [_, _, _, _, _] (.c 0 4 rfl rfl rfl (.c 4 1 rfl rfl rfl (.n _)))) ?_
    refine XO.box rfl fun b18 => ?_
    refine XO.alloc fun b5 => ?_
    refine XO.st rfl rfl rfl ?_
    refine XO.done ?_
    refine XK.seq ?_
    refine XK.region rfl ?_
    refine XO.q (Q.build [_, _, _] (.c 1 1 rfl rfl rfl (.n _))) ?_
    refine XO.alloc fun b6 => ?_
    refine XO.st rfl rfl rfl ?_
    refine XO.done ?_
    refine XK.seq ?_
    refine XK.region rfl ?_
    refine XO.alloc fun b7 => ?_
    refine XO.done ?_
    refine XK.seq ?_
    refine XK.region rfl ?_
    refine XO.q (Q.func (fun _ he => rfl) (fun _ he => evs_rel he rfl)) ?_
    refine XO.st rfl rfl rfl ?_
    refine XO.done ?_
    refine XK.seq ?_
    refine XK.region rfl ?_
    refine XO.q (Q.ld rfl rfl) ?_
    refine XO.drop (o' := [emp, emp, blk b7 [.func (.func 34) #[] #[ptr b1 0, ptr b6 0, ptr b5 0, ptr b7 0]] 91, blk b6 [.slice none 0 0, .int .i64 (-1), .slice none 0 0] 46, mapH b16 encK2 [], blk b5 [ptr b18 0] 87, blk b18 [vl, vr, .int .i64 m.n, .int .i64 m.d, .map (some b16)] 90, blk b2 [.slice none 0 0, .int .i64 0, .slice none 0 0] 46, blk b1 [vl, vr, .int .i64 m.n, .int .i64 m.d] 28]) ?_
    refine XO.call Try.call34 rfl rfl rfl (look_spec l vl hl K aL rs vr hr m rk.1 rk.2 b1 b6 b5 b7 b18 b16 (.slice none 0 0) l.length [] (.slice none 0 0) emp (.slice none 0 0) emp [] (-1) (mapH b16 encK2 []) nI nI ⟨[], rfl, KnownP.nil _⟩ (Nat.zero_le _) (by simp) (wok_nil _) ⟨by omega, by omega⟩) fun v22 s22 R22 => ?_
    obtain ⟨vW, gW, sm, rfl, ks, oW, r1, r2⟩ := R22
    dsimp only [List.cons_append, List.nil_append]
    refine XO.done ?_
    refine XK.seq ?_
    refine XK.region rfl ?_
    refine XO.alloc fun b8 => ?_
    refine XO.done ?_
    refine XK.seq ?_
    refine XK.region rfl ?_
    refine XO.q (Q.func (fun _ he => rfl) (fun _ he => evs_rel he rfl)) ?_
    refine XO.st rfl rfl rfl ?_
    refine XO.done ?_
    refine XK.seq ?_
    refine XK.region rfl ?_
    refine XO.q (Q.ld rfl rfl) ?_
    refine XO.drop (o' := [emp, emp, blk b8 [.func (.func 38) #[] #[ptr b1 0, ptr b6 0, ptr b5 0, ptr b8 0]] 91, blk b6 [vW, .int .i64 (lookG (⟨(l.map Prod.snd), rs, m⟩ : PTask) [] ([], -1)).2, .slice none 0 0] 46, sm, gW, blk b5 [ptr b18 0] 87, blk b18 [vl, vr, .int .i64 m.n, .int .i64 m.d, .map (some b16)] 90, blk b2 [.slice none 0 0, .int .i64 0, .slice none 0 0] 46, blk b1 [vl, vr, .int .i64 m.n, .int .i64 m.d] 28]) ?_
    refine XO.call Try.call38 rfl rfl rfl (prove_spec l vl hl K aL rs vr hr m rk.1 rk.2 b1 b6 b5 b8 b18 b16 vW (lookG (⟨(l.map Prod.snd), rs, m⟩ : PTask) [] ([], -1)).2 l.length [] (.slice none 0 0) emp (.slice none 0 0) emp [] sm nI nB ks (Nat.zero_le _) (by simp) (wok_nil _) (look_below rk.1 _ [] ([], -1) (Nat.zero_le _) (Nat.le_refl _)).2 (by have h8 : 6 ^ l.length ≤ 6 ^ 8 := Nat.pow_le_pow_right (by decide) (by have := rk.1.few; dsimp only at this; omega); have : (6 : Nat) ^ 8 = 1679616 := rfl; simp only [List.length_nil]; omega)) fun v25 s25 R25 => ?_
    obtain ⟨vP, gP, sm2, rfl, ks2, oP⟩ := R25
    dsimp only [List.cons_append, List.nil_append]
    refine XO.done ?_
    refine XK.seq ?_
    refine XK.region rfl ?_
    refine XO.q (Q.ldA [_, _, _] rfl rfl rfl) ?_
    refine XO.st rfl rfl rfl ?_
    refine XO.q (Q.assign rfl) ?_
    refine XO.done ?_
    refine XK.rt [gW, gP] Try.func12 Try.results12 (.cell [_, _, _] rfl rfl rfl (.t rfl .n)) ?_
    exact ⟨vW, vP, gW, gP, (lookG (⟨(l.map Prod.snd), rs, m⟩ : PTask) [] ([], -1)).1, (lookG (⟨(l.map Prod.snd), rs, m⟩ : PTask) [] ([], -1)).2, proveG (⟨(l.map Prod.snd), rs, m⟩ : PTask) (lookG (⟨(l.map Prod.snd), rs, m⟩ : PTask) [] ([], -1)).2 [] [], by rw [Decidable.of_not_not c0], rfl, oW, oP, fun _ => rfl, fun h => absurd (Decidable.of_not_not c0) h⟩
end Go.X

set_option linter.unusedSimpArgs false
set_option linter.unusedVariables false
set_option maxRecDepth 20000
namespace Go.X
open Go.Proofs
theorem holds_stay {t : PTask} {Pf : List Bool} {W : Int} {w : List Int} {a n : Nat} (h : (holdsTo t Pf W w a n).1 = false) : ∀ m, n ≤ m → holdsTo t Pf W w a m = holdsTo t Pf W w a n
  | 0, hm => by rw [show n = 0 by omega]
  | m + 1, hm => by
    by_cases he : n = m + 1
    · rw [he]
    · have ih := holds_stay h m (by omega)
      have e : holdsTo t Pf W w a (m + 1) = (if (holdsTo t Pf W w a m).1 = true then holdsG t Pf W ((psons t w).getD m default) (holdsTo t Pf W w a m).2 else holdsTo t Pf W w a m) := rfl
      rw [e, ih, if_neg (by rw [h]; decide)]
theorem holds_next {t : PTask} {Pf : List Bool} {W : Int} {w : List Int} {a a1 i : Nat} (h : (true, a1) = holdsTo t Pf W w a i) : holdsTo t Pf W w a (i + 1) = holdsG t Pf W ((psons t w).getD i []) a1 := by
  have e : holdsTo t Pf W w a (i + 1) = (if (holdsTo t Pf W w a i).1 = true then holdsG t Pf W ((psons t w).getD i default) (holdsTo t Pf W w a i).2 else holdsTo t Pf W w a i) := rfl
  rw [e, ← h]; rfl
set_option maxHeartbeats 4000000 in
theorem holds_spec (l : List (Value × PJob)) (vl : Value) (hl K : PHeap) [jl : Arr vl encPJ 6 hl l] (aL : JobsK l K) (rs : List PRack) (vr : Value) (hr : PHeap) [jr : Arr vr encRack 5 hr rs] (m : PRat) (ok : TaskOk (⟨(l.map Prod.snd), rs, m⟩ : PTask)) (lok : ListOk (l.map Prod.snd)) (b1 b2 b3 b4 b5 bt bm : Nat) (vQ : Value) [oQ : One vQ] (W : Int) (Pf : List Bool) (vP : Value) (hP : PHeap) [jP : Arr vP encB 1 hP Pf] :
    ∀ (m_ : Nat) (w : List Int) (vw : Value) (gw : PHeap) (a : Nat) (sm : PHeap), OArr vw encI 1 3 gw w → KnownS (⟨(l.map Prod.snd), rs, m⟩ : PTask) bm sm → w.length ≤ l.length → l.length - w.length ≤ m_ → WOk (⟨(l.map Prod.snd), rs, m⟩ : PTask) w → a ≤ Pf.length →
    Spec Try.prog 41 #[vw, ptr b1 0, ptr b2 0, ptr b3 0, ptr b4 0, ptr b5 0] [gw, blk b1 [.int .i64 ((a : Nat) : Int)] 3, sm] [blk b2 [vQ, .int .i64 W, vP] 46, blk b3 [vl, vr, .int .i64 m.n, .int .i64 m.d] 28, blk b4 [ptr bt 0] 87, blk b5 [(.func (.func 41) #[] #[ptr b1 0, ptr b2 0, ptr b3 0, ptr b4 0, ptr b5 0])] 97, blk bt [vl, vr, .int .i64 m.n, .int .i64 m.d, .map (some bm)] 90, hl, K, hr, hP]
      (fun v hs => ∃ sm2, v = .bool (holdsG (⟨(l.map Prod.snd), rs, m⟩ : PTask) Pf W w a).1 ∧ hs = [blk b1 [.int .i64 (((holdsG (⟨(l.map Prod.snd), rs, m⟩ : PTask) Pf W w a).2 : Nat) : Int)] 3, sm2] ∧ KnownS (⟨(l.map Prod.snd), rs, m⟩ : PTask) bm sm2) := by
  intro m_
  have ll := jl.le
  have lp := jP.le
  have lm : (l.map Prod.snd).length = l.length := List.length_map ..
  have few := ok.few
  have few2 : l.length ≤ 8 := by rw [← lm]; exact few
  have rk5 := ok.rk5
  induction m_ with
  | zero =>
    intro w vw gw a sm ow ks hwl hm wok ha
    have le := holds_eq (t := (⟨(l.map Prod.snd), rs, m⟩ : PTask)) (P := Pf) (W := W) (w := w) (by dsimp only; omega) a
    refine Spec.intro (fn := Try.f41) (N := 51) Try.func41 rfl Try.ntmps41 rfl fun B => ?_
    refine XK.seq ?_
    refine XK.region rfl ?_
    refine XO.alloc fun b7 => ?_
    refine XO.done ?_
    refine XK.seq ?_
    refine XK.seq ?_
    refine XK.region rfl ?_
    refine XO.q (Q.ld rfl rfl) ?_
    refine XO.q (Q.fieldAddr rfl) ?_
    refine XO.q (Q.ld rfl rfl) ?_
    refine XO.len rfl fun l13 => ?_
    refine XO.q (Q.eql rfl rfl) ?_
    refine XO.done ?_
    refine XK.if rfl (fun c0 => ?_) (fun c0 => ?_)
    · have _t0 := True.intro
      refine XK.seq ?_
      refine XK.region rfl ?_
      refine XO.st rfl rfl rfl ?_
      refine XO.done ?_
      refine XK.rt [blk b1 [.int .i64 ((a : Nat) : Int)] 3, sm] Try.func41 Try.results41 (.cell1 rfl rfl (.n)) ?_
      rw [if_pos (show a = Pf.length by omega)] at le
      rw [le]
      exact ⟨sm, rfl, rfl, ks⟩
    · have _t0 := True.intro
      refine XK.skip ?_
      refine XK.seq ?_
      refine XK.region rfl ?_
      refine XO.q (Q.fieldAddr rfl) ?_
      refine XO.q (Q.ld rfl rfl) ?_
      refine XO.q (Q.ld rfl rfl) ?_
      refine XO.ix rfl rfl (by omega) (by omega) fun i18 => ?_
      refine XO.q (Q.ldE rfl (by first | assumption | omega) rfl) ?_
      refine XO.q (Q.assign rfl) ?_
      refine XO.done ?_
      refine XK.seq ?_
      refine XK.region rfl ?_
      refine XO.q (Q.ld rfl rfl) ?_
      refine XO.q (Q.add rfl rfl ⟨by omega, by omega⟩) ?_
      rw [show ((a : Nat) : Int) + 1 = ((a + 1 : Nat) : Int) from rfl]
      refine XO.st rfl rfl rfl ?_
      refine XO.done ?_
      refine XK.seq ?_
      refine XK.block ?_
      refine XK.seq ?_
      refine XK.region rfl ?_
      refine XO.q (Q.move rfl) ?_
      refine XO.q (Q.assign rfl) ?_
      refine XO.done ?_
      refine XK.if rfl (fun c1 => ?_) (fun c1 => ?_)
      · have _t1 := True.intro
        refine XK.seq ?_
        refine XK.drawn [0, 1, 3, 4, 5] [b3, b2] [] (.q 0 (.q 1 (.q 3 (.q 4 (.br 2 true (.q 5 (.br 6 false .done .stop)) .stop))))) Try.mixed rfl (by kernel_rfl) ?_
        refine XT.q rfl rfl (Q.ldA [_, _, _, _] rfl rfl rfl) ?_
        refine XT.q rfl rfl (Q.move rfl) ?_
        refine XT.q rfl rfl (Q.fieldAddr rfl) ?_
        refine XT.q rfl rfl (Q.ld rfl rfl) ?_
        refine XT.call rfl rfl Try.call35 rfl rfl rfl (hope_spec l vl hl K aL rs vr hr m w vw gw ok hwl) (fun v26 s26 R26 => ?_) XT.stop
        obtain ⟨rfl, rfl⟩ := R26
        dsimp only [List.cons_append, List.nil_append]
        refine ⟨inferInstance, ?_⟩
        refine XT.q rfl rfl (Q.leq rfl rfl) ?_
        refine XT.st rfl rfl rfl rfl rfl ⟨inferInstance, ?_⟩ XT.stop
        refine XT.done ?_
        refine XK.rt [blk b1 [.int .i64 ((a + 1 : Nat) : Int)] 3, sm] Try.func41 Try.results41 (.cell1 rfl rfl (.n)) ?_
        rw [if_neg (show ¬ a = Pf.length by omega), if_pos (show Pf.getD a false = true from c1)] at le
        rw [le]
        exact ⟨sm, rfl, rfl, ks⟩
      · have _t1 := True.intro
        refine XK.seq ?_
        refine XK.region rfl ?_
        refine XO.q (Q.move rfl) ?_
        refine XO.len rfl fun l32 => ?_
        refine XO.q (Q.fieldAddr rfl) ?_
        refine XO.q (Q.ld rfl rfl) ?_
        refine XO.len rfl fun l35 => ?_
        refine XO.q (Q.eql rfl rfl) ?_
        refine XO.q (Q.assign rfl) ?_
        refine XO.done ?_
        refine XK.if rfl (fun c2 => ?_) (fun c2 => ?_)
        · have _t2 := True.intro
          refine XK.seq ?_
          refine XK.drawn [0, 1, 3, 4, 5] [b3, b2] [] (.q 0 (.q 1 (.q 3 (.q 4 (.br 2 true (.q 5 (.br 6 false .done .stop)) .stop))))) Try.mixed rfl (by kernel_rfl) ?_
          refine XT.q rfl rfl (Q.ldA [_, _, _, _] rfl rfl rfl) ?_
          refine XT.q rfl rfl (Q.move rfl) ?_
          refine XT.q rfl rfl (Q.fieldAddr rfl) ?_
          refine XT.q rfl rfl (Q.ld rfl rfl) ?_
          refine XT.call rfl rfl Try.call36 rfl rfl rfl (worth_spec l vl hl K aL rs vr hr m w vw gw ok hwl) (fun v39 s39 R39 => ?_) XT.stop
          obtain ⟨rfl, rfl⟩ := R39
          dsimp only [List.cons_append, List.nil_append]
          refine ⟨inferInstance, ?_⟩
          refine XT.q rfl rfl (Q.leq rfl rfl) ?_
          refine XT.st rfl rfl rfl rfl rfl ⟨inferInstance, ?_⟩ XT.stop
          refine XT.done ?_
          refine XK.rt [blk b1 [.int .i64 ((a + 1 : Nat) : Int)] 3, sm] Try.func41 Try.results41 (.cell1 rfl rfl (.n)) ?_
          rw [if_neg (show ¬ a = Pf.length by omega), if_neg (show ¬ Pf.getD a false = true from c1), if_pos (show w.length = (l.map Prod.snd).length by omega)] at le
          rw [le]
          exact ⟨sm, rfl, rfl, ks⟩
        · have _t2 := True.intro
          exact absurd (show (w.length : Int) = l.length by omega) c2
  | succ m_ ih =>
    intro w vw gw a sm ow ks hwl hm wok ha
    have le := holds_eq (t := (⟨(l.map Prod.snd), rs, m⟩ : PTask)) (P := Pf) (W := W) (w := w) (by dsimp only; omega) a
    refine Spec.intro (fn := Try.f41) (N := 51) Try.func41 rfl Try.ntmps41 rfl fun B => ?_
    refine XK.seq ?_
    refine XK.region rfl ?_
    refine XO.alloc fun b7 => ?_
    refine XO.done ?_
    refine XK.seq ?_
    refine XK.seq ?_
    refine XK.region rfl ?_
    refine XO.q (Q.ld rfl rfl) ?_
    refine XO.q (Q.fieldAddr rfl) ?_
    refine XO.q (Q.ld rfl rfl) ?_
    refine XO.len rfl fun l13 => ?_
    refine XO.q (Q.eql rfl rfl) ?_
    refine XO.done ?_
    refine XK.if rfl (fun c0 => ?_) (fun c0 => ?_)
    · have _t0 := True.intro
      refine XK.seq ?_
      refine XK.region rfl ?_
      refine XO.st rfl rfl rfl ?_
      refine XO.done ?_
      refine XK.rt [blk b1 [.int .i64 ((a : Nat) : Int)] 3, sm] Try.func41 Try.results41 (.cell1 rfl rfl (.n)) ?_
      rw [if_pos (show a = Pf.length by omega)] at le
      rw [le]
      exact ⟨sm, rfl, rfl, ks⟩
    · have _t0 := True.intro
      refine XK.skip ?_
      refine XK.seq ?_
      refine XK.region rfl ?_
      refine XO.q (Q.fieldAddr rfl) ?_
      refine XO.q (Q.ld rfl rfl) ?_
      refine XO.q (Q.ld rfl rfl) ?_
      refine XO.ix rfl rfl (by omega) (by omega) fun i18 => ?_
      refine XO.q (Q.ldE rfl (by first | assumption | omega) rfl) ?_
      refine XO.q (Q.assign rfl) ?_
      refine XO.done ?_
      refine XK.seq ?_
      refine XK.region rfl ?_
      refine XO.q (Q.ld rfl rfl) ?_
      refine XO.q (Q.add rfl rfl ⟨by omega, by omega⟩) ?_
      rw [show ((a : Nat) : Int) + 1 = ((a + 1 : Nat) : Int) from rfl]
      refine XO.st rfl rfl rfl ?_
      refine XO.done ?_
      refine XK.seq ?_
      refine XK.block ?_
      refine XK.seq ?_
      refine XK.region rfl ?_
      refine XO.q (Q.move rfl) ?_
      refine XO.q (Q.assign rfl) ?_
      refine XO.done ?_
      refine XK.if rfl (fun c1 => ?_) (fun c1 => ?_)
      · have _t1 := True.intro
        refine XK.seq ?_
        refine XK.drawn [0, 1, 3, 4, 5] [b3, b2] [] (.q 0 (.q 1 (.q 3 (.q 4 (.br 2 true (.q 5 (.br 6 false .done .stop)) .stop))))) Try.mixed rfl (by kernel_rfl) ?_
        refine XT.q rfl rfl (Q.ldA [_, _, _, _] rfl rfl rfl) ?_
        refine XT.q rfl rfl (Q.move rfl) ?_
        refine XT.q rfl rfl (Q.fieldAddr rfl) ?_
        refine XT.q rfl rfl (Q.ld rfl rfl) ?_
        refine XT.call rfl rfl Try.call35 rfl rfl rfl (hope_spec l vl hl K aL rs vr hr m w vw gw ok hwl) (fun v26 s26 R26 => ?_) XT.stop
        obtain ⟨rfl, rfl⟩ := R26
        dsimp only [List.cons_append, List.nil_append]
        refine ⟨inferInstance, ?_⟩
        refine XT.q rfl rfl (Q.leq rfl rfl) ?_
        refine XT.st rfl rfl rfl rfl rfl ⟨inferInstance, ?_⟩ XT.stop
        refine XT.done ?_
        refine XK.rt [blk b1 [.int .i64 ((a + 1 : Nat) : Int)] 3, sm] Try.func41 Try.results41 (.cell1 rfl rfl (.n)) ?_
        rw [if_neg (show ¬ a = Pf.length by omega), if_pos (show Pf.getD a false = true from c1)] at le
        rw [le]
        exact ⟨sm, rfl, rfl, ks⟩
      · have _t1 := True.intro
        refine XK.seq ?_
        refine XK.region rfl ?_
        refine XO.q (Q.move rfl) ?_
        refine XO.len rfl fun l32 => ?_
        refine XO.q (Q.fieldAddr rfl) ?_
        refine XO.q (Q.ld rfl rfl) ?_
        refine XO.len rfl fun l35 => ?_
        refine XO.q (Q.eql rfl rfl) ?_
        refine XO.q (Q.assign rfl) ?_
        refine XO.done ?_
        refine XK.if rfl (fun c2 => ?_) (fun c2 => ?_)
        · have _t2 := True.intro
          refine XK.seq ?_
          refine XK.drawn [0, 1, 3, 4, 5] [b3, b2] [] (.q 0 (.q 1 (.q 3 (.q 4 (.br 2 true (.q 5 (.br 6 false .done .stop)) .stop))))) Try.mixed rfl (by kernel_rfl) ?_
          refine XT.q rfl rfl (Q.ldA [_, _, _, _] rfl rfl rfl) ?_
          refine XT.q rfl rfl (Q.move rfl) ?_
          refine XT.q rfl rfl (Q.fieldAddr rfl) ?_
          refine XT.q rfl rfl (Q.ld rfl rfl) ?_
          refine XT.call rfl rfl Try.call36 rfl rfl rfl (worth_spec l vl hl K aL rs vr hr m w vw gw ok hwl) (fun v39 s39 R39 => ?_) XT.stop
          obtain ⟨rfl, rfl⟩ := R39
          dsimp only [List.cons_append, List.nil_append]
          refine ⟨inferInstance, ?_⟩
          refine XT.q rfl rfl (Q.leq rfl rfl) ?_
          refine XT.st rfl rfl rfl rfl rfl ⟨inferInstance, ?_⟩ XT.stop
          refine XT.done ?_
          refine XK.rt [blk b1 [.int .i64 ((a + 1 : Nat) : Int)] 3, sm] Try.func41 Try.results41 (.cell1 rfl rfl (.n)) ?_
          rw [if_neg (show ¬ a = Pf.length by omega), if_neg (show ¬ Pf.getD a false = true from c1), if_pos (show w.length = (l.map Prod.snd).length by omega)] at le
          rw [le]
          exact ⟨sm, rfl, rfl, ks⟩
        · have _t2 := True.intro
          refine XK.skip ?_
          refine XK.inBlock ?_
          refine XK.seq ?_
          refine XK.seq ?_
          refine XK.region rfl ?_
          refine XO.q (Q.ld rfl rfl) ?_
          refine XO.q (Q.move rfl) ?_
          refine XO.call Try.call37 rfl rfl rfl (sons_spec l vl hl K aL rs vr hr m w vw gw ok lok (by omega) wok bt bm) fun v45 s45 R45 => ?_
          obtain ⟨bx, by_, rfl, hit⟩ := R45
          dsimp only [List.cons_append, List.nil_append]
          refine XO.done ?_
          refine XK.block ?_
          refine XK.rangeG (X := Nat) (ps := [46]) (fun a1 => [blk b1 [.int .i64 ((a1 : Nat) : Int)] 3, blk b7 [.bool false] 4]) (fun i a1 => (true, a1) = (holdsTo (⟨(l.map Prod.snd), rs, m⟩ : PTask) Pf W w a i) ∧ a1 ≤ Pf.length) (fun j0 a1 => j0 = Code.ret ∧ ∃ i, i < (psons (⟨(l.map Prod.snd), rs, m⟩ : PTask) w).length ∧ (false, a1) = (holdsTo (⟨(l.map Prod.snd), rs, m⟩ : PTask) Pf W w a (i + 1))) (a + 1) [blk b1 [.int .i64 ((a + 1 : Nat) : Int)] 3, blk b7 [.bool false] 4] (sm) rfl (hit) rfl (⟨rfl, by omega⟩) (ks) rfl (fun i g vs hY => by obtain ⟨v, rfl, _⟩ := hY; rfl) ?_ ?_ ?_
          · rintro lq rec B' i a1 sm1 g1 vs hi ⟨v46, rfl, O46⟩ ⟨e1, r1⟩ ks1
            dsimp only [List.cons_append, List.nil_append]
            obtain ⟨y, ey, y1, y2⟩ := psons_get (t := (⟨(l.map Prod.snd), rs, m⟩ : PTask)) (w := w) hi
            change (psons (⟨(l.map Prod.snd), rs, m⟩ : PTask) w).getD i [] = w ++ [y] at ey
            have el : ((psons (⟨(l.map Prod.snd), rs, m⟩ : PTask) w).getD i []).length = w.length + 1 := by
              have := congrArg List.length ey
              rw [List.length_append] at this; exact this
            have hn := holds_next e1
            have hl2 := holds_len (t := (⟨(l.map Prod.snd), rs, m⟩ : PTask)) (P := Pf) (W := W) _ ((psons (⟨(l.map Prod.snd), rs, m⟩ : PTask) w).getD i []) a1 (by dsimp only; rw [el]; omega) (Nat.le_refl _) r1
            refine XK.region rfl ?_
            refine XO.q (Q.assign rfl) ?_
            refine XO.done ?_
            refine XK.beginRound ?_
            refine XK.block ?_
            refine XK.seq ?_
            refine XK.region rfl ?_
            refine XO.q (Q.ld rfl rfl) ?_
            refine XO.q (Q.move rfl) ?_
            refine XO.call Try.call41 rfl rfl rfl (ih ((psons (⟨(l.map Prod.snd), rs, m⟩ : PTask) w).getD i []) v46 g1 a1 sm1 O46 ks1 (by rw [el]; omega) (by rw [el]; omega) (by rw [ey]; exact wok.snoc (by dsimp only; omega) y1 y2) r1) fun v49 s49 R49 => ?_
            obtain ⟨sm2, rfl, rfl, ks2⟩ := R49
            dsimp only [List.cons_append, List.nil_append]
            refine XO.q (Q.not rfl) ?_
            refine XO.done ?_
            refine XK.if rfl (fun c3 => ?_) (fun c3 => ?_)
            · have _t3 := True.intro
              refine XK.seq ?_
              refine XK.region rfl ?_
              refine XO.st rfl rfl rfl ?_
              refine XO.done ?_
              exact XK.leave (j := some .ret) [blk b1 [.int .i64 (((holdsG (⟨(l.map Prod.snd), rs, m⟩ : PTask) Pf W ((psons (⟨(l.map Prod.snd), rs, m⟩ : PTask) w).getD i []) a1).2 : Nat) : Int)] 3, blk b7 [.bool false] 4, sm2] trivial ⟨((holdsG (⟨(l.map Prod.snd), rs, m⟩ : PTask) Pf W ((psons (⟨(l.map Prod.snd), rs, m⟩ : PTask) w).getD i []) a1).2), sm2, ⟨rfl, ⟨i, hi, by rw [hn]; exact Prod.ext (by simpa using c3) rfl⟩⟩, ks2, rfl⟩
            · have _t3 := True.intro
              refine XK.skip ?_
              refine XK.inBlock ?_
              exact XK.leave (j := none) [blk b1 [.int .i64 (((holdsG (⟨(l.map Prod.snd), rs, m⟩ : PTask) Pf W ((psons (⟨(l.map Prod.snd), rs, m⟩ : PTask) w).getD i []) a1).2 : Nat) : Int)] 3, blk b7 [.bool false] 4, sm2] trivial ⟨((holdsG (⟨(l.map Prod.snd), rs, m⟩ : PTask) Pf W ((psons (⟨(l.map Prod.snd), rs, m⟩ : PTask) w).getD i []) a1).2), sm2, ⟨by rw [hn]; exact Prod.ext (by simpa using c3) rfl, hl2⟩, ks2, rfl⟩
          · rintro a1 sm1 ⟨e1, r1⟩ ks1
            dsimp only [List.cons_append, List.nil_append]
            refine XK.inBlock ?_
            refine XK.seq ?_
            refine XK.region rfl ?_
            refine XO.st rfl rfl rfl ?_
            refine XO.done ?_
            refine XK.rt [blk b1 [.int .i64 ((a1 : Nat) : Int)] 3, sm1] Try.func41 Try.results41 (.cell1 rfl rfl (.n)) ?_
            rw [if_neg (show ¬ a = Pf.length by omega), if_neg (show ¬ Pf.getD a false = true from c1), if_neg (show ¬ w.length = (l.map Prod.snd).length by omega), ← e1] at le
            rw [le]
            exact ⟨sm1, rfl, rfl, ks1⟩
          · rintro _ a1 sm1 ⟨rfl, ⟨i, hi, e2⟩⟩ ks1
            dsimp only [List.cons_append, List.nil_append]
            refine XK.rt [blk b1 [.int .i64 ((a1 : Nat) : Int)] 3, sm1] Try.func41 Try.results41 (.cell1 rfl rfl (.n)) ?_
            rw [if_neg (show ¬ a = Pf.length by omega), if_neg (show ¬ Pf.getD a false = true from c1), if_neg (show ¬ w.length = (l.map Prod.snd).length by omega), holds_stay (n := i + 1) (by rw [← e2]) _ (by omega), ← e2] at le
            rw [le]
            exact ⟨sm1, rfl, rfl, ks1⟩
set_option maxHeartbeats 4000000 in
theorem Verify_spec (l : List (Value × PJob)) (vl : Value) (hl K : PHeap) [jl : Arr vl encPJ 6 hl l] (aL : JobsK l K) (rs : List PRack) (vr : Value) (hr : PHeap) [jr : Arr vr encRack 5 hr rs] (m : PRat) (w : List Int) (vw : Value) (hw : PHeap) [jw : Arr vw encI 1 hw w] (W : Int) (Pf : List Bool) (vP : Value) (hP : PHeap) [jP : Arr vP encB 1 hP Pf] : Spec Try.prog 13 #[.agg #[vl, vr, .int .i64 m.n, .int .i64 m.d], .agg #[vw, .int .i64 W, vP]] [] [hl, K, hr, hw, hP] (fun v hs => v = .int .i64 (verifyP (⟨(l.map Prod.snd), rs, m⟩ : PTask) w W Pf) ∧ hs = []) := by
  have nI : OArr (.slice none 0 0) encI 1 3 emp ([] : List Int) := OArr.nil (fun _ => rfl)
  have lm : (l.map Prod.snd).length = l.length := List.length_map ..
  have lp := jP.le
  refine Spec.intro (fn := Try.f13) (N := 50) Try.func13 rfl Try.ntmps13 rfl fun B => ?_
  refine XK.seq ?_
  refine XK.region rfl ?_
  refine XO.box rfl fun b2 => ?_
  refine XO.box rfl fun b3 => ?_
  refine XO.q (Q.assign rfl) ?_
  refine XO.done ?_
  refine XK.seq ?_
  refine XK.seq ?_
  refine XK.region rfl ?_
  refine XO.q (Q.ldA [_, _, _, _] rfl rfl rfl) ?_
  refine XO.call Try.call33 rfl rfl rfl (ready_spec l vl hl K aL rs vr hr m) fun v10 s10 R10 => ?_
  obtain ⟨rfl, rfl⟩ := R10
  dsimp only [List.cons_append, List.nil_append]
  refine XO.q (Q.assign rfl) ?_
  refine XO.done ?_
  refine XK.seq ?_
  refine XK.region rfl ?_
  refine XO.q (Q.move rfl) ?_
  refine XO.q (Q.neq rfl rfl) ?_
  refine XO.done ?_
  refine XK.if rfl (fun c0 => ?_) (fun c0 => ?_)
  · have _t0 := True.intro
    refine XK.seq ?_
    refine XK.region rfl ?_
    refine XO.q (Q.move rfl) ?_
    refine XO.q (Q.assign rfl) ?_
    refine XO.done ?_
    refine XK.rt [] Try.func13 Try.results13 (.t rfl .n) ?_
    exact ⟨by rw [verifyP, if_pos c0], rfl⟩
  · have _t0 := True.intro
    have rk := ready_ok (Decidable.of_not_not c0)
    refine XK.skip ?_
    refine XK.seq ?_
    refine XK.seq ?_
    refine XK.region rfl ?_
    refine XO.q (Q.ldA [_, _, _, _] rfl rfl rfl) ?_
    refine XO.q (Q.fieldAddr rfl) ?_
    refine XO.q (Q.ld rfl rfl) ?_
    refine XO.call Try.call39 rfl rfl rfl (formed_spec l vl hl K aL rs vr hr m w vw hw) fun v17 s17 R17 => ?_
    obtain ⟨rfl, rfl⟩ := R17
    dsimp only [List.cons_append, List.nil_append]
    refine XO.q (Q.neq rfl rfl) ?_
    refine XO.q (Q.move rfl) ?_
    refine XO.q (Quiet.guardF rfl rfl fun g20 p20 => Q.ldA [_, _, _, _] rfl rfl rfl) ?_
    refine XO.q (Quiet.guardF rfl rfl fun g21 p21 => Q.fieldAddr rfl) ?_
    refine XO.q (Quiet.guardF rfl rfl fun g22 p22 => Q.ld (lzv g22 rfl) rfl) ?_
    refine XO.gcallF rfl rfl Try.call40 rfl (fun g23 => .c (lzv g23 rfl) (.c (lzv g23 rfl) .n)) rfl (fun g23 p23 => allowed_spec l vl hl K aL rs vr hr m w vw hw (formed_iff (Decidable.of_not_not p23)).1 (formed_iff (Decidable.of_not_not p23)).2.1 (formed_iff (Decidable.of_not_not p23)).2.2.2) ?_
    refine XO.q (Quiet.guardF rfl rfl fun g24 p24 => Q.not (lzv g24 rfl)) ?_
    refine XO.q (Q.or rfl (fun hp => lzv hp rfl)) ?_
    refine XO.done ?_
    refine XK.if rfl (fun c1 => ?_) (fun c1 => ?_)
    · have _t1 := True.intro
      refine XK.seq ?_
      refine XK.region rfl ?_
      refine XO.q (Q.assign rfl) ?_
      refine XO.done ?_
      refine XK.rt [] Try.func13 Try.results13 (.t rfl .n) ?_
      exact ⟨by rw [verifyP, if_neg c0, if_pos c1], rfl⟩
    · have _t1 := True.intro
      have c1b := not_or.1 c1
      have fk := formed_iff (Decidable.of_not_not c1b.1)
      have hwl : w.length ≤ l.length := by have := fk.2.1.len; dsimp only at this; omega
      refine XK.skip ?_
      refine XK.seq ?_
      refine XK.region rfl ?_
      refine XO.q (Q.ldA [_, _, _, _] rfl rfl rfl) ?_
      refine XO.map encK2 fun b27 => ?_
      refine XO.q (Q.build [_, _, _, _, _] (.c 0 4 rfl rfl rfl (.c 4 1 rfl rfl rfl (.n _)))) ?_
      refine XO.box rfl fun b29 => ?_
      refine XO.alloc fun b6 => ?_
      refine XO.st rfl rfl rfl ?_
      refine XO.done ?_
      refine XK.seq ?_
      refine XK.region rfl ?_
      refine XO.alloc fun b7 => ?_
      refine XO.st rfl rfl rfl ?_
      refine XO.done ?_
      refine XK.seq ?_
      refine XK.region rfl ?_
      refine XO.alloc fun b8 => ?_
      refine XO.done ?_
      refine XK.seq ?_
      refine XK.region rfl ?_
      refine XO.q (Q.func (fun _ he => rfl) (fun _ he => evs_rel he rfl)) ?_
      refine XO.st rfl rfl rfl ?_
      refine XO.drop (o' := [emp, blk b7 [.int .i64 ((0 : Nat) : Int)] 3, mapH b27 encK2 [], blk b8 [.func (.func 41) #[] #[ptr b7 0, ptr b3 0, ptr b2 0, ptr b6 0, ptr b8 0]] 97, blk b6 [ptr b29 0] 87, blk b29 [vl, vr, .int .i64 m.n, .int .i64 m.d, .map (some b27)] 90, blk b3 [vw, .int .i64 W, vP] 46, blk b2 [vl, vr, .int .i64 m.n, .int .i64 m.d] 28]) ?_
      refine XO.done ?_
      refine XK.seq ?_
      refine XK.seq ?_
      refine XK.drawn [0, 1, 2, 4, 5, 6, 7, 8, 10, 11, 12, 14, 15, 16, 17, 18] [b2, b3, b8] [] (.q 0 (.q 1 (.q 2 (.q 4 (.q 5 (.br 3 true (.q 6 (.q 7 (.q 8 (.br 9 true (.q 10 (.q 11 (.q 12 (.q 14 (.q 15 (.q 16 (.br 13 true (.q 17 (.q 18 .done)) .stop))))))) .stop)))) .stop)))))) Try.mixed rfl (by kernel_rfl) ?_
      refine XT.q rfl rfl (Q.ldA [_, _, _, _] rfl rfl rfl) ?_
      refine XT.q rfl rfl (Q.fieldAddr rfl) ?_
      refine XT.q rfl rfl (Q.ld rfl rfl) ?_
      refine XT.q rfl rfl (Q.fieldAddr rfl) ?_
      refine XT.q rfl rfl (Q.ld rfl rfl) ?_
      refine XT.call rfl rfl Try.call36 rfl rfl rfl (worth_spec l vl hl K aL rs vr hr m w vw hw rk.1 hwl) (fun v34 s34 R34 => ?_) XT.stop
      obtain ⟨rfl, rfl⟩ := R34
      dsimp only [List.cons_append, List.nil_append]
      refine ⟨inferInstance, ?_⟩
      refine XT.q rfl rfl (Q.neq rfl rfl) ?_
      rcases hb38 : decide (worthG (⟨(l.map Prod.snd), rs, m⟩ : PTask) w ≠ W) with _ | _
      · have _ts := True.intro
        refine XT.q rfl rfl (Q.move rfl) ?_
        refine XT.q rfl rfl (Quiet.guardF rfl rfl fun g39 p39 => Q.ld rfl rfl) ?_
        refine XT.callS rfl rfl rfl rfl rfl Try.call41 (lzv rfl rfl) (.c rfl .n) rfl (holds_spec l vl hl K aL rs vr hr m rk.1 rk.2 b7 b3 b2 b6 b8 b29 b27 vw W Pf vP hP l.length [] (.slice none 0 0) emp 0 (mapH b27 encK2 []) nI ⟨[], rfl, KnownP.nil _⟩ (Nat.zero_le _) (by simp) (wok_nil _) (Nat.zero_le _)) (fun v40 s40 R40 => ?_) XT.stop
        obtain ⟨sm2, rfl, rfl, ks2⟩ := R40
        dsimp only [List.cons_append, List.nil_append]
        refine ⟨inferInstance, ?_⟩
        refine XT.q rfl rfl (Quiet.guardF rfl rfl fun g41 p41 => Q.not rfl) ?_
        refine XT.q rfl rfl (Q.or rfl (fun hp => lzv hp rfl)) ?_
        refine XT.q rfl rfl (Q.move rfl) ?_
        refine XT.q rfl rfl (Quiet.guardF rfl rfl fun g45 p45 => Q.fieldAddr rfl) ?_
        refine XT.q rfl rfl (Quiet.guardF rfl rfl fun g46 p46 => Q.ld (lzv g46 rfl) rfl) ?_
        refine XT.q rfl rfl (Quiet.guardF rfl rfl fun g47 p47 => Q.len (lzv g47 rfl)) ?_
        refine XT.qs rfl rfl (Quiet.guardF rfl rfl fun g44 p44 => Q.ld rfl rfl) ⟨inferInstance, ?_⟩ XT.stop
        refine XT.q rfl rfl (Quiet.guardF rfl rfl fun g48 p48 => Q.neq (lzv g48 rfl) (lzv g48 rfl)) ?_
        refine XT.q rfl rfl (Q.or rfl (fun hp => lzv hp rfl)) ?_
        refine XT.done ?_
        refine XK.if rfl (fun c2 => ?_) (fun c2 => ?_)
        · have _t2 := True.intro
          refine XK.seq ?_
          refine XK.region rfl ?_
          refine XO.q (Q.assign rfl) ?_
          refine XO.done ?_
          refine XK.rt [] Try.func13 Try.results13 (.t rfl .n) ?_
          have hv : verifyP (⟨(l.map Prod.snd), rs, m⟩ : PTask) w W Pf = 7 := by rw [verifyP, if_neg c0, if_neg c1, if_pos (by rw [decide_eq_false_iff_not] at hb38; rcases c2 with (h | h) | h; exact h.elim; exact .inr (.inl h); exact .inr (.inr (by omega)))]
          exact ⟨by rw [hv], rfl⟩
        · have _t2 := True.intro
          refine XK.skip ?_
          refine XK.seq ?_
          refine XK.region rfl ?_
          refine XO.q (Q.assign rfl) ?_
          refine XO.done ?_
          refine XK.rt [] Try.func13 Try.results13 (.t rfl .n) ?_
          have hv : verifyP (⟨(l.map Prod.snd), rs, m⟩ : PTask) w W Pf = 0 := by rw [verifyP, if_neg c0, if_neg c1, if_neg (by rw [decide_eq_false_iff_not] at hb38; rintro (h | h | h); exact hb38 h; exact c2 (.inl (.inr h)); exact c2 (.inr (by omega)))]
          exact ⟨by rw [hv], rfl⟩
      · have _ts := True.intro
        refine XT.q rfl rfl (Q.move rfl) ?_
        refine XT.q rfl rfl (Quiet.off rfl rfl (by decide)) ?_
        refine XT.qs rfl rfl (Quiet.off rfl rfl (by decide)) ⟨inferInstance, ?_⟩ XT.stop
        refine XT.q rfl rfl (Quiet.off rfl rfl (by decide)) ?_
        refine XT.q rfl rfl (Q.or (b := true) (b2 := false) rfl (fun hp => by cases hp)) ?_
        refine XT.q rfl rfl (Q.move rfl) ?_
        refine XT.q rfl rfl (Quiet.guardF rfl rfl fun g45 p45 => Q.fieldAddr rfl) ?_
        refine XT.q rfl rfl (Quiet.guardF rfl rfl fun g46 p46 => Q.ld (lzv g46 rfl) rfl) ?_
        refine XT.q rfl rfl (Quiet.guardF rfl rfl fun g47 p47 => Q.len (lzv g47 rfl)) ?_
        refine XT.qs rfl rfl (Quiet.guardF rfl rfl fun g44 p44 => Q.ld rfl rfl) ⟨inferInstance, ?_⟩ XT.stop
        refine XT.q rfl rfl (Quiet.guardF rfl rfl fun g48 p48 => Q.neq (lzv g48 rfl) (lzv g48 rfl)) ?_
        refine XT.q rfl rfl (Q.or rfl (fun hp => lzv hp rfl)) ?_
        refine XT.done ?_
        refine XK.if rfl (fun c3 => ?_) (fun c3 => ?_)
        · have _t3 := True.intro
          refine XK.seq ?_
          refine XK.region rfl ?_
          refine XO.q (Q.assign rfl) ?_
          refine XO.done ?_
          refine XK.rt [] Try.func13 Try.results13 (.t rfl .n) ?_
          have hv : verifyP (⟨(l.map Prod.snd), rs, m⟩ : PTask) w W Pf = 7 := by rw [verifyP, if_neg c0, if_neg c1, if_pos (.inl (by simpa using hb38))]
          exact ⟨by rw [hv], rfl⟩
        · have _t3 := True.intro
          refine XK.skip ?_
          refine XK.seq ?_
          refine XK.region rfl ?_
          refine XO.q (Q.assign rfl) ?_
          refine XO.done ?_
          refine XK.rt [] Try.func13 Try.results13 (.t rfl .n) ?_
          exact absurd (.inl (.inl trivial)) c3
end Go.X

set_option linter.unusedSimpArgs false
set_option linter.unusedVariables false
set_option maxRecDepth 20000
namespace Go.X
open Go.Proofs
theorem equalI (v1 v2 : Value) (h1 h2 : PHeap) (xs ys : List Int) [s1 : Arr v1 encI 1 h1 xs] [s2 : Arr v2 encI 1 h2 ys] :
    Spec Try.prog 32 #[v1, v2] [] [h1, h2] (fun v hs => v = .bool (decide (xs = ys)) ∧ hs = []) := by
  refine Spec.intro (fn := Try.f32) (N := 26) Try.func32 rfl Try.ntmps32 rfl fun B => ?_
  refine XK.seq ?_
  refine XK.region rfl ?_
  refine XO.q (Q.assign rfl) ?_
  refine XO.done ?_
  refine XK.seq ?_
  refine XK.seq ?_
  refine XK.region rfl ?_
  refine XO.q (Q.move rfl) ?_
  refine XO.len rfl fun l7 => ?_
  refine XO.q (Q.move rfl) ?_
  refine XO.len rfl fun l9 => ?_
  refine XO.q (Q.neq rfl rfl) ?_
  refine XO.done ?_
  refine XK.if rfl (fun c0 => ?_) (fun c0 => ?_)
  · have _t0 := True.intro
    refine XK.seq ?_
    refine XK.region rfl ?_
    refine XO.q (Q.assign rfl) ?_
    refine XO.done ?_
    refine XK.rt [] Try.func32 Try.results32 (.t rfl .n) ?_
    exact ⟨by rw [decide_eq_false (fun h => c0 (by rw [h]))], rfl⟩
  · have _t0 := True.intro
    refine XK.skip ?_
    refine XK.seq ?_
    refine XK.seq ?_
    refine XK.region rfl ?_
    refine XO.q (Q.move rfl) ?_
    refine XO.len rfl fun l12 => ?_
    refine XO.q (Q.move rfl) ?_
    refine XO.done ?_
    refine XK.block ?_
    refine XK.while (X := Nat) [4, 5, 13, 14, 15, 16, 17, 18, 19, 20, 21, 22, 23, 24, 25] (fun i => [(13, some (.int .i64 (i : Nat)))]) (fun i => []) (fun i => i ≤ xs.length ∧ xs.take i = ys.take i) (fun i => xs.length - i) (0) [] rfl ⟨by omega, rfl⟩ (.c rfl (.base 0 rfl rfl)) ?_
    rintro i ⟨hi, ht⟩ ih0
    dsimp only [List.cons_append, List.nil_append] at ih0 ⊢
    refine XK.seq ?_
    refine XK.region rfl ?_
    refine XO.q (Q.lss rfl rfl) ?_
    refine XO.done ?_
    refine XK.seq ?_
    refine XK.if rfl (fun c1 => ?_) (fun c1 => ?_)
    · have _t1 := True.intro
      refine XK.skip ?_
      refine XK.seq ?_
      refine XK.block ?_
      refine XK.seq ?_
      refine XK.region rfl ?_
      refine XO.q (Q.move rfl) ?_
      refine XO.q (Q.assign rfl) ?_
      refine XO.done ?_
      refine XK.seq ?_
      refine XK.drawn [0, 1, 2, 3, 4, 5, 6, 7, 8] [] [] (.q 0 (.q 1 (.q 2 (.q 3 (.q 4 (.q 5 (.q 6 (.q 7 (.q 8 .done))))))))) Try.mixed rfl (by kernel_rfl) ?_
      refine XT.q rfl rfl (Q.move rfl) ?_
      refine XT.q rfl rfl (Q.move rfl) ?_
      refine XT.ix rfl rfl rfl rfl (by omega) (by omega) fun i18 => ?_
      refine XT.q rfl rfl (Q.ldE rfl (by first | assumption | omega) rfl) ?_
      refine XT.q rfl rfl (Q.move rfl) ?_
      refine XT.q rfl rfl (Q.move rfl) ?_
      refine XT.ix rfl rfl rfl rfl (by omega) (by omega) fun i22 => ?_
      refine XT.q rfl rfl (Q.ldE rfl (by first | assumption | omega) rfl) ?_
      refine XT.q rfl rfl (Q.neq rfl rfl) ?_
      refine XT.done ?_
      refine XK.if rfl (fun c2 => ?_) (fun c2 => ?_)
      · have _t2 := True.intro
        refine XK.seq ?_
        refine XK.region rfl ?_
        refine XO.q (Q.assign rfl) ?_
        refine XO.done ?_
        refine XK.rt [] Try.func32 Try.results32 (.t rfl .n) ?_
        exact ⟨by rw [decide_eq_false (fun h => c2 (by rw [h]))], rfl⟩
      · have _t2 := True.intro
        refine XK.skip ?_
        refine XK.inBlock ?_
        refine XK.region rfl ?_
        refine XO.q (Q.add rfl rfl ⟨by omega, by omega⟩) ?_
        refine XO.q (Q.move rfl) ?_
        refine XO.done ?_
        exact ih0 (i + 1) _ _ ⟨by omega, take_step ht (by omega) (by omega) (Decidable.of_not_not c2)⟩ (by first | omega | (dsimp only; omega)) (.c rfl (.base 30 rfl rfl)) inferInstance
    · have _t1 := True.intro
      refine XK.exit rfl ?_
      refine XK.seq ?_
      refine XK.region rfl ?_
      refine XO.q (Q.assign rfl) ?_
      refine XO.done ?_
      refine XK.rt [] Try.func32 Try.results32 (.t rfl .n) ?_
      exact ⟨by rw [decide_eq_true (take_all ht c1 (by omega))], rfl⟩
theorem draw_ne (x y : PDraw) : (!(decide (x.power = y.power) && (decide (x.count = y.count) && true))) = decide (¬ x = y) := by
  cases x; cases y
  rw [Bool.eq_iff_iff]
  simp
theorem equalD (v1 v2 : Value) (h1 h2 : PHeap) (xs ys : List PDraw) [s1 : Arr v1 encDraw 2 h1 xs] [s2 : Arr v2 encDraw 2 h2 ys] :
    Spec Try.prog 24 #[v1, v2] [] [h1, h2] (fun v hs => v = .bool (decide (xs = ys)) ∧ hs = []) := by
  refine Spec.intro (fn := Try.f24) (N := 26) Try.func24 rfl Try.ntmps24 rfl fun B => ?_
  refine XK.seq ?_
  refine XK.region rfl ?_
  refine XO.q (Q.assign rfl) ?_
  refine XO.done ?_
  refine XK.seq ?_
  refine XK.seq ?_
  refine XK.region rfl ?_
  refine XO.q (Q.move rfl) ?_
  refine XO.len rfl fun l7 => ?_
  refine XO.q (Q.move rfl) ?_
  refine XO.len rfl fun l9 => ?_
  refine XO.q (Q.neq rfl rfl) ?_
  refine XO.done ?_
  refine XK.if rfl (fun c0 => ?_) (fun c0 => ?_)
  · have _t0 := True.intro
    refine XK.seq ?_
    refine XK.region rfl ?_
    refine XO.q (Q.assign rfl) ?_
    refine XO.done ?_
    refine XK.rt [] Try.func24 Try.results24 (.t rfl .n) ?_
    exact ⟨by rw [decide_eq_false (fun h => c0 (by rw [h]))], rfl⟩
  · have _t0 := True.intro
    refine XK.skip ?_
    refine XK.seq ?_
    refine XK.seq ?_
    refine XK.region rfl ?_
    refine XO.q (Q.move rfl) ?_
    refine XO.len rfl fun l12 => ?_
    refine XO.q (Q.move rfl) ?_
    refine XO.done ?_
    refine XK.block ?_
    refine XK.while (X := Nat) [4, 5, 13, 14, 15, 16, 17, 18, 19, 20, 21, 22, 23, 24, 25] (fun i => [(13, some (.int .i64 (i : Nat)))]) (fun i => []) (fun i => i ≤ xs.length ∧ xs.take i = ys.take i) (fun i => xs.length - i) (0) [] rfl ⟨by omega, rfl⟩ (.c rfl (.base 0 rfl rfl)) ?_
    rintro i ⟨hi, ht⟩ ih0
    dsimp only [List.cons_append, List.nil_append] at ih0 ⊢
    refine XK.seq ?_
    refine XK.region rfl ?_
    refine XO.q (Q.lss rfl rfl) ?_
    refine XO.done ?_
    refine XK.seq ?_
    refine XK.if rfl (fun c1 => ?_) (fun c1 => ?_)
    · have _t1 := True.intro
      refine XK.skip ?_
      refine XK.seq ?_
      refine XK.block ?_
      refine XK.seq ?_
      refine XK.region rfl ?_
      refine XO.q (Q.move rfl) ?_
      refine XO.q (Q.assign rfl) ?_
      refine XO.done ?_
      refine XK.seq ?_
      refine XK.drawn [0, 1, 2, 3, 4, 5, 6, 7, 8] [] [] (.q 0 (.q 1 (.q 2 (.q 3 (.q 4 (.q 5 (.q 6 (.q 7 (.q 8 .done))))))))) Try.mixed rfl (by kernel_rfl) ?_
      refine XT.q rfl rfl (Q.move rfl) ?_
      refine XT.q rfl rfl (Q.move rfl) ?_
      refine XT.ix rfl rfl rfl rfl (by omega) (by omega) fun i18 => ?_
      refine XT.q rfl rfl (Q.ldEA [_, _] rfl (by first | assumption | omega) rfl rfl) ?_
      refine XT.q rfl rfl (Q.move rfl) ?_
      refine XT.q rfl rfl (Q.move rfl) ?_
      refine XT.ix rfl rfl rfl rfl (by omega) (by omega) fun i22 => ?_
      refine XT.q rfl rfl (Q.ldEA [_, _] rfl (by first | assumption | omega) rfl rfl) ?_
      refine XT.q rfl rfl (Q.neqS (us := [_, _]) (vs := [_, _]) rfl rfl inferInstance (by kernel_rfl) (by kernel_rfl) (.c rfl inferInstance inferInstance rfl rfl (.c rfl inferInstance inferInstance rfl rfl .n))) ?_
      rw [draw_ne]
      refine XT.done ?_
      refine XK.if rfl (fun c2 => ?_) (fun c2 => ?_)
      · have _t2 := True.intro
        refine XK.seq ?_
        refine XK.region rfl ?_
        refine XO.q (Q.assign rfl) ?_
        refine XO.done ?_
        refine XK.rt [] Try.func24 Try.results24 (.t rfl .n) ?_
        exact ⟨by rw [decide_eq_false (fun h => c2 (by rw [h]))], rfl⟩
      · have _t2 := True.intro
        refine XK.skip ?_
        refine XK.inBlock ?_
        refine XK.region rfl ?_
        refine XO.q (Q.add rfl rfl ⟨by omega, by omega⟩) ?_
        refine XO.q (Q.move rfl) ?_
        refine XO.done ?_
        exact ih0 (i + 1) _ _ ⟨by omega, take_step ht (by omega) (by omega) (Decidable.of_not_not c2)⟩ (by first | omega | (dsimp only; omega)) (.c rfl (.base 30 rfl rfl)) inferInstance
    · have _t1 := True.intro
      refine XK.exit rfl ?_
      refine XK.seq ?_
      refine XK.region rfl ?_
      refine XO.q (Q.assign rfl) ?_
      refine XO.done ?_
      refine XK.rt [] Try.func24 Try.results24 (.t rfl .n) ?_
      exact ⟨by rw [decide_eq_true (take_all ht c1 (by omega))], rfl⟩
theorem job_spec : Spec Try.prog 30 #[] [] [] (fun v hs => ∃ vd k, v = .agg #[.int .i64 jobX.n0, .int .i64 jobX.n1, .int .i64 jobX.n2, vd, .int .i64 jobX.group, .int .i64 jobX.worth] ∧ hs = [k] ∧ OArr vd encDraw 2 41 k jobX.draws) := by
  refine Spec.intro (fn := Try.f30) (N := 6) Try.func30 rfl Try.ntmps30 rfl fun B => ?_
  refine XK.seq ?_
  refine XK.region rfl ?_
  refine XO.alloc fun b0 => ?_
  refine XO.done ?_
  refine XK.seq ?_
  refine XK.region rfl ?_
  refine XO.q (Q.build [_, _, _] (.c 0 1 rfl rfl rfl (.c 1 1 rfl rfl rfl (.c 2 1 rfl rfl rfl (.n _))))) ?_
  refine XO.q (Q.build [_, _] (.c 0 1 rfl rfl rfl (.c 1 1 rfl rfl rfl (.n _)))) ?_
  refine XO.q (Q.build [_, _] (.c 0 1 rfl rfl rfl (.c 1 1 rfl rfl rfl (.n _)))) ?_
  refine XO.lit [_, _, _, _] [_, _, _, _] jobX.draws encDraw (by rfl) (by rfl) rfl (by rfl) (by exact .c 0 2 rfl rfl rfl (.c 2 2 rfl rfl rfl (.n _))) (fun _ => rfl) (by rfl) rfl (by infer_instance) rfl fun v4 h4 O4 => ?_
  refine XO.q (Q.build [_, _, _, _, _, _] (.c 0 3 rfl rfl rfl (.c 3 1 rfl rfl rfl (.c 5 1 rfl rfl rfl (.n _))))) ?_
  refine XO.st rfl rfl rfl ?_
  refine XO.done ?_
  refine XK.rt [h4] Try.func30 Try.results30 (.cell [_, _, _, _, _, _] rfl rfl rfl (.n)) ?_
  exact ⟨v4, h4, rfl, rfl, O4⟩
theorem JobsK.nil (K : PHeap) : JobsK [] K := fun i hi => absurd hi (Nat.not_lt_zero i)
theorem JobsK.mono {l : List (Value × PJob)} {K K' : PHeap} (a : JobsK l K) (h : leH K K') : JobsK l K' := fun i hi => Arr.le_heap (a i hi) h
theorem JobsK.snoc {l : List (Value × PJob)} {K : PHeap} {x : Value × PJob} (a : JobsK l K) (b : Arr x.1 encDraw 2 K x.2.draws) : JobsK (l ++ [x]) K := each_snoc (Q := fun x : Value × PJob => Arr x.1 encDraw 2 K x.2.draws) a b
theorem task_spec : Spec Try.prog 31 #[] [] [] (fun v hs => ∃ vl vr kl K kr l, v = .agg #[vl, vr, .int .i64 1, .int .i64 10] ∧ hs = [kl, K, kr] ∧ OArr vl encPJ 6 39 kl l ∧ JobsK l K ∧ (l.map Prod.snd) = taskX.jobs ∧ OArr vr encRack 5 62 kr taskX.racks) := by
  refine Spec.intro (fn := Try.f31) (N := 10) Try.func31 rfl Try.ntmps31 rfl fun B => ?_
  refine XK.seq ?_
  refine XK.region rfl ?_
  refine XO.alloc fun b0 => ?_
  refine XO.done ?_
  refine XK.seq ?_
  refine XK.region rfl ?_
  refine XO.call Try.call30 rfl rfl rfl (job_spec) fun v1 s1 R1 => ?_
  obtain ⟨vd1, k1, rfl, rfl, D1⟩ := R1
  dsimp only [List.cons_append, List.nil_append]
  refine XO.call Try.call30 rfl rfl rfl (job_spec) fun v2 s2 R2 => ?_
  obtain ⟨vd2, k2, rfl, rfl, D2⟩ := R2
  dsimp only [List.cons_append, List.nil_append]
  refine XO.call Try.call30 rfl rfl rfl (job_spec) fun v3 s3 R3 => ?_
  obtain ⟨vd3, k3, rfl, rfl, D3⟩ := R3
  dsimp only [List.cons_append, List.nil_append]
  refine XO.lit [_, _, _, _, _, _, _, _, _, _, _, _, _, _, _, _, _, _] [_, _, _, _, _, _, _, _, _, _, _, _, _, _, _, _, _, _] [(vd1, jobX), (vd2, jobX), (vd3, jobX)] encPJ (by rfl) (by rfl) rfl (by rfl) (by exact .c 0 6 rfl rfl rfl (.c 6 6 rfl rfl rfl (.c 12 6 rfl rfl rfl (.n _)))) (fun _ => rfl) (by rfl) rfl (by infer_instance) rfl fun v4 h4 O4 => ?_
  refine XO.q (Q.build [_, _, _] (.c 0 1 rfl rfl rfl (.c 1 1 rfl rfl rfl (.c 2 1 rfl rfl rfl (.n _))))) ?_
  refine XO.q (Q.build [_, _, _, _, _] (.c 0 3 rfl rfl rfl (.c 3 1 rfl rfl rfl (.n _)))) ?_
  refine XO.lit [_, _, _, _, _] [_, _, _, _, _] taskX.racks encRack (by rfl) (by rfl) rfl (by rfl) (by exact .c 0 5 rfl rfl rfl (.n _)) (fun _ => rfl) (by rfl) rfl (by infer_instance) rfl fun v7 h7 O7 => ?_
  refine XO.cat k1 k2 fun l1 l2 => ?_
  refine XO.cat (cat k1 k2) k3 fun l12 l3 => ?_
  refine XO.q (Q.build [_, _] (.c 0 1 rfl rfl rfl (.c 1 1 rfl rfl rfl (.n _)))) ?_
  refine XO.q (Q.build [_, _, _, _] (.c 0 1 rfl rfl rfl (.c 1 1 rfl rfl rfl (.c 2 2 rfl rfl rfl (.n _))))) ?_
  refine XO.st rfl rfl rfl ?_
  refine XO.done ?_
  refine XK.rt [h4, cat (cat k1 k2) k3, h7] Try.func31 Try.results31 (.cell [_, _, _, _] rfl rfl rfl (.n)) ?_
  exact ⟨v4, v7, h4, _, h7, _, rfl, rfl, O4, (((JobsK.nil _).snoc (x := (vd1, jobX)) (Arr.le_heap (Arr.le_heap (OArr.arr (s := D1)) l1) l12)).snoc (x := (vd2, jobX)) (Arr.le_heap (Arr.le_heap (OArr.arr (s := D2)) l2) l12)).snoc (x := (vd3, jobX)) (Arr.le_heap (OArr.arr (s := D3)) l3), rfl, O7⟩
set_option maxHeartbeats 2000000 in
theorem awake09 : Spec Try.prog 11 #[] [] [] (fun v hs => v = .bool true ∧ hs = []) := by
  refine Spec.intro (fn := Try.f11) (N := 72) Try.func11 rfl Try.ntmps11 rfl fun B => ?_
  refine XK.seq ?_
  refine XK.region rfl ?_
  refine XO.q (Q.assign rfl) ?_
  refine XO.done ?_
  refine XK.seq ?_
  refine XK.region rfl ?_
  refine XO.call Try.call30 rfl rfl rfl (job_spec) fun v9 s9 R9 => ?_
  obtain ⟨vd9, k9, rfl, rfl, D9⟩ := R9
  dsimp only [List.cons_append, List.nil_append]
  refine XO.call Try.call30 rfl rfl rfl (job_spec) fun v10 s10 R10 => ?_
  obtain ⟨vd10, k10, rfl, rfl, D10⟩ := R10
  dsimp only [List.cons_append, List.nil_append]
  refine XO.lit [_, _, _, _, _, _, _, _, _, _, _, _] [_, _, _, _, _, _, _, _, _, _, _, _] [(vd9, jobX), (vd10, jobX)] encPJ (by rfl) (by rfl) rfl (by rfl) (by exact .c 0 6 rfl rfl rfl (.c 6 6 rfl rfl rfl (.n _))) (fun _ => rfl) (by rfl) rfl (by infer_instance) rfl fun v11 h11 O11 => ?_
  refine XO.cat k9 k10 fun l9 l10 => ?_
  have J11 : JobsK [(vd9, jobX), (vd10, jobX)] (cat k9 k10) := ((JobsK.nil _).snoc (x := (vd9, jobX)) (Arr.le_heap (OArr.arr (s := D9)) l9)).snoc (x := (vd10, jobX)) (Arr.le_heap (OArr.arr (s := D10)) l10)
  refine XO.call Try.call9 rfl rfl rfl (Sums_spec [(vd9, jobX), (vd10, jobX)] v11 h11 (cat k9 k10) J11) fun v12 s12 R12 => ?_
  obtain ⟨vo, ko, rfl, rfl, OS⟩ := R12
  dsimp only [List.cons_append, List.nil_append]
  rw [show sumsG (([(vd9, jobX), (vd10, jobX)] : List (Value × PJob)).map Prod.snd) = ([⟨200, 9⟩, ⟨300, 6⟩, ⟨400, 1⟩], 16, 0) from job_sums] at OS
  rw [show sumsG (([(vd9, jobX), (vd10, jobX)] : List (Value × PJob)).map Prod.snd) = ([⟨200, 9⟩, ⟨300, 6⟩, ⟨400, 1⟩], 16, 0) from job_sums]
  dsimp only
  refine XO.q (Q.move rfl) ?_
  refine XO.q (Q.extract rfl rfl) ?_
  refine XO.q (Q.extract rfl rfl) ?_
  refine XO.q (Q.extract rfl rfl) ?_
  refine XO.q (Q.assign rfl) ?_
  refine XO.q (Q.assign rfl) ?_
  refine XO.q (Q.assign rfl) ?_
  refine XO.done ?_
  refine XK.seq ?_
  refine XK.region rfl ?_
  refine XO.call Try.call30 rfl rfl rfl (job_spec) fun v17 s17 R17 => ?_
  obtain ⟨vd17, k17, rfl, rfl, D17⟩ := R17
  dsimp only [List.cons_append, List.nil_append]
  refine XO.call Try.call30 rfl rfl rfl (job_spec) fun v18 s18 R18 => ?_
  obtain ⟨vd18, k18, rfl, rfl, D18⟩ := R18
  dsimp only [List.cons_append, List.nil_append]
  refine XO.lit [_, _, _, _, _, _, _, _, _, _, _, _] [_, _, _, _, _, _, _, _, _, _, _, _] [(vd17, jobX), (vd18, jobX)] encPJ (by rfl) (by rfl) rfl (by rfl) (by exact .c 0 6 rfl rfl rfl (.c 6 6 rfl rfl rfl (.n _))) (fun _ => rfl) (by rfl) rfl (by infer_instance) rfl fun v19 h19 O19 => ?_
  refine XO.cat k17 k18 fun l17 l18 => ?_
  have J19 : JobsK [(vd17, jobX), (vd18, jobX)] (cat k17 k18) := ((JobsK.nil _).snoc (x := (vd17, jobX)) (Arr.le_heap (OArr.arr (s := D17)) l17)).snoc (x := (vd18, jobX)) (Arr.le_heap (OArr.arr (s := D18)) l18)
  refine XO.call Try.call10 rfl rfl rfl (Chance_spec [(vd17, jobX), (vd18, jobX)] v19 h19 (cat k17 k18) J19 300) fun v20 s20 R20 => ?_
  obtain ⟨rfl, rfl⟩ := R20
  dsimp only [List.cons_append, List.nil_append]
  rw [show chanceG (([(vd17, jobX), (vd18, jobX)] : List (Value × PJob)).map Prod.snd) 300 = (⟨1, 16⟩, 0) from job_chance]
  dsimp only
  refine XO.q (Q.move rfl) ?_
  refine XO.q (Q.extract rfl rfl) ?_
  refine XO.q (Q.extract rfl rfl) ?_
  refine XO.alloc fun b4 => ?_
  refine XO.st rfl rfl rfl ?_
  refine XO.q (Q.assign rfl) ?_
  refine XO.done ?_
  refine XK.seq ?_
  refine XK.region rfl ?_
  refine XO.call Try.call31 rfl rfl rfl (task_spec) fun v24 s24 R24 => ?_
  obtain ⟨vl, vr, kl, K, kr, l, rfl, rfl, Ol, Jl, el, Or⟩ := R24
  dsimp only [List.cons_append, List.nil_append]
  refine XO.call Try.call12 rfl rfl rfl (Best_spec l vl kl K Jl taskX.racks vr kr ⟨1, 10⟩) fun v25 s25 R25 => ?_
  obtain ⟨vW, vP, kW, kP, bw, s, p, rfl, rfl, OW, OP, hb, _⟩ := R25
  dsimp only [List.cons_append, List.nil_append]
  rw [show (⟨l.map Prod.snd, taskX.racks, ⟨1, 10⟩⟩ : PTask) = taskX by rw [el]; rfl] at hb
  rw [show (⟨l.map Prod.snd, taskX.racks, ⟨1, 10⟩⟩ : PTask) = taskX by rw [el]; rfl, task_ready]
  have hb := hb task_ready
  have tb := task_best
  have tv := task_verify
  rw [← hb] at tb tv
  obtain ⟨tb1, tb2⟩ := tb
  dsimp only at tb1 tb2 tv
  subst tb1 tb2
  refine XO.q (Q.move rfl) ?_
  refine XO.q (Q.extract rfl rfl) ?_
  refine XO.q (Q.extract rfl rfl) ?_
  refine XO.alloc fun b6 => ?_
  refine XO.st rfl rfl rfl ?_
  refine XO.q (Q.assign rfl) ?_
  refine XO.done ?_
  refine XK.seq ?_
  refine XK.drawn [0, 1, 2, 3, 4, 5, 6, 7, 8, 9, 10, 11, 12, 13, 14, 15, 16, 17, 18, 21, 22, 23, 24, 25, 26, 27, 28, 29, 32, 33, 34, 35, 36, 37, 38, 40, 42, 43, 44] [b4, b6] [] (.q 0 (.q 1 (.q 2 (.q 3 (.q 4 (.q 5 (.q 6 (.q 7 (.q 8 (.q 9 (.q 10 (.q 11 (.q 12 (.q 13 (.q 14 (.q 15 (.q 16 (.q 17 (.q 18 (.br 19 true (.br 20 true (.q 21 (.q 22 (.q 23 (.q 24 (.q 25 (.q 26 (.q 27 (.q 28 (.q 29 (.br 30 true (.br 31 true (.q 32 (.q 33 (.q 34 (.q 35 (.q 36 (.q 37 (.q 38 (.q 40 (.br 39 true (.br 41 true (.q 42 (.q 43 (.q 44 .done))) .stop) .stop))))))))) .stop) .stop)))))))))) .stop) .stop)))))))))))))))))))) Try.mixed rfl (by kernel_rfl) ?_
  refine XT.q rfl rfl (Q.move rfl) ?_
  refine XT.q rfl rfl (Q.eql rfl rfl) ?_
  refine XT.q rfl rfl (Q.move rfl) ?_
  refine XT.q rfl rfl (Quiet.guardT rfl rfl fun g31 p31 => Q.move rfl) ?_
  refine XT.q rfl rfl (Quiet.guardT rfl rfl fun g32 p32 => Q.eql (lzv rfl rfl) rfl) ?_
  refine XT.q rfl rfl (Q.and rfl (fun hp => lzv hp rfl)) ?_
  refine XT.q rfl rfl (Q.move rfl) ?_
  refine XT.q rfl rfl (Quiet.guardT rfl rfl fun g35 p35 => Q.move rfl) ?_
  refine XT.q rfl rfl (Quiet.guardT rfl rfl fun g36 p36 => Q.eql (lzv rfl rfl) rfl) ?_
  refine XT.q rfl rfl (Q.and rfl (fun hp => lzv hp rfl)) ?_
  refine XT.q rfl rfl (Q.move rfl) ?_
  refine XT.q rfl rfl (Quiet.guardT rfl rfl fun g39 p39 => Q.move rfl) ?_
  refine XT.q rfl rfl (Quiet.guardT rfl rfl fun g40 p40 => Q.eql (lzv rfl rfl) rfl) ?_
  refine XT.q rfl rfl (Q.and rfl (fun hp => lzv hp rfl)) ?_
  refine XT.q rfl rfl (Q.move rfl) ?_
  refine XT.q rfl rfl (Quiet.guardT rfl rfl fun g43 p43 => Q.move rfl) ?_
  refine XT.q rfl rfl (Quiet.guardT rfl rfl fun g44 p44 => Q.build [_, _] (.c 0 1 rfl rfl rfl (.c 1 1 rfl rfl rfl (.n _)))) ?_
  refine XT.q rfl rfl (Quiet.guardT rfl rfl fun g45 p45 => Q.build [_, _] (.c 0 1 rfl rfl rfl (.c 1 1 rfl rfl rfl (.n _)))) ?_
  refine XT.q rfl rfl (Quiet.guardT rfl rfl fun g46 p46 => Q.build [_, _] (.c 0 1 rfl rfl rfl (.c 1 1 rfl rfl rfl (.n _)))) ?_
  refine XT.litS [_, _, _, _, _, _] [_, _, _, _, _, _] [(⟨200, 9⟩ : PDraw), ⟨300, 6⟩, ⟨400, 1⟩] encDraw rfl rfl rfl rfl rfl (by rfl) (by rfl) rfl (by rfl) (by exact .c 0 2 (lzv rfl rfl) rfl rfl (.c 2 2 (lzv rfl rfl) rfl rfl (.c 4 2 (lzv rfl rfl) rfl rfl (.n _)))) (fun _ => rfl) (by rfl) rfl (by infer_instance) rfl (fun v47 h47 O47 => ⟨inferInstance, ?_⟩) XT.stop
  refine XT.callS rfl rfl rfl rfl rfl Try.call24 rfl (.c (lzv rfl rfl) (.c rfl .n)) rfl (equalD vo v47 ko h47 _ _) (fun v48 s48 R48 => ?_) XT.stop
  obtain ⟨rfl, rfl⟩ := R48
  dsimp only [List.cons_append, List.nil_append]
  refine ⟨inferInstance, ?_⟩
  refine XT.q rfl rfl (Q.and rfl (fun _ => rfl)) ?_
  refine XT.q rfl rfl (Q.move rfl) ?_
  refine XT.q rfl rfl (Quiet.guardT rfl rfl fun g51 p51 => Q.ldA [_, _] rfl rfl rfl) ?_
  refine XT.q rfl rfl (Quiet.guardT rfl rfl fun g52 p52 => Q.build [_, _] (.c 0 1 rfl rfl rfl (.c 1 1 rfl rfl rfl (.n _)))) ?_
  refine XT.q rfl rfl (Quiet.guardT rfl rfl fun g53 p53 => Q.eqlS (us := [_, _]) (vs := [_, _]) (lzv g53 rfl) (lzv g53 rfl) inferInstance (by kernel_rfl) (by kernel_rfl) (.c rfl inferInstance inferInstance rfl rfl (.c rfl inferInstance inferInstance rfl rfl .n))) ?_
  refine XT.q rfl rfl (Q.and rfl (fun hp => lzv hp rfl)) ?_
  refine XT.q rfl rfl (Q.move rfl) ?_
  refine XT.q rfl rfl (Quiet.guardT rfl rfl fun g56 p56 => Q.fieldAddr rfl) ?_
  refine XT.q rfl rfl (Quiet.guardT rfl rfl fun g57 p57 => Q.ld (lzv rfl rfl) rfl) ?_
  refine XT.litS [_, _, _] [_, _, _] [0, 0, -1] encI rfl rfl rfl rfl rfl (by rfl) (by rfl) rfl (by rfl) (by exact .c 0 1 rfl rfl rfl (.c 1 1 rfl rfl rfl (.c 2 1 rfl rfl rfl (.n _)))) (fun _ => rfl) (by rfl) rfl (by infer_instance) rfl (fun v58 h58 O58 => ⟨inferInstance, ?_⟩) XT.stop
  refine XT.callS rfl rfl rfl rfl rfl Try.call32 rfl (.c (lzv rfl rfl) (.c rfl .n)) rfl (equalI vW v58 kW h58 _ _) (fun v59 s59 R59 => ?_) XT.stop
  obtain ⟨rfl, rfl⟩ := R59
  dsimp only [List.cons_append, List.nil_append]
  refine ⟨inferInstance, ?_⟩
  refine XT.q rfl rfl (Q.and rfl (fun _ => rfl)) ?_
  refine XT.q rfl rfl (Q.move rfl) ?_
  refine XT.q rfl rfl (Quiet.guardT rfl rfl fun g62 p62 => Q.fieldAddr rfl) ?_
  refine XT.q rfl rfl (Quiet.guardT rfl rfl fun g63 p63 => Q.ld (lzv rfl rfl) rfl) ?_
  refine XT.q rfl rfl (Quiet.guardT rfl rfl fun g64 p64 => Q.eql (lzv rfl rfl) rfl) ?_
  refine XT.q rfl rfl (Q.and rfl (fun hp => lzv hp rfl)) ?_
  refine XT.q rfl rfl (Q.move rfl) ?_
  refine XT.q rfl rfl (Quiet.guardT rfl rfl fun g68 p68 => Q.ldA [_, _, _] rfl rfl rfl) ?_
  refine XT.callS rfl rfl rfl rfl rfl Try.call31 rfl (.n) rfl (task_spec) (fun v67 s67 R67 => ?_) XT.stop
  obtain ⟨vl2, vr2, kl2, K2, kr2, l2, rfl, rfl, Ol2, Jl2, el2, Or2⟩ := R67
  dsimp only [List.cons_append, List.nil_append]
  refine ⟨inferInstance, ?_⟩
  refine XT.callS rfl rfl rfl rfl rfl Try.call13 rfl (.c rfl (.c (lzv rfl rfl) .n)) rfl (Verify_spec l2 vl2 kl2 K2 Jl2 taskX.racks vr2 kr2 ⟨1, 10⟩ [0, 0, -1] vW kW 10 p vP kP) (fun v69 s69 R69 => ?_) XT.stop
  obtain ⟨rfl, rfl⟩ := R69
  dsimp only [List.cons_append, List.nil_append]
  refine ⟨inferInstance, ?_⟩
  rw [show (⟨l2.map Prod.snd, taskX.racks, ⟨1, 10⟩⟩ : PTask) = taskX by rw [el2]; rfl, tv]
  refine XT.q rfl rfl (Quiet.guardT rfl rfl fun g70 p70 => Q.eql rfl rfl) ?_
  refine XT.q rfl rfl (Q.and rfl (fun hp => lzv hp rfl)) ?_
  refine XT.q rfl rfl (Q.assign rfl) ?_
  refine XT.done ?_
  refine XK.rt [] Try.func11 Try.results11 (.t rfl .n) ?_
  exact ⟨rfl, rfl⟩
end Go.X
