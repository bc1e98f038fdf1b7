/- A part of the proof: a small program logic, plain laws and contracts of functions, each proved by a walk through its operations. No condition but those that stand in each theorem. -/
import Derived.Test.YtbeieafhcephmaaGreatA5
set_option linter.unusedSimpArgs false
set_option linter.unusedVariables false
set_option maxRecDepth 20000
namespace Go.X
open Go.Proofs
def RUp (d : KDay) (base vals : List Int) (h e m : Int) : Prop := ∀ (h' : Nat) (e' m' : Int), h' ≤ d.hours.length → StateOk d e' m' → ((h' : Int) < h ∨ ((h' : Int) = h ∧ (e' < e ∨ (e' = e ∧ m' < m)))) → rightAt d base vals h' e' m' = true
theorem RUp.start {d : KDay} {base vals : List Int} : RUp d base vals 0 0 0 := fun h' e' m' hh s hb => by
  have := s.e0; have := s.m0
  omega
theorem RUp.nextE {d : KDay} {base vals : List Int} {h e : Int} (f : RUp d base vals h e (d.most + 1)) : RUp d base vals h (e + 1) 0 := fun h' e' m' hh s hb => f h' e' m' hh s (by
  have := s.m0; have := s.m1
  omega)
theorem RUp.nextH {d : KDay} {base vals : List Int} {h : Int} (f : RUp d base vals h (d.store.full + 1) 0) : RUp d base vals (h + 1) 0 0 := fun h' e' m' hh s hb => f h' e' m' hh s (by
  have := s.e0; have := s.e1; have := s.m0
  omega)
theorem RUp.put {d : KDay} {base vals : List Int} {hour : Nat} {e m : Int} (f : RUp d base vals hour e m) (r : rightAt d base vals hour e m = true) : RUp d base vals hour e (m + 1) := fun h' e' m' hh' s' hb => by
  by_cases he : h' = hour ∧ e' = e ∧ m' = m
  · obtain ⟨rfl, rfl, rfl⟩ := he; exact r
  · exact f h' e' m' hh' s' (by omega)
theorem wild_no {x : Int} (h : ¬ ¬ (-1000000000000000 ≤ x ∧ x ≤ 1000000000000000)) : wild x = false := by
  unfold wild
  rw [Bool.or_eq_false_iff, decide_eq_false_iff_not, decide_eq_false_iff_not]; omega
theorem wild_yes {vals : List Int} {i : Nat} (hi : i < vals.length) (h : ¬ (-1000000000000000 ≤ vals.getD i default ∧ vals.getD i default ≤ 1000000000000000)) {d : KDay} {base : List Int} : ¬ RightP d base vals := fun r => h (wild_at r.rng i)
theorem right_end {d : KDay} {base vals : List Int} {i : Nat} {e m : Int} (hi : i = d.hours.length) : rightAt d base vals i e m = true ↔ ¬ (d.store.fin ≤ e ∧ d.peak * m < atV d vals i e m) := by
  rw [rightAt, if_pos hi, Bool.or_eq_true, decide_eq_true_eq, decide_eq_true_eq]
  omega
set_option maxHeartbeats 2000000 in
theorem rright_spec (d : KDay) (vh vj : Value) (hh hj : PHeap) [ih : Arr vh encHour 6 hh d.hours] [ij : Arr vj encJob 4 hj d.jobs] (s : List Int) (vs : Value) (hs_ : PHeap) [js : Arr vs encI 1 hs_ s] (vals : List Int) (vt : Value) (ht : PHeap) [jt : Arr vt encI 1 ht vals] (ok : DayOk d) (so : SOk d s) (vl : (vals.length : Int) = sizeK d) : Spec Tryz.prog 70 #[.agg #[vh, .int .i64 d.store.energy, .int .i64 d.store.full, .int .i64 d.store.power, .int .i64 d.store.fin, vj, .int .i64 d.most, .int .i64 d.peak], vs, vt] [] [hh, hj, hs_, ht] (fun v hs => v = .bool (rightB d (needsL d s) vals) ∧ hs = []) := by
  have lt := jt.le
  have lh := ih.le
  have sr := size_rng ok
  have pk0 := ok.p0
  have pk1 := ok.p1
  have s1 := ok.store.f0
  have s2 := ok.store.f1
  have s3 := ok.store.p0
  have s4 := ok.store.p1
  have s5 := ok.store.e0
  have s6 := ok.store.e1
  have h1 := ok.h1
  have h24 := ok.h2
  have m0 := ok.m0
  have m1 := ok.m1
  have j2 := ok.j2
  refine Spec.intro (fn := Tryz.f70) (N := 89) Tryz.func70 rfl Tryz.ntmps70 rfl fun B => ?_
  refine XK.seq ?_
  refine XK.region rfl ?_
  refine XO.box rfl fun b3 => ?_
  refine XO.q (Q.assign rfl) ?_
  refine XO.done ?_
  refine XK.seq ?_
  refine XK.seq ?_
  refine XK.region rfl ?_
  refine XO.q (Q.assign rfl) ?_
  refine XO.done ?_
  refine XK.block ?_
  refine XK.while (X := Nat) [6, 7, 14, 15, 16, 17, 18, 19, 20, 21, 22, 23, 24, 25] (fun i => [(7, some (.int .i64 (i : Nat)))]) (fun i => []) (fun i => i ≤ vals.length ∧ (vals.take i).any wild = false) (fun i => vals.length - i) (0) [] rfl ⟨by omega, rfl⟩ (.c rfl (.base 0 rfl rfl)) ?_
  rintro i ⟨hi, hw⟩ ih0
  dsimp only [List.cons_append, List.nil_append] at ih0 ⊢
  refine XK.seq ?_
  refine XK.seq ?_
  refine XK.region rfl ?_
  refine XO.q (Q.move rfl) ?_
  refine XO.q (Q.move rfl) ?_
  refine XO.len rfl fun l16 => ?_
  refine XO.q (Q.lss rfl rfl) ?_
  refine XO.done ?_
  refine XK.if rfl (fun c0 => ?_) (fun c0 => ?_)
  · have _t0 := True.intro
    have awt := any_takeS (p := wild) (show i < vals.length by omega)
    refine XK.skip ?_
    refine XK.seq ?_
    refine XK.block ?_
    refine XK.seq ?_
    refine XK.region rfl ?_
    refine XO.q (Q.move rfl) ?_
    refine XO.q (Q.move rfl) ?_
    refine XO.ix rfl rfl (by omega) (by omega) fun i22 => ?_
    refine XO.q (Q.ldE rfl (by first | assumption | omega) rfl) ?_
    refine XO.call Tryz.call47 rfl rfl rfl (rin_spec ((vals.getD i default)) (-1000000000000000) (1000000000000000)) fun v24 s24 R24 => ?_
    obtain ⟨rfl, rfl⟩ := R24
    dsimp only [List.cons_append, List.nil_append]
    refine XO.q (Q.not rfl) ?_
    refine XO.done ?_
    refine XK.if rfl (fun c1 => ?_) (fun c1 => ?_)
    · have _t1 := True.intro
      refine XK.seq ?_
      refine XK.region rfl ?_
      refine XO.q (Q.assign rfl) ?_
      refine XO.done ?_
      refine XK.rt [] Tryz.func70 Tryz.results70 (.t rfl .n) ?_
      exact ⟨by rw [rightB_of (b := false) ⟨fun h => (by cases h), fun r => absurd r (wild_yes (i := i) (by omega) c1)⟩], rfl⟩
    · have _t1 := True.intro
      refine XK.skip ?_
      refine XK.inBlock ?_
      refine XK.region rfl ?_
      refine XO.q (Q.move rfl) ?_
      refine XO.q (Q.add rfl rfl ⟨by omega, by omega⟩) ?_
      refine XO.q (Q.assign rfl) ?_
      refine XO.done ?_
      exact ih0 (i + 1) _ _ ⟨by omega, by rw [awt, hw, wild_no c1]; rfl⟩ (by first | omega | (dsimp only; omega)) (.c rfl (.base 28 rfl rfl)) inferInstance
  · have _t0 := True.intro
    rw [List.take_of_length_le (by omega)] at hw
    have wl := hw
    refine XK.exit rfl ?_
    refine XK.seq ?_
    refine XK.seq ?_
    refine XK.region rfl ?_
    refine XO.q (Q.assign rfl) ?_
    refine XO.done ?_
    refine XK.block ?_
    refine XK.while (X := Nat) [6, 8, 9, 10, 11, 12, 13, 26, 27, 28, 29, 30, 31, 32, 33, 34, 35, 36, 37, 38, 39, 40, 41, 42, 43, 44, 45, 46, 47, 48, 49, 50, 51, 52, 53, 54, 55, 56, 57, 58, 59, 60, 61, 62, 63, 64, 65, 66, 67, 68, 69, 70, 71, 72, 73, 74, 75, 76, 77, 78, 79, 80, 81, 82, 83, 84, 85, 86, 87, 88] (fun i => [(8, some (.int .i64 (i : Nat)))]) (fun i => []) (fun i => i ≤ d.hours.length + 1 ∧ RUp d (needsL d s) vals (i : Nat) 0 0) (fun i => d.hours.length + 1 - i) (0) [] rfl ⟨by omega, RUp.start⟩ (.c rfl (.base 0 rfl rfl)) ?_
    rintro i ⟨hi, ru⟩ ih1
    dsimp only [List.cons_append, List.nil_append] at ih1 ⊢
    refine XK.seq ?_
    refine XK.seq ?_
    refine XK.region rfl ?_
    refine XO.q (Q.move rfl) ?_
    refine XO.q (Q.fieldAddr rfl) ?_
    refine XO.q (Q.ld rfl rfl) ?_
    refine XO.len rfl fun l29 => ?_
    refine XO.q (Q.leq rfl rfl) ?_
    refine XO.done ?_
    refine XK.if rfl (fun c2 => ?_) (fun c2 => ?_)
    · have _t2 := True.intro
      refine XK.skip ?_
      refine XK.seq ?_
      refine XK.block ?_
      refine XK.seq ?_
      refine XK.region rfl ?_
      refine XO.q (Q.assign rfl) ?_
      refine XO.done ?_
      refine XK.block ?_
      refine XK.while (X := Int) [6, 9, 10, 11, 12, 13, 33, 34, 35, 36, 37, 38, 39, 40, 41, 42, 43, 44, 45, 46, 47, 48, 49, 50, 51, 52, 53, 54, 55, 56, 57, 58, 59, 60, 61, 62, 63, 64, 65, 66, 67, 68, 69, 70, 71, 72, 73, 74, 75, 76, 77, 78, 79, 80, 81, 82, 83, 84, 85, 86, 87, 88] (fun e => [(9, some (.int .i64 e))]) (fun e => []) (fun e => (0 ≤ e ∧ e ≤ d.store.full + 1) ∧ RUp d (needsL d s) vals (i : Nat) e 0) (fun e => (d.store.full + 1 - e).toNat) (0) [] rfl ⟨by omega, ru⟩ (.c rfl (.base 0 rfl rfl)) ?_
      rintro e ⟨er, ru⟩ ih2
      dsimp only [List.cons_append, List.nil_append] at ih2 ⊢
      refine XK.seq ?_
      refine XK.seq ?_
      refine XK.region rfl ?_
      refine XO.q (Q.move rfl) ?_
      refine XO.q (Q.fieldAddr rfl) ?_
      refine XO.q (Q.fieldAddr rfl) ?_
      refine XO.q (Q.ld rfl rfl) ?_
      refine XO.q (Q.leq rfl rfl) ?_
      refine XO.done ?_
      refine XK.if rfl (fun c3 => ?_) (fun c3 => ?_)
      · have _t3 := True.intro
        refine XK.skip ?_
        refine XK.seq ?_
        refine XK.block ?_
        refine XK.seq ?_
        refine XK.region rfl ?_
        refine XO.q (Q.assign rfl) ?_
        refine XO.done ?_
        refine XK.block ?_
        refine XK.while (X := Int) [6, 10, 11, 12, 13, 40, 41, 42, 43, 44, 45, 46, 47, 48, 49, 50, 51, 52, 53, 54, 55, 56, 57, 58, 59, 60, 61, 62, 63, 64, 65, 66, 67, 68, 69, 70, 71, 72, 73, 74, 75, 76, 77, 78, 79, 80, 81, 82, 83, 84, 85, 86, 87, 88] (fun m => [(10, some (.int .i64 m))]) (fun m => []) (fun m => (0 ≤ m ∧ m ≤ d.most + 1) ∧ RUp d (needsL d s) vals (i : Nat) e m) (fun m => (d.most + 1 - m).toNat) (0) [] rfl ⟨by omega, ru⟩ (.c rfl (.base 0 rfl rfl)) ?_
        rintro m ⟨mr, ru⟩ ih3
        dsimp only [List.cons_append, List.nil_append] at ih3 ⊢
        refine XK.seq ?_
        refine XK.seq ?_
        refine XK.region rfl ?_
        refine XO.q (Q.move rfl) ?_
        refine XO.q (Q.fieldAddr rfl) ?_
        refine XO.q (Q.ld rfl rfl) ?_
        refine XO.q (Q.leq rfl rfl) ?_
        refine XO.done ?_
        refine XK.if rfl (fun c4 => ?_) (fun c4 => ?_)
        · have _t4 := True.intro
          have st : StateOk d e m := ⟨by omega, by omega, by omega, by omega⟩
          have pp := mul_rng (a := d.peak) (b := m) (m := 1000) (n := 40) pk0 pk1 (by omega) (by omega) (by omega)
          have ar := at_rng st (show (0 : Int) ≤ i by omega) (by omega)
          have av : vals.getD (atK d (i : Int) e m).toNat default = (atV d vals i e m) := rfl
          have wv := wild_at wl (atK d (i : Int) e m).toNat
          rw [av] at wv
          refine XK.skip ?_
          refine XK.seq ?_
          refine XK.block ?_
          refine XK.seq ?_
          refine XK.region rfl ?_
          refine XO.q (Q.move rfl) ?_
          refine XO.q (Q.ldA [_, _, _, _, _, _, _, _] rfl rfl rfl) ?_
          refine XO.q (Q.move rfl) ?_
          refine XO.q (Q.move rfl) ?_
          refine XO.q (Q.move rfl) ?_
          refine XO.call Tryz.call63 rfl rfl rfl (rat_spec d vh vj hh hj ok (i : Nat) e m (by omega) (by omega) (by omega)) fun v51 s51 R51 => ?_
          obtain ⟨rfl, rfl⟩ := R51
          dsimp only [List.cons_append, List.nil_append]
          refine XO.ix rfl rfl (by omega) (by omega) fun i52 => ?_
          refine XO.q (Q.ldE rfl (by first | assumption | omega) rfl) ?_
          rw [av]
          refine XO.q (Q.assign rfl) ?_
          refine XO.done ?_
          refine XK.seq ?_
          refine XK.seq ?_
          refine XK.region rfl ?_
          refine XO.q (Q.move rfl) ?_
          refine XO.q (Q.fieldAddr rfl) ?_
          refine XO.q (Q.ld rfl rfl) ?_
          refine XO.len rfl fun l57 => ?_
          refine XO.q (Q.eql rfl rfl) ?_
          refine XO.done ?_
          refine XK.if rfl (fun c5 => ?_) (fun c5 => ?_)
          · have _t5 := True.intro
            have re := right_end (d := d) (base := needsL d s) (vals := vals) (e := e) (m := m) (show i = d.hours.length by omega)
            refine XK.seq ?_
            refine XK.seq ?_
            refine XK.region rfl ?_
            refine XO.q (Q.move rfl) ?_
            refine XO.q (Q.fieldAddr rfl) ?_
            refine XO.q (Q.fieldAddr rfl) ?_
            refine XO.q (Q.ld rfl rfl) ?_
            refine XO.q (Q.geq rfl rfl) ?_
            refine XO.q (Q.move rfl) ?_
            refine XO.q (Quiet.guardT rfl rfl fun g65 p65 => Q.move rfl) ?_
            refine XO.q (Quiet.guardT rfl rfl fun g66 p66 => Q.fieldAddr rfl) ?_
            refine XO.q (Quiet.guardT rfl rfl fun g67 p67 => Q.ld (lzv g67 rfl) rfl) ?_
            refine XO.q (Quiet.guardT rfl rfl fun g68 p68 => Q.move rfl) ?_
            refine XO.q (Quiet.guardT rfl rfl fun g69 p69 => Q.mul (lzv g69 rfl) (lzv g69 rfl) ⟨by omega, by omega⟩) ?_
            refine XO.q (Quiet.guardT rfl rfl fun g70 p70 => Q.gtr (lzv g70 rfl) (lzv g70 rfl)) ?_
            refine XO.q (Q.and rfl (fun hp => lzv hp rfl)) ?_
            refine XO.done ?_
            refine XK.if rfl (fun c6 => ?_) (fun c6 => ?_)
            · have _t6 := True.intro
              refine XK.seq ?_
              refine XK.region rfl ?_
              refine XO.q (Q.assign rfl) ?_
              refine XO.done ?_
              refine XK.rt [] Tryz.func70 Tryz.results70 (.t rfl .n) ?_
              exact ⟨by rw [rightB_of (b := false) ⟨fun h => (by cases h), fun r => absurd (re.1 (r.all i e m (by omega) st)) (by omega)⟩], rfl⟩
            · have _t6 := True.intro
              refine XK.skip ?_
              refine XK.exit rfl ?_
              refine XK.region rfl ?_
              refine XO.q (Q.move rfl) ?_
              refine XO.q (Q.add rfl rfl ⟨by omega, by omega⟩) ?_
              refine XO.q (Q.assign rfl) ?_
              refine XO.done ?_
              exact ih3 (m + 1) _ _ ⟨by omega, ru.put (re.2 (by omega))⟩ (by first | omega | (dsimp only; omega)) (.c rfl (.base 89 rfl rfl)) inferInstance
          · have _t5 := True.intro
            have re := ls_right ok (base := needsL d s) (vals := vals) (show i < d.hours.length by omega) st (by rw [never_val]; exact wv.2)
            refine XK.skip ?_
            refine XK.seq ?_
            refine XK.region rfl ?_
            refine XO.q (Q.ldA [_, _, _, _, _, _, _, _] rfl rfl rfl) ?_
            refine XO.q (Q.move rfl) ?_
            refine XO.q (Q.move rfl) ?_
            refine XO.q (Q.move rfl) ?_
            refine XO.q (Q.move rfl) ?_
            refine XO.q (Q.move rfl) ?_
            refine XO.call Tryz.call64 rfl rfl rfl (rleast_spec d vh vj hh hj s vs hs_ vals vt ht ok so vl i (by omega) e m st (fun e' m' _ => wild_at wl _)) fun v79 s79 R79 => ?_
            obtain ⟨rfl, rfl⟩ := R79
            dsimp only [List.cons_append, List.nil_append]
            refine XO.q (Q.move rfl) ?_
            refine XO.q (Q.extract rfl rfl) ?_
            refine XO.q (Q.extract rfl rfl) ?_
            refine XO.q (Q.assign rfl) ?_
            refine XO.q (Q.assign rfl) ?_
            refine XO.done ?_
            refine XK.seq ?_
            refine XK.region rfl ?_
            refine XO.q (Q.move rfl) ?_
            refine XO.q (Q.move rfl) ?_
            refine XO.q (Q.gtr rfl rfl) ?_
            refine XO.q (Q.move rfl) ?_
            refine XO.q (Quiet.guardT rfl rfl fun g86 p86 => Q.move rfl) ?_
            refine XO.q (Quiet.guardT rfl rfl fun g87 p87 => Q.lss (lzv g87 rfl) rfl) ?_
            refine XO.q (Q.and rfl (fun hp => lzv hp rfl)) ?_
            refine XO.done ?_
            refine XK.if rfl (fun c7 => ?_) (fun c7 => ?_)
            · have _t7 := True.intro
              refine XK.seq ?_
              refine XK.region rfl ?_
              refine XO.q (Q.assign rfl) ?_
              refine XO.done ?_
              refine XK.rt [] Tryz.func70 Tryz.results70 (.t rfl .n) ?_
              exact ⟨by rw [rightB_of (b := false) ⟨fun h => (by cases h), fun r => absurd (re.1 (r.all i e m (by omega) st)) (by rw [never_val]; omega)⟩], rfl⟩
            · have _t7 := True.intro
              refine XK.skip ?_
              refine XK.inBlock ?_
              refine XK.region rfl ?_
              refine XO.q (Q.move rfl) ?_
              refine XO.q (Q.add rfl rfl ⟨by omega, by omega⟩) ?_
              refine XO.q (Q.assign rfl) ?_
              refine XO.done ?_
              exact ih3 (m + 1) _ _ ⟨by omega, ru.put (re.2 (by rw [never_val]; omega))⟩ (by first | omega | (dsimp only; omega)) (.c rfl (.base 95 rfl rfl)) inferInstance
        · have _t4 := True.intro
          obtain rfl : m = d.most + 1 := by omega
          refine XK.exit rfl ?_
          refine XK.inBlock ?_
          refine XK.region rfl ?_
          refine XO.q (Q.move rfl) ?_
          refine XO.q (Q.add rfl rfl ⟨by omega, by omega⟩) ?_
          refine XO.q (Q.assign rfl) ?_
          refine XO.done ?_
          exact ih2 (e + 1) _ _ ⟨by omega, ru.nextE⟩ (by first | omega | (dsimp only; omega)) (.c rfl (.base 131 rfl rfl)) inferInstance
      · have _t3 := True.intro
        obtain rfl : e = d.store.full + 1 := by omega
        refine XK.exit rfl ?_
        refine XK.inBlock ?_
        refine XK.region rfl ?_
        refine XO.q (Q.move rfl) ?_
        refine XO.q (Q.add rfl rfl ⟨by omega, by omega⟩) ?_
        refine XO.q (Q.assign rfl) ?_
        refine XO.done ?_
        exact ih1 (i + 1) _ _ ⟨by omega, ru.nextH⟩ (by first | omega | (dsimp only; omega)) (.c rfl (.base 148 rfl rfl)) inferInstance
    · have _t2 := True.intro
      have hih : i = d.hours.length + 1 := by omega
      refine XK.exit rfl ?_
      refine XK.seq ?_
      refine XK.region rfl ?_
      refine XO.q (Q.assign rfl) ?_
      refine XO.done ?_
      refine XK.rt [] Tryz.func70 Tryz.results70 (.t rfl .n) ?_
      exact ⟨by rw [rightB_of (b := true) ⟨fun _ => ⟨wl, fun h e m hh s => ru h e m hh s (.inl (by omega))⟩, fun _ => rfl⟩], rfl⟩
end Go.X

set_option linter.unusedSimpArgs false
set_option linter.unusedVariables false
set_option maxRecDepth 20000
namespace Go.X
open Go.Proofs
theorem verify_one {d : KDay} {p : KPlan} {proof : List (List Int)} (h0 : ¬ (formG d p).2 ≠ 0) (h : (proof.length : Int) ≠ ((startsL d).length : Int)) : verifyG d p proof = 1 := by rw [verifyG, if_neg h0, if_pos h]
theorem verify_two {d : KDay} {p : KPlan} {proof : List (List Int)} (h0 : ¬ (formG d p).2 ≠ 0) (h : ¬ (proof.length : Int) ≠ ((startsL d).length : Int)) {i : Nat} (hi : i < (startsL d).length) (hb : ¬ ((proof.getD i default).length : Int) = sizeK d) : verifyG d p proof = 1 := by
  rw [verifyG, if_neg h0, if_neg h, if_pos (fun ha => hb (of_decide_eq_true (allTo_iff.1 ha i hi)))]
theorem verify_rest {d : KDay} {p : KPlan} {proof : List (List Int)} (h0 : ¬ (formG d p).2 ≠ 0) (h : ¬ (proof.length : Int) ≠ ((startsL d).length : Int)) (hb : ∀ i, i < (startsL d).length → ((proof.getD i default).length : Int) = sizeK d) : verifyG d p proof = if costL d (formG d p).1 p.charge ≠ p.cost ∨ anyTo (fun i => badTab d p (proof.getD i default) ((startsL d).getD i default)) (startsL d).length = true then 7 else 0 := by
  rw [verifyG, if_neg h0, if_neg h, if_neg (fun hn => hn (allTo_allK fun i hi => decide_eq_true (hb i hi)))]
set_option maxHeartbeats 4000000 in
theorem rVerify_spec (d : KDay) (vh vj : Value) (hh hj : PHeap) [ih : Arr vh encHour 6 hh d.hours] [ij : Arr vj encJob 4 hj d.jobs] (p : KPlan) (vs vc : Value) (hs_ hc : PHeap) [js : Arr vs encI 1 hs_ p.starts] [jc : Arr vc encI 1 hc p.charge] (vp : Value) (hp KP : PHeap) (pus : List Value) (proof : List (List Int)) [jp : Arr vp encV 1 hp pus] (rp : RowsK pus KP proof) : Spec Tryz.prog 27 #[.agg #[vh, .int .i64 d.store.energy, .int .i64 d.store.full, .int .i64 d.store.power, .int .i64 d.store.fin, vj, .int .i64 d.most, .int .i64 d.peak], .agg #[vs, vc, .int .i64 p.cost], vp] [] [hh, hj, hs_, hc, hp, KP] (fun v hs => v = .int .i64 (verifyG d p proof) ∧ hs = []) := by
  have lp := jp.le
  have lh := ih.le
  have rpl := rp.1
  refine Spec.intro (fn := Tryz.f27) (N := 82) Tryz.func27 rfl Tryz.ntmps27 rfl fun B => ?_
  refine XK.seq ?_
  refine XK.region rfl ?_
  refine XO.box rfl fun b3 => ?_
  refine XO.box rfl fun b4 => ?_
  refine XO.q (Q.assign rfl) ?_
  refine XO.done ?_
  refine XK.seq ?_
  refine XK.region rfl ?_
  refine XO.q (Q.ldA [_, _, _, _, _, _, _, _] rfl rfl rfl) ?_
  refine XO.q (Q.ldA [_, _, _] rfl rfl rfl) ?_
  refine XO.call Tryz.call16 rfl rfl rfl (rCost_spec d vh vj hh hj p vs vc hs_ hc) fun v15 s15 R15 => ?_
  obtain ⟨rfl, rfl⟩ := R15
  dsimp only [List.cons_append, List.nil_append]
  rw [cost_err]
  refine XO.q (Q.move rfl) ?_
  refine XO.q (Q.extract rfl rfl) ?_
  refine XO.q (Q.extract rfl rfl) ?_
  refine XO.q (Q.assign rfl) ?_
  refine XO.q (Q.assign rfl) ?_
  refine XO.done ?_
  refine XK.seq ?_
  refine XK.seq ?_
  refine XK.region rfl ?_
  refine XO.q (Q.move rfl) ?_
  refine XO.q (Q.neq rfl rfl) ?_
  refine XO.done ?_
  refine XK.if rfl (fun c0 => ?_) (fun c0 => ?_)
  · have _t0 := True.intro
    refine XK.seq ?_
    refine XK.region rfl ?_
    refine XO.q (Q.move rfl) ?_
    refine XO.q (Q.assign rfl) ?_
    refine XO.done ?_
    refine XK.rt [] Tryz.func27 Tryz.results27 (.t rfl .n) ?_
    exact ⟨by rw [verifyG, if_pos c0], rfl⟩
  · have _t0 := True.intro
    have hz := c0
    have f0 := Decidable.of_not_not c0
    have fy := form_needs f0
    obtain ⟨po, sm, ok, cl, st, cr⟩ := plan_rng fy
    have so := starts_ok sm
    have fg : formG d p = (needsL d p.starts, 0) := fy
    have s1 := ok.store.f0
    have s2 := ok.store.f1
    have s3 := ok.store.p0
    have s4 := ok.store.p1
    have s5 := ok.store.e0
    have s6 := ok.store.e1
    have h1 := ok.h1
    have h24 := ok.h2
    have m0 := ok.m0
    have m1 := ok.m1
    have j2 := ok.j2
    have pk0 := ok.p0
    have pk1 := ok.p1
    have cgy := cost_yes fy
    have cgy : costG d p = (costL d (needsL d p.starts) p.charge, 0) := cgy
    rw [fg, cgy]
    dsimp only
    refine XK.skip ?_
    refine XK.seq ?_
    refine XK.region rfl ?_
    refine XO.q (Q.ldA [_, _, _, _, _, _, _, _] rfl rfl rfl) ?_
    refine XO.call Tryz.call49 rfl rfl rfl (rstarts0_spec d vh vj hh hj ok) fun v22 s22 R22 => ?_
    obtain ⟨ho, us, K, rfl, OO, RO⟩ := R22
    dsimp only [List.cons_append, List.nil_append]
    have RL := RO.1
    refine XO.q (Q.assign rfl) ?_
    refine XO.done ?_
    refine XK.seq ?_
    refine XK.seq ?_
    refine XK.region rfl ?_
    refine XO.q (Q.move rfl) ?_
    refine XO.len rfl fun l24 => ?_
    refine XO.q (Q.move rfl) ?_
    refine XO.len rfl fun l26 => ?_
    refine XO.q (Q.neq rfl rfl) ?_
    refine XO.done ?_
    refine XK.if rfl (fun c1 => ?_) (fun c1 => ?_)
    · have _t1 := True.intro
      have v1 := verify_one (proof := proof) hz (by omega)
      refine XK.seq ?_
      refine XK.region rfl ?_
      refine XO.q (Q.assign rfl) ?_
      refine XO.done ?_
      refine XK.rt [] Tryz.func27 Tryz.results27 (.t rfl .n) ?_
      exact ⟨by rw [v1], rfl⟩
    · have _t1 := True.intro
      have hle : ¬ (proof.length : Int) ≠ ((startsL d).length : Int) := by omega
      refine XK.skip ?_
      refine XK.seq ?_
      refine XK.seq ?_
      refine XK.region rfl ?_
      refine XO.q (Q.assign rfl) ?_
      refine XO.done ?_
      refine XK.block ?_
      refine XK.while (X := Nat) [6, 10, 28, 29, 30, 31, 32, 33, 34, 35, 36, 37, 38, 39, 40, 41, 42, 43, 44, 45] (fun i => [(10, some (.int .i64 (i : Nat)))]) (fun i => []) (fun i => i ≤ us.length ∧ ∀ k, k < i → ((proof.getD k default).length : Int) = sizeK d) (fun i => us.length - i) (0) [] rfl ⟨by omega, fun k hk => by omega⟩ (.c rfl (.base 0 rfl rfl)) ?_
      rintro i ⟨hi, hb⟩ ih0
      dsimp only [List.cons_append, List.nil_append] at ih0 ⊢
      refine XK.seq ?_
      refine XK.seq ?_
      refine XK.region rfl ?_
      refine XO.q (Q.move rfl) ?_
      refine XO.q (Q.move rfl) ?_
      refine XO.len rfl fun l30 => ?_
      refine XO.q (Q.lss rfl rfl) ?_
      refine XO.done ?_
      refine XK.if rfl (fun c2 => ?_) (fun c2 => ?_)
      · have _t2 := True.intro
        have pi := rp.2 i (by omega)
        refine XK.skip ?_
        refine XK.seq ?_
        refine XK.block ?_
        refine XK.seq ?_
        refine XK.drawn [0, 1, 2, 3, 4, 5, 6, 7, 8, 9, 11] [b3] [ho, K] (.q 0 (.q 1 (.q 2 (.q 3 (.q 4 (.q 5 (.q 6 (.q 7 (.q 8 (.q 9 (.br 10 true (.q 11 .done) .stop))))))))))) Tryz.mixed rfl (by kernel_rfl) ?_
        refine XT.q rfl rfl (Q.move rfl) ?_
        refine XT.q rfl rfl (Q.move rfl) ?_
        refine XT.ix rfl rfl rfl rfl (by omega) (by omega) fun i36 => ?_
        refine XT.q rfl rfl (Q.ldE rfl (by first | assumption | omega) rfl) ?_
        refine XT.q rfl rfl (Q.len rfl) ?_
        refine XT.q rfl rfl (Q.ldA [_, _, _, _, _, _, _, _] rfl rfl rfl) ?_
        refine XT.q rfl rfl (Q.fieldAddr rfl) ?_
        refine XT.q rfl rfl (Q.ld rfl rfl) ?_
        refine XT.q rfl rfl (Q.len rfl) ?_
        refine XT.q rfl rfl (Q.add rfl rfl ⟨by omega, by omega⟩) ?_
        refine XT.call rfl rfl Tryz.call63 rfl rfl rfl (rat_spec d vh vj hh hj ok ((d.hours.length : Int) + 1) 0 0 (by omega) (by omega) (by omega)) (fun v44 s44 R44 => ?_) XT.stop
        obtain ⟨rfl, rfl⟩ := R44
        dsimp only [List.cons_append, List.nil_append]
        refine ⟨inferInstance, ?_⟩
        rw [show atK d ((d.hours.length : Int) + 1) 0 0 = sizeK d from rfl]
        refine XT.q rfl rfl (Q.neq rfl rfl) ?_
        refine XT.done ?_
        refine XK.if rfl (fun c3 => ?_) (fun c3 => ?_)
        · have _t3 := True.intro
          have v2 := verify_two (proof := proof) hz hle (i := i) (by omega) c3
          refine XK.seq ?_
          refine XK.region rfl ?_
          refine XO.q (Q.assign rfl) ?_
          refine XO.done ?_
          refine XK.rt [] Tryz.func27 Tryz.results27 (.t rfl .n) ?_
          exact ⟨by rw [v2], rfl⟩
        · have _t3 := True.intro
          have hbi := Decidable.of_not_not c3
          refine XK.skip ?_
          refine XK.inBlock ?_
          refine XK.region rfl ?_
          refine XO.q (Q.move rfl) ?_
          refine XO.q (Q.add rfl rfl ⟨by omega, by omega⟩) ?_
          refine XO.q (Q.assign rfl) ?_
          refine XO.done ?_
          exact ih0 (i + 1) _ _ ⟨by omega, fun k hk => by
            by_cases h : k < i
            · exact hb k h
            · rw [show k = i by omega]; exact hbi⟩ (by first | omega | (dsimp only; omega)) (.c rfl (.base 40 rfl rfl)) inferInstance
      · have _t2 := True.intro
        have hin : i = us.length := by omega
        have hsz : ∀ k, k < (startsL d).length → ((proof.getD k default).length : Int) = sizeK d := fun k hk => hb k (by omega)
        have vr := verify_rest hz hle hsz
        rw [fg] at vr
        dsimp only at vr
        refine XK.exit rfl ?_
        refine XK.seq ?_
        refine XK.seq ?_
        refine XK.region rfl ?_
        refine XO.q (Q.move rfl) ?_
        refine XO.q (Q.fieldAddr rfl) ?_
        refine XO.q (Q.ld rfl rfl) ?_
        refine XO.q (Q.neq rfl rfl) ?_
        refine XO.done ?_
        refine XK.if rfl (fun c4 => ?_) (fun c4 => ?_)
        · have _t4 := True.intro
          refine XK.seq ?_
          refine XK.region rfl ?_
          refine XO.q (Q.assign rfl) ?_
          refine XO.done ?_
          refine XK.rt [] Tryz.func27 Tryz.results27 (.t rfl .n) ?_
          exact ⟨by rw [vr, if_pos (.inl c4)], rfl⟩
        · have _t4 := True.intro
          have cq := Decidable.of_not_not c4
          refine XK.skip ?_
          refine XK.seq ?_
          refine XK.seq ?_
          refine XK.region rfl ?_
          refine XO.q (Q.assign rfl) ?_
          refine XO.done ?_
          refine XK.block ?_
          refine XK.while (X := Nat) [6, 11, 50, 51, 52, 53, 54, 55, 56, 57, 58, 59, 60, 61, 62, 63, 64, 65, 66, 67, 68, 69, 70, 71, 72, 73, 74, 75, 76, 77, 78, 79, 80, 81] (fun i => [(11, some (.int .i64 (i : Nat)))]) (fun i => []) (fun i => i ≤ us.length ∧ ∀ k, k < i → badTab d p (proof.getD k default) ((startsL d).getD k default) = false) (fun i => us.length - i) (0) [] rfl ⟨by omega, fun k hk => by omega⟩ (.c rfl (.base 0 rfl rfl)) ?_
          rintro i ⟨hi, hg⟩ ih1
          dsimp only [List.cons_append, List.nil_append] at ih1 ⊢
          refine XK.seq ?_
          refine XK.seq ?_
          refine XK.region rfl ?_
          refine XO.q (Q.move rfl) ?_
          refine XO.q (Q.move rfl) ?_
          refine XO.len rfl fun l52 => ?_
          refine XO.q (Q.lss rfl rfl) ?_
          refine XO.done ?_
          refine XK.if rfl (fun c5 => ?_) (fun c5 => ?_)
          · have _t5 := True.intro
            have ai := RO.2 i (by omega)
            have pi := rp.2 i (by omega)
            have smi := at_mem (d := d) (j := i) (by omega)
            have so2 := starts_ok smi
            have hsi := hsz i (by omega)
            have ar0 := at_rng (start_state ok) (show (0 : Int) ≤ 0 by omega) (show (0 : Int) ≤ d.hours.length by omega)
            have bt : badTab d p (proof.getD i default) ((startsL d).getD i default) = (!rightB d (needsL d ((startsL d).getD i default)) (proof.getD i default) || decide ((atV d (proof.getD i default) 0 d.store.energy 0) < p.cost)) := rfl
            have av : (proof.getD i default).getD (atK d 0 d.store.energy 0).toNat default = (atV d (proof.getD i default) 0 d.store.energy 0) := rfl
            refine XK.skip ?_
            refine XK.seq ?_
            refine XK.block ?_
            refine XK.seq ?_
            refine XK.drawn [0, 1, 2, 3, 4, 5, 6, 7, 8, 10, 11, 12, 13, 14, 15, 16, 17, 18, 19, 23, 21, 22, 24, 25] [b3] [ho, K] (.q 0 (.q 1 (.q 2 (.q 3 (.q 4 (.q 5 (.q 6 (.q 7 (.q 8 (.br 9 true (.q 10 (.q 11 (.q 12 (.q 13 (.q 14 (.q 15 (.q 16 (.q 17 (.q 18 (.q 19 (.q 23 (.br 20 true (.q 21 (.q 22 (.q 24 (.q 25 .done)))) .stop)))))))))))) .stop)))))))))) Tryz.mixed rfl (by kernel_rfl) ?_
            refine XT.q rfl rfl (Q.ldA [_, _, _, _, _, _, _, _] rfl rfl rfl) ?_
            refine XT.q rfl rfl (Q.move rfl) ?_
            refine XT.q rfl rfl (Q.move rfl) ?_
            refine XT.ix rfl rfl rfl rfl (by omega) (by omega) fun i59 => ?_
            refine XT.q rfl rfl (Q.ldE rfl (by first | assumption | omega) rfl) ?_
            refine XT.q rfl rfl (Q.move rfl) ?_
            refine XT.q rfl rfl (Q.move rfl) ?_
            refine XT.ix rfl rfl rfl rfl (by omega) (by omega) fun i63 => ?_
            refine XT.q rfl rfl (Q.ldE rfl (by first | assumption | omega) rfl) ?_
            refine XT.call rfl rfl Tryz.call70 rfl rfl rfl (rright_spec d vh vj hh hj ((startsL d).getD i default) (us.getD i default) K (proof.getD i default) (pus.getD i default) KP ok so2 (hsz i (by omega))) (fun v65 s65 R65 => ?_) XT.stop
            obtain ⟨rfl, rfl⟩ := R65
            dsimp only [List.cons_append, List.nil_append]
            refine ⟨inferInstance, ?_⟩
            refine XT.q rfl rfl (Q.not rfl) ?_
            refine XT.q rfl rfl (Q.move rfl) ?_
            refine XT.q rfl rfl (Quiet.guardF rfl rfl fun g68 p68 => Q.move rfl) ?_
            refine XT.q rfl rfl (Quiet.guardF rfl rfl fun g69 p69 => Q.move rfl) ?_
            refine XT.q rfl rfl (Quiet.guardF rfl rfl fun g70 p70 => Q.ix (lzv g70 rfl) (lzv g70 rfl) (by omega) (by omega)) ?_
            refine XT.q rfl rfl (Quiet.guardF rfl rfl fun g71 p71 => Q.ldE (lzv g71 rfl) (by first | assumption | omega) rfl) ?_
            refine XT.q rfl rfl (Quiet.guardF rfl rfl fun g72 p72 => Q.ldA [_, _, _, _, _, _, _, _] rfl rfl rfl) ?_
            refine XT.q rfl rfl (Quiet.guardF rfl rfl fun g73 p73 => Q.fieldAddr rfl) ?_
            refine XT.q rfl rfl (Quiet.guardF rfl rfl fun g74 p74 => Q.fieldAddr (lzv g74 rfl)) ?_
            refine XT.q rfl rfl (Quiet.guardF rfl rfl fun g75 p75 => Q.ld (lzv g75 rfl) rfl) ?_
            refine XT.q rfl rfl (Quiet.guardF rfl rfl fun g79 p79 => Q.move rfl) ?_
            refine XT.gcallF rfl rfl rfl rfl Tryz.call63 rfl (fun g76 => .c (lzv g76 rfl) (.c rfl (.c (lzv g76 rfl) (.c rfl .n)))) rfl (fun g76 p76 => rat_spec d vh vj hh hj ok 0 d.store.energy 0 (by omega) (by omega) (by omega)) ⟨inferInstance, ?_⟩ XT.stop
            refine XT.q rfl rfl (Quiet.guardF rfl rfl fun g77 p77 => Q.ix (lzv g77 rfl) (lzv g77 rfl) (by omega) (by omega)) ?_
            refine XT.q rfl rfl (Quiet.guardF rfl rfl fun g78 p78 => Q.ldE (lzv g78 rfl) (by first | assumption | omega) rfl) ?_
            refine XT.q rfl rfl (Quiet.guardF rfl rfl fun g80 p80 => Q.lss (lzv g80 rfl) (lzv g80 rfl)) ?_
            refine XT.q rfl rfl (Q.or rfl (fun hp => lzv hp rfl)) ?_
            refine XT.done ?_
            refine XK.if rfl (fun c6 => ?_) (fun c6 => ?_)
            · have _t6 := True.intro
              have hbt : badTab d p (proof.getD i default) ((startsL d).getD i default) = true := by rw [bt, ← cq]; simpa [atV] using c6
              refine XK.seq ?_
              refine XK.region rfl ?_
              refine XO.q (Q.assign rfl) ?_
              refine XO.done ?_
              refine XK.rt [] Tryz.func27 Tryz.results27 (.t rfl .n) ?_
              exact ⟨by rw [vr, if_pos (.inr (anyTo_iff.2 ⟨i, by omega, hbt⟩))], rfl⟩
            · have _t6 := True.intro
              have hbf : badTab d p (proof.getD i default) ((startsL d).getD i default) = false := by rw [bt, ← cq, Bool.eq_false_iff]; simpa [atV] using c6
              refine XK.skip ?_
              refine XK.inBlock ?_
              refine XK.region rfl ?_
              refine XO.q (Q.move rfl) ?_
              refine XO.q (Q.add rfl rfl ⟨by omega, by omega⟩) ?_
              refine XO.q (Q.assign rfl) ?_
              refine XO.done ?_
              exact ih1 (i + 1) _ _ ⟨by omega, fun k hk => by
                by_cases h : k < i
                · exact hg k h
                · rw [show k = i by omega]; exact hbf⟩ (by first | omega | (dsimp only; omega)) (.c rfl (.base 68 rfl rfl)) inferInstance
          · have _t5 := True.intro
            refine XK.exit rfl ?_
            refine XK.seq ?_
            refine XK.region rfl ?_
            refine XO.q (Q.assign rfl) ?_
            refine XO.done ?_
            refine XK.rt [] Tryz.func27 Tryz.results27 (.t rfl .n) ?_
            exact ⟨by rw [vr, if_neg (fun h => by
              rcases h with h | h
              · exact h cq
              · obtain ⟨k, hk, hkb⟩ := anyTo_iff.1 h
                rw [hg k (by omega)] at hkb; cases hkb)], rfl⟩
end Go.X

set_option linter.unusedSimpArgs false
set_option linter.unusedVariables false
set_option maxRecDepth 20000
namespace Go.X
open Go.Proofs
set_option maxHeartbeats 4000000 in
theorem rLedger_spec (d : KDay) (vh vj : Value) (hh hj : PHeap) [ih : Arr vh encHour 6 hh d.hours] [ij : Arr vj encJob 4 hj d.jobs] (p : KPlan) (vs vc : Value) (hs_ hc : PHeap) [js : Arr vs encI 1 hs_ p.starts] [jc : Arr vc encI 1 hc p.charge] : Spec Tryz.prog 18 #[.agg #[vh, .int .i64 d.store.energy, .int .i64 d.store.full, .int .i64 d.store.power, .int .i64 d.store.fin, vj, .int .i64 d.most, .int .i64 d.peak], .agg #[vs, vc, .int .i64 p.cost]] [] [hh, hj, hs_, hc] (fun v hs => ∃ vo ho, v = .tuple #[vo, .agg #[.int .i64 (ledgerG d p).2.1.bought, .int .i64 (ledgerG d p).2.1.sold, .int .i64 (ledgerG d p).2.1.made, .int .i64 (ledgerG d p).2.1.used, .int .i64 (ledgerG d p).2.1.stored, .int .i64 (ledgerG d p).2.1.carbon, .int .i64 (ledgerG d p).2.1.water], .int .i64 (ledgerG d p).2.2] ∧ hs = [ho] ∧ OArr vo encRow 7 72 ho (ledgerG d p).1) := by
  have lh := ih.le
  have lc := jc.le
  have nR : OArr (.slice none 0 0) encRow 7 72 emp ([] : List KRow) := OArr.nil (fun _ => rfl)
  refine Spec.intro (fn := Tryz.f18) (N := 115) Tryz.func18 rfl Tryz.ntmps18 rfl fun B => ?_
  refine XK.seq ?_
  refine XK.region rfl ?_
  refine XO.box rfl fun b2 => ?_
  refine XO.box rfl fun b3 => ?_
  refine XO.q (Q.assign rfl) ?_
  refine XO.alloc fun b5 => ?_
  refine XO.q (Q.assign rfl) ?_
  refine XO.done ?_
  refine XK.seq ?_
  refine XK.seq ?_
  refine XK.region rfl ?_
  refine XO.q (Q.ldA [_, _, _, _, _, _, _, _] rfl rfl rfl) ?_
  refine XO.q (Q.ldA [_, _, _] rfl rfl rfl) ?_
  refine XO.call Tryz.call53 rfl rfl rfl (rForm_spec d vh vj hh hj p vs vc hs_ hc) fun v16 s16 R16 => ?_
  obtain ⟨rfl, rfl⟩ := R16
  dsimp only [List.cons_append, List.nil_append]
  refine XO.q (Q.assign rfl) ?_
  refine XO.done ?_
  refine XK.seq ?_
  refine XK.region rfl ?_
  refine XO.q (Q.move rfl) ?_
  refine XO.q (Q.neq rfl rfl) ?_
  refine XO.done ?_
  refine XK.if rfl (fun c0 => ?_) (fun c0 => ?_)
  · have _t0 := True.intro
    refine XK.seq ?_
    refine XK.region rfl ?_
    refine XO.q (Q.build [_, _, _, _, _, _, _] (.n _)) ?_
    refine XO.q (Q.move rfl) ?_
    refine XO.q (Q.assign rfl) ?_
    refine XO.st rfl rfl rfl ?_
    refine XO.q (Q.assign rfl) ?_
    refine XO.done ?_
    refine XK.rt [emp] Tryz.func18 Tryz.results18 (.t rfl (.cell [_, _, _, _, _, _, _] rfl rfl rfl (.t rfl .n))) ?_
    rw [ledgerG, if_pos c0]
    exact ⟨.slice none 0 0, emp, rfl, rfl, nR⟩
  · have _t0 := True.intro
    have f0 := Decidable.of_not_not c0
    have fy := form_needs f0
    obtain ⟨po, sm, ok, cl, st, cr⟩ := plan_rng fy
    have so := starts_ok sm
    have fg : formG d p = (needsL d p.starts, 0) := fy
    have s1 := ok.store.f0
    have s2 := ok.store.f1
    have s3 := ok.store.p0
    have s4 := ok.store.p1
    have s5 := ok.store.e0
    have s6 := ok.store.e1
    have h1 := ok.h1
    have h24 := ok.h2
    have m0 := ok.m0
    have m1 := ok.m1
    have j2 := ok.j2
    have pk0 := ok.p0
    have pk1 := ok.p1
    have sr := sumRow_rng (n := d.hours.length) (f := (rowA d p.starts p.charge)) (fun i hi => by have q := row_small f0 hi; rw [fg] at q; exact q)
    have sz : sumRow (rowA d p.starts p.charge) 0 = ⟨0, 0, 0, 0, 0, 0, 0⟩ := rfl
    refine XK.skip ?_
    refine XK.seq ?_
    refine XK.region rfl ?_
    refine XO.q (Q.assign rfl) ?_
    refine XO.done ?_
    refine XK.seq ?_
    refine XK.region rfl ?_
    refine XO.alloc fun b9 => ?_
    refine XO.done ?_
    refine XK.seq ?_
    refine XK.seq ?_
    refine XK.region rfl ?_
    refine XO.q (Q.assign rfl) ?_
    refine XO.done ?_
    refine XK.block ?_
    refine XK.while (X := Nat × Value × PHeap) [8, 10, 11, 12, 13, 21, 22, 23, 24, 25, 26, 27, 28, 29, 30, 31, 32, 33, 34, 35, 36, 37, 38, 39, 40, 41, 42, 43, 44, 45, 46, 47, 48, 49, 50, 51, 52, 53, 54, 55, 56, 57, 58, 59, 60, 61, 62, 63, 64, 65, 66, 67, 68, 69, 70, 71, 72, 73, 74, 75, 76, 77, 78, 79, 80, 81, 82, 83, 84, 85, 86, 87, 88, 89, 90, 91, 92, 93, 94, 95, 96, 97, 98, 99, 100, 101, 102, 103, 104, 105, 106, 107, 108, 109, 110, 111, 112] (fun ⟨i, vo, ho⟩ => [(10, some (.int .i64 (i : Nat))), (8, some (vo))]) (fun ⟨i, vo, ho⟩ => [blk b9 [.int .i64 (sumRow (rowA d p.starts p.charge) i).bought, .int .i64 (sumRow (rowA d p.starts p.charge) i).sold, .int .i64 (sumRow (rowA d p.starts p.charge) i).made, .int .i64 (sumRow (rowA d p.starts p.charge) i).used, .int .i64 (sumRow (rowA d p.starts p.charge) i).stored, .int .i64 (sumRow (rowA d p.starts p.charge) i).carbon, .int .i64 (sumRow (rowA d p.starts p.charge) i).water] 72, ho]) (fun ⟨i, vo, ho⟩ => i ≤ d.hours.length ∧ OArr vo encRow 7 72 ho ((List.range i).map (rowA d p.starts p.charge))) (fun ⟨i, vo, ho⟩ => d.hours.length - i) (0, .slice none 0 0, emp) [blk b9 [.int .i64 0, .int .i64 0, .int .i64 0, .int .i64 0, .int .i64 0, .int .i64 0, .int .i64 0] 72, emp] rfl ⟨by omega, nR⟩ (.c rfl (.c rfl (.base 0 rfl rfl))) ?_
    rintro ⟨i, vo, ho⟩ ⟨hi, OL⟩ ih0
    dsimp only [List.cons_append, List.nil_append] at ih0 ⊢
    refine XK.seq ?_
    refine XK.seq ?_
    refine XK.region rfl ?_
    refine XO.q (Q.move rfl) ?_
    refine XO.q (Q.fieldAddr rfl) ?_
    refine XO.q (Q.ld rfl rfl) ?_
    refine XO.len rfl fun l24 => ?_
    refine XO.q (Q.lss rfl rfl) ?_
    refine XO.done ?_
    refine XK.if rfl (fun c1 => ?_) (fun c1 => ?_)
    · have _t1 := True.intro
      have rf := row_facts f0 (show i < d.hours.length by omega)
      rw [fg] at rf
      dsimp only at rf
      obtain ⟨rn, ru, rs, rc, rw_⟩ := rf
      have ue : usedAt d p.starts i d.jobs.length = (usedL d p.starts).getD i default := by rw [usedL, range_at (by omega)]
      obtain ⟨z1, z2, z3, z4, z5, z6, z7⟩ := sr i (by omega)
      have oi := okAt_iffK.1 (po.ok i (by omega))
      have hk := ok.hour i (by omega)
      have u0 := hk.u0
      have u1 := hk.u1
      refine XK.skip ?_
      refine XK.seq ?_
      refine XK.block ?_
      refine XK.seq ?_
      refine XK.region rfl ?_
      refine XO.q (Q.fieldAddr rfl) ?_
      refine XO.q (Q.ld rfl rfl) ?_
      refine XO.q (Q.move rfl) ?_
      refine XO.ix rfl rfl (by omega) (by omega) fun i31 => ?_
      refine XO.q (Q.ldEA [_, _, _, _, _, _] rfl (by first | assumption | omega) rfl rfl) ?_
      refine XO.alloc fun b11 => ?_
      refine XO.st rfl rfl rfl ?_
      refine XO.done ?_
      refine XK.seq ?_
      refine XK.drawn [0, 1, 2, 3, 4, 5, 6, 7, 8, 10] [b2, b3] [] (.q 0 (.q 1 (.q 2 (.q 3 (.q 4 (.q 5 (.q 6 (.q 7 (.q 8 (.br 9 true (.q 10 .done) .stop)))))))))) Tryz.mixed rfl (by kernel_rfl) ?_
      refine XT.q rfl rfl (Q.ldA [_, _, _, _, _, _, _, _] rfl rfl rfl) ?_
      refine XT.q rfl rfl (Q.fieldAddr rfl) ?_
      refine XT.q rfl rfl (Q.ld rfl rfl) ?_
      refine XT.q rfl rfl (Q.move rfl) ?_
      refine XT.q rfl rfl (Q.fieldAddr rfl) ?_
      refine XT.q rfl rfl (Q.ld rfl rfl) ?_
      refine XT.q rfl rfl (Q.move rfl) ?_
      refine XT.ix rfl rfl rfl rfl (by omega) (by omega) fun i40 => ?_
      refine XT.q rfl rfl (Q.ldE rfl (by first | assumption | omega) rfl) ?_
      refine XT.call rfl rfl Tryz.call54 rfl rfl rfl (rneed_spec d vh vj hh hj p.starts vs hs_ ok so i (by omega) (p.charge.getD i default) (by omega) (by omega)) (fun v42 s42 R42 => ?_) XT.stop
      obtain ⟨rfl, rfl⟩ := R42
      dsimp only [List.cons_append, List.nil_append]
      refine ⟨inferInstance, ?_⟩
      refine XT.q rfl rfl (Q.assign rfl) ?_
      refine XT.done ?_
      refine XK.seq ?_
      refine XK.meet (X := Nat) [13, 43, 44, 45, 46, 47, 48, 49, 50, 51, 52, 53, 54, 55, 56, 57, 58, 59, 60] (fun b13 => [(13, some (ptr b13 0))]) (fun b13 => [blk b13 [.int .i64 (max (((needsL d p.starts).getD i default) + (p.charge.getD i default)) 0), .int .i64 (max (-(((needsL d p.starts).getD i default) + (p.charge.getD i default))) 0), .int .i64 (d.hours.getD i default).sun, .int .i64 ((usedL d p.starts).getD i default), .int .i64 (p.charge.getD i default), .int .i64 0, .int .i64 0] 72]) (fun b13 => True) [] ?_ ?_
      · rintro b13 _
        dsimp only [List.cons_append, List.nil_append]
        refine XK.seq ?_
        refine XK.region rfl ?_
        refine XO.q (Q.fieldAddr rfl) ?_
        refine XO.q (Q.ld rfl rfl) ?_
        refine XO.q (Q.fieldAddr rfl) ?_
        refine XO.q (Q.ld rfl rfl) ?_
        refine XO.q (Q.mul rfl rfl ⟨by omega, by omega⟩) ?_
        refine XO.q (Q.fieldAddr rfl) ?_
        refine XO.st rfl rfl rfl ?_
        refine XO.done ?_
        refine XK.seq ?_
        refine XK.region rfl ?_
        refine XO.q (Q.fieldAddr rfl) ?_
        refine XO.q (Q.ld rfl rfl) ?_
        refine XO.q (Q.fieldAddr rfl) ?_
        refine XO.q (Q.ld rfl rfl) ?_
        refine XO.q (Q.mul rfl rfl ⟨by omega, by omega⟩) ?_
        refine XO.q (Q.fieldAddr rfl) ?_
        refine XO.st rfl rfl rfl ?_
        refine XO.done ?_
        refine XK.seq ?_
        refine XK.region rfl ?_
        refine XO.q (Q.move rfl) ?_
        refine XO.q (Q.ldA [_, _, _, _, _, _, _] rfl rfl rfl) ?_
        refine XO.lit [_, _, _, _, _, _, _] [_, _, _, _, _, _, _] [(rowA d p.starts p.charge) i] encRow (by rfl) (by rfl) rfl (by rfl) (by exact .c 0 7 rfl rfl rfl (.n _)) (fun _ => rfl) (by rfl) rfl (by infer_instance) rfl fun v75 h75 O75 => ?_
        refine XO.append rfl rfl rfl rfl (by simp only [List.length_cons, List.length_nil, rows_len]; omega) fun v76 h76 O76 => ?_
        refine XO.q (Q.assign rfl) ?_
        refine XO.done ?_
        refine XK.region rfl ?_
        refine XO.q (Q.fieldAddr rfl) ?_
        refine XO.q (Q.ld rfl rfl) ?_
        refine XO.q (Q.fieldAddr rfl) ?_
        refine XO.q (Q.ld rfl rfl) ?_
        refine XO.q (Q.add rfl rfl ⟨by omega, by omega⟩) ?_
        refine XO.q (Q.fieldAddr rfl) ?_
        refine XO.q (Q.ld rfl rfl) ?_
        refine XO.q (Q.fieldAddr rfl) ?_
        refine XO.q (Q.ld rfl rfl) ?_
        refine XO.q (Q.add rfl rfl ⟨by omega, by omega⟩) ?_
        refine XO.q (Q.fieldAddr rfl) ?_
        refine XO.q (Q.ld rfl rfl) ?_
        refine XO.q (Q.fieldAddr rfl) ?_
        refine XO.q (Q.ld rfl rfl) ?_
        refine XO.q (Q.add rfl rfl ⟨by omega, by omega⟩) ?_
        refine XO.q (Q.fieldAddr rfl) ?_
        refine XO.q (Q.ld rfl rfl) ?_
        refine XO.q (Q.fieldAddr rfl) ?_
        refine XO.q (Q.ld rfl rfl) ?_
        refine XO.q (Q.add rfl rfl ⟨by omega, by omega⟩) ?_
        refine XO.q (Q.fieldAddr rfl) ?_
        refine XO.q (Q.ld rfl rfl) ?_
        refine XO.q (Q.fieldAddr rfl) ?_
        refine XO.q (Q.ld rfl rfl) ?_
        refine XO.q (Q.add rfl rfl ⟨by omega, by omega⟩) ?_
        refine XO.q (Q.fieldAddr rfl) ?_
        refine XO.q (Q.ld rfl rfl) ?_
        refine XO.q (Q.fieldAddr rfl) ?_
        refine XO.q (Q.ld rfl rfl) ?_
        refine XO.q (Q.add rfl rfl ⟨by omega, by omega⟩) ?_
        refine XO.q (Q.fieldAddr rfl) ?_
        refine XO.q (Q.ld rfl rfl) ?_
        refine XO.q (Q.fieldAddr rfl) ?_
        refine XO.q (Q.ld rfl rfl) ?_
        refine XO.q (Q.add rfl rfl ⟨by omega, by omega⟩) ?_
        refine XO.q (Q.build [_, _, _, _, _, _, _] (.c 0 1 rfl rfl rfl (.c 1 1 rfl rfl rfl (.c 2 1 rfl rfl rfl (.c 3 1 rfl rfl rfl (.c 4 1 rfl rfl rfl (.c 5 1 rfl rfl rfl (.c 6 1 rfl rfl rfl (.n _))))))))) ?_
        refine XO.st rfl rfl rfl ?_
        refine XO.done ?_
        refine XK.inBlock ?_
        refine XK.region rfl ?_
        refine XO.q (Q.move rfl) ?_
        refine XO.q (Q.add rfl rfl ⟨by omega, by omega⟩) ?_
        refine XO.q (Q.assign rfl) ?_
        refine XO.done ?_
        rw [show (sumRow (rowA d p.starts p.charge) i).bought + (max (((needsL d p.starts).getD i default) + (p.charge.getD i default)) 0) = (sumRow (rowA d p.starts p.charge) (i + 1)).bought from rfl]
        rw [show (sumRow (rowA d p.starts p.charge) i).sold + (max (-(((needsL d p.starts).getD i default) + (p.charge.getD i default))) 0) = (sumRow (rowA d p.starts p.charge) (i + 1)).sold from rfl]
        rw [show (sumRow (rowA d p.starts p.charge) i).made + (d.hours.getD i default).sun = (sumRow (rowA d p.starts p.charge) (i + 1)).made from rfl]
        rw [show (sumRow (rowA d p.starts p.charge) i).used + ((usedL d p.starts).getD i default) = (sumRow (rowA d p.starts p.charge) (i + 1)).used from rfl]
        rw [show (sumRow (rowA d p.starts p.charge) i).stored + (p.charge.getD i default) = (sumRow (rowA d p.starts p.charge) (i + 1)).stored from rfl]
        rw [show (sumRow (rowA d p.starts p.charge) i).carbon + (max (((needsL d p.starts).getD i default) + (p.charge.getD i default)) 0 * (d.hours.getD i default).carbon) = (sumRow (rowA d p.starts p.charge) (i + 1)).carbon from rfl]
        rw [show (sumRow (rowA d p.starts p.charge) i).water + (((usedL d p.starts).getD i default) * (d.hours.getD i default).water) = (sumRow (rowA d p.starts p.charge) (i + 1)).water from rfl]
        exact ih0 (i + 1, v76, h76) _ _ ⟨by dsimp only; omega, by dsimp only; rw [List.range_succ, List.map_append]; exact O76⟩ (by first | omega | (dsimp only; omega)) (.c rfl (.c rfl (.base 197 rfl rfl))) inferInstance
      · intro mtr11
        dsimp only [List.cons_append, List.nil_append] at mtr11
        refine XK.drawn [0, 1, 2, 3, 4, 5, 6, 7, 8, 9, 10, 12, 13, 14, 15, 16, 17] [b11, b2, b3] [] (.q 0 (.q 1 (.q 2 (.q 3 (.q 4 (.q 5 (.q 6 (.q 7 (.q 8 (.q 9 (.q 10 (.q 12 (.q 13 (.q 14 (.q 15 (.q 16 (.br 11 true (.q 17 (.br 18 true (.br 19 false .done .stop) .stop)) (.br 18 true (.br 11 true (.q 17 (.br 19 false .done .stop)) .stop) .stop)))))))))))))))))) Tryz.mixed rfl (by kernel_rfl) ?_
        refine XT.q rfl rfl (Q.move rfl) ?_
        refine XT.q rfl rfl (Q.max rfl rfl) ?_
        refine XT.q rfl rfl (Q.move rfl) ?_
        refine XT.q rfl rfl (Q.neg rfl ⟨by omega, by omega⟩) ?_
        rw [show (0 : Int) - (((needsL d p.starts).getD i default) + (p.charge.getD i default)) = -(((needsL d p.starts).getD i default) + (p.charge.getD i default)) by omega]
        refine XT.q rfl rfl (Q.max rfl rfl) ?_
        refine XT.q rfl rfl (Q.fieldAddr rfl) ?_
        refine XT.q rfl rfl (Q.ld rfl rfl) ?_
        refine XT.q rfl rfl (Q.ldA [_, _, _, _, _, _, _, _] rfl rfl rfl) ?_
        refine XT.q rfl rfl (Q.fieldAddr rfl) ?_
        refine XT.q rfl rfl (Q.ld rfl rfl) ?_
        refine XT.q rfl rfl (Q.move rfl) ?_
        refine XT.q rfl rfl (Q.fieldAddr rfl) ?_
        refine XT.q rfl rfl (Q.ld rfl rfl) ?_
        refine XT.q rfl rfl (Q.move rfl) ?_
        refine XT.ix rfl rfl rfl rfl (by omega) (by omega) fun i58 => ?_
        refine XT.q rfl rfl (Q.ldE rfl (by first | assumption | omega) rfl) ?_
        refine XT.call rfl rfl Tryz.call58 rfl rfl rfl (rused_spec d vh vj hh hj p.starts vs hs_ ok so i (by omega)) (fun v54 s54 R54 => ?_) ?_
        · skip
          obtain ⟨rfl, rfl⟩ := R54
          dsimp only [List.cons_append, List.nil_append]
          refine ⟨inferInstance, ?_⟩
          rw [ue]
          refine XT.q rfl rfl (Q.build [_, _, _, _, _, _, _] (.c 0 1 rfl rfl rfl (.c 1 1 rfl rfl rfl (.c 2 1 rfl rfl rfl (.c 3 1 rfl rfl rfl (.c 4 1 rfl rfl rfl (.n _))))))) ?_
          refine XT.alloc rfl rfl (fun b13 => ⟨inferInstance, ?_⟩) XT.stop
          refine XT.st rfl rfl rfl rfl rfl ⟨inferInstance, ?_⟩ XT.stop
          refine XT.done ?_
          exact mtr11 (b13) _ _ trivial (.c rfl (.base 19 rfl rfl)) inferInstance
        · skip
          refine XT.alloc rfl rfl (fun b13 => ⟨inferInstance, ?_⟩) XT.stop
          refine XT.call rfl rfl Tryz.call58 rfl rfl rfl (rused_spec d vh vj hh hj p.starts vs hs_ ok so i (by omega)) (fun v54 s54 R54 => ?_) XT.stop
          obtain ⟨rfl, rfl⟩ := R54
          dsimp only [List.cons_append, List.nil_append]
          refine ⟨inferInstance, ?_⟩
          rw [ue]
          refine XT.q rfl rfl (Q.build [_, _, _, _, _, _, _] (.c 0 1 rfl rfl rfl (.c 1 1 rfl rfl rfl (.c 2 1 rfl rfl rfl (.c 3 1 rfl rfl rfl (.c 4 1 rfl rfl rfl (.n _))))))) ?_
          refine XT.st rfl rfl rfl rfl rfl ⟨inferInstance, ?_⟩ XT.stop
          refine XT.done ?_
          exact mtr11 (b13) _ _ trivial (.c rfl (.base 19 rfl rfl)) inferInstance
    · have _t1 := True.intro
      have hin : i = d.hours.length := by omega
      subst hin
      refine XK.exit rfl ?_
      refine XK.seq ?_
      refine XK.drawn [0, 1, 2, 4] [b9] [] (.q 0 (.q 1 (.q 2 (.br 3 true (.q 4 .done) .stop)))) Tryz.mixed rfl (by kernel_rfl) ?_
      refine XT.q rfl rfl (Q.move rfl) ?_
      refine XT.q rfl rfl (Q.ldA [_, _, _, _, _, _, _] rfl rfl rfl) ?_
      refine XT.q rfl rfl (Q.assign rfl) ?_
      refine XT.st rfl rfl rfl rfl rfl ⟨inferInstance, ?_⟩ XT.stop
      refine XT.q rfl rfl (Q.assign rfl) ?_
      refine XT.done ?_
      refine XK.rt [ho] Tryz.func18 Tryz.results18 (.t rfl (.cell [_, _, _, _, _, _, _] rfl rfl rfl (.t rfl .n))) ?_
      have lg : ledgerG d p = _ := led_yes fy
      rw [lg]
      exact ⟨vo, ho, rfl, rfl, OL⟩
end Go.X

set_option linter.unusedSimpArgs false
set_option linter.unusedVariables false
set_option maxRecDepth 20000
namespace Go.X
open Go.Proofs
/-- The index of the best list of starts so far. -/
def BestI (d : KDay) (i : Nat) (b : Int) : Prop := (b = -1 ∧ (bestTo d i).cost = never) ∨ ∃ j : Nat, b = (j : Int) ∧ j < i ∧ bestTo d i = ⟨(startsL d).getD j default, planL d (needsL d ((startsL d).getD j default)), firstV d j⟩ ∧ firstV d j < never
theorem BestI.rng {d : KDay} {i : Nat} {b : Int} (h : BestI d i b) : -1 ≤ b ∧ b < i := by
  rcases h with ⟨h, _⟩ | ⟨j, h, hj, _⟩ <;> omega
theorem BestI.yes {d : KDay} {i : Nat} {b : Int} (h : BestI d i b) (h1 : firstV d i < never) (h2 : b < 0 ∨ firstV d i < firstV d b.toNat) : BestI d (i + 1) i := by
  right
  refine ⟨i, rfl, by omega, ?_, h1⟩
  rw [bestTo]
  refine if_pos ?_
  rcases h with ⟨hb, hc⟩ | ⟨j, hb, hj, he, hl⟩
  · rw [hc]; exact h1
  · rw [he]
    subst hb
    rcases h2 with h2 | h2
    · omega
    · exact h2
theorem BestI.no {d : KDay} (ok : DayOk d) {i : Nat} {b : Int} (h : BestI d i b) (hn : ¬ (firstV d i < never ∧ (b < 0 ∨ firstV d i < firstV d b.toNat))) : BestI d (i + 1) b := by
  have e : bestTo d (i + 1) = bestTo d i := by
    rw [bestTo]
    refine if_neg fun hlt => ?_
    have hlt : firstV d i < (bestTo d i).cost := hlt
    rcases h with ⟨hb, hc⟩ | ⟨j, hb, hj, he, hl⟩
    · rw [hc] at hlt; exact hn ⟨hlt, .inl (by omega)⟩
    · rw [he] at hlt
      have hlt : firstV d i < firstV d j := hlt
      subst hb
      exact hn ⟨by omega, .inr hlt⟩
  rcases h with ⟨hb, hc⟩ | ⟨j, hb, hj, he, hl⟩
  · exact .inl ⟨hb, by rw [e]; exact hc⟩
  · exact .inr ⟨j, hb, by omega, by rw [e]; exact he, hl⟩
/-- One more hour of the plan: its charge is the first with the least of the row. -/
theorem plan_next {d : KDay} (ok : DayOk d) {base vals : List Int} (bo : BaseOk d base) (t : TabOk d base vals) (hv : valH d base 0 d.store.energy 0 < never) {i : Nat} (hi : i < d.hours.length) {c : Int}
    (hc : c = (lsF d (d.hours.getD i default) (base.getD i default) (planTo d base i).e (planTo d base i).m (fun e' m' => atV d vals ((i : Int) + 1) e' m') 21).2) :
    planTo d base (i + 1) = ⟨(planTo d base i).l ++ [c], (planTo d base i).e + c, max (planTo d base i).m (base.getD i default + c)⟩ ∧ -10 ≤ c ∧ c ≤ 10 := by
  have p := plan_to ok bo hv i (by omega)
  have lv := (ls_val ok hi p.st (fun e' m' s => t.val (i + 1) e' m' (by omega) s)).2 p.lt
  rw [← hc] at lv
  have e : planTo d base (i + 1) = ⟨(planTo d base i).l ++ [c], (planTo d base i).e + c, max (planTo d base i).m (base.getD i default + c)⟩ := by rw [planTo, lv]
  refine ⟨e, ?_⟩
  have p1 := plan_to ok bo hv (i + 1) (by omega)
  have o := okAt_iffK.1 (p1.ok i (by omega))
  rw [e] at o
  have pl := p.len
  have gl : ((planTo d base i).l ++ [c]).getD i default = c := by rw [snocK_at, pl, if_neg (by omega), if_pos rfl]
  dsimp only at o
  rw [gl] at o
  have := ok.store.p1
  omega
set_option maxHeartbeats 8000000 in
theorem rBest_spec (d : KDay) (vh vj : Value) (hh hj : PHeap) [ih : Arr vh encHour 6 hh d.hours] [ij : Arr vj encJob 4 hj d.jobs] : Spec Tryz.prog 22 #[.agg #[vh, .int .i64 d.store.energy, .int .i64 d.store.full, .int .i64 d.store.power, .int .i64 d.store.fin, vj, .int .i64 d.most, .int .i64 d.peak]] [] [hh, hj] (fun v hs => ∃ vs vc vp K kc kp pus KP tabs, v = .tuple #[.agg #[vs, vc, .int .i64 (bestG d).1.cost], vp, .int .i64 (bestG d).2] ∧ hs = [K, kc, kp, KP] ∧ One vs ∧ Arr vs encI 1 K (bestG d).1.starts ∧ OArr vc encI 1 3 kc (bestG d).1.charge ∧ OArr vp encV 1 32 kp pus ∧ RowsK pus KP tabs ∧ ((bestG d).2 = 0 → TabsOk d tabs) ∧ ((bestG d).2 ≠ 0 → tabs = [])) := by
  have lh := ih.le
  have nI : OArr (.slice none 0 0) encI 1 3 emp ([] : List Int) := OArr.nil (fun _ => rfl)
  have nA : Arr (.slice none 0 0) encI 1 emp ([] : List Int) := OArr.arr (s := nI)
  have nV : OArr (.slice none 0 0) encV 1 32 emp ([] : List Value) := OArr.nil (fun _ => rfl)
  refine Spec.intro (fn := Tryz.f22) (N := 139) Tryz.func22 rfl Tryz.ntmps22 rfl fun B => ?_
  refine XK.seq ?_
  refine XK.region rfl ?_
  refine XO.box rfl fun b1 => ?_
  refine XO.alloc fun b2 => ?_
  refine XO.q (Q.assign rfl) ?_
  refine XO.q (Q.assign rfl) ?_
  refine XO.done ?_
  refine XK.seq ?_
  refine XK.seq ?_
  refine XK.region rfl ?_
  refine XO.q (Q.ldA [_, _, _, _, _, _, _, _] rfl rfl rfl) ?_
  refine XO.call Tryz.call11 rfl rfl rfl (rCheck_spec d vh vj hh hj) fun v19 s19 R19 => ?_
  obtain ⟨rfl, rfl⟩ := R19
  dsimp only [List.cons_append, List.nil_append]
  refine XO.q (Q.assign rfl) ?_
  refine XO.done ?_
  refine XK.seq ?_
  refine XK.region rfl ?_
  refine XO.q (Q.move rfl) ?_
  refine XO.q (Q.neq rfl rfl) ?_
  refine XO.done ?_
  refine XK.if rfl (fun c0 => ?_) (fun c0 => ?_)
  · have _t0 := True.intro
    refine XK.seq ?_
    refine XK.region rfl ?_
    refine XO.q (Q.build [_, _, _] (.n _)) ?_
    refine XO.q (Q.move rfl) ?_
    refine XO.st rfl rfl rfl ?_
    refine XO.q (Q.assign rfl) ?_
    refine XO.q (Q.assign rfl) ?_
    refine XO.done ?_
    refine XK.rt [emp, emp, emp, emp] Tryz.func22 Tryz.results22 (.cell [_, _, _] rfl rfl rfl (.t rfl (.t rfl .n))) ?_
    have e : bestG d = (⟨[], [], 0⟩, kcheck d) := by rw [bestG, if_pos c0]
    rw [e]
    exact ⟨.slice none 0 0, .slice none 0 0, .slice none 0 0, emp, emp, emp, [], emp, [], rfl, rfl, inferInstance, nA, nI, nV, RowsK.nil, fun h => absurd h (by assumption), fun _ => rfl⟩
  · have _t0 := True.intro
    have ok := kcheck_iff.1 (Decidable.of_not_not c0)
    have s1 := ok.store.f0
    have s2 := ok.store.f1
    have s3 := ok.store.p0
    have s4 := ok.store.p1
    have s5 := ok.store.e0
    have s6 := ok.store.e1
    have h1 := ok.h1
    have h24 := ok.h2
    have m0 := ok.m0
    have m1 := ok.m1
    have j2 := ok.j2
    refine XK.skip ?_
    refine XK.seq ?_
    refine XK.region rfl ?_
    refine XO.q (Q.ldA [_, _, _, _, _, _, _, _] rfl rfl rfl) ?_
    refine XO.call Tryz.call49 rfl rfl rfl (rstarts0_spec d vh vj hh hj ok) fun v25 s25 R25 => ?_
    obtain ⟨ho_, us, K, rfl, OO, RO⟩ := R25
    dsimp only [List.cons_append, List.nil_append]
    have RL := RO.1
    refine XO.q (Q.assign rfl) ?_
    refine XO.done ?_
    refine XK.seq ?_
    refine XK.region rfl ?_
    refine XO.q (Q.assign rfl) ?_
    refine XO.done ?_
    refine XK.seq ?_
    refine XK.region rfl ?_
    refine XO.q (Q.assign rfl) ?_
    refine XO.done ?_
    refine XK.seq ?_
    refine XK.seq ?_
    refine XK.region rfl ?_
    refine XO.q (Q.assign rfl) ?_
    refine XO.done ?_
    refine XK.block ?_
    refine XK.while (X := Nat × Int × Value × PHeap × List Value × PHeap × List (List Int)) [7, 8, 9, 10, 26, 27, 28, 29, 30, 31, 32, 33, 34, 35, 36, 37, 38, 39, 40, 41, 42, 43, 44, 45, 46, 47, 48, 49, 50, 51, 52, 53, 54, 55, 56, 57, 58, 59, 60, 61, 62, 63, 64, 65, 66, 67, 68, 69, 70, 71, 72, 73, 74, 75] (fun ⟨i, b, vo, ho, ws, KP, tabs⟩ => [(9, some (.int .i64 (i : Nat))), (8, some (.int .i64 b)), (7, some (vo))]) (fun ⟨i, b, vo, ho, ws, KP, tabs⟩ => [ho, KP]) (fun ⟨i, b, vo, ho, ws, KP, tabs⟩ => (i ≤ us.length ∧ BestI d i b) ∧ OArr vo encV 1 32 ho ws ∧ RowsK ws KP tabs ∧ tabs.length = i ∧ ∀ j, j < i → TabOk d (needsL d ((startsL d).getD j default)) (tabs.getD j default)) (fun ⟨i, b, vo, ho, ws, KP, tabs⟩ => us.length - i) (0, -1, .slice none 0 0, emp, [], emp, []) [emp, emp] rfl ⟨⟨by omega, .inl ⟨rfl, rfl⟩⟩, nV, RowsK.nil, rfl, fun j hj_ => by (try dsimp only at hj_); omega⟩ (.c rfl (.c rfl (.c rfl (.base 0 rfl rfl)))) ?_
    rintro ⟨i, b, vo, ho, ws, KP, tabs⟩ ⟨⟨hi, bi⟩, OV, RP, htl, hT⟩ ih0
    dsimp only [List.cons_append, List.nil_append] at ih0 ⊢
    refine XK.seq ?_
    refine XK.seq ?_
    refine XK.region rfl ?_
    refine XO.q (Q.move rfl) ?_
    refine XO.q (Q.move rfl) ?_
    refine XO.len rfl fun l28 => ?_
    refine XO.q (Q.lss rfl rfl) ?_
    refine XO.done ?_
    refine XK.if rfl (fun c1 => ?_) (fun c1 => ?_)
    · have _t1 := True.intro
      have ai := RO.2 i (by omega)
      have smi := at_mem (d := d) (j := i) (by omega)
      have so := starts_ok smi
      have bir := bi.rng
      have so1 := starts_one ok
      have RPL := RP.1
      refine XK.skip ?_
      refine XK.seq ?_
      refine XK.block ?_
      refine XK.seq ?_
      refine XK.drawn [0, 1, 2, 3, 4, 5, 9] [b1] [ho_, K] (.q 0 (.q 1 (.q 2 (.q 3 (.q 4 (.q 5 (.br 6 true (.br 7 true (.br 8 true (.q 9 .done) .stop) .stop) .stop))))))) Tryz.mixed rfl (by kernel_rfl) ?_
      refine XT.q rfl rfl (Q.move rfl) ?_
      refine XT.q rfl rfl (Q.ldA [_, _, _, _, _, _, _, _] rfl rfl rfl) ?_
      refine XT.q rfl rfl (Q.move rfl) ?_
      refine XT.q rfl rfl (Q.move rfl) ?_
      refine XT.ix rfl rfl rfl rfl (by omega) (by omega) fun i36 => ?_
      refine XT.q rfl rfl (Q.ldE rfl (by first | assumption | omega) rfl) ?_
      refine XT.call rfl rfl Tryz.call62 rfl rfl rfl (rTable_spec d vh vj hh hj ((startsL d).getD i default) (us.getD i default) K ok so) (fun v38 s38 R38 => ?_) XT.stop
      obtain ⟨k38, vals, rfl, O38, tv⟩ := R38
      dsimp only [List.cons_append, List.nil_append]
      refine ⟨inferInstance, ?_⟩
      refine XT.lit [_] [_] [v38] encV rfl rfl (by rfl) (by rfl) rfl (by rfl) (by exact .c 0 1 rfl rfl rfl (.n _)) (fun _ => rfl) (by rfl) rfl (by infer_instance) rfl (fun v39 h39 O39 => ⟨inferInstance, ?_⟩) XT.stop
      refine XT.append rfl rfl rfl rfl rfl rfl (by simp only [List.length_cons, List.length_nil]; omega) (fun v40 h40 O40 => ⟨inferInstance, ?_⟩) XT.stop
      refine XT.q rfl rfl (Q.assign rfl) ?_
      refine XT.done ?_
      refine XK.seq ?_
      refine XK.region rfl ?_
      refine XO.cat KP k38 fun l1 l2 => ?_
      have RN := (RP.mono l1).snoc (Arr.le_heap (OArr.arr (s := O38)) l2)
      obtain ⟨T, eT⟩ : ∃ T, T = tabs ++ [vals] := ⟨_, rfl⟩
      obtain ⟨W, eW⟩ : ∃ T, T = ws ++ [v38] := ⟨_, rfl⟩
      rw [← eW] at O40
      have hT2 : ∀ j, j < i + 1 → TabOk d (needsL d ((startsL d).getD j default)) (T.getD j default) := fun j hj_ => by rw [eT]; exact tabs_snoc htl hT tv j hj_
      have Tl : T.length = i + 1 := by rw [eT, List.length_append, List.length_singleton, htl]
      rw [← eT, ← eW] at RN
      have RNL := RN.1
      have an := RN.2 i (by omega)
      have ab := RN.2 b.toNat (by omega)
      have ev : ∀ j, j < i + 1 → (T.getD j default).getD (atK d 0 d.store.energy 0).toNat default = firstV d j := fun j hj_ => (hT2 j hj_).val 0 d.store.energy 0 (by omega) (start_state ok)
      have evi := ev i (by omega)
      have evb := ev b.toNat (by omega)
      have ar0 := at_rng (start_state ok) (show (0 : Int) ≤ 0 by omega) (show (0 : Int) ≤ d.hours.length by omega)
      have tli := (hT2 i (by omega)).len
      have tlb := (hT2 b.toNat (by omega)).len
      clear eT eW
      refine XO.q (Q.ldA [_, _, _, _, _, _, _, _] rfl rfl rfl) ?_
      refine XO.q (Q.fieldAddr rfl) ?_
      refine XO.q (Q.fieldAddr rfl) ?_
      refine XO.q (Q.ld rfl rfl) ?_
      refine XO.call Tryz.call63 rfl rfl rfl (rat_spec d vh vj hh hj ok 0 d.store.energy 0 (by omega) (by omega) (by omega)) fun v45 s45 R45 => ?_
      obtain ⟨rfl, rfl⟩ := R45
      dsimp only [List.cons_append, List.nil_append]
      refine XO.q (Q.assign rfl) ?_
      refine XO.done ?_
      refine XK.seq ?_
      refine XK.drawn [0, 1, 2, 3, 4, 5, 6, 7, 8, 9, 10, 11, 12, 13, 14, 15, 16, 17, 18, 19, 20, 21, 22, 23, 24, 25, 26, 27, 28] [] [h40, cat KP k38] (.q 0 (.q 1 (.q 2 (.q 3 (.q 4 (.q 5 (.q 6 (.q 7 (.q 8 (.q 9 (.q 10 (.q 11 (.q 12 (.q 13 (.q 14 (.q 15 (.q 16 (.q 17 (.q 18 (.q 19 (.q 20 (.q 21 (.q 22 (.q 23 (.q 24 (.q 25 (.q 26 (.q 27 (.q 28 .done))))))))))))))))))))))))))))) Tryz.mixed rfl (by kernel_rfl) ?_
      refine XT.q rfl rfl (Q.move rfl) ?_
      refine XT.q rfl rfl (Q.move rfl) ?_
      refine XT.ix rfl rfl rfl rfl (by omega) (by omega) fun i48 => ?_
      refine XT.q rfl rfl (Q.ldE rfl (by first | assumption | omega) rfl) ?_
      refine XT.q rfl rfl (Q.move rfl) ?_
      refine XT.ix rfl rfl rfl rfl (by omega) (by omega) fun i51 => ?_
      refine XT.q rfl rfl (Q.ldE rfl (by first | assumption | omega) rfl) ?_
      rw [evi]
      refine XT.q rfl rfl (Q.lss rfl rfl) ?_
      refine XT.q rfl rfl (Q.move rfl) ?_
      refine XT.q rfl rfl (Quiet.guardT rfl rfl fun g55 p55 => Q.move rfl) ?_
      refine XT.q rfl rfl (Quiet.guardT rfl rfl fun g56 p56 => Q.lss (lzv g56 rfl) rfl) ?_
      refine XT.q rfl rfl (Quiet.guardT rfl rfl fun g57 p57 => Q.move (lzv g57 rfl)) ?_
      refine XT.q rfl rfl (Quiet.guard2 rfl rfl fun g58a g58b => have p58a := bpT g58a; have p58b := bpF g58b; Q.move rfl) ?_
      refine XT.q rfl rfl (Quiet.guard2 rfl rfl fun g59a g59b => have p59a := bpT g59a; have p59b := bpF g59b; Q.move rfl) ?_
      refine XT.q rfl rfl (Quiet.guard2 rfl rfl fun g60a g60b => have p60a := bpT g60a; have p60b := bpF g60b; Q.ix (lzv g60b (lzv g60a rfl)) (lzv g60b (lzv g60a rfl)) (by omega) (by omega)) ?_
      refine XT.q rfl rfl (Quiet.guard2 rfl rfl fun g61a g61b => have p61a := bpT g61a; have p61b := bpF g61b; Q.ldE (lzv g61b (lzv g61a rfl)) (by first | assumption | omega) rfl) ?_
      refine XT.q rfl rfl (Quiet.guard2 rfl rfl fun g62a g62b => have p62a := bpT g62a; have p62b := bpF g62b; Q.move rfl) ?_
      refine XT.q rfl rfl (Quiet.guard2 rfl rfl fun g63a g63b => have p63a := bpT g63a; have p63b := bpF g63b; Q.ix (lzv g63b (lzv g63a rfl)) (lzv g63b (lzv g63a rfl)) (by omega) (by omega)) ?_
      refine XT.q rfl rfl (Quiet.guard2 rfl rfl fun g64a g64b => have p64a := bpT g64a; have p64b := bpF g64b; Q.ldE (lzv g64b (lzv g64a rfl)) (by first | assumption | omega) rfl) ?_
      rw [evi]
      refine XT.q rfl rfl (Quiet.guard2 rfl rfl fun g65a g65b => have p65a := bpT g65a; have p65b := bpF g65b; Q.move rfl) ?_
      refine XT.q rfl rfl (Quiet.guard2 rfl rfl fun g66a g66b => have p66a := bpT g66a; have p66b := bpF g66b; Q.move rfl) ?_
      refine XT.q rfl rfl (Quiet.guard2 rfl rfl fun g67a g67b => have p67a := bpT g67a; have p67b := bpF g67b; Q.ix (lzv g67b (lzv g67a rfl)) (lzv g67b (lzv g67a rfl)) (by omega) (by omega)) ?_
      refine XT.q rfl rfl (Quiet.guard2 rfl rfl fun g68a g68b => have p68a := bpT g68a; have p68b := bpF g68b; Q.ldE (lzv g68b (lzv g68a rfl)) (by first | assumption | omega) rfl) ?_
      refine XT.q rfl rfl (Quiet.guard2 rfl rfl fun g69a g69b => have p69a := bpT g69a; have p69b := bpF g69b; Q.move rfl) ?_
      refine XT.q rfl rfl (Quiet.guard2 rfl rfl fun g70a g70b => have p70a := bpT g70a; have p70b := bpF g70b; Q.ix (lzv g70b (lzv g70a rfl)) (lzv g70b (lzv g70a rfl)) (by omega) (by omega)) ?_
      refine XT.q rfl rfl (Quiet.guard2 rfl rfl fun g71a g71b => have p71a := bpT g71a; have p71b := bpF g71b; Q.ldE (lzv g71b (lzv g71a rfl)) (by first | assumption | omega) rfl) ?_
      rw [evb]
      refine XT.q rfl rfl (Quiet.guard2 rfl rfl fun g72a g72b => have p72a := bpT g72a; have p72b := bpF g72b; Q.lss (lzv g72b (lzv g72a rfl)) (lzv g72b (lzv g72a rfl))) ?_
      refine XT.q rfl rfl (Quiet.guardT rfl rfl fun g73 p73 => Q.or (lzv g73 rfl) (fun hp => (lzv hp (lzv g73 rfl)))) ?_
      refine XT.q rfl rfl (Q.and rfl (fun hp => lzv hp rfl)) ?_
      refine XT.done ?_
      refine XK.if rfl (fun c2 => ?_) (fun c2 => ?_)
      · have _t2 := True.intro
        have bi2 := bi.yes c2.1 c2.2
        refine XK.region rfl ?_
        refine XO.q (Q.move rfl) ?_
        refine XO.q (Q.assign rfl) ?_
        refine XO.done ?_
        refine XK.inBlock ?_
        refine XK.region rfl ?_
        refine XO.q (Q.move rfl) ?_
        refine XO.q (Q.add rfl rfl ⟨by omega, by omega⟩) ?_
        refine XO.q (Q.assign rfl) ?_
        refine XO.done ?_
        exact ih0 (i + 1, (i : Int), v40, h40, W, cat KP k38, T) _ _ ⟨⟨by dsimp only; omega, bi2⟩, O40, RN, Tl, hT2⟩ (by first | omega | (dsimp only; omega)) (.c rfl (.c rfl (.c rfl (.base 111 rfl rfl)))) inferInstance
      · have _t2 := True.intro
        have bi2 := bi.no ok c2
        refine XK.skip ?_
        refine XK.inBlock ?_
        refine XK.region rfl ?_
        refine XO.q (Q.move rfl) ?_
        refine XO.q (Q.add rfl rfl ⟨by omega, by omega⟩) ?_
        refine XO.q (Q.assign rfl) ?_
        refine XO.done ?_
        exact ih0 (i + 1, b, v40, h40, W, cat KP k38, T) _ _ ⟨⟨by dsimp only; omega, bi2⟩, O40, RN, Tl, hT2⟩ (by first | omega | (dsimp only; omega)) (.c rfl (.c rfl (.c rfl (.base 109 rfl rfl)))) inferInstance
    · have _t1 := True.intro
      have hin : i = us.length := by omega
      refine XK.exit rfl ?_
      refine XK.seq ?_
      refine XK.seq ?_
      refine XK.region rfl ?_
      refine XO.q (Q.move rfl) ?_
      refine XO.q (Q.lss rfl rfl) ?_
      refine XO.done ?_
      refine XK.if rfl (fun c3 => ?_) (fun c3 => ?_)
      · have _t3 := True.intro
        have bn : (bestP d).cost = never := by
          rcases bi with ⟨_, h⟩ | ⟨j, h, _⟩
          · unfold bestP; rw [← RL, ← hin]; exact h
          · omega
        refine XK.seq ?_
        refine XK.region rfl ?_
        refine XO.q (Q.build [_, _, _] (.n _)) ?_
        refine XO.st rfl rfl rfl ?_
        refine XO.q (Q.assign rfl) ?_
        refine XO.q (Q.assign rfl) ?_
        refine XO.done ?_
        refine XK.rt [emp, emp, emp, emp] Tryz.func22 Tryz.results22 (.cell [_, _, _] rfl rfl rfl (.t rfl (.t rfl .n))) ?_
        have e : bestG d = (⟨[], [], 0⟩, 4) := by rw [bestG, if_neg c0, if_pos bn]
        rw [e]
        exact ⟨.slice none 0 0, .slice none 0 0, .slice none 0 0, emp, emp, emp, [], emp, [], rfl, rfl, inferInstance, nA, nI, nV, RowsK.nil, fun h => absurd h (by decide), fun _ => rfl⟩
      · have _t3 := True.intro
        obtain ⟨j, rfl, hjl, hbe, hbl⟩ : ∃ j : Nat, b = (j : Int) ∧ j < i ∧ bestTo d i = ⟨(startsL d).getD j default, planL d (needsL d ((startsL d).getD j default)), firstV d j⟩ ∧ firstV d j < never := by
          rcases bi with ⟨h, _⟩ | h
          · omega
          · exact h
        have aj := RO.2 j (by omega)
        have RPL := RP.1
        have pj := RP.2 j (by omega)
        have smj := at_mem (d := d) (j := j) (by omega)
        have soj := starts_ok smj
        have boj := needs_base ok ((startsL d).getD j default)
        have evj : (tabs.getD j default).getD (atK d 0 d.store.energy 0).toNat default = firstV d j := (hT j hjl).val 0 d.store.energy 0 (by omega) (start_state ok)
        have tlj := (hT j hjl).len
        have ar0 := at_rng (start_state ok) (show (0 : Int) ≤ 0 by omega) (show (0 : Int) ≤ d.hours.length by omega)
        refine XK.skip ?_
        refine XK.seq ?_
        refine XK.meet (X := Nat) [11, 79, 80, 81, 82, 83, 84, 85, 86, 87, 88, 89, 90, 91, 92, 93, 94] (fun b11 => [(11, some (ptr b11 0))]) (fun b11 => [blk b11 [us.getD j default, .slice none 0 0, .int .i64 (firstV d j)] 53]) (fun b11 => True) [] ?_ ?_
        · rintro b11 _
          dsimp only [List.cons_append, List.nil_append]
          refine XK.seq ?_
          refine XK.region rfl ?_
          refine XO.q (Q.fieldAddr rfl) ?_
          refine XO.q (Q.fieldAddr rfl) ?_
          refine XO.q (Q.ld rfl rfl) ?_
          refine XO.q (Q.assign rfl) ?_
          refine XO.q (Q.assign rfl) ?_
          refine XO.done ?_
          refine XK.seq ?_
          refine XK.seq ?_
          refine XK.region rfl ?_
          refine XO.q (Q.assign rfl) ?_
          refine XO.done ?_
          refine XK.block ?_
          refine XK.while (X := Nat × Value × PHeap) [12, 13, 14, 15, 16, 17, 98, 99, 100, 101, 102, 103, 104, 105, 106, 107, 108, 109, 110, 111, 112, 113, 114, 115, 116, 117, 118, 119, 120, 121, 122, 123, 124, 125, 126, 127, 128, 129, 130, 131, 132, 133, 134, 135, 136] (fun ⟨i, vc, kc⟩ => [(14, some (.int .i64 (i : Nat))), (12, some (.int .i64 (planTo d (needsL d ((startsL d).getD j default)) i).e)), (13, some (.int .i64 (planTo d (needsL d ((startsL d).getD j default)) i).m))]) (fun ⟨i, vc, kc⟩ => [blk b11 [us.getD j default, vc, .int .i64 (firstV d j)] 53, kc]) (fun ⟨i, vc, kc⟩ => i ≤ d.hours.length ∧ OArr vc encI 1 3 kc (planTo d (needsL d ((startsL d).getD j default)) i).l) (fun ⟨i, vc, kc⟩ => d.hours.length - i) (0, .slice none 0 0, emp) [blk b11 [us.getD j default, .slice none 0 0, .int .i64 (firstV d j)] 53, emp] rfl ⟨by omega, nI⟩ (.c rfl (.c rfl (.c rfl (.base 0 rfl rfl)))) ?_
          rintro ⟨i, vc, kc⟩ ⟨hi2, OC⟩ ih1
          dsimp only [List.cons_append, List.nil_append] at ih1 ⊢
          refine XK.seq ?_
          refine XK.seq ?_
          refine XK.region rfl ?_
          refine XO.q (Q.move rfl) ?_
          refine XO.q (Q.fieldAddr rfl) ?_
          refine XO.q (Q.ld rfl rfl) ?_
          refine XO.len rfl fun l101 => ?_
          refine XO.q (Q.lss rfl rfl) ?_
          refine XO.done ?_
          refine XK.if rfl (fun c4 => ?_) (fun c4 => ?_)
          · have _t4 := True.intro
            have pt := plan_to ok boj hbl i (by omega)
            have pst := pt.st
            have ptl := pt.len
            have hw : ∀ e' m', StateOk d e' m' → -1000000000000000 ≤ atV d (tabs.getD j default) ((i : Int) + 1) e' m' ∧ atV d (tabs.getD j default) ((i : Int) + 1) e' m' ≤ 1000000000000000 := fun e' m' s => by
              have e : atV d (tabs.getD j default) ((i : Int) + 1) e' m' = valH d (needsL d ((startsL d).getD j default)) (i + 1) e' m' := (hT j hjl).val (i + 1) e' m' (by omega) s
              rw [e]
              have := val_rng ok boj (show i + 1 ≤ d.hours.length by omega) s
              rw [never_val] at this
              omega
            obtain ⟨c, ec⟩ : ∃ c, c = (lsF d (d.hours.getD i default) ((needsL d ((startsL d).getD j default)).getD i default) (planTo d (needsL d ((startsL d).getD j default)) i).e (planTo d (needsL d ((startsL d).getD j default)) i).m (fun e' m' => atV d (tabs.getD j default) ((i : Int) + 1) e' m') 21).2 := ⟨_, rfl⟩
            obtain ⟨pn, pc0, pc1⟩ := plan_next ok boj (hT j hjl) hbl (show i < d.hours.length by omega) ec
            have nr := needs_rng ok ((startsL d).getD j default) (show i < d.hours.length by omega)
            have pe0 := pst.e0
            have pe1 := pst.e1
            have pm0 := pst.m0
            have pm1 := pst.m1
            refine XK.skip ?_
            refine XK.seq ?_
            refine XK.block ?_
            refine XK.seq ?_
            refine XK.drawn [0, 1, 2, 3, 4, 5, 6, 7, 8, 9, 11, 12, 13, 14, 15] [b1, b11] [ho, KP, K] (.q 0 (.q 1 (.q 2 (.q 3 (.q 4 (.q 5 (.q 6 (.q 7 (.q 8 (.q 9 (.br 10 true (.q 11 (.q 12 (.q 13 (.q 14 (.q 15 .done))))) .stop))))))))))) Tryz.mixed rfl (by kernel_rfl) ?_
            refine XT.q rfl rfl (Q.ldA [_, _, _, _, _, _, _, _] rfl rfl rfl) ?_
            refine XT.q rfl rfl (Q.fieldAddr rfl) ?_
            refine XT.q rfl rfl (Q.ld rfl rfl) ?_
            refine XT.q rfl rfl (Q.move rfl) ?_
            refine XT.q rfl rfl (Q.move rfl) ?_
            refine XT.ix rfl rfl rfl rfl (by omega) (by omega) fun i111 => ?_
            refine XT.q rfl rfl (Q.ldE rfl (by first | assumption | omega) rfl) ?_
            refine XT.q rfl rfl (Q.move rfl) ?_
            refine XT.q rfl rfl (Q.move rfl) ?_
            refine XT.q rfl rfl (Q.move rfl) ?_
            refine XT.call rfl rfl Tryz.call64 rfl rfl rfl (rleast_spec d vh vj hh hj ((startsL d).getD j default) (us.getD j default) K (tabs.getD j default) (ws.getD j default) KP ok soj (hT j hjl).len i (by omega) (planTo d (needsL d ((startsL d).getD j default)) i).e (planTo d (needsL d ((startsL d).getD j default)) i).m pst hw) (fun v116 s116 R116 => ?_) XT.stop
            obtain ⟨rfl, rfl⟩ := R116
            dsimp only [List.cons_append, List.nil_append]
            refine ⟨inferInstance, ?_⟩
            rw [← ec]
            refine XT.q rfl rfl (Q.move rfl) ?_
            refine XT.q rfl rfl (Q.extract rfl rfl) ?_
            refine XT.q rfl rfl (Q.extract rfl rfl) ?_
            refine XT.q rfl rfl (Q.assign rfl) ?_
            refine XT.q rfl rfl (Q.assign rfl) ?_
            refine XT.done ?_
            refine XK.seq ?_
            refine XK.region rfl ?_
            refine XO.q (Q.move rfl) ?_
            refine XO.q (Q.ldA [_, _, _, _, _, _, _, _] rfl rfl rfl) ?_
            refine XO.q (Q.fieldAddr rfl) ?_
            refine XO.q (Q.ld rfl rfl) ?_
            refine XO.q (Q.move rfl) ?_
            refine XO.q (Q.move rfl) ?_
            refine XO.call Tryz.call54 rfl rfl rfl (rneed_spec d vh vj hh hj ((startsL d).getD j default) (us.getD j default) K ok soj i (by omega) c (by omega) (by omega)) fun v125 s125 R125 => ?_
            obtain ⟨rfl, rfl⟩ := R125
            dsimp only [List.cons_append, List.nil_append]
            refine XO.q (Q.max rfl rfl) ?_
            refine XO.q (Q.assign rfl) ?_
            refine XO.done ?_
            refine XK.seq ?_
            refine XK.region rfl ?_
            refine XO.q (Q.move rfl) ?_
            refine XO.q (Q.move rfl) ?_
            refine XO.q (Q.add rfl rfl ⟨by omega, by omega⟩) ?_
            refine XO.q (Q.assign rfl) ?_
            refine XO.done ?_
            refine XK.seq ?_
            refine XK.region rfl ?_
            refine XO.q (Q.fieldAddr rfl) ?_
            refine XO.q (Q.ld rfl rfl) ?_
            refine XO.q (Q.assign rfl) ?_
            refine XO.done ?_
            refine XK.region rfl ?_
            refine XO.q (Q.move rfl) ?_
            refine XO.q (Q.move rfl) ?_
            refine XO.lit [_] [_] [c] encI (by rfl) (by rfl) rfl (by rfl) (by exact .c 0 1 rfl rfl rfl (.n _)) (fun _ => rfl) (by rfl) rfl (by infer_instance) rfl fun v134 h134 O134 => ?_
            refine XO.append rfl rfl rfl rfl (by simp only [List.length_cons, List.length_nil]; omega) fun v135 h135 O135 => ?_
            refine XO.q (Q.fieldAddr rfl) ?_
            refine XO.st rfl rfl rfl ?_
            refine XO.done ?_
            refine XK.inBlock ?_
            refine XK.region rfl ?_
            refine XO.q (Q.move rfl) ?_
            refine XO.q (Q.add rfl rfl ⟨by omega, by omega⟩) ?_
            refine XO.q (Q.assign rfl) ?_
            refine XO.done ?_
            rw [show (planTo d (needsL d ((startsL d).getD j default)) i).e + c = (planTo d (needsL d ((startsL d).getD j default)) (i + 1)).e by rw [pn], show max (planTo d (needsL d ((startsL d).getD j default)) i).m ((needsL d ((startsL d).getD j default)).getD i default + c) = (planTo d (needsL d ((startsL d).getD j default)) (i + 1)).m by rw [pn]]
            exact ih1 (i + 1, v135, h135) _ _ ⟨by dsimp only; omega, by dsimp only; rw [pn]; exact O135⟩ (by first | omega | (dsimp only; omega)) (.c rfl (.c rfl (.c rfl (.base 93 rfl rfl)))) inferInstance
          · have _t4 := True.intro
            have hin2 : i = d.hours.length := by omega
            subst hin2
            refine XK.exit rfl ?_
            refine XK.seq ?_
            refine XK.region rfl ?_
            refine XO.q (Q.ldA [_, _, _] rfl rfl rfl) ?_
            refine XO.q (Q.move rfl) ?_
            refine XO.st rfl rfl rfl ?_
            refine XO.q (Q.assign rfl) ?_
            refine XO.q (Q.assign rfl) ?_
            refine XO.done ?_
            refine XK.rt [K, kc, ho, KP] Tryz.func22 Tryz.results22 (.cell [_, _, _] rfl rfl rfl (.t rfl (.t rfl .n))) ?_
            have e : bestG d = (⟨(startsL d).getD j default, planL d (needsL d ((startsL d).getD j default)), firstV d j⟩, 0) := by
              have e1 : bestP d = ⟨(startsL d).getD j default, planL d (needsL d ((startsL d).getD j default)), firstV d j⟩ := by unfold bestP; rw [← RL, ← hin]; exact hbe
              rw [bestG, if_neg c0, e1, if_neg (by dsimp only; omega)]
            rw [e]
            exact ⟨us.getD j default, vc, vo, K, kc, ho, ws, KP, tabs, rfl, rfl, inferInstance, aj, OC, OV, RP, fun _ => ⟨by rw [htl]; omega, fun j hj_ => hT j (by omega)⟩, fun h => absurd rfl h⟩
        · intro mtr16
          dsimp only [List.cons_append, List.nil_append] at mtr16
          refine XK.drawn [0, 1, 2, 3, 4, 5, 6, 7, 8, 9, 10, 11, 13, 14, 15] [b1] [ho_, K, ho, KP] (.q 0 (.q 1 (.q 2 (.q 3 (.q 4 (.q 5 (.q 6 (.q 7 (.q 8 (.q 9 (.q 10 (.q 11 (.br 12 true (.q 13 (.q 14 (.q 15 (.br 16 true (.br 17 false .done .stop) .stop)))) (.br 16 true (.br 12 true (.q 13 (.q 14 (.q 15 (.br 17 false .done .stop)))) .stop) .stop)))))))))))))) Tryz.mixed rfl (by kernel_rfl) ?_
          refine XT.q rfl rfl (Q.move rfl) ?_
          refine XT.q rfl rfl (Q.move rfl) ?_
          refine XT.ix rfl rfl rfl rfl (by omega) (by omega) fun i81 => ?_
          refine XT.q rfl rfl (Q.ldE rfl (by first | assumption | omega) rfl) ?_
          refine XT.q rfl rfl (Q.move rfl) ?_
          refine XT.q rfl rfl (Q.move rfl) ?_
          refine XT.ix rfl rfl rfl rfl (by omega) (by omega) fun i85 => ?_
          refine XT.q rfl rfl (Q.ldE rfl (by first | assumption | omega) rfl) ?_
          refine XT.q rfl rfl (Q.ldA [_, _, _, _, _, _, _, _] rfl rfl rfl) ?_
          refine XT.q rfl rfl (Q.fieldAddr rfl) ?_
          refine XT.q rfl rfl (Q.fieldAddr rfl) ?_
          refine XT.q rfl rfl (Q.ld rfl rfl) ?_
          refine XT.call rfl rfl Tryz.call63 rfl rfl rfl (rat_spec d vh vj hh hj ok 0 d.store.energy 0 (by omega) (by omega) (by omega)) (fun v91 s91 R91 => ?_) ?_
          · skip
            obtain ⟨rfl, rfl⟩ := R91
            dsimp only [List.cons_append, List.nil_append]
            refine ⟨inferInstance, ?_⟩
            refine XT.ix rfl rfl rfl rfl (by omega) (by omega) fun i92 => ?_
            refine XT.q rfl rfl (Q.ldE rfl (by first | assumption | omega) rfl) ?_
            rw [evj]
            refine XT.q rfl rfl (Q.build [_, _, _] (.c 0 1 rfl rfl rfl (.c 2 1 rfl rfl rfl (.n _)))) ?_
            refine XT.alloc rfl rfl (fun b11 => ⟨inferInstance, ?_⟩) XT.stop
            refine XT.st rfl rfl rfl rfl rfl ⟨inferInstance, ?_⟩ XT.stop
            refine XT.done ?_
            exact mtr16 (b11) _ _ trivial (.c rfl (.base 17 rfl rfl)) inferInstance
          · skip
            refine XT.alloc rfl rfl (fun b11 => ⟨inferInstance, ?_⟩) XT.stop
            refine XT.call rfl rfl Tryz.call63 rfl rfl rfl (rat_spec d vh vj hh hj ok 0 d.store.energy 0 (by omega) (by omega) (by omega)) (fun v91 s91 R91 => ?_) XT.stop
            obtain ⟨rfl, rfl⟩ := R91
            dsimp only [List.cons_append, List.nil_append]
            refine ⟨inferInstance, ?_⟩
            refine XT.ix rfl rfl rfl rfl (by omega) (by omega) fun i92 => ?_
            refine XT.q rfl rfl (Q.ldE rfl (by first | assumption | omega) rfl) ?_
            rw [evj]
            refine XT.q rfl rfl (Q.build [_, _, _] (.c 0 1 rfl rfl rfl (.c 2 1 rfl rfl rfl (.n _)))) ?_
            refine XT.st rfl rfl rfl rfl rfl ⟨inferInstance, ?_⟩ XT.stop
            refine XT.done ?_
            exact mtr16 (b11) _ _ trivial (.c rfl (.base 17 rfl rfl)) inferInstance
end Go.X

set_option linter.unusedSimpArgs false
set_option linter.unusedVariables false
set_option maxRecDepth 20000
namespace Go.X
open Go.Proofs
def pickI (x n : Int) : Int := if n < 1 then 0 else if x.tmod n < 0 then x.tmod n + n else x.tmod n
theorem pickI_bd {x n : Int} (h : 1 ≤ n) : 0 ≤ pickI x n ∧ pickI x n < n := by
  have h1 := Int.lt_tmod_of_pos x (show 0 < n by omega)
  have h2 := Int.tmod_lt_of_pos x (show 0 < n by omega)
  unfold pickI
  rw [if_neg (by omega)]
  split <;> omega
theorem Pick_spec (x n : Int) (hx : in64 x) (hn : in64 n) : Spec Tryz.prog 25 #[.int .i64 x, .int .i64 n] [] [] (fun v hs => v = .int .i64 (pickI x n) ∧ hs = []) := by
  obtain ⟨hn1, hn2⟩ := hn
  refine Spec.intro (fn := Tryz.f25) (N := 17) Tryz.func25 rfl Tryz.ntmps25 rfl fun B => ?_
  refine XK.seq ?_
  refine XK.region rfl ?_
  refine XO.q (Q.assign rfl) ?_
  refine XO.done ?_
  refine XK.seq ?_
  refine XK.seq ?_
  refine XK.region rfl ?_
  refine XO.q (Q.move rfl) ?_
  refine XO.q (Q.lss rfl rfl) ?_
  refine XO.done ?_
  refine XK.if rfl (fun c0 => ?_) (fun c0 => ?_)
  · have _t0 := True.intro
    refine XK.seq ?_
    refine XK.region rfl ?_
    refine XO.q (Q.assign rfl) ?_
    refine XO.done ?_
    refine XK.rt [] Tryz.func25 Tryz.results25 (.t rfl .n) ?_
    exact ⟨by rw [pickI, if_pos c0], rfl⟩
  · have _t0 := True.intro
    have h1 := Int.lt_tmod_of_pos x (show 0 < n by omega)
    have h2 := Int.tmod_lt_of_pos x (show 0 < n by omega)
    refine XK.skip ?_
    refine XK.seq ?_
    refine XK.region rfl ?_
    refine XO.q (Q.move rfl) ?_
    refine XO.q (Q.move rfl) ?_
    refine XO.q (Q.remT rfl rfl (by omega)) ?_
    refine XO.q (Q.assign rfl) ?_
    refine XO.done ?_
    refine XK.seq ?_
    refine XK.seq ?_
    refine XK.region rfl ?_
    refine XO.q (Q.move rfl) ?_
    refine XO.q (Q.lss rfl rfl) ?_
    refine XO.done ?_
    refine XK.if rfl (fun c1 => ?_) (fun c1 => ?_)
    · have _t1 := True.intro
      refine XK.region rfl ?_
      refine XO.q (Q.move rfl) ?_
      refine XO.q (Q.move rfl) ?_
      refine XO.q (Q.add rfl rfl ⟨by omega, by omega⟩) ?_
      refine XO.q (Q.assign rfl) ?_
      refine XO.done ?_
      refine XK.seq ?_
      refine XK.region rfl ?_
      refine XO.q (Q.move rfl) ?_
      refine XO.q (Q.assign rfl) ?_
      refine XO.done ?_
      refine XK.rt [] Tryz.func25 Tryz.results25 (.t rfl .n) ?_
      exact ⟨by rw [pickI, if_neg c0, if_pos c1], rfl⟩
    · have _t1 := True.intro
      refine XK.skip ?_
      refine XK.seq ?_
      refine XK.region rfl ?_
      refine XO.q (Q.move rfl) ?_
      refine XO.q (Q.assign rfl) ?_
      refine XO.done ?_
      refine XK.rt [] Tryz.func25 Tryz.results25 (.t rfl .n) ?_
      exact ⟨by rw [pickI, if_neg c0, if_neg c1], rfl⟩
deriving instance DecidableEq for KRow
theorem row_eq (x y : KRow) : (decide (x.bought = y.bought) && (decide (x.sold = y.sold) && (decide (x.made = y.made) && (decide (x.used = y.used) && (decide (x.stored = y.stored) && (decide (x.carbon = y.carbon) && (decide (x.water = y.water) && true))))))) = decide (x = y) := by
  cases x; cases y
  rw [Bool.eq_iff_iff]
  simp
theorem sameRow (x y : KRow) : Spec Tryz.prog 20 #[.agg #[.int .i64 x.bought, .int .i64 x.sold, .int .i64 x.made, .int .i64 x.used, .int .i64 x.stored, .int .i64 x.carbon, .int .i64 x.water], .agg #[.int .i64 y.bought, .int .i64 y.sold, .int .i64 y.made, .int .i64 y.used, .int .i64 y.stored, .int .i64 y.carbon, .int .i64 y.water]] [] [] (fun v hs => v = .bool (decide (x = y)) ∧ hs = []) := by
  refine Spec.intro (fn := Tryz.f20) (N := 8) Tryz.func20 rfl Tryz.ntmps20 rfl fun B => ?_
  refine XK.seq ?_
  refine XK.region rfl ?_
  refine XO.box rfl fun b2 => ?_
  refine XO.box rfl fun b3 => ?_
  refine XO.q (Q.assign rfl) ?_
  refine XO.done ?_
  refine XK.seq ?_
  refine XK.region rfl ?_
  refine XO.q (Q.ldA [_, _, _, _, _, _, _] rfl rfl rfl) ?_
  refine XO.q (Q.ldA [_, _, _, _, _, _, _] rfl rfl rfl) ?_
  refine XO.q (Q.eqlS (us := [_, _, _, _, _, _, _]) (vs := [_, _, _, _, _, _, _]) rfl rfl inferInstance (by kernel_rfl) (by kernel_rfl) (.c rfl inferInstance inferInstance rfl rfl (.c rfl inferInstance inferInstance rfl rfl (.c rfl inferInstance inferInstance rfl rfl (.c rfl inferInstance inferInstance rfl rfl (.c rfl inferInstance inferInstance rfl rfl (.c rfl inferInstance inferInstance rfl rfl (.c rfl inferInstance inferInstance rfl rfl .n)))))))) ?_
  rw [row_eq]
  refine XO.q (Q.assign rfl) ?_
  refine XO.done ?_
  refine XK.rt [] Tryz.func20 Tryz.results20 (.t rfl .n) ?_
  exact ⟨rfl, rfl⟩
theorem equalRF (v1 v2 : Value) (h1 h2 : PHeap) (xs ys : List KRow) [s1 : Arr v1 encRow 7 h1 xs] [s2 : Arr v2 encRow 7 h2 ys] :
    Spec Tryz.prog 19 #[v1, v2, .func (.func 20) #[] #[]] [] [h1, h2] (fun v hs => v = .bool (decide (xs = ys)) ∧ hs = []) := by
  have l1 := s1.le
  refine Spec.intro (fn := Tryz.f19) (N := 32) Tryz.func19 rfl Tryz.ntmps19 rfl fun B => ?_
  refine XK.seq ?_
  refine XK.region rfl ?_
  refine XO.q (Q.assign rfl) ?_
  refine XO.done ?_
  refine XK.seq ?_
  refine XK.seq ?_
  refine XK.region rfl ?_
  refine XO.q (Q.move rfl) ?_
  refine XO.len rfl fun l11 => ?_
  refine XO.q (Q.move rfl) ?_
  refine XO.len rfl fun l13 => ?_
  refine XO.q (Q.neq rfl rfl) ?_
  refine XO.done ?_
  refine XK.if rfl (fun c0 => ?_) (fun c0 => ?_)
  · have _t0 := True.intro
    refine XK.seq ?_
    refine XK.region rfl ?_
    refine XO.q (Q.assign rfl) ?_
    refine XO.done ?_
    refine XK.rt [] Tryz.func19 Tryz.results19 (.t rfl .n) ?_
    exact ⟨by rw [decide_eq_false (fun h => c0 (by rw [h]))], rfl⟩
  · have _t0 := True.intro
    refine XK.skip ?_
    refine XK.seq ?_
    refine XK.seq ?_
    refine XK.region rfl ?_
    refine XO.q (Q.move rfl) ?_
    refine XO.len rfl fun l16 => ?_
    refine XO.q (Q.move rfl) ?_
    refine XO.done ?_
    refine XK.block ?_
    refine XK.while (X := Nat) [6, 7, 8, 9, 17, 18, 19, 20, 21, 22, 23, 24, 25, 26, 27, 28, 29, 30, 31] (fun i => [(17, some (.int .i64 (i : Nat)))]) (fun i => []) (fun i => i ≤ xs.length ∧ xs.take i = ys.take i) (fun i => xs.length - i) (0) [] rfl ⟨by omega, rfl⟩ (.c rfl (.base 0 rfl rfl)) ?_
    rintro i ⟨hi, ht⟩ ih0
    dsimp only [List.cons_append, List.nil_append] at ih0 ⊢
    refine XK.seq ?_
    refine XK.region rfl ?_
    refine XO.q (Q.lss rfl rfl) ?_
    refine XO.done ?_
    refine XK.seq ?_
    refine XK.if rfl (fun c1 => ?_) (fun c1 => ?_)
    · have _t1 := True.intro
      refine XK.skip ?_
      refine XK.seq ?_
      refine XK.block ?_
      refine XK.seq ?_
      refine XK.region rfl ?_
      refine XO.q (Q.move rfl) ?_
      refine XO.ix rfl rfl (by omega) (by omega) fun i20 => ?_
      refine XO.q (Q.ldEA [_, _, _, _, _, _, _] rfl (by first | assumption | omega) rfl rfl) ?_
      refine XO.alloc fun b8 => ?_
      refine XO.q (Q.assign rfl) ?_
      refine XO.st rfl rfl rfl ?_
      refine XO.done ?_
      refine XK.seq ?_
      refine XK.region rfl ?_
      refine XO.q (Q.move rfl) ?_
      refine XO.q (Q.move rfl) ?_
      refine XO.ix rfl rfl (by omega) (by omega) fun i24 => ?_
      refine XO.q (Q.ldEA [_, _, _, _, _, _, _] rfl (by first | assumption | omega) rfl rfl) ?_
      refine XO.alloc fun b9 => ?_
      refine XO.st rfl rfl rfl ?_
      refine XO.done ?_
      refine XK.seq ?_
      refine XK.region rfl ?_
      refine XO.q (Q.move rfl) ?_
      refine XO.q (Q.ldA [_, _, _, _, _, _, _] rfl rfl rfl) ?_
      refine XO.q (Q.ldA [_, _, _, _, _, _, _] rfl rfl rfl) ?_
      refine XO.call Tryz.call20 rfl rfl rfl (sameRow _ _) fun v29 s29 R29 => ?_
      obtain ⟨rfl, rfl⟩ := R29
      dsimp only [List.cons_append, List.nil_append]
      refine XO.q (Q.not rfl) ?_
      refine XO.done ?_
      refine XK.if rfl (fun c2 => ?_) (fun c2 => ?_)
      · have _t2 := True.intro
        refine XK.seq ?_
        refine XK.region rfl ?_
        refine XO.q (Q.assign rfl) ?_
        refine XO.done ?_
        refine XK.rt [] Tryz.func19 Tryz.results19 (.t rfl .n) ?_
        exact ⟨by rw [decide_eq_false (fun h => c2 (by rw [h]))], rfl⟩
      · have _t2 := True.intro
        refine XK.skip ?_
        refine XK.inBlock ?_
        refine XK.region rfl ?_
        refine XO.q (Q.add rfl rfl ⟨by omega, by omega⟩) ?_
        refine XO.q (Q.move rfl) ?_
        refine XO.done ?_
        exact ih0 (i + 1) _ _ ⟨by omega, take_step ht (by omega) (by omega) (by simpa using c2)⟩ (by first | omega | (dsimp only; omega)) (.c rfl (.base 38 rfl rfl)) inferInstance
    · have _t1 := True.intro
      refine XK.exit rfl ?_
      refine XK.seq ?_
      refine XK.region rfl ?_
      refine XO.q (Q.assign rfl) ?_
      refine XO.done ?_
      refine XK.rt [] Tryz.func19 Tryz.results19 (.t rfl .n) ?_
      exact ⟨by rw [decide_eq_true (take_all ht (by omega) (by omega))], rfl⟩
theorem copyList (v : Value) (h : PHeap) (xs : List Int) [s : Arr v encI 1 h xs] (hl : xs.length ≤ 68719476736) : Spec Tryz.prog 65 #[v] [] [h] (fun v' hs => ∃ h', hs = [h'] ∧ OArr v' encI 1 3 h' xs) := by
  refine Spec.intro (fn := Tryz.f65) (N := 5) Tryz.func65 rfl Tryz.ntmps65 rfl fun B => ?_
  refine XK.seq ?_
  refine XK.region rfl ?_
  refine XO.q (Q.assign rfl) ?_
  refine XO.done ?_
  refine XK.seq ?_
  refine XK.region rfl ?_
  refine XO.q (Q.move rfl) ?_
  refine XO.call Tryz.call92 rfl rfl rfl (copyInts v h xs hl) fun v4 s4 R4 => ?_
  obtain ⟨h4, rfl, O4⟩ := R4
  dsimp only [List.cons_append, List.nil_append]
  refine XO.q (Q.assign rfl) ?_
  refine XO.done ?_
  refine XK.rt [h4] Tryz.func65 Tryz.results65 (.t rfl .n) ?_
  exact ⟨h4, rfl, O4⟩
set_option maxHeartbeats 1000000 in
theorem copyLists (vp : Value) (hp KP : PHeap) (pus : List Value) (rows : List (List Int)) [jp : Arr vp encV 1 hp pus] (rp : RowsK pus KP rows) (few : rows.length ≤ 100000) (sm : ∀ i, i < rows.length → (rows.getD i default).length ≤ 1000000) : Spec Tryz.prog 24 #[vp] [] [hp, KP] (fun v hs => ∃ ho us Ks, hs = [ho, join Ks] ∧ OArr v encV 1 32 ho us ∧ ORows 3 us Ks rows) := by
  have rl := rp.1
  have nV : OArr (.slice none 0 0) encV 1 32 emp ([] : List Value) := OArr.nil (fun _ => rfl)
  refine Spec.intro (fn := Tryz.f24) (N := 20) Tryz.func24 rfl Tryz.ntmps24 rfl fun B => ?_
  refine XK.seq ?_
  refine XK.region rfl ?_
  refine XO.q (Q.assign rfl) ?_
  refine XO.done ?_
  refine XK.seq ?_
  refine XK.region rfl ?_
  refine XO.q (Q.assign rfl) ?_
  refine XO.done ?_
  refine XK.seq ?_
  refine XK.seq ?_
  refine XK.region rfl ?_
  refine XO.q (Q.assign rfl) ?_
  refine XO.done ?_
  refine XK.block ?_
  refine XK.while (X := Nat × Value × PHeap × List Value × List PHeap) [3, 4, 5, 6, 7, 8, 9, 10, 11, 12, 13, 14, 15, 16, 17, 18] (fun ⟨i, vo, ho, us, Ks⟩ => [(4, some (.int .i64 (i : Nat))), (3, some (vo))]) (fun ⟨i, vo, ho, us, Ks⟩ => [ho, join Ks]) (fun ⟨i, vo, ho, us, Ks⟩ => i ≤ pus.length ∧ OArr vo encV 1 32 ho us ∧ ORows 3 us Ks (rows.take i)) (fun ⟨i, vo, ho, us, Ks⟩ => pus.length - i) (0, .slice none 0 0, emp, [], []) [emp, emp] rfl ⟨by omega, nV, ORows.nil⟩ (.c rfl (.c rfl (.base 0 rfl rfl))) ?_
  rintro ⟨i, vo, ho, us, Ks⟩ ⟨hi, OV, or_⟩ ih0
  dsimp only [List.cons_append, List.nil_append] at ih0 ⊢
  have ul := or_.lu
  rw [List.length_take] at ul
  refine XK.seq ?_
  refine XK.seq ?_
  refine XK.region rfl ?_
  refine XO.q (Q.move rfl) ?_
  refine XO.q (Q.move rfl) ?_
  refine XO.len rfl fun l7 => ?_
  refine XO.q (Q.lss rfl rfl) ?_
  refine XO.done ?_
  refine XK.if rfl (fun c0 => ?_) (fun c0 => ?_)
  · have _t0 := True.intro
    have ar := rp.2 i (by omega)
    refine XK.skip ?_
    refine XK.seq ?_
    refine XK.block ?_
    refine XK.region rfl ?_
    refine XO.q (Q.move rfl) ?_
    refine XO.q (Q.move rfl) ?_
    refine XO.q (Q.move rfl) ?_
    refine XO.ix rfl rfl (by omega) (by omega) fun i14 => ?_
    refine XO.q (Q.ldE rfl (by first | assumption | omega) rfl) ?_
    refine XO.call Tryz.call65 rfl rfl rfl (copyList (pus.getD i default) KP (rows.getD i default) (by have := sm i (by omega); omega)) fun v16 s16 R16 => ?_
    obtain ⟨h16, rfl, O16⟩ := R16
    dsimp only [List.cons_append, List.nil_append]
    refine XO.joinSnoc Ks h16 or_.pd fun pd2 => ?_
    refine XO.lit [_] [_] [v16] encV (by rfl) (by rfl) rfl (by rfl) (by exact .c 0 1 rfl rfl rfl (.n _)) (fun _ => rfl) (by rfl) rfl (by infer_instance) rfl fun v17 h17 O17 => ?_
    refine XO.append rfl rfl rfl rfl (by simp only [List.length_cons, List.length_nil]; omega) fun v18 h18 O18 => ?_
    refine XO.q (Q.assign rfl) ?_
    refine XO.done ?_
    refine XK.inBlock ?_
    refine XK.region rfl ?_
    refine XO.q (Q.move rfl) ?_
    refine XO.q (Q.add rfl rfl ⟨by omega, by omega⟩) ?_
    refine XO.q (Q.assign rfl) ?_
    refine XO.done ?_
    exact ih0 (i + 1, v18, h18, us ++ [v16], Ks ++ [h16]) _ _ ⟨by dsimp only; omega, O18, by dsimp only; rw [take_snocK (by omega)]; exact or_.snoc O16 pd2⟩ (by first | omega | (dsimp only; omega)) (.c rfl (.c rfl (.base 34 rfl rfl))) inferInstance
  · have _t0 := True.intro
    have hin : i = rows.length := by omega
    subst hin
    rw [List.take_length] at or_
    refine XK.exit rfl ?_
    refine XK.seq ?_
    refine XK.region rfl ?_
    refine XO.q (Q.move rfl) ?_
    refine XO.q (Q.assign rfl) ?_
    refine XO.done ?_
    refine XK.rt [ho, join Ks] Tryz.func24 Tryz.results24 (.t rfl .n) ?_
    exact ⟨ho, us, Ks, rfl, OV, or_⟩
theorem tabs_same {d : KDay} {a b : List (List Int)} (a0 : (bestG d).2 = 0 → TabsOk d a) (a1 : (bestG d).2 ≠ 0 → a = []) (b0 : (bestG d).2 = 0 → TabsOk d b) (b1 : (bestG d).2 ≠ 0 → b = []) : a = b := by
  by_cases h : (bestG d).2 = 0
  · have x := a0 h
    have y := b0 h
    have ok : DayOk d := by
      refine kcheck_iff.1 ?_
      by_cases hk : kcheck d = 0
      · exact hk
      · rw [bestG, if_pos hk] at h; exact absurd h hk
    refine List.ext_getElem (by rw [x.len, y.len]) fun i h1 h2 => ?_
    have q := tab_unique ok (x.tab i (by rw [← x.len]; exact h1)) (y.tab i (by rw [← x.len]; exact h1))
    rwa [List.getD_eq_getElem?_getD, List.getD_eq_getElem?_getD, List.getElem?_eq_getElem h1, List.getElem?_eq_getElem h2] at q
  · rw [a1 h, b1 h]
theorem tabs_rng {d : KDay} {a : List (List Int)} (a0 : (bestG d).2 = 0 → TabsOk d a) (a1 : (bestG d).2 ≠ 0 → a = []) : a.length ≤ 1000 ∧ ∀ i, i < a.length → 1 ≤ (a.getD i default).length ∧ (a.getD i default).length ≤ 1000000 := by
  by_cases h : (bestG d).2 = 0
  · have x := a0 h
    have ok : DayOk d := by
      refine kcheck_iff.1 ?_
      by_cases hk : kcheck d = 0
      · exact hk
      · rw [bestG, if_pos hk] at h; exact absurd h hk
    have few := ok.few
    have sl := starts_len ok.job d.jobs.length (Nat.le_refl _)
    have xl := x.len
    have sr := size_rng ok
    have ar0 := at_rng (start_state ok) (show (0 : Int) ≤ 0 by omega) (show (0 : Int) ≤ d.hours.length by omega)
    refine ⟨by unfold startsL at xl; omega, fun i hi => ?_⟩
    have xt := (x.tab i (by omega)).len
    omega
  · rw [a1 h]; exact ⟨by simp, fun i hi => absurd hi (Nat.not_lt_zero i)⟩
end Go.X

set_option linter.unusedSimpArgs false
set_option linter.unusedVariables false
set_option maxRecDepth 20000
namespace Go.X
open Go.Proofs
def FewR (rows : List (List Int)) : Prop := rows.length ≤ 100000 ∧ ∀ i, i < rows.length → (rows.getD i default).length ≤ 1000000
theorem set_few {rows : List (List Int)} {k : Nat} {x : List Int} (h : FewR rows) (hx : x.length ≤ 1000000) : FewR (rows.set k x) := ⟨by rw [List.length_set]; exact h.1, fun i hi => by
 rw [List.length_set] at hi
 rw [getD_setK]
 by_cases hc : k = i ∧ k < rows.length
 ·rw [if_pos hc]; exact hx
 ·rw [if_neg hc]; exact h.2 i hi⟩
theorem drop_few {rows : List (List Int)} {n : Nat} (h : FewR rows) : FewR (rows.drop n) := ⟨by rw [List.length_drop]; have := h.1; omega, fun i hi => by
 rw [List.length_drop] at hi
 have := h.2 (n + i) (by omega)
 rwa [List.getD_eq_getElem?_getD, List.getElem?_drop, ← List.getD_eq_getElem?_getD]⟩
set_option maxHeartbeats 16000000 in
set_option synthInstance.maxSize 1000 in
theorem plans_spec (d : KDay) (vh vj : Value) (hh hj : PHeap) [ih : Arr vh encHour 6 hh d.hours] [ij : Arr vj encJob 4 hj d.jobs] (p : KPlan) (vs vc : Value) (hs_ hc : PHeap) [js : Arr vs encI 1 hs_ p.starts] [jc : Arr vc encI 1 hc p.charge] (at_ by_ : Int) (hat : in64 at_) (hby : in64 by_) (lg : d.hours.length ≤ 30 ∧ d.jobs.length ≤ 4 ∧ p.starts.length ≤ 6 ∧ p.charge.length ≤ 30) :
  Spec Tryz.prog 4 #[.agg #[vh, .int .i64 d.store.energy, .int .i64 d.store.full, .int .i64 d.store.power, .int .i64 d.store.fin, vj, .int .i64 d.most, .int .i64 d.peak], .agg #[vs, vc, .int .i64 p.cost], .int .i64 at_, .int .i64 by_] [] [hh, hj, hs_, hc] (fun v hs => v = .bool true ∧ hs = []) := by
 obtain ⟨lg1, lg2, lg3, lg4⟩ := lg
 refine Spec.intro (fn := Tryz.f4) (N := 239) Tryz.func4 rfl Tryz.ntmps4 rfl fun B => ?_
 refine XK.seq ?_
 refine XK.region rfl ?_
 refine XO.box rfl fun b4 => ?_
 refine XO.box rfl fun b5 => ?_
 refine XO.q (Q.assign rfl) ?_
 refine XO.done ?_
 refine XK.seq ?_
 refine XK.region rfl ?_
 refine XO.q (Q.ldA [_, _, _, _, _, _, _, _] rfl rfl rfl) ?_
 refine XO.call Tryz.call8 rfl rfl rfl (copied_spec d vh vj hh hj (by omega) (by omega)) fun v34 s34 R34 => ?_
 obtain ⟨a1, a2, a3, a4, k1, k2, k3, k4, rfl, rfl, A1, A2, A3, A4⟩ := R34
 dsimp only [List.cons_append, List.nil_append]
 refine XO.q (Q.move rfl) ?_
 refine XO.q (Q.extract rfl rfl) ?_
 refine XO.q (Q.extract rfl rfl) ?_
 refine XO.alloc fun b9 => ?_
 refine XO.alloc fun b10 => ?_
 refine XO.st rfl rfl rfl ?_
 refine XO.st rfl rfl rfl ?_
 refine XO.done ?_
 refine XK.seq ?_
 refine XK.region rfl ?_
 refine XO.q (Q.ldA [_, _, _] rfl rfl rfl) ?_
 refine XO.call Tryz.call9 rfl rfl rfl (planned_spec p vs vc hs_ hc (by omega) (by omega)) fun v39 s39 R39 => ?_
 obtain ⟨b1, b2, b3, b4, m1, m2, m3, m4, rfl, rfl, B1, B2, B3, B4⟩ := R39
 dsimp only [List.cons_append, List.nil_append]
 refine XO.q (Q.move rfl) ?_
 refine XO.q (Q.extract rfl rfl) ?_
 refine XO.q (Q.extract rfl rfl) ?_
 refine XO.alloc fun b11 => ?_
 refine XO.alloc fun b12 => ?_
 refine XO.st rfl rfl rfl ?_
 refine XO.st rfl rfl rfl ?_
 refine XO.done ?_
 refine XK.seq ?_
 refine XK.seq ?_
 refine XK.drawn [0, 2, 4] [b9, b10] [] (.q 0 (.q 2 (.br 1 true (.br 3 true (.q 4 .done) .stop) .stop))) Tryz.mixed rfl (by kernel_rfl) ?_
 refine XT.q rfl rfl (Q.ldA [_, _, _, _, _, _, _, _] rfl rfl rfl) ?_
 refine XT.q rfl rfl (Q.ldA [_, _, _, _, _, _, _, _] rfl rfl rfl) ?_
 refine XT.call rfl rfl Tryz.call10 rfl rfl rfl (Check_spec d a1 a2 k1 k2) (fun v43 s43 R43 => ?_) XT.stop
 obtain ⟨rfl, rfl⟩ := R43
 dsimp only [List.cons_append, List.nil_append]
 refine ⟨inferInstance, ?_⟩
 refine XT.call rfl rfl Tryz.call11 rfl rfl rfl (rCheck_spec d a3 a4 k3 k4) (fun v45 s45 R45 => ?_) XT.stop
 obtain ⟨rfl, rfl⟩ := R45
 dsimp only [List.cons_append, List.nil_append]
 refine ⟨inferInstance, ?_⟩
 refine XT.q rfl rfl (Q.neq rfl rfl) ?_
 refine XT.done ?_
 refine XK.if rfl (fun c0 => ?_) (fun c0 => ?_)
 ·have _t0 := True.intro
  exact absurd c0 (by simp)
 ·have _t0 := True.intro
  refine XK.skip ?_
  refine XK.seq ?_
  refine XK.region rfl ?_
  refine XO.q (Q.ldA [_, _, _, _, _, _, _, _] rfl rfl rfl) ?_
  refine XO.call Tryz.call12 rfl rfl rfl (Starts_spec d a1 a2 k1 k2) fun v49 s49 R49 => ?_
  obtain ⟨vo1, ho1, us1, K1, rfl, rfl, OO1, RO1⟩ := R49
  dsimp only [List.cons_append, List.nil_append]
  refine XO.q (Q.move rfl) ?_
  refine XO.q (Q.extract rfl rfl) ?_
  refine XO.q (Q.extract rfl rfl) ?_
  refine XO.q (Q.assign rfl) ?_
  refine XO.q (Q.assign rfl) ?_
  refine XO.done ?_
  refine XK.seq ?_
  refine XK.region rfl ?_
  refine XO.q (Q.ldA [_, _, _, _, _, _, _, _] rfl rfl rfl) ?_
  refine XO.call Tryz.call13 rfl rfl rfl (rStarts_spec d a3 a4 k3 k4) fun v54 s54 R54 => ?_
  obtain ⟨vo2, ho2, us2, K2, rfl, rfl, OO2, RO2⟩ := R54
  dsimp only [List.cons_append, List.nil_append]
  refine XO.q (Q.move rfl) ?_
  refine XO.q (Q.extract rfl rfl) ?_
  refine XO.q (Q.extract rfl rfl) ?_
  refine XO.q (Q.assign rfl) ?_
  refine XO.q (Q.assign rfl) ?_
  refine XO.done ?_
  refine XK.seq ?_
  refine XK.seq ?_
  refine XK.region rfl ?_
  refine XO.q (Q.move rfl) ?_
  refine XO.q (Q.move rfl) ?_
  refine XO.call Tryz.call14 rfl rfl rfl (sameLists vo1 vo2 ho1 ho2 K1 K2 us1 us2 (if kcheck d = 0 then startsL d else []) (if kcheck d = 0 then startsL d else []) RO1 RO2) fun v59 s59 R59 => ?_
  obtain ⟨rfl, rfl⟩ := R59
  dsimp only [List.cons_append, List.nil_append]
  refine XO.q (Q.not rfl) ?_
  refine XO.q (Q.move rfl) ?_
  refine XO.q (Quiet.guardF rfl rfl fun g62 p62 => Q.move rfl) ?_
  refine XO.q (Quiet.guardF rfl rfl fun g63 p63 => Q.move rfl) ?_
  refine XO.q (Quiet.guardF rfl rfl fun g64 p64 => Q.neq (lzv g64 rfl) (lzv g64 rfl)) ?_
  refine XO.q (Q.or rfl (fun hp => lzv hp rfl)) ?_
  refine XO.done ?_
  refine XK.if rfl (fun c1 => ?_) (fun c1 => ?_)
  ·have _t1 := True.intro
   exact absurd c1 (by simp)
  ·have _t1 := True.intro
   refine XK.skip ?_
   refine XK.seq ?_
   refine XK.region rfl ?_
   refine XO.q (Q.ldA [_, _, _, _, _, _, _, _] rfl rfl rfl) ?_
   refine XO.q (Q.ldA [_, _, _] rfl rfl rfl) ?_
   refine XO.call Tryz.call15 rfl rfl rfl (Cost_spec d a1 a2 k1 k2 p b1 b2 m1 m2) fun v69 s69 R69 => ?_
   obtain ⟨rfl, rfl⟩ := R69
   dsimp only [List.cons_append, List.nil_append]
   refine XO.q (Q.move rfl) ?_
   refine XO.q (Q.extract rfl rfl) ?_
   refine XO.q (Q.extract rfl rfl) ?_
   refine XO.q (Q.assign rfl) ?_
   refine XO.q (Q.assign rfl) ?_
   refine XO.done ?_
   refine XK.seq ?_
   refine XK.region rfl ?_
   refine XO.q (Q.ldA [_, _, _, _, _, _, _, _] rfl rfl rfl) ?_
   refine XO.q (Q.ldA [_, _, _] rfl rfl rfl) ?_
   refine XO.call Tryz.call16 rfl rfl rfl (rCost_spec d a3 a4 k3 k4 p b3 b4 m3 m4) fun v75 s75 R75 => ?_
   obtain ⟨rfl, rfl⟩ := R75
   dsimp only [List.cons_append, List.nil_append]
   refine XO.q (Q.move rfl) ?_
   refine XO.q (Q.extract rfl rfl) ?_
   refine XO.q (Q.extract rfl rfl) ?_
   refine XO.q (Q.assign rfl) ?_
   refine XO.q (Q.assign rfl) ?_
   refine XO.done ?_
   refine XK.seq ?_
   refine XK.seq ?_
   refine XK.region rfl ?_
   refine XO.q (Q.move rfl) ?_
   refine XO.q (Q.move rfl) ?_
   refine XO.q (Q.neq rfl rfl) ?_
   refine XO.q (Q.move rfl) ?_
   refine XO.q (Quiet.guardF rfl rfl fun g82 p82 => Q.move rfl) ?_
   refine XO.q (Quiet.guardF rfl rfl fun g83 p83 => Q.move rfl) ?_
   refine XO.q (Quiet.guardF rfl rfl fun g84 p84 => Q.neq (lzv g84 rfl) (lzv g84 rfl)) ?_
   refine XO.q (Q.or rfl (fun hp => lzv hp rfl)) ?_
   refine XO.done ?_
   refine XK.if rfl (fun c2 => ?_) (fun c2 => ?_)
   ·have _t2 := True.intro
    exact absurd c2 (by simp)
   ·have _t2 := True.intro
    refine XK.skip ?_
    refine XK.seq ?_
    refine XK.region rfl ?_
    refine XO.q (Q.ldA [_, _, _, _, _, _, _, _] rfl rfl rfl) ?_
    refine XO.q (Q.ldA [_, _, _] rfl rfl rfl) ?_
    refine XO.call Tryz.call17 rfl rfl rfl (Ledger_spec d a1 a2 k1 k2 p b1 b2 m1 m2) fun v89 s89 R89 => ?_
    obtain ⟨vl1, hl1, rfl, rfl, OL1⟩ := R89
    dsimp only [List.cons_append, List.nil_append]
    refine XO.q (Q.move rfl) ?_
    refine XO.q (Q.extract rfl rfl) ?_
    refine XO.q (Q.extract rfl rfl) ?_
    refine XO.q (Q.extract rfl rfl) ?_
    refine XO.alloc fun b20 => ?_
    refine XO.q (Q.assign rfl) ?_
    refine XO.st rfl rfl rfl ?_
    refine XO.q (Q.assign rfl) ?_
    refine XO.done ?_
    refine XK.seq ?_
    refine XK.region rfl ?_
    refine XO.q (Q.ldA [_, _, _, _, _, _, _, _] rfl rfl rfl) ?_
    refine XO.q (Q.ldA [_, _, _] rfl rfl rfl) ?_
    refine XO.call Tryz.call18 rfl rfl rfl (rLedger_spec d a3 a4 k3 k4 p b3 b4 m3 m4) fun v96 s96 R96 => ?_
    obtain ⟨vl2, hl2, rfl, rfl, OL2⟩ := R96
    dsimp only [List.cons_append, List.nil_append]
    refine XO.q (Q.move rfl) ?_
    refine XO.q (Q.extract rfl rfl) ?_
    refine XO.q (Q.extract rfl rfl) ?_
    refine XO.q (Q.extract rfl rfl) ?_
    refine XO.alloc fun b22 => ?_
    refine XO.q (Q.assign rfl) ?_
    refine XO.st rfl rfl rfl ?_
    refine XO.q (Q.assign rfl) ?_
    refine XO.done ?_
    refine XK.seq ?_
    refine XK.seq ?_
    refine XK.region rfl ?_
    refine XO.q (Q.move rfl) ?_
    refine XO.q (Q.move rfl) ?_
    refine XO.q (Q.neq rfl rfl) ?_
    refine XO.q (Q.move rfl) ?_
    refine XO.q (Quiet.guardF rfl rfl fun g104 p104 => Q.ldA [_, _, _, _, _, _, _] rfl rfl rfl) ?_
    refine XO.q (Quiet.guardF rfl rfl fun g105 p105 => Q.ldA [_, _, _, _, _, _, _] rfl rfl rfl) ?_
    refine XO.q (Quiet.guardF rfl rfl fun g106 p106 => Q.neqS (us := [_, _, _, _, _, _, _]) (vs := [_, _, _, _, _, _, _]) (lzv g106 rfl) (lzv g106 rfl) inferInstance (by kernel_rfl) (by kernel_rfl) (.c rfl inferInstance inferInstance rfl rfl (.c rfl inferInstance inferInstance rfl rfl (.c rfl inferInstance inferInstance rfl rfl (.c rfl inferInstance inferInstance rfl rfl (.c rfl inferInstance inferInstance rfl rfl (.c rfl inferInstance inferInstance rfl rfl (.c rfl inferInstance inferInstance rfl rfl .n)))))))) ?_
    refine XO.q (Q.or rfl (fun hp => lzv hp rfl)) ?_
    refine XO.q (Q.move rfl) ?_
    refine XO.q (Quiet.guardF rfl rfl fun g109 p109 => Q.move rfl) ?_
    refine XO.q (Quiet.guardF rfl rfl fun g110 p110 => Q.move rfl) ?_
    refine XO.gcallF rfl rfl Tryz.call19 rfl (fun g111 => .c (lzv g111 rfl) (.c (lzv g111 rfl) (.c rfl .n))) rfl (fun g111 p111 => equalRF vl1 vl2 hl1 hl2 (ledgerG d p).1 (ledgerG d p).1) ?_
    refine XO.q (Quiet.guardF rfl rfl fun g112 p112 => Q.not (lzv g112 rfl)) ?_
    refine XO.q (Q.or rfl (fun hp => lzv hp rfl)) ?_
    refine XO.done ?_
    refine XK.if rfl (fun c3 => ?_) (fun c3 => ?_)
    ·have _t3 := True.intro
     exact absurd c3 (by simp)
    ·have _t3 := True.intro
     refine XK.skip ?_
     refine XK.seq ?_
     refine XK.region rfl ?_
     refine XO.q (Q.ldA [_, _, _, _, _, _, _, _] rfl rfl rfl) ?_
     refine XO.call Tryz.call21 rfl rfl rfl (Best_spec d a1 a2 k1 k2) fun v116 s116 R116 => ?_
     obtain ⟨vs1, vc1, vp1, KS1, kc1, kp1, pus1, KP1, tabs, rfl, rfl, on1, AS1, OC1, OP1, RP1, T1, T1e⟩ := R116
     dsimp only [List.cons_append, List.nil_append]
     refine XO.q (Q.move rfl) ?_
     refine XO.q (Q.extract rfl rfl) ?_
     refine XO.q (Q.extract rfl rfl) ?_
     refine XO.q (Q.extract rfl rfl) ?_
     refine XO.alloc fun b23 => ?_
     refine XO.st rfl rfl rfl ?_
     refine XO.q (Q.assign rfl) ?_
     refine XO.q (Q.assign rfl) ?_
     refine XO.done ?_
     refine XK.seq ?_
     refine XK.region rfl ?_
     refine XO.q (Q.ldA [_, _, _, _, _, _, _, _] rfl rfl rfl) ?_
     refine XO.call Tryz.call22 rfl rfl rfl (rBest_spec d a3 a4 k3 k4) fun v122 s122 R122 => ?_
     obtain ⟨vs2, vc2, vp2, KS2, kc2, kp2, pus2, KP2, tabs2, rfl, rfl, on2, AS2, OC2, OP2, RP2, T2, T2e⟩ := R122
     dsimp only [List.cons_append, List.nil_append]
     have tss := tabs_same T2 T2e T1 T1e
     subst tss
     obtain ⟨trl, trm⟩ := tabs_rng T1 T1e
     have fw : FewR tabs2 := ⟨by omega, fun i hi => (trm i hi).2⟩
     refine XO.q (Q.move rfl) ?_
     refine XO.q (Q.extract rfl rfl) ?_
     refine XO.q (Q.extract rfl rfl) ?_
     refine XO.q (Q.extract rfl rfl) ?_
     refine XO.alloc fun b25 => ?_
     refine XO.st rfl rfl rfl ?_
     refine XO.q (Q.assign rfl) ?_
     refine XO.q (Q.assign rfl) ?_
     refine XO.done ?_
     refine XK.seq ?_
     refine XK.seq ?_
     refine XK.region rfl ?_
     refine XO.q (Q.ldA [_, _, _] rfl rfl rfl) ?_
     refine XO.q (Q.ldA [_, _, _] rfl rfl rfl) ?_
     refine XO.call Tryz.call23 rfl rfl rfl (equal_spec (bestG d).1 vs1 vc1 KS1 kc1 vs2 vc2 KS2 kc2) fun v128 s128 R128 => ?_
     obtain ⟨rfl, rfl⟩ := R128
     dsimp only [List.cons_append, List.nil_append]
     refine XO.q (Q.not rfl) ?_
     refine XO.q (Q.move rfl) ?_
     refine XO.q (Quiet.guardF rfl rfl fun g131 p131 => Q.move rfl) ?_
     refine XO.q (Quiet.guardF rfl rfl fun g132 p132 => Q.move rfl) ?_
     refine XO.gcallF rfl rfl Tryz.call14 rfl (fun g133 => .c (lzv g133 rfl) (.c (lzv g133 rfl) .n)) rfl (fun g133 p133 => sameLists vp1 vp2 kp1 kp2 KP1 KP2 pus1 pus2 tabs2 tabs2 RP1 RP2) ?_
     refine XO.q (Quiet.guardF rfl rfl fun g134 p134 => Q.not (lzv g134 rfl)) ?_
     refine XO.q (Q.or rfl (fun hp => lzv hp rfl)) ?_
     refine XO.q (Q.move rfl) ?_
     refine XO.q (Quiet.guardF rfl rfl fun g137 p137 => Q.move rfl) ?_
     refine XO.q (Quiet.guardF rfl rfl fun g138 p138 => Q.move rfl) ?_
     refine XO.q (Quiet.guardF rfl rfl fun g139 p139 => Q.neq (lzv g139 rfl) (lzv g139 rfl)) ?_
     refine XO.q (Q.or rfl (fun hp => lzv hp rfl)) ?_
     refine XO.done ?_
     refine XK.if rfl (fun c4 => ?_) (fun c4 => ?_)
     ·have _t4 := True.intro
      exact absurd c4 (by simp)
     ·have _t4 := True.intro
      refine XK.skip ?_
      refine XK.seq ?_
      refine XK.seq ?_
      refine XK.region rfl ?_
      refine XO.q (Q.move rfl) ?_
      refine XO.done ?_
      refine XK.block ?_
      refine XK.while (X := Nat) [8, 27, 28, 29, 30, 31, 141, 142, 143, 144, 145, 146, 147, 148, 149, 150, 151, 152, 153, 154, 155, 156, 157, 158, 159, 160, 161, 162, 163, 164, 165, 166, 167, 168, 169, 170, 171, 172, 173, 174, 175, 176, 177, 178, 179, 180, 181, 182, 183, 184, 185, 186, 187, 188, 189, 190, 191, 192, 193, 194, 195, 196, 197, 198, 199, 200, 201, 202, 203, 204, 205, 206, 207, 208, 209, 210, 211, 212, 213, 214, 215, 216, 217, 218, 219, 220, 221, 222, 223, 224, 225, 226, 227, 228, 229, 230] (fun w => [(141, some (.int .i64 (w : Nat)))]) (fun w => []) (fun w => w ≤ 3) (fun w => 3 - w) (0) [] rfl (by omega) (.c rfl (.base 0 rfl rfl)) ?_
      rintro w hw ih0
      dsimp only [List.cons_append, List.nil_append] at ih0 ⊢
      refine XK.seq ?_
      refine XK.region rfl ?_
      refine XO.q (Q.lss rfl rfl) ?_
      refine XO.done ?_
      refine XK.seq ?_
      refine XK.if rfl (fun c5 => ?_) (fun c5 => ?_)
      ·have _t5 := True.intro
       refine XK.skip ?_
       refine XK.seq ?_
       refine XK.block ?_
       refine XK.seq ?_
       refine XK.region rfl ?_
       refine XO.q (Q.move rfl) ?_
       refine XO.q (Q.assign rfl) ?_
       refine XO.done ?_
       refine XK.seq ?_
       refine XK.region rfl ?_
       refine XO.q (Q.move rfl) ?_
       refine XO.call Tryz.call24 rfl rfl rfl (copyLists vp1 kp1 KP1 pus1 tabs2 RP1 (by omega) (fun i hi => (trm i hi).2)) fun v145 s145 R145 => ?_
       obtain ⟨kx, us, Ks, rfl, OX, ORw⟩ := R145
       dsimp only [List.cons_append, List.nil_append]
       have oul := ORw.lu
       refine XO.q (Q.assign rfl) ?_
       refine XO.done ?_
       refine XK.seq ?_
       refine XK.meet (X := Value × PHeap × PHeap × List Value × List (List Int)) [28, 29, 30, 146, 147, 148, 149, 150, 151, 152, 153, 154, 155, 156, 157, 158, 159, 160, 161, 162, 163, 164, 165, 166, 167, 168, 169, 170, 171, 172, 173, 174, 175, 176, 177, 178, 179, 180, 181, 182, 183, 184, 185, 186, 187, 188, 189, 190, 191, 192, 193, 194, 195, 196, 197, 198, 199, 200, 201] (fun ⟨vx, kx, K, us, xs⟩ => [(28, some (vx))]) (fun ⟨vx, kx, K, us, xs⟩ => [kx, K]) (fun ⟨vx, kx, K, us, xs⟩ => One vx ∧ Arr vx encV 1 kx us ∧ RowsK us K xs ∧ FewR xs) [kx, join Ks] ?_ ?_
       ·rintro ⟨vx, kx, K, us, xs⟩ ⟨ox, AX, RK, FX⟩
        dsimp only [List.cons_append, List.nil_append]
        obtain ⟨xsl, xsm⟩ := FX
        refine XK.seq ?_
        refine XK.region rfl ?_
        refine XO.q (Q.move rfl) ?_
        refine XO.call Tryz.call24 rfl rfl rfl (copyLists vx kx K us xs RK xsl xsm) fun v203 s203 R203 => ?_
        obtain ⟨ky, uy, Ly, rfl, OY, ORy⟩ := R203
        dsimp only [List.cons_append, List.nil_append]
        have RY := ORy.rows
        refine XO.q (Q.assign rfl) ?_
        refine XO.done ?_
        refine XK.seq ?_
        refine XK.drawn [0, 1, 2, 4, 5, 6, 8, 9, 10, 11, 12, 14, 15, 16, 18, 19, 20, 21, 22, 24, 25] [b9, b11, b10, b12, b23, b25] [] (.q 0 (.q 1 (.q 2 (.q 4 (.q 5 (.q 6 (.br 3 true (.br 7 true (.q 8 (.q 9 (.q 10 (.q 11 (.q 12 (.q 14 (.q 15 (.q 16 (.br 13 true (.br 17 true (.q 18 (.q 19 (.q 20 (.q 21 (.q 22 (.br 23 true (.q 24 (.q 25 .done)) .stop)))))) .stop) .stop))))))))) .stop) .stop))))))) Tryz.mixed rfl (by kernel_rfl) ?_
        refine XT.q rfl rfl (Q.ldA [_, _, _, _, _, _, _, _] rfl rfl rfl) ?_
        refine XT.q rfl rfl (Q.ldA [_, _, _] rfl rfl rfl) ?_
        refine XT.q rfl rfl (Q.move rfl) ?_
        refine XT.q rfl rfl (Q.ldA [_, _, _, _, _, _, _, _] rfl rfl rfl) ?_
        refine XT.q rfl rfl (Q.ldA [_, _, _] rfl rfl rfl) ?_
        refine XT.q rfl rfl (Q.move rfl) ?_
        refine XT.call rfl rfl Tryz.call26 rfl rfl rfl (Verify_spec d a1 a2 k1 k2 p b1 b2 m1 m2 vx kx K us xs RK) (fun v207 s207 R207 => ?_) XT.stop
        obtain ⟨rfl, rfl⟩ := R207
        dsimp only [List.cons_append, List.nil_append]
        refine ⟨inferInstance, ?_⟩
        refine XT.call rfl rfl Tryz.call27 rfl rfl rfl (rVerify_spec d a3 a4 k3 k4 p b3 b4 m3 m4 v203 ky (join Ly) uy xs RY) (fun v211 s211 R211 => ?_) XT.stop
        obtain ⟨rfl, rfl⟩ := R211
        dsimp only [List.cons_append, List.nil_append]
        refine ⟨inferInstance, ?_⟩
        refine XT.q rfl rfl (Q.neq rfl rfl) ?_
        refine XT.q rfl rfl (Q.move rfl) ?_
        refine XT.q rfl rfl (Quiet.guardF rfl rfl fun g214 p214 => Q.ldA [_, _, _, _, _, _, _, _] rfl rfl rfl) ?_
        refine XT.q rfl rfl (Quiet.guardF rfl rfl fun g215 p215 => Q.ldA [_, _, _] rfl rfl rfl) ?_
        refine XT.q rfl rfl (Quiet.guardF rfl rfl fun g216 p216 => Q.move rfl) ?_
        refine XT.q rfl rfl (Quiet.guardF rfl rfl fun g218 p218 => Q.ldA [_, _, _, _, _, _, _, _] rfl rfl rfl) ?_
        refine XT.q rfl rfl (Quiet.guardF rfl rfl fun g219 p219 => Q.ldA [_, _, _] rfl rfl rfl) ?_
        refine XT.q rfl rfl (Quiet.guardF rfl rfl fun g220 p220 => Q.move rfl) ?_
        refine XT.gcallF rfl rfl rfl rfl Tryz.call26 rfl (fun g217 => .c (lzv g217 rfl) (.c (lzv g217 rfl) (.c (lzv g217 rfl) .n))) rfl (fun g217 p217 => Verify_spec d a1 a2 k1 k2 (bestG d).1 vs1 vc1 KS1 kc1 vx kx K us xs RK) ⟨inferInstance, ?_⟩ XT.stop
        refine XT.gcallF rfl rfl rfl rfl Tryz.call27 rfl (fun g221 => .c (lzv g221 rfl) (.c (lzv g221 rfl) (.c (lzv g221 rfl) .n))) rfl (fun g221 p221 => rVerify_spec d a3 a4 k3 k4 (bestG d).1 vs2 vc2 KS2 kc2 v203 ky (join Ly) uy xs RY) ⟨inferInstance, ?_⟩ XT.stop
        refine XT.q rfl rfl (Quiet.guardF rfl rfl fun g222 p222 => Q.neq (lzv g222 rfl) (lzv g222 rfl)) ?_
        refine XT.q rfl rfl (Q.or rfl (fun hp => lzv hp rfl)) ?_
        refine XT.q rfl rfl (Q.move rfl) ?_
        refine XT.q rfl rfl (Quiet.guardF rfl rfl fun g225 p225 => Q.move rfl) ?_
        refine XT.q rfl rfl (Quiet.guardF rfl rfl fun g226 p226 => Q.move rfl) ?_
        refine XT.gcallF rfl rfl rfl rfl Tryz.call14 rfl (fun g227 => .c (lzv g227 rfl) (.c (lzv g227 rfl) .n)) rfl (fun g227 p227 => sameLists vx v203 kx ky K (join Ly) us uy xs xs RK RY) ⟨inferInstance, ?_⟩ XT.stop
        refine XT.q rfl rfl (Quiet.guardF rfl rfl fun g228 p228 => Q.not (lzv g228 rfl)) ?_
        refine XT.q rfl rfl (Q.or rfl (fun hp => lzv hp rfl)) ?_
        refine XT.done ?_
        refine XK.if rfl (fun c6 => ?_) (fun c6 => ?_)
        ·have _t6 := True.intro
         exact absurd c6 (by simp)
        ·have _t6 := True.intro
         refine XK.skip ?_
         refine XK.inBlock ?_
         refine XK.region rfl ?_
         refine XO.q (Q.add rfl rfl ⟨by omega, by omega⟩) ?_
         refine XO.q (Q.move rfl) ?_
         refine XO.done ?_
         exact ih0 (w + 1) _ _ (by omega) (by first | omega | (dsimp only; omega)) (.c rfl (.base 194 rfl rfl)) inferInstance
       ·intro mtb2
        dsimp only [List.cons_append, List.nil_append] at mtb2
        refine XK.block ?_
        refine XK.seq ?_
        refine XK.region rfl ?_
        refine XO.q (Q.move rfl) ?_
        refine XO.q (Q.eql rfl rfl) ?_
        refine XO.q (Q.move rfl) ?_
        refine XO.q (Quiet.guardT rfl rfl fun g150 p150 => Q.move rfl) ?_
        refine XO.q (Quiet.guardT rfl rfl fun g151 p151 => Q.len (lzv g151 rfl)) ?_
        refine XO.q (Quiet.guardT rfl rfl fun g152 p152 => Q.gtr (lzv g152 rfl) rfl) ?_
        refine XO.q (Q.and rfl (fun hp => lzv hp rfl)) ?_
        refine XO.q (Q.assign rfl) ?_
        refine XO.done ?_
        refine XK.if rfl (fun c7 => ?_) (fun c7 => ?_)
        ·have _t7 := True.intro
         refine XK.seq ?_
         refine XK.region rfl ?_
         refine XO.q (Q.move rfl) ?_
         refine XO.q (Q.move rfl) ?_
         refine XO.q (Q.move rfl) ?_
         refine XO.len rfl fun l157 => ?_
         refine XO.call Tryz.call25 rfl rfl rfl (Pick_spec at_ (us.length : Int) hat (by constructor <;> omega)) fun v158 s158 R158 => ?_
         obtain ⟨rfl, rfl⟩ := R158
         dsimp only [List.cons_append, List.nil_append]
         obtain ⟨k, hk, hkl⟩ : ∃ k : Nat, pickI at_ (us.length : Int) = (k : Int) ∧ k < us.length := by
          have := pickI_bd (x := at_) (n := (us.length : Int)) (by omega)
          exact ⟨(pickI at_ us.length).toNat, by omega, by omega⟩
         rw [hk]
         refine XO.ix rfl rfl (by omega) (by omega) fun i159 => ?_
         refine XO.q (Q.ldE rfl (by first | assumption | omega) rfl) ?_
         refine XO.q (Q.assign rfl) ?_
         refine XO.done ?_
         refine XK.region rfl ?_
         refine XO.rowOut Ks k ORw.pd (by rw [ORw.lk]; omega) ?_
         haveI := ORw.at' k (by omega)
         have rl1 := (trm k (by omega)).1
         have rl2 := (trm k (by omega)).2
         refine XO.q (Q.move rfl) ?_
         refine XO.q (Q.move rfl) ?_
         refine XO.q (Q.move rfl) ?_
         refine XO.len rfl fun l164 => ?_
         refine XO.call Tryz.call25 rfl rfl rfl (Pick_spec at_ ((tabs2.getD k default).length : Int) hat (by constructor <;> omega)) fun v165 s165 R165 => ?_
         obtain ⟨rfl, rfl⟩ := R165
         dsimp only [List.cons_append, List.nil_append]
         obtain ⟨q, hq, hql⟩ : ∃ q : Nat, pickI at_ ((tabs2.getD k default).length : Int) = (q : Int) ∧ q < (tabs2.getD k default).length := by
          have := pickI_bd (x := at_) (n := ((tabs2.getD k default).length : Int)) (by omega)
          exact ⟨(pickI at_ (tabs2.getD k default).length).toNat, by omega, by omega⟩
         rw [hq]
         refine XO.ix rfl rfl (by omega) (by omega) fun i166 => ?_
         refine XO.q (Q.ldE rfl (by first | assumption | omega) rfl) ?_
         refine XO.q (Q.move rfl) ?_
         refine XO.q (Q.addW rfl rfl) ?_
         refine XO.ix rfl rfl (by omega) (by omega) fun i170 => ?_
         refine XO.stE _ rfl rfl rfl (by assumption) rfl rfl fun h27_10 O27_10 => ?_
         refine XO.rowIn Ks k h27_10 ORw.pd (by rw [ORw.lk]; omega) fun pd2 => ?_
         have OR2 := ORw.put O27_10 pd2
         refine XO.done ?_
         refine XK.inBlock ?_
         exact mtb2 ((v145, kx, join (Ks.set k h27_10), us, _)) _ _ ⟨inferInstance, OArr.arr (s := OX), OR2.rows, set_few fw (by rw [List.length_set]; exact (trm k (by omega)).2)⟩ (.c rfl (.base 26 rfl rfl)) inferInstance
        ·have _t7 := True.intro
         refine XK.seq ?_
         refine XK.region rfl ?_
         refine XO.q (Q.move rfl) ?_
         refine XO.q (Q.eql rfl rfl) ?_
         refine XO.q (Q.move rfl) ?_
         refine XO.q (Quiet.guardT rfl rfl fun g175 p175 => Q.move rfl) ?_
         refine XO.q (Quiet.guardT rfl rfl fun g176 p176 => Q.len (lzv g176 rfl)) ?_
         refine XO.q (Quiet.guardT rfl rfl fun g177 p177 => Q.gtr (lzv g177 rfl) rfl) ?_
         refine XO.q (Q.and rfl (fun hp => lzv hp rfl)) ?_
         refine XO.q (Q.assign rfl) ?_
         refine XO.done ?_
         refine XK.if rfl (fun c8 => ?_) (fun c8 => ?_)
         ·have _t8 := True.intro
          refine XK.seq ?_
          refine XK.region rfl ?_
          refine XO.q (Q.move rfl) ?_
          refine XO.q (Q.move rfl) ?_
          refine XO.len rfl fun l181 => ?_
          refine XO.call Tryz.call25 rfl rfl rfl (Pick_spec at_ (us.length : Int) hat (by constructor <;> omega)) fun v182 s182 R182 => ?_
          obtain ⟨rfl, rfl⟩ := R182
          dsimp only [List.cons_append, List.nil_append]
          obtain ⟨k, hk, hkl⟩ : ∃ k : Nat, pickI at_ (us.length : Int) = (k : Int) ∧ k < us.length := by
           have := pickI_bd (x := at_) (n := (us.length : Int)) (by omega)
           exact ⟨(pickI at_ us.length).toNat, by omega, by omega⟩
          rw [hk]
          have ar := ORw.rows.2 k (by omega)
          have rl1 := (trm k (by omega)).1
          have rl2 := (trm k (by omega)).2
          have ac := Arr.cut ar (i := 0) (j := (tabs2.getD k default).length - 1) (by omega) (by omega)
          refine XO.q (Q.assign rfl) ?_
          refine XO.done ?_
          refine XK.seq ?_
          refine XK.drawn [0, 1, 2, 3, 4, 5, 6, 7, 8, 9, 10, 11, 12, 13] [] [kx, join Ks] (.q 0 (.q 1 (.q 2 (.q 3 (.q 4 (.q 5 (.q 6 (.q 7 (.q 8 (.q 9 (.q 10 (.q 11 (.q 12 (.q 13 (.br 14 false .done .stop))))))))))))))) Tryz.mixed rfl (by kernel_rfl) ?_
          refine XT.q rfl rfl (Q.move rfl) ?_
          refine XT.q rfl rfl (Q.move rfl) ?_
          refine XT.q rfl rfl (Q.move rfl) ?_
          refine XT.q rfl rfl (Q.move rfl) ?_
          refine XT.ix rfl rfl rfl rfl (by omega) (by omega) fun i187 => ?_
          refine XT.q rfl rfl (Q.ldE rfl (by first | assumption | omega) rfl) ?_
          refine XT.q rfl rfl (Q.move rfl) ?_
          refine XT.q rfl rfl (Q.move rfl) ?_
          refine XT.ix rfl rfl rfl rfl (by omega) (by omega) fun i191 => ?_
          refine XT.q rfl rfl (Q.ldE rfl (by first | assumption | omega) rfl) ?_
          refine XT.q rfl rfl (Q.len rfl) ?_
          refine XT.q rfl rfl (Q.sub rfl rfl ⟨by omega, by omega⟩) ?_
          refine XT.q rfl rfl (Q.cut (i := 0) (j := (tabs2.getD k default).length - 1) rfl .n (.s rfl (by omega)) (by omega) (by omega)) ?_
          refine XT.ix rfl rfl rfl rfl (by omega) (by omega) fun i196 => ?_
          refine XT.stE (cutv (us.getD k default) 1 0 ((tabs2.getD k default).length - 1)) rfl rfl rfl rfl rfl (by assumption) rfl rfl (fun h30_14 O30_14 => ⟨inferInstance, ?_⟩) XT.stop
          have RK2 := ORw.rows.set (i := k) ac
          obtain ⟨us2, eus⟩ : ∃ x, x = us.set k (cutv (us.getD k default) 1 0 ((tabs2.getD k default).length - 1)) := ⟨_, rfl⟩
          rw [← eus] at O30_14 RK2
          rw [List.drop_zero, Nat.sub_zero] at RK2
          have us2l : us2.length = us.length := by rw [eus, List.length_set]
          clear eus
          refine XT.done ?_
          refine XK.seq ?_
          refine XK.region rfl ?_
          refine XO.q (Q.move rfl) ?_
          refine XO.q (Q.remT rfl rfl (by omega)) ?_
          refine XO.q (Q.eql rfl rfl) ?_
          refine XO.done ?_
          refine XK.if rfl (fun c9 => ?_) (fun c9 => ?_)
          ·have _t9 := True.intro
           refine XK.region rfl ?_
           refine XO.q (Q.move rfl) ?_
           refine XO.cut (i := 1) (j := us2.length) rfl (.s rfl (by omega)) .n (by omega) (by omega) fun v201 A201 => ?_
           rw [List.take_of_length_le (by rw [List.length_drop]; omega)] at A201
           refine XO.q (Q.assign rfl) ?_
           refine XO.done ?_
           refine XK.inBlock ?_
           exact mtb2 ((v201, h30_14, join Ks, us2.drop 1, (tabs2.set k ((tabs2.getD k default).take ((tabs2.getD k default).length - 1))).drop 1)) _ _ ⟨inferInstance, A201, RK2.drop 1, drop_few (set_few fw (by rw [List.length_take]; omega))⟩ (.c rfl (.base 41 rfl rfl)) inferInstance
          ·have _t9 := True.intro
           refine XK.skip ?_
           refine XK.inBlock ?_
           exact mtb2 ((v145, h30_14, join Ks, us2, tabs2.set k ((tabs2.getD k default).take ((tabs2.getD k default).length - 1)))) _ _ ⟨inferInstance, OArr.arr (s := O30_14), RK2, set_few fw (by rw [List.length_take]; omega)⟩ (.c rfl (.base 38 rfl rfl)) inferInstance
         ·have _t8 := True.intro
          refine XK.skip ?_
          refine XK.inBlock ?_
          exact mtb2 ((v145, kx, join Ks, us, tabs2)) _ _ ⟨inferInstance, OArr.arr (s := OX), ORw.rows, fw⟩ (.c rfl (.base 16 rfl rfl)) inferInstance
      ·have _t5 := True.intro
       refine XK.exit rfl ?_
       refine XK.seq ?_
       refine XK.region rfl ?_
       refine XO.q (Q.ldA [_, _, _, _, _, _, _, _] rfl rfl rfl) ?_
       refine XO.q (Q.ldA [_, _, _, _, _, _, _, _] rfl rfl rfl) ?_
       refine XO.call Tryz.call28 rfl rfl rfl (kept_spec d a1 a2 k1 k2 vh vj hh hj) fun v233 s233 R233 => ?_
       obtain ⟨rfl, rfl⟩ := R233
       dsimp only [List.cons_append, List.nil_append]
       refine XO.q (Q.move rfl) ?_
       refine XO.q (Quiet.guardT rfl rfl fun g235 p235 => Q.ldA [_, _, _] rfl rfl rfl) ?_
       refine XO.q (Quiet.guardT rfl rfl fun g236 p236 => Q.ldA [_, _, _] rfl rfl rfl) ?_
       refine XO.gcallT rfl rfl Tryz.call23 rfl (fun g237 => .c (lzv g237 rfl) (.c (lzv g237 rfl) .n)) rfl (fun g237 p237 => equal_spec p b1 b2 m1 m2 b3 b4 m3 m4) ?_
       refine XO.q (Q.and rfl (fun hp => lzv hp rfl)) ?_
       refine XO.q (Q.assign rfl) ?_
       refine XO.done ?_
       refine XK.rt [] Tryz.func4 Tryz.results4 (.t rfl .n) ?_
       exact ⟨by simp, rfl⟩
end Go.X

set_option linter.unusedSimpArgs false
set_option linter.unusedVariables false
set_option maxRecDepth 20000
namespace Go.X
open Go.Proofs
set_option maxHeartbeats 4000000 in
set_option synthInstance.maxSize 1000 in
theorem offers_spec (d : KDay) (vh vj : Value) (hh hj : PHeap) [ih : Arr vh encHour 6 hh d.hours] [ij : Arr vj encJob 4 hj d.jobs] (p : KPlan) (vs vc : Value) (hs_ hc : PHeap) [js : Arr vs encI 1 hs_ p.starts] [jc : Arr vc encI 1 hc p.charge] (o : KOffer) (h63 : o.hours ≤ 9223372036854775807) (pat : List Int) (vt : Value) (ht : PHeap) [jt : Arr vt encI 1 ht pat] (lg : d.hours.length ≤ 30 ∧ d.jobs.length ≤ 4 ∧ p.starts.length ≤ 6 ∧ p.charge.length ≤ 30) (lp : pat.length ≤ 30) :
    Spec Tryz.prog 5 #[.agg #[vh, .int .i64 d.store.energy, .int .i64 d.store.full, .int .i64 d.store.power, .int .i64 d.store.fin, vj, .int .i64 d.most, .int .i64 d.peak], .agg #[vs, vc, .int .i64 p.cost], .agg #[.int .i64 o.beg, .int .i64 o.fin, .int .i64 o.power, .int .i64 o.hours, .int .i64 o.calls, .int .i64 o.pause], vt] [] [hh, hj, hs_, hc, ht] (fun v hs => v = .bool true ∧ hs = []) := by
  obtain ⟨lg1, lg2, lg3, lg4⟩ := lg
  refine Spec.intro (fn := Tryz.f5) (N := 131) Tryz.func5 rfl Tryz.ntmps5 rfl fun B => ?_
  refine XK.seq ?_
  refine XK.region rfl ?_
  refine XO.box rfl fun b4 => ?_
  refine XO.box rfl fun b5 => ?_
  refine XO.box rfl fun b6 => ?_
  refine XO.q (Q.assign rfl) ?_
  refine XO.done ?_
  refine XK.seq ?_
  refine XK.region rfl ?_
  refine XO.q (Q.ldA [_, _, _, _, _, _, _, _] rfl rfl rfl) ?_
  refine XO.call Tryz.call8 rfl rfl rfl (copied_spec d vh vj hh hj (by omega) (by omega)) fun v24 s24 R24 => ?_
  obtain ⟨a1, a2, a3, a4, k1, k2, k3, k4, rfl, rfl, A1, A2, A3, A4⟩ := R24
  dsimp only [List.cons_append, List.nil_append]
  refine XO.q (Q.move rfl) ?_
  refine XO.q (Q.extract rfl rfl) ?_
  refine XO.q (Q.extract rfl rfl) ?_
  refine XO.alloc fun b9 => ?_
  refine XO.alloc fun b10 => ?_
  refine XO.st rfl rfl rfl ?_
  refine XO.st rfl rfl rfl ?_
  refine XO.done ?_
  refine XK.seq ?_
  refine XK.region rfl ?_
  refine XO.q (Q.ldA [_, _, _] rfl rfl rfl) ?_
  refine XO.call Tryz.call9 rfl rfl rfl (planned_spec p vs vc hs_ hc (by omega) (by omega)) fun v29 s29 R29 => ?_
  obtain ⟨b1, b2, b3, b4, m1, m2, m3, m4, rfl, rfl, B1, B2, B3, B4⟩ := R29
  dsimp only [List.cons_append, List.nil_append]
  refine XO.q (Q.move rfl) ?_
  refine XO.q (Q.extract rfl rfl) ?_
  refine XO.q (Q.extract rfl rfl) ?_
  refine XO.alloc fun b11 => ?_
  refine XO.alloc fun b12 => ?_
  refine XO.st rfl rfl rfl ?_
  refine XO.st rfl rfl rfl ?_
  refine XO.done ?_
  refine XK.seq ?_
  refine XK.region rfl ?_
  refine XO.q (Q.ldA [_, _, _, _, _, _, _, _] rfl rfl rfl) ?_
  refine XO.q (Q.ldA [_, _, _, _, _, _] rfl rfl rfl) ?_
  refine XO.call Tryz.call29 rfl rfl rfl (Patterns_spec d a1 a2 k1 k2 o) fun v35 s35 R35 => ?_
  obtain ⟨vo1, ho1, us1, K1, rfl, rfl, OO1, RO1⟩ := R35
  dsimp only [List.cons_append, List.nil_append]
  refine XO.q (Q.move rfl) ?_
  refine XO.q (Q.extract rfl rfl) ?_
  refine XO.q (Q.extract rfl rfl) ?_
  refine XO.q (Q.assign rfl) ?_
  refine XO.q (Q.assign rfl) ?_
  refine XO.done ?_
  refine XK.seq ?_
  refine XK.region rfl ?_
  refine XO.q (Q.ldA [_, _, _, _, _, _, _, _] rfl rfl rfl) ?_
  refine XO.q (Q.ldA [_, _, _, _, _, _] rfl rfl rfl) ?_
  refine XO.call Tryz.call30 rfl rfl rfl (rPatterns_spec d a3 a4 k3 k4 o h63) fun v41 s41 R41 => ?_
  obtain ⟨vo2, ho2, us2, K2, rfl, rfl, OO2, RO2⟩ := R41
  dsimp only [List.cons_append, List.nil_append]
  refine XO.q (Q.move rfl) ?_
  refine XO.q (Q.extract rfl rfl) ?_
  refine XO.q (Q.extract rfl rfl) ?_
  refine XO.q (Q.assign rfl) ?_
  refine XO.q (Q.assign rfl) ?_
  refine XO.done ?_
  refine XK.seq ?_
  refine XK.seq ?_
  refine XK.region rfl ?_
  refine XO.q (Q.move rfl) ?_
  refine XO.q (Q.move rfl) ?_
  refine XO.call Tryz.call14 rfl rfl rfl (sameLists vo1 vo2 ho1 ho2 K1 K2 us1 us2 (offeredG d o).1 (offeredG d o).1 RO1 RO2) fun v46 s46 R46 => ?_
  obtain ⟨rfl, rfl⟩ := R46
  dsimp only [List.cons_append, List.nil_append]
  refine XO.q (Q.not rfl) ?_
  refine XO.q (Q.move rfl) ?_
  refine XO.q (Quiet.guardF rfl rfl fun g49 p49 => Q.move rfl) ?_
  refine XO.q (Quiet.guardF rfl rfl fun g50 p50 => Q.move rfl) ?_
  refine XO.q (Quiet.guardF rfl rfl fun g51 p51 => Q.neq (lzv g51 rfl) (lzv g51 rfl)) ?_
  refine XO.q (Q.or rfl (fun hp => lzv hp rfl)) ?_
  refine XO.done ?_
  refine XK.if rfl (fun c0 => ?_) (fun c0 => ?_)
  · have _t0 := True.intro
    exact absurd c0 (by simp)
  · have _t0 := True.intro
    refine XK.skip ?_
    refine XK.seq ?_
    refine XK.region rfl ?_
    refine XO.q (Q.move rfl) ?_
    refine XO.call Tryz.call31 rfl rfl rfl (cloneI vt ht pat (by omega)) fun v54 s54 R54 => ?_
    obtain ⟨kx, rfl, OX⟩ := R54
    dsimp only [List.cons_append, List.nil_append]
    refine XO.q (Q.assign rfl) ?_
    refine XO.done ?_
    refine XK.seq ?_
    refine XK.region rfl ?_
    refine XO.q (Q.ldA [_, _, _, _, _, _, _, _] rfl rfl rfl) ?_
    refine XO.q (Q.ldA [_, _, _] rfl rfl rfl) ?_
    refine XO.q (Q.ldA [_, _, _, _, _, _] rfl rfl rfl) ?_
    refine XO.q (Q.move rfl) ?_
    refine XO.call Tryz.call32 rfl rfl rfl (Answer_spec d a1 a2 k1 k2 p b1 b2 m1 m2 o pat v54 kx) fun v60 s60 R60 => ?_
    obtain ⟨v1, n1, rfl, rfl, O1⟩ := R60
    dsimp only [List.cons_append, List.nil_append]
    refine XO.q (Q.move rfl) ?_
    refine XO.q (Q.extract rfl rfl) ?_
    refine XO.q (Q.extract rfl rfl) ?_
    refine XO.q (Q.extract rfl rfl) ?_
    refine XO.q (Q.assign rfl) ?_
    refine XO.q (Q.assign rfl) ?_
    refine XO.q (Q.assign rfl) ?_
    refine XO.done ?_
    refine XK.seq ?_
    refine XK.region rfl ?_
    refine XO.q (Q.ldA [_, _, _, _, _, _, _, _] rfl rfl rfl) ?_
    refine XO.q (Q.ldA [_, _, _] rfl rfl rfl) ?_
    refine XO.q (Q.ldA [_, _, _, _, _, _] rfl rfl rfl) ?_
    refine XO.q (Q.move rfl) ?_
    refine XO.call Tryz.call33 rfl rfl rfl (rAnswer_spec d a3 a4 k3 k4 p b3 b4 m3 m4 o h63 pat vt ht) fun v69 s69 R69 => ?_
    obtain ⟨v2, n2, rfl, rfl, O2⟩ := R69
    dsimp only [List.cons_append, List.nil_append]
    refine XO.q (Q.move rfl) ?_
    refine XO.q (Q.extract rfl rfl) ?_
    refine XO.q (Q.extract rfl rfl) ?_
    refine XO.q (Q.extract rfl rfl) ?_
    refine XO.q (Q.assign rfl) ?_
    refine XO.q (Q.assign rfl) ?_
    refine XO.q (Q.assign rfl) ?_
    refine XO.done ?_
    refine XK.seq ?_
    refine XK.seq ?_
    refine XK.region rfl ?_
    refine XO.q (Q.move rfl) ?_
    refine XO.q (Q.move rfl) ?_
    refine XO.call Tryz.call34 rfl rfl rfl (equalI v1 v2 n1 n2 (AnswerG d p o pat).1 (AnswerG d p o pat).1) fun v75 s75 R75 => ?_
    obtain ⟨rfl, rfl⟩ := R75
    dsimp only [List.cons_append, List.nil_append]
    refine XO.q (Q.not rfl) ?_
    refine XO.q (Q.move rfl) ?_
    refine XO.q (Quiet.guardF rfl rfl fun g78 p78 => Q.move rfl) ?_
    refine XO.q (Quiet.guardF rfl rfl fun g79 p79 => Q.move rfl) ?_
    refine XO.q (Quiet.guardF rfl rfl fun g80 p80 => Q.neqB (lzv g80 rfl) (lzv g80 rfl)) ?_
    refine XO.q (Q.or rfl (fun hp => lzv hp rfl)) ?_
    refine XO.q (Q.move rfl) ?_
    refine XO.q (Quiet.guardF rfl rfl fun g83 p83 => Q.move rfl) ?_
    refine XO.q (Quiet.guardF rfl rfl fun g84 p84 => Q.move rfl) ?_
    refine XO.q (Quiet.guardF rfl rfl fun g85 p85 => Q.neq (lzv g85 rfl) (lzv g85 rfl)) ?_
    refine XO.q (Q.or rfl (fun hp => lzv hp rfl)) ?_
    refine XO.done ?_
    refine XK.if rfl (fun c1 => ?_) (fun c1 => ?_)
    · have _t1 := True.intro
      exact absurd c1 (by simp)
    · have _t1 := True.intro
      refine XK.skip ?_
      refine XK.seq ?_
      refine XK.region rfl ?_
      refine XO.q (Q.ldA [_, _, _, _, _, _, _, _] rfl rfl rfl) ?_
      refine XO.q (Q.ldA [_, _, _] rfl rfl rfl) ?_
      refine XO.q (Q.ldA [_, _, _, _, _, _] rfl rfl rfl) ?_
      refine XO.call Tryz.call35 rfl rfl rfl (Deliver_spec d a1 a2 k1 k2 p b1 b2 m1 m2 o) fun v91 s91 R91 => ?_
      obtain ⟨v3, n3, rfl, rfl, w3, O3⟩ := R91
      dsimp only [List.cons_append, List.nil_append]
      refine XO.q (Q.move rfl) ?_
      refine XO.q (Q.extract rfl rfl) ?_
      refine XO.q (Q.extract rfl rfl) ?_
      refine XO.q (Q.extract rfl rfl) ?_
      refine XO.q (Q.assign rfl) ?_
      refine XO.q (Q.assign rfl) ?_
      refine XO.q (Q.assign rfl) ?_
      refine XO.done ?_
      refine XK.seq ?_
      refine XK.region rfl ?_
      refine XO.q (Q.ldA [_, _, _, _, _, _, _, _] rfl rfl rfl) ?_
      refine XO.q (Q.ldA [_, _, _] rfl rfl rfl) ?_
      refine XO.q (Q.ldA [_, _, _, _, _, _] rfl rfl rfl) ?_
      refine XO.call Tryz.call36 rfl rfl rfl (rDeliver_spec d a3 a4 k3 k4 p b3 b4 m3 m4 o h63) fun v99 s99 R99 => ?_
      obtain ⟨v4, n4, rfl, rfl, w4, O4⟩ := R99
      dsimp only [List.cons_append, List.nil_append]
      refine XO.q (Q.move rfl) ?_
      refine XO.q (Q.extract rfl rfl) ?_
      refine XO.q (Q.extract rfl rfl) ?_
      refine XO.q (Q.extract rfl rfl) ?_
      refine XO.q (Q.assign rfl) ?_
      refine XO.q (Q.assign rfl) ?_
      refine XO.q (Q.assign rfl) ?_
      refine XO.done ?_
      refine XK.seq ?_
      refine XK.region rfl ?_
      refine XO.q (Q.move rfl) ?_
      refine XO.q (Q.move rfl) ?_
      refine XO.q (Q.eqlB rfl rfl) ?_
      refine XO.q (Q.move rfl) ?_
      refine XO.q (Quiet.guardT rfl rfl fun g107 p107 => Q.move rfl) ?_
      refine XO.q (Quiet.guardT rfl rfl fun g108 p108 => Q.move rfl) ?_
      refine XO.gcallT rfl rfl Tryz.call34 rfl (fun g109 => .c (lzv g109 rfl) (.c (lzv g109 rfl) .n)) rfl (fun g109 p109 => equalI v3 v4 n3 n4 (DeliverG d p o).2.1 (DeliverG d p o).2.1) ?_
      refine XO.q (Q.and rfl (fun hp => lzv hp rfl)) ?_
      refine XO.q (Q.move rfl) ?_
      refine XO.q (Quiet.guardT rfl rfl fun g112 p112 => Q.move rfl) ?_
      refine XO.q (Quiet.guardT rfl rfl fun g113 p113 => Q.move rfl) ?_
      refine XO.q (Quiet.guardT rfl rfl fun g114 p114 => Q.eql (lzv g114 rfl) (lzv g114 rfl)) ?_
      refine XO.q (Q.and rfl (fun hp => lzv hp rfl)) ?_
      refine XO.q (Q.move rfl) ?_
      refine XO.q (Quiet.guardT rfl rfl fun g117 p117 => Q.move rfl) ?_
      refine XO.q (Quiet.guardT rfl rfl fun g118 p118 => Q.move rfl) ?_
      refine XO.gcallT rfl rfl Tryz.call34 rfl (fun g119 => .c (lzv g119 rfl) (.c (lzv g119 rfl) .n)) rfl (fun g119 p119 => equalI v54 vt kx ht pat pat) ?_
      refine XO.q (Q.and rfl (fun hp => lzv hp rfl)) ?_
      refine XO.q (Q.move rfl) ?_
      refine XO.q (Quiet.guardT rfl rfl fun g122 p122 => Q.ldA [_, _, _, _, _, _, _, _] rfl rfl rfl) ?_
      refine XO.q (Quiet.guardT rfl rfl fun g123 p123 => Q.ldA [_, _, _, _, _, _, _, _] rfl rfl rfl) ?_
      refine XO.gcallT rfl rfl Tryz.call28 rfl (fun g124 => .c (lzv g124 rfl) (.c (lzv g124 rfl) .n)) rfl (fun g124 p124 => kept_spec d a1 a2 k1 k2 vh vj hh hj) ?_
      refine XO.q (Q.and rfl (fun hp => lzv hp rfl)) ?_
      refine XO.q (Q.move rfl) ?_
      refine XO.q (Quiet.guardT rfl rfl fun g127 p127 => Q.ldA [_, _, _] rfl rfl rfl) ?_
      refine XO.q (Quiet.guardT rfl rfl fun g128 p128 => Q.ldA [_, _, _] rfl rfl rfl) ?_
      refine XO.gcallT rfl rfl Tryz.call23 rfl (fun g129 => .c (lzv g129 rfl) (.c (lzv g129 rfl) .n)) rfl (fun g129 p129 => equal_spec p b1 b2 m1 m2 b3 b4 m3 m4) ?_
      refine XO.q (Q.and rfl (fun hp => lzv hp rfl)) ?_
      refine XO.q (Q.assign rfl) ?_
      refine XO.done ?_
      refine XK.rt [] Tryz.func5 Tryz.results5 (.t rfl .n) ?_
      exact ⟨by simp, rfl⟩
end Go.X
