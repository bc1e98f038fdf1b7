/- A part of the proof: a small program logic, plain laws and contracts of functions, each proved by a walk through its operations. No condition but those that stand in each theorem. -/
import Derived.Test.YtbeieafhcephmaaA5
/- Deliveries of plans, as the statement uses them. No condition. -/
set_option linter.unusedVariables false
namespace Go.X
theorem offered_yes {d : KDay} {o : KOffer} (ok : DayOk d) (ofk : OfferOk d.hours.length o) (h : 1 ≤ (patternsG o).length) : offeredG d o = (patternsG o, 0) := by
  rw [offeredG, if_neg (by rw [kcheck_iff.2 ok]; decide), if_neg (by rw [offerR_iff.2 ofk]; decide), if_neg (by omega)]
theorem ready_yes {d : KDay} {p : KPlan} {o : KOffer} (ho : offeredG d o = (patternsG o, 0)) (h : (formG d p).2 = 0) : readyG d p o = 0 := by
  rw [readyG, ho, if_neg (by simp)]; exact h
theorem deliver_eq {d : KDay} {p : KPlan} {o : KOffer} (ho : offeredG d o = (patternsG o, 0)) (h : (formG d p).2 = 0) : DeliverG d p o = ((deliverL d p o (patternsG o)).1, (deliverL d p o (patternsG o)).2, 0) := by
  rw [DeliverG, ready_yes ho h, if_neg (by decide)]
theorem answer_eq {d : KDay} {s ch : List Int} {c : Int} {o : KOffer} (ho : offeredG d o = (patternsG o, 0)) (h : formG d ⟨s, ch, c⟩ = (needsL d s, 0)) {a : List Int} (ha : a ∈ patternsG o) :
    AnswerG d ⟨s, ch, c⟩ o a = ((answerG d (needsL d s) ch o a).1, (answerG d (needsL d s) ch o a).2, 0) := by
  have h0 : (formG d ⟨s, ch, c⟩).2 = 0 := by rw [h]
  rw [AnswerG, ready_yes ho h0, if_neg (by decide), if_neg (by
    intro hn; exact hn (List.any_eq_true.2 ⟨a, ha, decide_eq_true rfl⟩)), h]
theorem bad_eq {d : KDay} {s ch : List Int} {c : Int} {o : KOffer} (h : formG d ⟨s, ch, c⟩ = (needsL d s, 0)) (a : List Int) : badPat d ⟨s, ch, c⟩ o a = !(answerG d (needsL d s) ch o a).2 := by
  rw [badPat, h]
/-- Which pattern the statement looks at, and what it finds. -/
theorem pick_good {d : KDay} {s ch : List Int} {c : Int} {o : KOffer} (h : formG d ⟨s, ch, c⟩ = (needsL d s, 0)) {a : List Int} {yes : Bool} (hy : (deliverL d ⟨s, ch, c⟩ o (patternsG o)).1 = yes) (ha : a ∈ patternsG o) (hb : yes = false → badPat d ⟨s, ch, c⟩ o a = true) : (answerG d (needsL d s) ch o a).2 = yes := by
  cases yes
  · have := hb rfl
    rw [bad_eq h, Bool.not_eq_true'] at this
    exact this
  · have := deliver_yes hy a ha
    rw [bad_eq h, Bool.not_eq_false'] at this
    exact this
def firstF (n : Nat) (a b : List Int) (i : Nat) : Int :=
  if i < b.length then min (if i < a.length then min (n : Int) (a.getD i default) else n) (b.getD i default) else (if i < a.length then min (n : Int) (a.getD i default) else n)
theorem first_at {n : Nat} {a b : List Int} (ha : a.Pairwise (· ≤ ·)) (hb : b.Pairwise (· ≤ ·)) {i : Nat} (h : a.take i = b.take i) : FirstOk n a b (firstF n a b i) := by
  refine ⟨?_, ⟨i, h, fun t ht => ?_, fun t ht => ?_⟩⟩
  · unfold firstF; split <;> split <;> omega
  · by_cases hi : i < a.length
    · have := drop_least ha hi t ht
      unfold firstF; rw [if_pos hi]; split <;> omega
    · rw [List.drop_of_length_le (by omega)] at ht; cases ht
  · by_cases hi : i < b.length
    · have := drop_least hb hi t ht
      unfold firstF; rw [if_pos hi]; omega
    · rw [List.drop_of_length_le (by omega)] at ht; cases ht
theorem first_nonneg {n : Nat} {a b : List Int} (ha : ∀ t ∈ a, 0 ≤ t) (hb : ∀ t ∈ b, 0 ≤ t) (i : Nat) : 0 ≤ firstF n a b i := by
  unfold firstF
  by_cases h1 : i < b.length
  · have := hb _ (getD_mem h1)
    rw [if_pos h1]
    by_cases h2 : i < a.length
    · have := ha _ (getD_mem h2); rw [if_pos h2]; omega
    · rw [if_neg h2]; omega
  · rw [if_neg h1]
    by_cases h2 : i < a.length
    · have := ha _ (getD_mem h2); rw [if_pos h2]; omega
    · rw [if_neg h2]; omega
theorem take_less {α : Type} {x y : List α} {m n : Nat} (h : x.take n = y.take n) (hm : m ≤ n) : x.take m = y.take m := by
  have := congrArg (List.take m) h
  rwa [List.take_take, List.take_take, Nat.min_eq_left hm] at this
def mineTo (d : KDay) (x : List UInt8) (k : Nat) : List Int := (List.range k).map fun i => dg x i (2 * d.store.power + 1) - d.store.power
theorem mineTo_len (d : KDay) (x : List UInt8) (k : Nat) : (mineTo d x k).length = k := by rw [mineTo, List.length_map, List.length_range]
theorem mineTo_rng {d : KDay} (so : StoreOk d.store) (x : List UInt8) {k i : Nat} (h : i < k) : -1000 ≤ (mineTo d x k).getD i default ∧ (mineTo d x k).getD i default ≤ 1000 := by
  rw [mineTo, range_at h]
  have p0 := so.p0; have p1 := so.p1
  have := dg_rng x i (n := 2 * d.store.power + 1) (by omega)
  omega
theorem keeps_rng {d : KDay} (so : StoreOk d.store) {base lim c : List Int} (h : keepsB d base lim c = true) {i : Nat} (hi : i < c.length) : -1000 ≤ c.getD i default ∧ c.getD i default ≤ 1000 := by
  unfold keepsB at h
  rw [Bool.and_eq_true, allTo_iff] at h
  have := keepAt_iff.1 (h.1 i hi)
  have p1 := so.p1
  omega
end Go.X

set_option linter.unusedSimpArgs false
set_option linter.unusedVariables false
set_option maxRecDepth 20000
namespace Go.X
open Go.Proofs
set_option maxHeartbeats 8000000 in
set_option synthInstance.maxSize 1000 in
theorem MarketDelivered_spec (v0 : Value) (h0 : PHeap) (x0 : List UInt8) [i0 : Arr v0 encU8 1 h0 x0] (v1 : Value) (h1 : PHeap) (x1 : List UInt8) [i1 : Arr v1 encU8 1 h1 x1] (n2 : Nat) (hn2 : n2 < 256) (v3 : Value) (h3 : PHeap) (x3 : List UInt8) [i3 : Arr v3 encU8 1 h3 x3] (n4 : Nat) (hn4 : n4 < 65536) (n5 : Nat) (hn5 : n5 < 65536) (v6 : Value) (h6 : PHeap) (x6 : List UInt8) [i6 : Arr v6 encU8 1 h6 x6] : Spec Try.prog 6 #[v0, v1, .int .u8 (n2 : Nat), v3, .int .u16 (n4 : Nat), .int .u16 (n5 : Nat), v6] [] [h0, h1, h3, h6] (fun v hs => v = .bool true ∧ hs = []) := by
  have nI : OArr (.slice none 0 0) encI 1 3 emp ([] : List Int) := OArr.nil (fun _ => rfl)
  refine Spec.intro (fn := Try.f6) (N := 312) Try.func6 rfl Try.ntmps6 rfl fun B => ?_
  refine XK.seq ?_
  refine XK.region rfl ?_
  refine XO.q (Q.assign rfl) ?_
  refine XO.done ?_
  refine XK.seq ?_
  refine XK.region rfl ?_
  refine XO.q (Q.move rfl) ?_
  refine XO.call Try.call9 rfl rfl rfl (Made_spec v0 h0 x0) fun v40 s40 R40 => ?_
  obtain ⟨vh, vj, kh, kj, rfl, rfl, OH, OJ⟩ := R40
  dsimp only [List.cons_append, List.nil_append]
  have ok := made_ok x0
  have ml := made_len x0
  have mm := made_most x0
  have mh := fun i hi => made_hour x0 (i := i) hi
  obtain ⟨d, ed⟩ : ∃ d, d = madeD x0 := ⟨_, rfl⟩
  rw [← ed] at OH OJ ok ml mm mh ⊢
  clear ed
  have sn := starts_one ok
  have h24 := ok.h2
  refine XO.alloc fun b15 => ?_
  refine XO.st rfl rfl rfl ?_
  refine XO.done ?_
  refine XK.seq ?_
  refine XK.region rfl ?_
  refine XO.q (Q.ldA [_, _, _, _, _, _, _, _] rfl rfl rfl) ?_
  refine XO.call Try.call15 rfl rfl rfl (Starts_spec d vh vj kh kj) fun v43 s43 R43 => ?_
  obtain ⟨vo, ho, us, K, rfl, rfl, OO, RS⟩ := R43
  dsimp only [List.cons_append, List.nil_append]
  have kc : kcheck d = 0 := kcheck_iff.2 ok
  rw [kc, if_pos rfl] at RS
  rw [kc]
  have RL := RS.1
  refine XO.q (Q.move rfl) ?_
  refine XO.q (Q.extract rfl rfl) ?_
  refine XO.q (Q.extract rfl rfl) ?_
  refine XO.q (Q.assign rfl) ?_
  refine XO.q (Q.assign rfl) ?_
  refine XO.done ?_
  refine XK.seq ?_
  refine XK.seq ?_
  refine XK.region rfl ?_
  refine XO.q (Q.move rfl) ?_
  refine XO.q (Q.neq rfl rfl) ?_
  refine XO.q (Q.move rfl) ?_
  refine XO.q (Quiet.guardF rfl rfl fun g49 p49 => Q.move rfl) ?_
  refine XO.q (Quiet.guardF rfl rfl fun g50 p50 => Q.len (lzv g50 rfl)) ?_
  refine XO.q (Quiet.guardF rfl rfl fun g51 p51 => Q.lss (lzv g51 rfl) rfl) ?_
  refine XO.q (Q.or rfl (fun hp => lzv hp rfl)) ?_
  refine XO.done ?_
  refine XK.if rfl (fun c0 => ?_) (fun c0 => ?_)
  · have _t0 := True.intro
    exact absurd c0 (by omega)
  · have _t0 := True.intro
    have hi0 : ((((n2 : Nat) : Int) % (us.length : Int))).toNat < us.length := by have := Int.emod_nonneg ((n2 : Nat) : Int) (show (us.length : Int) ≠ 0 by omega); have := Int.emod_lt_of_pos ((n2 : Nat) : Int) (show 0 < (us.length : Int) by omega); omega
    have as0 := RS.2 ((((n2 : Nat) : Int) % (us.length : Int))).toNat (by omega)
    have sm := at_mem (d := d) (j := ((((n2 : Nat) : Int) % (us.length : Int))).toNat) (by omega)
    have so := starts_ok sm
    refine XK.skip ?_
    refine XK.seq ?_
    refine XK.meet (X := Nat × Value × PHeap) [18, 19, 53, 54, 55, 56, 57, 58, 59, 60, 61, 62, 63, 64, 65, 66] (fun ⟨b18, vc, kc1⟩ => [(18, some (ptr b18 0)), (19, some (.bool (someP d ((startsL d).getD ((((n2 : Nat) : Int) % (us.length : Int))).toNat default) x3).2))]) (fun ⟨b18, vc, kc1⟩ => [blk b18 [(us.getD ((((n2 : Nat) : Int) % (us.length : Int))).toNat default), vc, .int .i64 0] 32, kc1]) (fun ⟨b18, vc, kc1⟩ => OArr vc encI 1 3 kc1 (someP d ((startsL d).getD ((((n2 : Nat) : Int) % (us.length : Int))).toNat default) x3).1.charge) [] ?_ ?_
    · rintro ⟨b18, vc, kc1⟩ OC
      dsimp only [List.cons_append, List.nil_append]
      obtain ⟨ch, ec⟩ : ∃ c, (someP d ((startsL d).getD ((((n2 : Nat) : Int) % (us.length : Int))).toNat default) x3).1.charge = c := ⟨_, rfl⟩
      obtain ⟨bk, ebk⟩ : ∃ b, (someP d ((startsL d).getD ((((n2 : Nat) : Int) % (us.length : Int))).toNat default) x3).2 = b := ⟨_, rfl⟩
      rw [ec] at OC
      rw [ebk]
      have sf := some_plan ok sm ec
      rw [ebk] at sf
      obtain ⟨s, es⟩ : ∃ s, s = ((startsL d).getD ((((n2 : Nat) : Int) % (us.length : Int))).toNat default) := ⟨_, rfl⟩
      obtain ⟨vs, evs⟩ : ∃ v, v = (us.getD ((((n2 : Nat) : Int) % (us.length : Int))).toNat default) := ⟨_, rfl⟩
      rw [← es] at as0 sm so sf
      rw [← evs] at as0
      rw [← evs]
      clear es evs ec ebk
      refine XK.seq ?_
      refine XK.seq ?_
      refine XK.region rfl ?_
      refine XO.q (Q.move rfl) ?_
      refine XO.q (Q.not rfl) ?_
      refine XO.done ?_
      refine XK.if rfl (fun c1 => ?_) (fun c1 => ?_)
      · have _t1 := True.intro
        refine XK.seq ?_
        refine XK.region rfl ?_
        refine XO.call Try.call12 rfl rfl rfl (awake10) fun v69 s69 R69 => ?_
        obtain ⟨rfl, rfl⟩ := R69
        dsimp only [List.cons_append, List.nil_append]
        refine XO.q (Q.assign rfl) ?_
        refine XO.done ?_
        refine XK.rt [] Try.func6 Try.results6 (.t rfl .n) ?_
        exact ⟨rfl, rfl⟩
      · have _t1 := True.intro
        have sf := sf (by cases bk <;> simp_all)
        refine XK.skip ?_
        refine XK.seq ?_
        refine XK.seq ?_
        refine XK.region rfl ?_
        refine XO.q (Q.ldA [_, _, _, _, _, _, _, _] rfl rfl rfl) ?_
        refine XO.q (Q.ldA [_, _, _] rfl rfl rfl) ?_
        refine XO.call Try.call17 rfl rfl rfl (Cost_spec d vh vj kh kj (⟨s, ch, 0⟩ : KPlan) vs vc K kc1) fun v73 s73 R73 => ?_
        obtain ⟨rfl, rfl⟩ := R73
        dsimp only [List.cons_append, List.nil_append]
        rw [cost_err]
        refine XO.q (Q.move rfl) ?_
        refine XO.q (Q.extract rfl rfl) ?_
        refine XO.q (Q.extract rfl rfl) ?_
        refine XO.q (Q.assign rfl) ?_
        refine XO.q (Q.assign rfl) ?_
        refine XO.done ?_
        refine XK.seq ?_
        refine XK.region rfl ?_
        refine XO.q (Q.move rfl) ?_
        refine XO.q (Q.neq rfl rfl) ?_
        refine XO.done ?_
        refine XK.if rfl (fun c2 => ?_) (fun c2 => ?_)
        · have _t2 := True.intro
          have sf2 : (formG d (⟨s, ch, 0⟩ : KPlan)).2 = 120 := by
            rcases sf with sf | sf
            · simp [sf] at c2
            · rw [sf]
          rw [sf2]
          refine XK.seq ?_
          refine XK.region rfl ?_
          refine XO.q (Q.move rfl) ?_
          refine XO.q (Q.eql rfl rfl) ?_
          refine XO.q (Q.move rfl) ?_
          refine XO.gcallT rfl rfl Try.call12 rfl (fun g81 => .n) rfl (fun g81 p81 => awake10) ?_
          refine XO.q (Q.and rfl (fun hp => lzv hp rfl)) ?_
          refine XO.q (Q.assign rfl) ?_
          refine XO.done ?_
          refine XK.rt [] Try.func6 Try.results6 (.t rfl .n) ?_
          exact ⟨rfl, rfl⟩
        · have _t2 := True.intro
          have sf0 : formG d (⟨s, ch, 0⟩ : KPlan) = (needsL d s, 0) := by
            rcases sf with sf | sf
            · exact sf
            · simp [sf] at c2
          clear c2 c1 c0 sf
          rw [sf0]
          dsimp only
          obtain ⟨po, _, _, cl, st, cr⟩ := plan_rng sf0
          have sp0 := ok.store.p0
          have sp1 := ok.store.p1
          have chr : ∀ i, i < d.hours.length → -1000 ≤ ch.getD i default ∧ ch.getD i default ≤ 1000 := fun i hi => by have := okAt_iffK.1 (po.ok i hi); omega
          refine XK.skip ?_
          refine XK.seq ?_
          refine XK.region rfl ?_
          refine XO.q (Q.ldA [_, _, _, _, _, _, _, _] rfl rfl rfl) ?_
          refine XO.q (Q.move rfl) ?_
          refine XO.call Try.call19 rfl rfl rfl (Offered_spec d vh vj kh kj v1 h1 x1 (by omega) (by omega)) fun v85 s85 R85 => ?_
          obtain ⟨rfl, rfl⟩ := R85
          dsimp only [List.cons_append, List.nil_append]
          obtain ⟨ofk, oc3⟩ := off_ok (d := d) (by omega) x1
          obtain ⟨pe, p1⟩ := off_patterns (d := d) (by omega) (by omega) x1
          obtain ⟨o, eo⟩ : ∃ o, o = offO d x1 := ⟨_, rfl⟩
          rw [← eo] at ofk oc3 pe p1 ⊢
          clear eo pe
          have hoy := offered_yes ok ofk p1
          refine XO.alloc fun b22 => ?_
          refine XO.st rfl rfl rfl ?_
          refine XO.done ?_
          refine XK.seq ?_
          refine XK.region rfl ?_
          refine XO.q (Q.ldA [_, _, _, _, _, _, _, _] rfl rfl rfl) ?_
          refine XO.q (Q.ldA [_, _, _, _, _, _] rfl rfl rfl) ?_
          refine XO.call Try.call20 rfl rfl rfl (Patterns_spec d vh vj kh kj o) fun v89 s89 R89 => ?_
          obtain ⟨vp, hp, us2, KP, rfl, rfl, OP, RP⟩ := R89
          dsimp only [List.cons_append, List.nil_append]
          rw [hoy] at RP
          rw [hoy]
          dsimp only at RP ⊢
          have RPL := RP.1
          refine XO.q (Q.move rfl) ?_
          refine XO.q (Q.extract rfl rfl) ?_
          refine XO.q (Q.extract rfl rfl) ?_
          refine XO.q (Q.assign rfl) ?_
          refine XO.q (Q.assign rfl) ?_
          refine XO.done ?_
          refine XK.seq ?_
          refine XK.region rfl ?_
          refine XO.q (Q.ldA [_, _, _, _, _, _, _, _] rfl rfl rfl) ?_
          refine XO.q (Q.ldA [_, _, _] rfl rfl rfl) ?_
          refine XO.q (Q.ldA [_, _, _, _, _, _] rfl rfl rfl) ?_
          refine XO.call Try.call21 rfl rfl rfl (Deliver_spec d vh vj kh kj (⟨s, ch, 0⟩ : KPlan) vs vc K kc1 o) fun v96 s96 R96 => ?_
          obtain ⟨vb, kb, rfl, rfl, ob, AB⟩ := R96
          dsimp only [List.cons_append, List.nil_append]
          rw [deliver_eq hoy (by rw [sf0])] at AB
          rw [deliver_eq hoy (by rw [sf0])]
          dsimp only at AB ⊢
          have dno := @deliver_no d (⟨s, ch, 0⟩ : KPlan) o (patternsG o)
          obtain ⟨yes, eyes⟩ : ∃ y, (deliverL d (⟨s, ch, 0⟩ : KPlan) o (patternsG o)).1 = y := ⟨_, rfl⟩
          obtain ⟨bad, ebad⟩ : ∃ y, (deliverL d (⟨s, ch, 0⟩ : KPlan) o (patternsG o)).2 = y := ⟨_, rfl⟩
          rw [eyes, ebad] at dno
          rw [ebad] at AB
          rw [eyes]
          refine XO.q (Q.move rfl) ?_
          refine XO.q (Q.extract rfl rfl) ?_
          refine XO.q (Q.extract rfl rfl) ?_
          refine XO.q (Q.extract rfl rfl) ?_
          refine XO.q (Q.assign rfl) ?_
          refine XO.q (Q.assign rfl) ?_
          refine XO.q (Q.assign rfl) ?_
          refine XO.done ?_
          refine XK.seq ?_
          refine XK.seq ?_
          refine XK.region rfl ?_
          refine XO.q (Q.move rfl) ?_
          refine XO.q (Q.neq rfl rfl) ?_
          refine XO.q (Q.move rfl) ?_
          refine XO.q (Quiet.guardF rfl rfl fun g103 p103 => Q.move rfl) ?_
          refine XO.q (Quiet.guardF rfl rfl fun g104 p104 => Q.neq (lzv g104 rfl) rfl) ?_
          refine XO.q (Q.or rfl (fun hp => lzv hp rfl)) ?_
          refine XO.q (Q.move rfl) ?_
          refine XO.q (Quiet.guardF rfl rfl fun g107 p107 => Q.move rfl) ?_
          refine XO.q (Quiet.guardF rfl rfl fun g108 p108 => Q.len (lzv g108 rfl)) ?_
          refine XO.q (Quiet.guardF rfl rfl fun g109 p109 => Q.lss (lzv g109 rfl) rfl) ?_
          refine XO.q (Q.or rfl (fun hp => lzv hp rfl)) ?_
          refine XO.done ?_
          refine XK.if rfl (fun c3 => ?_) (fun c3 => ?_)
          · have _t3 := True.intro
            exact absurd c3 (by omega)
          · have _t3 := True.intro
            have hi4 : (n4 % us2.length) < us2.length := Nat.mod_lt _ (by omega)
            have ap4 := RP.2 (n4 % us2.length) (by omega)
            have pm4 : ((patternsG o).getD (n4 % us2.length) default) ∈ (patternsG o) := getD_mem (by omega)
            have hi5 : (n5 % us2.length) < us2.length := Nat.mod_lt _ (by omega)
            have ap5 := RP.2 (n5 % us2.length) (by omega)
            have pm5 : ((patternsG o).getD (n5 % us2.length) default) ∈ (patternsG o) := getD_mem (by omega)
            refine XK.skip ?_
            refine XK.seq ?_
            refine XK.drawn [0, 1, 2, 3, 4, 5, 6, 7, 8, 9, 10, 11, 12, 13, 14, 15, 16, 17] [] [hp, KP] (.q 0 (.q 1 (.q 2 (.q 3 (.q 4 (.q 5 (.q 6 (.q 7 (.q 8 (.q 9 (.q 10 (.q 11 (.q 12 (.q 13 (.q 14 (.q 15 (.q 16 (.q 17 .done)))))))))))))))))) Try.mixed rfl (by kernel_rfl) ?_
            refine XT.q rfl rfl (Q.move rfl) ?_
            refine XT.q rfl rfl (Q.move rfl) ?_
            refine XT.q rfl rfl (Q.conv rfl) ?_
            rw [wrap64_of ⟨by omega, by omega⟩]
            refine XT.q rfl rfl (Q.move rfl) ?_
            refine XT.q rfl rfl (Q.len rfl) ?_
            refine XT.q rfl rfl (Q.rem rfl rfl (by omega) (by omega)) ?_
            refine XT.ix rfl rfl rfl rfl (by omega) (by omega) fun i117 => ?_
            refine XT.q rfl rfl (Q.ldE rfl (by first | assumption | omega) rfl) ?_
            refine XT.q rfl rfl (Q.move rfl) ?_
            refine XT.q rfl rfl (Q.move rfl) ?_
            refine XT.q rfl rfl (Q.conv rfl) ?_
            rw [wrap64_of ⟨by omega, by omega⟩]
            refine XT.q rfl rfl (Q.move rfl) ?_
            refine XT.q rfl rfl (Q.len rfl) ?_
            refine XT.q rfl rfl (Q.rem rfl rfl (by omega) (by omega)) ?_
            refine XT.ix rfl rfl rfl rfl (by omega) (by omega) fun i125 => ?_
            refine XT.q rfl rfl (Q.ldE rfl (by first | assumption | omega) rfl) ?_
            refine XT.q rfl rfl (Q.assign rfl) ?_
            refine XT.q rfl rfl (Q.assign rfl) ?_
            refine XT.done ?_
            refine XK.seq ?_
            refine XK.seq ?_
            refine XK.region rfl ?_
            refine XO.q (Q.move rfl) ?_
            refine XO.q (Q.not rfl) ?_
            refine XO.done ?_
            refine XK.meet (X := Value × List Int × PHeap) [27, 129] (fun ⟨va, a, ka⟩ => [(27, some (va))]) (fun ⟨va, a, ka⟩ => []) (fun ⟨va, a, ka⟩ => One va ∧ Arr va encI 1 ka a ∧ Either ka KP kb ∧ a ∈ (patternsG o) ∧ (yes = false → badPat d (⟨s, ch, 0⟩ : KPlan) o a = true)) [] ?_ ?_
            · rintro ⟨va, a, ka⟩ ⟨oa, aa, ea, am, ab⟩
              dsimp only [List.cons_append, List.nil_append]
              refine XK.seq ?_
              refine XK.region rfl ?_
              refine XO.q (Q.ldA [_, _, _, _, _, _, _, _] rfl rfl rfl) ?_
              refine XO.q (Q.ldA [_, _, _] rfl rfl rfl) ?_
              refine XO.q (Q.ldA [_, _, _, _, _, _] rfl rfl rfl) ?_
              refine XO.q (Q.move rfl) ?_
              refine XO.call Try.call22 rfl rfl rfl (Answer_spec d vh vj kh kj (⟨s, ch, 0⟩ : KPlan) vs vc K kc1 o a va ka) fun v135 s135 R135 => ?_
              obtain ⟨vx, kx, rfl, rfl, OX⟩ := R135
              dsimp only [List.cons_append, List.nil_append]
              rw [answer_eq hoy sf0 am] at OX
              rw [answer_eq hoy sf0 am]
              dsimp only at OX ⊢
              refine XO.q (Q.move rfl) ?_
              refine XO.q (Q.extract rfl rfl) ?_
              refine XO.q (Q.extract rfl rfl) ?_
              refine XO.q (Q.extract rfl rfl) ?_
              refine XO.q (Q.assign rfl) ?_
              refine XO.q (Q.assign rfl) ?_
              refine XO.q (Q.assign rfl) ?_
              refine XO.done ?_
              refine XK.seq ?_
              refine XK.region rfl ?_
              refine XO.q (Q.ldA [_, _, _, _, _, _, _, _] rfl rfl rfl) ?_
              refine XO.q (Q.ldA [_, _, _] rfl rfl rfl) ?_
              refine XO.q (Q.ldA [_, _, _, _, _, _] rfl rfl rfl) ?_
              refine XO.q (Q.move rfl) ?_
              refine XO.call Try.call22 rfl rfl rfl (Answer_spec d vh vj kh kj (⟨s, ch, 0⟩ : KPlan) vs vc K kc1 o ((patternsG o).getD (n5 % us2.length) default) (us2.getD (n5 % us2.length) default) KP) fun v144 s144 R144 => ?_
              obtain ⟨vy, ky, rfl, rfl, OY⟩ := R144
              dsimp only [List.cons_append, List.nil_append]
              rw [answer_eq hoy sf0 pm5] at OY
              rw [answer_eq hoy sf0 pm5]
              dsimp only at OY ⊢
              have gy := pick_good sf0 eyes am ab
              rw [gy]
              have bl : (needsL d s).length = d.hours.length := needsL_len d s
              have xg : yes = true → (answerG d (needsL d s) ch o a).1.length = (needsL d s).length ∧ keepsB d (needsL d s) (limL d o (needsL d s) ch a) (answerG d (needsL d s) ch o a).1 = true := fun h => answer_good ok.store (gy.trans h)
              have xb : yes = false → ∀ c : List Int, c.length = (needsL d s).length → keepsB d (needsL d s) (limL d o (needsL d s) ch a) c = false := fun h c hc => answer_bad ok.store (gy.trans h) hc
              obtain ⟨b, eb⟩ : ∃ b, b = ((patternsG o).getD (n5 % us2.length) default) := ⟨_, rfl⟩
              obtain ⟨wb, ewb⟩ : ∃ b, b = (us2.getD (n5 % us2.length) default) := ⟨_, rfl⟩
              rw [← eb] at OY pm5 ap5
              rw [← ewb] at ap5
              (try rw [← eb])
              (try rw [← ewb])
              have af : ∀ f : Int, FirstOk d.hours.length a b f → 0 ≤ f → (answerG d (needsL d s) ch o a).1.take f.toNat = (answerG d (needsL d s) ch o b).1.take f.toNat ∧ min f ((answerG d (needsL d s) ch o a).1.length : Int) = min f ((answerG d (needsL d s) ch o b).1.length : Int) := fun f k f0 => answer_first ok.store (by rw [bl]; exact k) f0
              obtain ⟨x, ex⟩ : ∃ x, x = (answerG d (needsL d s) ch o a).1 := ⟨_, rfl⟩
              obtain ⟨y, ey⟩ : ∃ y, y = (answerG d (needsL d s) ch o b).1 := ⟨_, rfl⟩
              rw [← ex] at OX xg
              rw [← ey] at OY
              simp only [← ex, ← ey] at af
              clear ex ey eb ewb gy
              have sa := patterns_sorted ofk am
              have sb := patterns_sorted ofk pm5
              have ca := patterns_calls ofk am
              have cb := patterns_calls ofk pm5
              have ob0 := ofk.b0
              have lxa := (OArr.arr (s := OX)).le
              have lya := (OArr.arr (s := OY)).le
              refine XO.q (Q.move rfl) ?_
              refine XO.q (Q.extract rfl rfl) ?_
              refine XO.q (Q.extract rfl rfl) ?_
              refine XO.q (Q.extract rfl rfl) ?_
              refine XO.q (Q.assign rfl) ?_
              refine XO.q (Q.assign rfl) ?_
              refine XO.q (Q.assign rfl) ?_
              refine XO.done ?_
              refine XK.seq ?_
              refine XK.seq ?_
              refine XK.region rfl ?_
              refine XO.q (Q.move rfl) ?_
              refine XO.q (Q.neq rfl rfl) ?_
              refine XO.q (Q.move rfl) ?_
              refine XO.q (Quiet.guardF rfl rfl fun g151 p151 => Q.move rfl) ?_
              refine XO.q (Quiet.guardF rfl rfl fun g152 p152 => Q.neq (lzv g152 rfl) rfl) ?_
              refine XO.q (Q.or rfl (fun hp => lzv hp rfl)) ?_
              refine XO.q (Q.move rfl) ?_
              refine XO.q (Quiet.guardF rfl rfl fun g155 p155 => Q.move rfl) ?_
              refine XO.q (Quiet.guardF rfl rfl fun g156 p156 => Q.move (lzv g156 rfl)) ?_
              refine XO.q (Quiet.guard2 rfl rfl fun g157a g157b => have p157a := bpF g157a; have p157b := bpT g157b; Q.move rfl) ?_
              refine XO.q (Quiet.guard2 rfl rfl fun g158a g158b => have p158a := bpF g158a; have p158b := bpT g158b; Q.not (lzv g158b (lzv g158a rfl))) ?_
              refine XO.q (Quiet.guardF rfl rfl fun g159 p159 => Q.and (lzv g159 rfl) (fun hp => (lzv hp (lzv g159 rfl)))) ?_
              refine XO.q (Q.or rfl (fun hp => lzv hp rfl)) ?_
              refine XO.q (Q.move rfl) ?_
              refine XO.q (Quiet.guardF rfl rfl fun g162 p162 => Q.move rfl) ?_
              refine XO.q (Quiet.guardF rfl rfl fun g163 p163 => Q.not (lzv g163 rfl)) ?_
              refine XO.q (Quiet.guardF rfl rfl fun g164 p164 => Q.move (lzv g164 rfl)) ?_
              refine XO.q (Quiet.guard2 rfl rfl fun g165a g165b => have p165a := bpF g165a; have p165b := bpT g165b; Q.move rfl) ?_
              refine XO.q (Quiet.guardF rfl rfl fun g166 p166 => Q.and (lzv g166 rfl) (fun hp => (lzv hp (lzv g166 rfl)))) ?_
              refine XO.q (Q.or rfl (fun hp => lzv hp rfl)) ?_
              refine XO.done ?_
              refine XK.if rfl (fun c5 => ?_) (fun c5 => ?_)
              · have _t5 := True.intro
                exact absurd c5 (by cases yes <;> simp)
              · have _t5 := True.intro
                refine XK.skip ?_
                refine XK.seq ?_
                refine XK.region rfl ?_
                refine XO.q (Q.fieldAddr rfl) ?_
                refine XO.q (Q.ld rfl rfl) ?_
                refine XO.len rfl fun l170 => ?_
                refine XO.q (Q.assign rfl) ?_
                refine XO.done ?_
                refine XK.seq ?_
                refine XK.seq ?_
                refine XK.region rfl ?_
                refine XO.q (Q.assign rfl) ?_
                refine XO.done ?_
                refine XK.meet (X := Int) [33, 34, 171, 172, 173, 174, 175, 176, 177, 178, 179, 180, 181, 182, 183, 184, 185, 186, 187, 188, 189, 190, 191, 192, 193, 194, 195, 196, 197, 198, 199, 200, 201, 202, 203, 204, 205, 206, 207, 208, 209, 210, 211, 212, 213, 214, 215, 216, 217, 218, 219, 220, 221, 222, 223] (fun f => [(33, some (.int .i64 f))]) (fun f => []) (fun f => FirstOk d.hours.length a b f ∧ 0 ≤ f) [] ?_ ?_
                · rintro f ⟨fok, f0⟩
                  dsimp only [List.cons_append, List.nil_append]
                  refine XK.seq ?_
                  refine XK.seq ?_
                  refine XK.region rfl ?_
                  refine XO.q (Q.move rfl) ?_
                  refine XO.q (Q.move rfl) ?_
                  refine XO.len rfl fun l226 => ?_
                  refine XO.q (Q.move rfl) ?_
                  refine XO.len rfl fun l228 => ?_
                  refine XO.q (Q.min3 rfl rfl rfl) ?_
                  obtain ⟨m, em⟩ : ∃ m : Nat, (m : Int) = min (min f (x.length : Int)) (y.length : Int) := ⟨(min (min f (x.length : Int)) (y.length : Int)).toNat, by omega⟩
                  rw [← em]
                  have ax : Arr (cutv vx 1 0 m) encI 1 kx (x.take m) := Arr.cut (OArr.arr (s := OX)) (Nat.zero_le m) (by omega)
                  have ay : Arr (cutv vy 1 0 m) encI 1 ky (y.take m) := Arr.cut (OArr.arr (s := OY)) (Nat.zero_le m) (by omega)
                  obtain ⟨af1, af2⟩ := af f fok f0
                  have af3 := take_less af1 (show m ≤ f.toNat by omega)
                  refine XO.q (Q.assign rfl) ?_
                  refine XO.done ?_
                  refine XK.seq ?_
                  refine XK.drawn [0, 1, 2, 3, 4, 5, 7, 8, 9, 10, 11, 12, 13, 14, 15, 16, 17, 18] [] [kx, ky] (.q 0 (.q 1 (.q 2 (.q 3 (.q 4 (.q 5 (.br 6 true (.q 7 (.q 8 (.q 9 (.q 10 (.q 11 (.q 12 (.q 13 (.q 14 (.q 15 (.q 16 (.q 17 (.q 18 .done)))))))))))) .stop))))))) Try.mixed rfl (by kernel_rfl) ?_
                  refine XT.q rfl rfl (Q.move rfl) ?_
                  refine XT.q rfl rfl (Q.move rfl) ?_
                  refine XT.q rfl rfl (Q.cut (i := 0) (j := m) rfl .n (.s rfl (by omega)) (by omega) (by omega)) ?_
                  refine XT.q rfl rfl (Q.move rfl) ?_
                  refine XT.q rfl rfl (Q.move rfl) ?_
                  refine XT.q rfl rfl (Q.cut (i := 0) (j := m) rfl .n (.s rfl (by omega)) (by omega) (by omega)) ?_
                  refine XT.call rfl rfl Try.call23 rfl rfl rfl (equalI (cutv vx 1 0 m) (cutv vy 1 0 m) kx ky (x.take m) (y.take m)) (fun v236 s236 R236 => ?_) XT.stop
                  obtain ⟨rfl, rfl⟩ := R236
                  dsimp only [List.cons_append, List.nil_append]
                  refine ⟨inferInstance, ?_⟩
                  refine XT.q rfl rfl (Q.not rfl) ?_
                  refine XT.q rfl rfl (Q.move rfl) ?_
                  refine XT.q rfl rfl (Quiet.guardF rfl rfl fun g239 p239 => Q.move rfl) ?_
                  refine XT.q rfl rfl (Quiet.guardF rfl rfl fun g240 p240 => Q.move rfl) ?_
                  refine XT.q rfl rfl (Quiet.guardF rfl rfl fun g241 p241 => Q.len (lzv g241 rfl)) ?_
                  refine XT.q rfl rfl (Quiet.guardF rfl rfl fun g242 p242 => Q.min (lzv g242 rfl) (lzv g242 rfl)) ?_
                  refine XT.q rfl rfl (Quiet.guardF rfl rfl fun g243 p243 => Q.move rfl) ?_
                  refine XT.q rfl rfl (Quiet.guardF rfl rfl fun g244 p244 => Q.move rfl) ?_
                  refine XT.q rfl rfl (Quiet.guardF rfl rfl fun g245 p245 => Q.len (lzv g245 rfl)) ?_
                  refine XT.q rfl rfl (Quiet.guardF rfl rfl fun g246 p246 => Q.min (lzv g246 rfl) (lzv g246 rfl)) ?_
                  refine XT.q rfl rfl (Quiet.guardF rfl rfl fun g247 p247 => Q.neq (lzv g247 rfl) (lzv g247 rfl)) ?_
                  refine XT.q rfl rfl (Q.or rfl (fun hp => lzv hp rfl)) ?_
                  refine XT.done ?_
                  refine XK.if rfl (fun c6 => ?_) (fun c6 => ?_)
                  · have _t6 := True.intro
                    exact absurd c6 (by rw [af2, af3]; simp)
                  · have _t6 := True.intro
                    refine XK.skip ?_
                    refine XK.seq ?_
                    refine XK.region rfl ?_
                    refine XO.q (Q.ldA [_, _, _, _, _, _, _, _] rfl rfl rfl) ?_
                    refine XO.q (Q.ldA [_, _, _] rfl rfl rfl) ?_
                    refine XO.q (Q.ldA [_, _, _, _, _, _] rfl rfl rfl) ?_
                    refine XO.q (Q.move rfl) ?_
                    refine XO.call Try.call24 rfl rfl rfl (limited_spec d vh vj kh kj (⟨s, ch, 0⟩ : KPlan) vs vc K kc1 o a va ka ok so ofk cl chr (fun k hk => ca _ (getD_mem hk))) fun v253 s253 R253 => ?_
                    obtain ⟨kl, rfl, OL⟩ := R253
                    dsimp only [List.cons_append, List.nil_append]
                    have ll : (limL d o (needsL d s) ch a).length = d.hours.length := by rw [limL, List.length_map, List.length_range]; exact bl
                    refine XO.q (Q.assign rfl) ?_
                    refine XO.done ?_
                    refine XK.seq ?_
                    refine XK.seq ?_
                    refine XK.region rfl ?_
                    refine XO.q (Q.move rfl) ?_
                    refine XO.done ?_
                    refine XK.if rfl (fun c7 => ?_) (fun c7 => ?_)
                    · have _t7 := True.intro
                      refine XK.seq ?_
                      refine XK.region rfl ?_
                      refine XO.q (Q.move rfl) ?_
                      refine XO.len rfl fun l256 => ?_
                      refine XO.q (Q.fieldAddr rfl) ?_
                      refine XO.q (Q.ld rfl rfl) ?_
                      refine XO.len rfl fun l259 => ?_
                      refine XO.q (Q.eql rfl rfl) ?_
                      refine XO.q (Q.move rfl) ?_
                      refine XO.q (Quiet.guardT rfl rfl fun g262 p262 => Q.ldA [_, _, _, _, _, _, _, _] rfl rfl rfl) ?_
                      refine XO.q (Quiet.guardT rfl rfl fun g263 p263 => Q.ldA [_, _, _] rfl rfl rfl) ?_
                      refine XO.q (Quiet.guardT rfl rfl fun g264 p264 => Q.move rfl) ?_
                      refine XO.q (Quiet.guardT rfl rfl fun g265 p265 => Q.move rfl) ?_
                      refine XO.gcallT rfl rfl Try.call25 rfl (fun g266 => .c (lzv g266 rfl) (.c (lzv g266 rfl) (.c (lzv g266 rfl) (.c (lzv g266 rfl) .n)))) rfl (fun g266 p266 => keeps_spec d vh vj kh kj (⟨s, ch, 0⟩ : KPlan) vs vc K kc1 (limL d o (needsL d s) ch a) v253 kl x vx kx ok so ll (by rw [← bl]; exact (xg c7).1) (fun i hi => keeps_rng ok.store (xg c7).2 (by rw [(xg c7).1, bl]; exact hi))) ?_
                      refine XO.q (Q.and rfl (fun hp => lzv hp rfl)) ?_
                      refine XO.q (Q.move rfl) ?_
                      refine XO.gcallT rfl rfl Try.call12 rfl (fun g269 => .n) rfl (fun g269 p269 => awake10) ?_
                      refine XO.q (Q.and rfl (fun hp => lzv hp rfl)) ?_
                      refine XO.q (Q.assign rfl) ?_
                      refine XO.done ?_
                      refine XK.rt [] Try.func6 Try.results6 (.t rfl .n) ?_
                      refine ⟨?_, rfl⟩
                      simp [(xg c7).1, (xg c7).2, bl]
                    · have _t7 := True.intro
                      have yf : yes = false := by cases yes <;> simp_all
                      refine XK.skip ?_
                      refine XK.seq ?_
                      refine XK.region rfl ?_
                      refine XO.q (Q.move rfl) ?_
                      refine XO.q (Q.build [_, _] (.c 0 1 rfl rfl rfl (.n _))) ?_
                      refine XO.box rfl fun b273 => ?_
                      refine XO.q (Q.assign rfl) ?_
                      refine XO.done ?_
                      refine XK.seq ?_
                      refine XK.region rfl ?_
                      refine XO.q (Q.assign rfl) ?_
                      refine XO.done ?_
                      refine XK.seq ?_
                      refine XK.seq ?_
                      refine XK.region rfl ?_
                      refine XO.q (Q.fieldAddr rfl) ?_
                      refine XO.q (Q.ld rfl rfl) ?_
                      refine XO.len rfl fun l276 => ?_
                      refine XO.q (Q.move rfl) ?_
                      refine XO.done ?_
                      refine XK.block ?_
                      refine XK.while (X := Nat × Value × PHeap) [38, 277, 278, 279, 280, 281, 282, 283, 284, 285, 286, 287, 288, 289, 290, 291, 292, 293] (fun ⟨k, vm, km⟩ => [(277, some (.int .i64 (k : Nat))), (38, some (vm))]) (fun ⟨k, vm, km⟩ => [blk b273 [v6, .int .i64 (((k : Nat) : Int))] 67, km]) (fun ⟨k, vm, km⟩ => k ≤ d.hours.length ∧ OArr vm encI 1 3 km (mineTo d x6 k)) (fun ⟨k, vm, km⟩ => d.hours.length - k) (0, .slice none 0 0, emp) [blk b273 [v6, .int .i64 (((0 : Nat) : Int))] 67, emp] rfl ⟨by omega, nI⟩ (.c rfl (.c rfl (.base 0 rfl rfl))) ?_
                      rintro ⟨k, vm, km⟩ ⟨hk, OM⟩ ih0
                      dsimp only [List.cons_append, List.nil_append] at ih0 ⊢
                      have ml2 := mineTo_len d x6 k
                      refine XK.seq ?_
                      refine XK.region rfl ?_
                      refine XO.q (Q.lss rfl rfl) ?_
                      refine XO.done ?_
                      refine XK.seq ?_
                      refine XK.if rfl (fun c8 => ?_) (fun c8 => ?_)
                      · have _t8 := True.intro
                        have rd := dg_rng x6 k (n := 2 * d.store.power + 1) (by omega)
                        refine XK.skip ?_
                        refine XK.seq ?_
                        refine XK.block ?_
                        refine XK.drawn [0, 1, 2, 3, 4, 5, 6, 8, 9, 10, 11, 14] [b15] [] (.q 0 (.q 1 (.q 2 (.q 3 (.q 4 (.q 5 (.q 6 (.q 8 (.q 9 (.q 10 (.br 7 true (.q 11 (.br 12 true (.br 13 true (.q 14 .done) .stop) .stop)) .stop))))))))))) Try.mixed rfl (by kernel_rfl) ?_
                        refine XT.q rfl rfl (Q.move rfl) ?_
                        refine XT.q rfl rfl (Q.move rfl) ?_
                        refine XT.q rfl rfl (Q.fieldAddr rfl) ?_
                        refine XT.q rfl rfl (Q.fieldAddr rfl) ?_
                        refine XT.q rfl rfl (Q.ld rfl rfl) ?_
                        refine XT.q rfl rfl (Q.mul rfl rfl ⟨by omega, by omega⟩) ?_
                        refine XT.q rfl rfl (Q.add rfl rfl ⟨by omega, by omega⟩) ?_
                        refine XT.q rfl rfl (Q.fieldAddr rfl) ?_
                        refine XT.q rfl rfl (Q.fieldAddr rfl) ?_
                        refine XT.q rfl rfl (Q.ld rfl rfl) ?_
                        refine XT.call rfl rfl Try.call26 rfl rfl rfl (next_spec v6 h6 x6 b273 k (by omega) (2 * d.store.power + 1) (by omega) (by omega)) (fun v286 s286 R286 => ?_) XT.stop
                        obtain ⟨rfl, rfl⟩ := R286
                        dsimp only [List.cons_append, List.nil_append]
                        refine ⟨inferInstance, ?_⟩
                        refine XT.q rfl rfl (Q.sub rfl rfl ⟨by omega, by omega⟩) ?_
                        refine XT.lit [_] [_] [dg x6 k (2 * d.store.power + 1) - d.store.power] encI rfl rfl (by rfl) (by rfl) rfl (by rfl) (by exact .c 0 1 rfl rfl rfl (.n _)) (fun _ => rfl) (by rfl) rfl (by infer_instance) rfl (fun v291 h291 O291 => ⟨inferInstance, ?_⟩) XT.stop
                        refine XT.append rfl rfl rfl rfl rfl rfl (by simp only [List.length_cons, List.length_nil]; omega) (fun v292 h292 O292 => ⟨inferInstance, ?_⟩) XT.stop
                        refine XT.q rfl rfl (Q.assign rfl) ?_
                        refine XT.done ?_
                        refine XK.inBlock ?_
                        refine XK.region rfl ?_
                        refine XO.q (Q.add rfl rfl ⟨by omega, by omega⟩) ?_
                        refine XO.q (Q.move rfl) ?_
                        refine XO.done ?_
                        exact ih0 (k + 1, v292, h292) _ _ ⟨by dsimp only; omega, by dsimp only; rw [mineTo, range_snocI]; exact O292⟩ (by first | omega | (dsimp only; omega)) (.c rfl (.c rfl (.base 38 rfl rfl))) inferInstance
                      · have _t8 := True.intro
                        have hkn : k = d.hours.length := by omega
                        subst hkn
                        refine XK.exit rfl ?_
                        refine XK.seq ?_
                        refine XK.region rfl ?_
                        refine XO.q (Q.ldA [_, _, _, _, _, _, _, _] rfl rfl rfl) ?_
                        refine XO.q (Q.ldA [_, _, _] rfl rfl rfl) ?_
                        refine XO.q (Q.move rfl) ?_
                        refine XO.q (Q.move rfl) ?_
                        refine XO.call Try.call25 rfl rfl rfl (keeps_spec d vh vj kh kj (⟨s, ch, 0⟩ : KPlan) vs vc K kc1 (limL d o (needsL d s) ch a) v253 kl (mineTo d x6 d.hours.length) vm km ok so ll (mineTo_len ..) (fun i hi => mineTo_rng ok.store x6 hi)) fun v298 s298 R298 => ?_
                        obtain ⟨rfl, rfl⟩ := R298
                        dsimp only [List.cons_append, List.nil_append]
                        rw [xb yf _ (by rw [mineTo_len, bl])]
                        refine XO.q (Q.not rfl) ?_
                        refine XO.q (Q.move rfl) ?_
                        refine XO.q (Quiet.guardT rfl rfl fun g301 p301 => Q.ldA [_, _, _, _, _, _, _, _] rfl rfl rfl) ?_
                        refine XO.q (Quiet.guardT rfl rfl fun g302 p302 => Q.ldA [_, _, _] rfl rfl rfl) ?_
                        refine XO.q (Quiet.guardT rfl rfl fun g303 p303 => Q.move rfl) ?_
                        refine XO.q (Quiet.guardT rfl rfl fun g304 p304 => Q.fieldAddr rfl) ?_
                        refine XO.q (Quiet.guardT rfl rfl fun g305 p305 => Q.ld (lzv g305 rfl) rfl) ?_
                        refine XO.gcallT rfl rfl Try.call25 rfl (fun g306 => .c (lzv g306 rfl) (.c (lzv g306 rfl) (.c (lzv g306 rfl) (.c (lzv g306 rfl) .n)))) rfl (fun g306 p306 => keeps_spec d vh vj kh kj (⟨s, ch, 0⟩ : KPlan) vs vc K kc1 (limL d o (needsL d s) ch a) v253 kl ch vc kc1 ok so ll cl chr) ?_
                        refine XO.q (Quiet.guardT rfl rfl fun g307 p307 => Q.not (lzv g307 rfl)) ?_
                        refine XO.q (Q.and rfl (fun hp => lzv hp rfl)) ?_
                        refine XO.q (Q.move rfl) ?_
                        refine XO.gcallT rfl rfl Try.call12 rfl (fun g310 => .n) rfl (fun g310 p310 => awake10) ?_
                        refine XO.q (Q.and rfl (fun hp => lzv hp rfl)) ?_
                        refine XO.q (Q.assign rfl) ?_
                        refine XO.done ?_
                        refine XK.rt [] Try.func6 Try.results6 (.t rfl .n) ?_
                        have q := xb yf ch (by rw [cl, bl])
                        refine ⟨?_, rfl⟩
                        simp [q]
                · intro mtb0
                  dsimp only [List.cons_append, List.nil_append] at mtb0
                  refine XK.block ?_
                  refine XK.while (X := Nat) [33, 34, 171, 172, 173, 174, 175, 176, 177, 178, 179, 180, 181, 182, 183, 184, 185, 186, 187, 188, 189, 190, 191, 192, 193, 194, 195, 196, 197, 198, 199, 200, 201, 202, 203, 204, 205, 206, 207, 208, 209, 210, 211, 212, 213, 214, 215, 216, 217, 218, 219, 220, 221, 222, 223] (fun i => [(34, some (.int .i64 (i : Nat))), (33, some (.int .i64 (d.hours.length : Nat)))]) (fun i => []) (fun i => (i ≤ a.length ∧ i ≤ b.length) ∧ a.take i = b.take i) (fun i => max a.length b.length - i) (0) [] rfl ⟨by omega, rfl⟩ (.c rfl (.c rfl (.base 0 rfl rfl))) ?_
                  rintro i ⟨hi, ht⟩ ih1
                  dsimp only [List.cons_append, List.nil_append] at ih1 ⊢
                  refine XK.seq ?_
                  refine XK.seq ?_
                  refine XK.region rfl ?_
                  refine XO.q (Q.move rfl) ?_
                  refine XO.q (Q.move rfl) ?_
                  refine XO.len rfl fun l173 => ?_
                  refine XO.q (Q.move rfl) ?_
                  refine XO.len rfl fun l175 => ?_
                  refine XO.q (Q.max rfl rfl) ?_
                  refine XO.q (Q.lss rfl rfl) ?_
                  refine XO.done ?_
                  refine XK.if rfl (fun c9 => ?_) (fun c9 => ?_)
                  · have _t9 := True.intro
                    refine XK.skip ?_
                    refine XK.seq ?_
                    refine XK.block ?_
                    refine XK.seq ?_
                    refine XK.drawn [0, 1, 2, 3, 4, 5, 6, 7, 8, 9, 10, 11, 12, 13, 14, 15, 16, 17, 18, 19, 20] [] [KP, kb] (.q 0 (.q 1 (.q 2 (.q 3 (.q 4 (.q 5 (.q 6 (.q 7 (.q 8 (.q 9 (.q 10 (.q 11 (.q 12 (.q 13 (.q 14 (.q 15 (.q 16 (.q 17 (.q 18 (.q 19 (.q 20 .done))))))))))))))))))))) Try.mixed rfl (by kernel_rfl) ?_
                    refine XT.q rfl rfl (Q.move rfl) ?_
                    refine XT.q rfl rfl (Q.move rfl) ?_
                    refine XT.q rfl rfl (Q.len rfl) ?_
                    refine XT.q rfl rfl (Q.geq rfl rfl) ?_
                    refine XT.q rfl rfl (Q.move rfl) ?_
                    refine XT.q rfl rfl (Quiet.guardF rfl rfl fun g185 p185 => Q.move rfl) ?_
                    refine XT.q rfl rfl (Quiet.guardF rfl rfl fun g186 p186 => Q.move rfl) ?_
                    refine XT.q rfl rfl (Quiet.guardF rfl rfl fun g187 p187 => Q.len (lzv g187 rfl)) ?_
                    refine XT.q rfl rfl (Quiet.guardF rfl rfl fun g188 p188 => Q.geq (lzv g188 rfl) (lzv g188 rfl)) ?_
                    refine XT.q rfl rfl (Q.or rfl (fun hp => lzv hp rfl)) ?_
                    refine XT.q rfl rfl (Q.move rfl) ?_
                    refine XT.q rfl rfl (Quiet.guardF rfl rfl fun g191 p191 => Q.move rfl) ?_
                    refine XT.q rfl rfl (Quiet.guardF rfl rfl fun g192 p192 => Q.move rfl) ?_
                    refine XT.q rfl rfl (Quiet.guardF rfl rfl fun g193 p193 => Q.ix (lzv g193 rfl) (lzv g193 rfl) (by omega) (by omega)) ?_
                    refine XT.q rfl rfl (Quiet.guardF rfl rfl fun g194 p194 => Q.ldE (lzv g194 rfl) (by first | assumption | omega) rfl) ?_
                    refine XT.q rfl rfl (Quiet.guardF rfl rfl fun g195 p195 => Q.move rfl) ?_
                    refine XT.q rfl rfl (Quiet.guardF rfl rfl fun g196 p196 => Q.move rfl) ?_
                    refine XT.q rfl rfl (Quiet.guardF rfl rfl fun g197 p197 => Q.ix (lzv g197 rfl) (lzv g197 rfl) (by omega) (by omega)) ?_
                    refine XT.q rfl rfl (Quiet.guardF rfl rfl fun g198 p198 => Q.ldE (lzv g198 rfl) (by first | assumption | omega) rfl) ?_
                    refine XT.q rfl rfl (Quiet.guardF rfl rfl fun g199 p199 => Q.neq (lzv g199 rfl) (lzv g199 rfl)) ?_
                    refine XT.q rfl rfl (Q.or rfl (fun hp => lzv hp rfl)) ?_
                    refine XT.done ?_
                    refine XK.if rfl (fun c10 => ?_) (fun c10 => ?_)
                    · have _t10 := True.intro
                      refine XK.seq ?_
                      refine XK.region rfl ?_
                      refine XO.q (Q.fieldAddr rfl) ?_
                      refine XO.q (Q.ld rfl rfl) ?_
                      refine XO.len rfl fun l203 => ?_
                      refine XO.q (Q.assign rfl) ?_
                      refine XO.done ?_
                      refine XK.seq ?_
                      refine XK.seq ?_
                      refine XK.region rfl ?_
                      refine XO.q (Q.move rfl) ?_
                      refine XO.q (Q.move rfl) ?_
                      refine XO.len rfl fun l206 => ?_
                      refine XO.q (Q.lss rfl rfl) ?_
                      refine XO.done ?_
                      refine XK.if rfl (fun c11 => ?_) (fun c11 => ?_)
                      · have _t11 := True.intro
                        refine XK.region rfl ?_
                        refine XO.q (Q.move rfl) ?_
                        refine XO.q (Q.move rfl) ?_
                        refine XO.q (Q.move rfl) ?_
                        refine XO.ix rfl rfl (by omega) (by omega) fun i211 => ?_
                        refine XO.q (Q.ldE rfl (by first | assumption | omega) rfl) ?_
                        refine XO.q (Q.min rfl rfl) ?_
                        refine XO.q (Q.assign rfl) ?_
                        refine XO.done ?_
                        refine XK.seq ?_
                        refine XK.seq ?_
                        refine XK.region rfl ?_
                        refine XO.q (Q.move rfl) ?_
                        refine XO.q (Q.move rfl) ?_
                        refine XO.len rfl fun l216 => ?_
                        refine XO.q (Q.lss rfl rfl) ?_
                        refine XO.done ?_
                        refine XK.if rfl (fun c12 => ?_) (fun c12 => ?_)
                        · have _t12 := True.intro
                          refine XK.region rfl ?_
                          refine XO.q (Q.move rfl) ?_
                          refine XO.q (Q.move rfl) ?_
                          refine XO.q (Q.move rfl) ?_
                          refine XO.ix rfl rfl (by omega) (by omega) fun i221 => ?_
                          refine XO.q (Q.ldE rfl (by first | assumption | omega) rfl) ?_
                          refine XO.q (Q.min rfl rfl) ?_
                          refine XO.q (Q.assign rfl) ?_
                          refine XO.done ?_
                          refine XK.exit rfl ?_
                          exact mtb0 (min (min (d.hours.length : Int) (a.getD i default)) (b.getD i default)) _ _ (by
                            have q := first_at (n := d.hours.length) sa sb ht
                            have q0 := first_nonneg (n := d.hours.length) (a := a) (b := b) (fun t ht => by have := (ca t ht).1; omega) (fun t ht => by have := (cb t ht).1; omega) i
                            unfold firstF at q q0
                            rw [if_pos (by omega), if_pos (by omega)] at q q0
                            exact ⟨q, q0⟩) (.c rfl (.base 111 rfl rfl)) inferInstance
                        · have _t12 := True.intro
                          refine XK.skip ?_
                          refine XK.exit rfl ?_
                          exact mtb0 (min (d.hours.length : Int) (a.getD i default)) _ _ (by
                            have q := first_at (n := d.hours.length) sa sb ht
                            have q0 := first_nonneg (n := d.hours.length) (a := a) (b := b) (fun t ht => by have := (ca t ht).1; omega) (fun t ht => by have := (cb t ht).1; omega) i
                            unfold firstF at q q0
                            rw [if_neg (by omega), if_pos (by omega)] at q q0
                            exact ⟨q, q0⟩) (.c rfl (.base 104 rfl rfl)) inferInstance
                      · have _t11 := True.intro
                        refine XK.skip ?_
                        refine XK.seq ?_
                        refine XK.seq ?_
                        refine XK.region rfl ?_
                        refine XO.q (Q.move rfl) ?_
                        refine XO.q (Q.move rfl) ?_
                        refine XO.len rfl fun l216 => ?_
                        refine XO.q (Q.lss rfl rfl) ?_
                        refine XO.done ?_
                        refine XK.if rfl (fun c13 => ?_) (fun c13 => ?_)
                        · have _t13 := True.intro
                          refine XK.region rfl ?_
                          refine XO.q (Q.move rfl) ?_
                          refine XO.q (Q.move rfl) ?_
                          refine XO.q (Q.move rfl) ?_
                          refine XO.ix rfl rfl (by omega) (by omega) fun i221 => ?_
                          refine XO.q (Q.ldE rfl (by first | assumption | omega) rfl) ?_
                          refine XO.q (Q.min rfl rfl) ?_
                          refine XO.q (Q.assign rfl) ?_
                          refine XO.done ?_
                          refine XK.exit rfl ?_
                          exact mtb0 (min (d.hours.length : Int) (b.getD i default)) _ _ (by
                            have q := first_at (n := d.hours.length) sa sb ht
                            have q0 := first_nonneg (n := d.hours.length) (a := a) (b := b) (fun t ht => by have := (ca t ht).1; omega) (fun t ht => by have := (cb t ht).1; omega) i
                            unfold firstF at q q0
                            rw [if_pos (by omega), if_neg (by omega)] at q q0
                            exact ⟨q, q0⟩) (.c rfl (.base 104 rfl rfl)) inferInstance
                        · have _t13 := True.intro
                          refine XK.skip ?_
                          refine XK.exit rfl ?_
                          exact mtb0 ((d.hours.length : Int)) _ _ (by
                            have q := first_at (n := d.hours.length) sa sb ht
                            have q0 := first_nonneg (n := d.hours.length) (a := a) (b := b) (fun t ht => by have := (ca t ht).1; omega) (fun t ht => by have := (cb t ht).1; omega) i
                            unfold firstF at q q0
                            rw [if_neg (by omega), if_neg (by omega)] at q q0
                            exact ⟨q, q0⟩) (.c rfl (.base 97 rfl rfl)) inferInstance
                    · have _t10 := True.intro
                      refine XK.skip ?_
                      refine XK.inBlock ?_
                      refine XK.region rfl ?_
                      refine XO.q (Q.move rfl) ?_
                      refine XO.q (Q.add rfl rfl ⟨by omega, by omega⟩) ?_
                      refine XO.q (Q.assign rfl) ?_
                      refine XO.done ?_
                      exact ih1 (i + 1) _ _ ⟨by (try dsimp only); omega, take_step ht (by omega) (by omega) (by omega)⟩ (by first | omega | (dsimp only; omega)) (.c rfl (.c rfl (.base 88 rfl rfl))) inferInstance
                  · have _t9 := True.intro
                    refine XK.exit rfl ?_
                    exact mtb0 ((d.hours.length : Int)) _ _ (by
                      have e : max a.length b.length = i := by omega
                      exact ⟨first_end (by rw [e]; exact ht), by (try dsimp only); omega⟩) (.c rfl (.base 64 rfl rfl)) inferInstance
            · intro mt4
              dsimp only [List.cons_append, List.nil_append] at mt4
              refine XK.if rfl (fun c4 => ?_) (fun c4 => ?_)
              · have _t4 := True.intro
                refine XK.region rfl ?_
                refine XO.q (Q.move rfl) ?_
                refine XO.q (Q.assign rfl) ?_
                refine XO.done ?_
                exact mt4 ((vb, bad, kb)) _ _ ⟨inferInstance, AB, ⟨.inr rfl⟩, (dno (by cases yes <;> simp_all)).1, fun h => (dno h).2⟩ (.c rfl (.base 2 rfl rfl)) inferInstance
              · have _t4 := True.intro
                refine XK.skip ?_
                exact mt4 (((us2.getD (n4 % us2.length) default), ((patternsG o).getD (n4 % us2.length) default), KP)) _ _ ⟨inferInstance, ap4, ⟨.inl rfl⟩, pm4, fun h => by cases yes <;> simp_all⟩ (.c rfl (.base 0 rfl rfl)) inferInstance
    · intro mtr5
      dsimp only [List.cons_append, List.nil_append] at mtr5
      refine XK.drawn [0, 1, 2, 3, 4, 5, 6, 7, 8, 9, 11, 12, 13, 16] [b15] [kh, kj, ho, K] (.q 0 (.q 1 (.q 2 (.q 3 (.q 4 (.q 5 (.q 6 (.q 7 (.q 8 (.q 9 (.br 10 true (.q 11 (.q 12 (.q 13 (.br 14 true (.br 15 true (.q 16 .done) .stop) .stop)))) (.br 14 true (.br 10 true (.q 11 (.q 12 (.q 13 (.br 15 true (.q 16 .done) .stop)))) .stop) .stop)))))))))))) Try.mixed rfl (by kernel_rfl) ?_
      refine XT.q rfl rfl (Q.ldA [_, _, _, _, _, _, _, _] rfl rfl rfl) ?_
      refine XT.q rfl rfl (Q.move rfl) ?_
      refine XT.q rfl rfl (Q.move rfl) ?_
      refine XT.q rfl rfl (Q.conv rfl) ?_
      rw [wrap64_of ⟨by omega, by omega⟩]
      refine XT.q rfl rfl (Q.move rfl) ?_
      refine XT.q rfl rfl (Q.len rfl) ?_
      refine XT.q rfl rfl (Q.rem rfl rfl (by omega) (by omega)) ?_
      refine XT.ix rfl rfl rfl rfl (by omega) (by omega) fun i61 => ?_
      refine XT.q rfl rfl (Q.ldE rfl (by first | assumption | omega) rfl) ?_
      refine XT.q rfl rfl (Q.move rfl) ?_
      refine XT.call rfl rfl Try.call16 rfl rfl rfl (some_spec d vh vj kh kj ((startsL d).getD ((((n2 : Nat) : Int) % (us.length : Int))).toNat default) (us.getD ((((n2 : Nat) : Int) % (us.length : Int))).toNat default) K v3 h3 x3 ok so) (fun v64 s64 R64 => ?_) ?_
      · skip
        obtain ⟨vc, kc1, rfl, rfl, OC⟩ := R64
        dsimp only [List.cons_append, List.nil_append]
        refine ⟨inferInstance, ?_⟩
        refine XT.q rfl rfl (Q.move rfl) ?_
        refine XT.q rfl rfl (Q.extract rfl rfl) ?_
        refine XT.q rfl rfl (Q.extract rfl rfl) ?_
        refine XT.alloc rfl rfl (fun b18 => ⟨inferInstance, ?_⟩) XT.stop
        refine XT.st rfl rfl rfl rfl rfl ⟨inferInstance, ?_⟩ XT.stop
        refine XT.q rfl rfl (Q.assign rfl) ?_
        refine XT.done ?_
        exact mtr5 ((b18, vc, kc1)) _ _ OC (.c rfl (.c rfl (.base 16 rfl rfl))) inferInstance
      · skip
        refine XT.alloc rfl rfl (fun b18 => ⟨inferInstance, ?_⟩) XT.stop
        refine XT.call rfl rfl Try.call16 rfl rfl rfl (some_spec d vh vj kh kj ((startsL d).getD ((((n2 : Nat) : Int) % (us.length : Int))).toNat default) (us.getD ((((n2 : Nat) : Int) % (us.length : Int))).toNat default) K v3 h3 x3 ok so) (fun v64 s64 R64 => ?_) XT.stop
        obtain ⟨vc, kc1, rfl, rfl, OC⟩ := R64
        dsimp only [List.cons_append, List.nil_append]
        refine ⟨inferInstance, ?_⟩
        refine XT.q rfl rfl (Q.move rfl) ?_
        refine XT.q rfl rfl (Q.extract rfl rfl) ?_
        refine XT.q rfl rfl (Q.extract rfl rfl) ?_
        refine XT.st rfl rfl rfl rfl rfl ⟨inferInstance, ?_⟩ XT.stop
        refine XT.q rfl rfl (Q.assign rfl) ?_
        refine XT.done ?_
        exact mtr5 ((b18, vc, kc1)) _ _ OC (.c rfl (.c rfl (.base 16 rfl rfl))) inferInstance
end Go.X
