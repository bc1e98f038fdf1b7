/- A part of the proof: a small program logic, plain laws and contracts of functions, each proved by a walk through its operations. No condition but those that stand in each theorem. -/
import Derived.Test.YtbeieafhcephmaaGreatA3
set_option linter.unusedSimpArgs false
set_option linter.unusedVariables false
set_option maxRecDepth 20000
namespace Go.X
open Go.Proofs
theorem charges_spec (b : Nat) (hour : Nat) (e m : Int) : Spec Tryz.prog 91 #[ptr b 0, .int .i64 (hour : Nat), .int .i64 e, .int .i64 m] [] [] (fun v hs => ∃ b1 b2 b3 b4, v = .func (.func 102) #[] #[ptr b1 0, ptr b2 0, ptr b3 0, ptr b4 0] ∧ hs = [blk b1 [ptr b 0] 120, blk b2 [.int .i64 e] 3, blk b3 [.int .i64 ((hour : Nat) : Int)] 3, blk b4 [.int .i64 m] 3]) := by
  refine Spec.intro (fn := Tryz.f91) (N := 10) Tryz.func91 rfl Tryz.ntmps91 rfl fun B => ?_
  refine XK.seq ?_
  refine XK.region rfl ?_
  refine XO.box rfl fun b4 => ?_
  refine XO.box rfl fun b5 => ?_
  refine XO.box rfl fun b6 => ?_
  refine XO.box rfl fun b7 => ?_
  refine XO.q (Q.assign rfl) ?_
  refine XO.done ?_
  refine XK.seq ?_
  refine XK.region rfl ?_
  refine XO.q (Q.func (fun _ he => rfl) (fun _ he => evs_rel he rfl)) ?_
  refine XO.q (Q.assign rfl) ?_
  refine XO.done ?_
  refine XK.rt [blk b4 [ptr b 0] 120, blk b6 [.int .i64 e] 3, blk b5 [.int .i64 ((hour : Nat) : Int)] 3, blk b7 [.int .i64 m] 3] Tryz.func91 Tryz.results91 (.t rfl .n) ?_
  exact ⟨_, _, _, _, rfl, rfl⟩
set_option maxHeartbeats 1000000 in
theorem follows_spec (d : KDay) (vh vj : Value) (hh hj : PHeap) [ih : Arr vh encHour 6 hh d.hours] [ij : Arr vj encJob 4 hj d.jobs] (vb vv : Value) (hb hv : PHeap) (base vals : List Int) [jb : Arr vb encI 1 hb base] [jv : Arr vv encI 1 hv vals] (ok : DayOk d) (bo : BaseOk d base) (hvl : (vals.length : Int) = sizeK d) (b hour : Nat) (hh1 : hour ≤ d.hours.length) (e m : Int) (so : StateOk d e m)
    (fl : ∀ e' m', hour < d.hours.length → StateOk d e' m' → vals.getD (atK d ((hour : Int) + 1) e' m').toNat default = valH d base (hour + 1) e' m') :
    Spec Tryz.prog 88 #[ptr b 0, .int .i64 (hour : Nat), .int .i64 e, .int .i64 m] [] [blk b [vh, .int .i64 d.store.energy, .int .i64 d.store.full, .int .i64 d.store.power, .int .i64 d.store.fin, vj, .int .i64 d.most, .int .i64 d.peak, vb, vv] 123, hb, hv, hh] (fun v hs => v = .int .i64 (valH d base hour e m) ∧ hs = []) := by
  have lh := ih.le
  have h24 := ok.h2
  have p0 := ok.p0
  have p1 := ok.p1
  have m0 := so.m0
  have m1 := so.m1
  have q1 := ok.m1
  have pm := price_mul (a := d.peak) (b := m) p0 (by omega) m0 (by omega)
  refine Spec.intro (fn := Tryz.f88) (N := 60) Tryz.func88 rfl Tryz.ntmps88 rfl fun B => ?_
  refine XK.seq ?_
  refine XK.region rfl ?_
  refine XO.box rfl fun b4 => ?_
  refine XO.q (Q.assign rfl) ?_
  refine XO.done ?_
  refine XK.seq ?_
  refine XK.seq ?_
  refine XK.region rfl ?_
  refine XO.q (Q.move rfl) ?_
  refine XO.q (Q.ld rfl rfl) ?_
  refine XO.q (Q.nilCheck rfl) ?_
  refine XO.q (Q.fieldAddr rfl) ?_
  refine XO.q (Q.fieldAddr rfl) ?_
  refine XO.q (Q.ld rfl rfl) ?_
  refine XO.len rfl fun l19 => ?_
  refine XO.q (Q.eql rfl rfl) ?_
  refine XO.done ?_
  refine XK.if rfl (fun c0 => ?_) (fun c0 => ?_)
  · have _t0 := True.intro
    have hn : hour = d.hours.length := by omega
    subst hn
    refine XK.seq ?_
    refine XK.seq ?_
    refine XK.region rfl ?_
    refine XO.q (Q.move rfl) ?_
    refine XO.q (Q.ld rfl rfl) ?_
    refine XO.q (Q.nilCheck rfl) ?_
    refine XO.q (Q.fieldAddr rfl) ?_
    refine XO.q (Q.fieldAddr rfl) ?_
    refine XO.q (Q.fieldAddr rfl) ?_
    refine XO.q (Q.ld rfl rfl) ?_
    refine XO.q (Q.lss rfl rfl) ?_
    refine XO.done ?_
    refine XK.if rfl (fun c1 => ?_) (fun c1 => ?_)
    · have _t1 := True.intro
      refine XK.seq ?_
      refine XK.region rfl ?_
      refine XO.q (Q.assign rfl) ?_
      refine XO.done ?_
      refine XK.rt [] Tryz.func88 Tryz.results88 (.t rfl .n) ?_
      exact ⟨by rw [valH_end, if_pos c1]; rfl, rfl⟩
    · have _t1 := True.intro
      refine XK.skip ?_
      refine XK.seq ?_
      refine XK.region rfl ?_
      refine XO.q (Q.ld rfl rfl) ?_
      refine XO.q (Q.nilCheck rfl) ?_
      refine XO.q (Q.fieldAddr rfl) ?_
      refine XO.q (Q.fieldAddr rfl) ?_
      refine XO.q (Q.ld rfl rfl) ?_
      refine XO.q (Q.move rfl) ?_
      refine XO.q (Q.mul rfl rfl ⟨by omega, by omega⟩) ?_
      refine XO.q (Q.assign rfl) ?_
      refine XO.done ?_
      refine XK.rt [] Tryz.func88 Tryz.results88 (.t rfl .n) ?_
      exact ⟨by rw [valH_end, if_neg c1], rfl⟩
  · have _t0 := True.intro
    have hlt : hour < d.hours.length := by omega
    have br := bo.rng hour hlt
    refine XK.skip ?_
    refine XK.seq ?_
    refine XK.region rfl ?_
    refine XO.alloc fun b9 => ?_
    refine XO.st rfl rfl rfl ?_
    refine XO.done ?_
    refine XK.seq ?_
    refine XK.seq ?_
    refine XK.region rfl ?_
    refine XO.q (Q.ld rfl rfl) ?_
    refine XO.q (Q.move rfl) ?_
    refine XO.q (Q.move rfl) ?_
    refine XO.q (Q.move rfl) ?_
    refine XO.call Tryz.call91 rfl rfl rfl (charges_spec b hour e m) fun v40 s40 R40 => ?_
    obtain ⟨b1, b2, b3, b4, rfl, rfl⟩ := R40
    dsimp only [List.cons_append, List.nil_append]
    refine XO.done ?_
    refine XK.block ?_
    refine XK.range (X := Nat) (ps := [41, 42]) (chItems d base hour e m) (fun k => [blk b9 [.int .i64 (leastN (d.hours.getD hour default) (base.getD hour default) e m (valH d base (hour + 1)) (lowC d e) (k))] 3]) (fun i k => k = i) (fun _ _ => False) (0) [blk b9 [.int .i64 1000000000000000] 3] rfl rfl rfl (charges1 d vh vj hh hj vb vv hb base ok bo b b1 b2 b3 b4 hour hlt e m so) rfl (chItems_two) ?_ ?_ (fun _ _ hJ => hJ.elim)
    · rintro lq rec B' i k hi hki
      dsimp only [List.cons_append, List.nil_append]
      rw [chItems_len] at hi
      subst hki
      obtain ⟨sn, n1, n2, n3⟩ := next_ok ok so hi
      have ar := at_rng sn (show (0 : Int) ≤ ((hour : Int) + 1) by omega) (by omega)
      have ev : vals.getD (nextC d base hour e m (lowC d e + ((k : Nat) : Int))).toNat default = (valH d base (hour + 1) (e + (lowC d e + ((k : Nat) : Int))) (max m (base.getD hour default + (lowC d e + ((k : Nat) : Int))))) := fl _ _ hlt sn
      have arn : 0 ≤ nextC d base hour e m (lowC d e + ((k : Nat) : Int)) ∧ nextC d base hour e m (lowC d e + ((k : Nat) : Int)) < sizeK d := ar
      have vr := val_rng ok bo (show hour + 1 ≤ d.hours.length by omega) sn
      have pr := price_rng (h := d.hours.getD hour default) (ok.hour hour hlt) (n := base.getD hour default + (lowC d e + ((k : Nat) : Int))) (by omega) (by omega)
      have lr := least_rng ok bo hlt so (Nat.le_of_lt hi)
      rw [chItems_at hi]
      dsimp only [pars, chItem]
      unfold never at vr
      refine XK.region rfl ?_
      refine XO.alloc fun b11 => ?_
      refine XO.st rfl rfl rfl ?_
      refine XO.done ?_
      refine XK.beginRound ?_
      refine XK.block ?_
      refine XK.seq ?_
      refine XK.drawn [0, 1, 2, 3, 4, 5, 6, 7, 8] [b4, b11] [] (.q 0 (.q 1 (.q 2 (.q 3 (.q 4 (.q 5 (.q 6 (.q 7 (.q 8 .done))))))))) Tryz.mixed rfl (by kernel_rfl) ?_
      refine XT.q rfl rfl (Q.ld rfl rfl) ?_
      refine XT.q rfl rfl (Q.nilCheck rfl) ?_
      refine XT.q rfl rfl (Q.fieldAddr rfl) ?_
      refine XT.q rfl rfl (Q.ld rfl rfl) ?_
      refine XT.q rfl rfl (Q.ixA rfl rfl (by omega) (by omega)) ?_
      refine XT.q rfl rfl (Q.ld rfl rfl) ?_
      refine XT.ix rfl rfl rfl rfl (by omega) (by omega) fun i49 => ?_
      refine XT.q rfl rfl (Q.ldE rfl (by first | assumption | omega) rfl) ?_
      rw [ev]
      refine XT.q rfl rfl (Q.assign rfl) ?_
      refine XT.done ?_
      refine XK.seq ?_
      refine XK.region rfl ?_
      refine XO.q (Q.move rfl) ?_
      refine XO.q (Q.lss rfl rfl) ?_
      refine XO.done ?_
      refine XK.if rfl (fun c2 => ?_) (fun c2 => ?_)
      · have _t2 := True.intro
        refine XK.region rfl ?_
        refine XO.q (Q.ld rfl rfl) ?_
        refine XO.q (Q.ixA rfl rfl (by omega) (by omega)) ?_
        refine XO.q (Q.ld rfl rfl) ?_
        refine XO.q (Q.move rfl) ?_
        refine XO.q (Q.add rfl rfl ⟨by omega, by omega⟩) ?_
        refine XO.q (Q.min rfl rfl) ?_
        refine XO.st rfl rfl rfl ?_
        refine XO.done ?_
        refine XK.inBlock ?_
        rw [show min (leastN (d.hours.getD hour default) (base.getD hour default) e m (valH d base (hour + 1)) (lowC d e) (k)) ((priceH (d.hours.getD hour default) (base.getD hour default + (lowC d e + ((k : Nat) : Int)))) + (valH d base (hour + 1) (e + (lowC d e + ((k : Nat) : Int))) (max m (base.getD hour default + (lowC d e + ((k : Nat) : Int)))))) = (leastN (d.hours.getD hour default) (base.getD hour default) e m (valH d base (hour + 1)) (lowC d e) (k + 1)) by rw [leastN, seeC, if_pos (show (valH d base (hour + 1) (e + (lowC d e + ((k : Nat) : Int))) (max m (base.getD hour default + (lowC d e + ((k : Nat) : Int))))) < never from c2)]]
        exact XK.leave (j := none) [blk b9 [.int .i64 (leastN (d.hours.getD hour default) (base.getD hour default) e m (valH d base (hour + 1)) (lowC d e) (k + 1))] 3] trivial ⟨(k + 1), rfl, rfl⟩
      · have _t2 := True.intro
        refine XK.skip ?_
        refine XK.inBlock ?_
        rw [show (leastN (d.hours.getD hour default) (base.getD hour default) e m (valH d base (hour + 1)) (lowC d e) (k)) = (leastN (d.hours.getD hour default) (base.getD hour default) e m (valH d base (hour + 1)) (lowC d e) (k + 1)) by rw [leastN, seeC, if_neg (show ¬ (valH d base (hour + 1) (e + (lowC d e + ((k : Nat) : Int))) (max m (base.getD hour default + (lowC d e + ((k : Nat) : Int))))) < never from c2)]]
        exact XK.leave (j := none) [blk b9 [.int .i64 (leastN (d.hours.getD hour default) (base.getD hour default) e m (valH d base (hour + 1)) (lowC d e) (k + 1))] 3] trivial ⟨(k + 1), rfl, rfl⟩
    · rintro k hki
      dsimp only [List.cons_append, List.nil_append]
      rw [chItems_len] at hki
      subst hki
      refine XK.inBlock ?_
      refine XK.seq ?_
      refine XK.region rfl ?_
      refine XO.q (Q.ld rfl rfl) ?_
      refine XO.q (Q.assign rfl) ?_
      refine XO.done ?_
      refine XK.rt [] Tryz.func88 Tryz.results88 (.t rfl .n) ?_
      exact ⟨by rw [valH_step hlt], rfl⟩
end Go.X

set_option linter.unusedSimpArgs false
set_option linter.unusedVariables false
set_option maxRecDepth 20000
namespace Go.X
open Go.Proofs
theorem states_spec (d : KDay) (vh vj vb : Value) (vv : Value) (ok : DayOk d) (b : Nat) [ov : One vh] (hlen : (d.hours.length : Int) ≤ 24) (hh : PHeap) [ih : Arr vh encHour 6 hh d.hours] (f : Value) (Hr : List PHeap) (QQ : Int → Int → Int → PHeap → Prop) (XX : PHeap → Prop)
    (hcall : ∀ (h : Nat) (e m : Int) (q : PHeap), h ≤ d.hours.length → StateOk d e m → QQ h e m q → VSpec Tryz.prog f [.int .i64 (h : Nat), .int .i64 e, .int .i64 m] [q] Hr (fun v hs => ∃ bb q', v = .bool bb ∧ hs = [q'] ∧ (bb = true → QQ h e (m + 1) q') ∧ (bb = false → XX q')))
    (hE : ∀ h e q, QQ h e (d.most + 1) q → QQ h (e + 1) 0 q) (hH : ∀ h q, QQ h (d.store.full + 1) 0 q → QQ (h - 1) 0 0 q) (q : PHeap) (hq : QQ d.hours.length 0 0 q) :
    Spec Tryz.prog 89 #[ptr b 0, f] [q] (blk b [vh, .int .i64 d.store.energy, .int .i64 d.store.full, .int .i64 d.store.power, .int .i64 d.store.fin, vj, .int .i64 d.most, .int .i64 d.peak, vb, vv] 123 :: Hr) (fun v hs => ∃ bb q', v = .bool bb ∧ hs = [q'] ∧ (bb = true → QQ (-1) 0 0 q') ∧ (bb = false → XX q')) := by
  have f0 := ok.store.f0
  have f1 := ok.store.f1
  have m0 := ok.m0
  have m1 := ok.m1
  refine Spec.intro (fn := Tryz.f89) (N := 45) Tryz.func89 rfl Tryz.ntmps89 rfl fun B => ?_
  refine XK.seq ?_
  refine XK.region rfl ?_
  refine XO.q (Q.assign rfl) ?_
  refine XO.done ?_
  refine XK.seq ?_
  refine XK.seq ?_
  refine XK.region rfl ?_
  refine XO.q (Q.move rfl) ?_
  refine XO.q (Q.nilCheck rfl) ?_
  refine XO.q (Q.fieldAddr rfl) ?_
  refine XO.q (Q.fieldAddr rfl) ?_
  refine XO.q (Q.ld rfl rfl) ?_
  refine XO.len rfl fun l13 => ?_
  refine XO.q (Q.assign rfl) ?_
  refine XO.done ?_
  refine XK.block ?_
  refine XK.while (X := Int × PHeap) [4, 5, 6, 7, 14, 15, 16, 17, 18, 19, 20, 21, 22, 23, 24, 25, 26, 27, 28, 29, 30, 31, 32, 33, 34, 35, 36, 37, 38, 39, 40, 41, 42, 43, 44] (fun ⟨hr, q1⟩ => [(5, some (.int .i64 hr))]) (fun ⟨hr, q1⟩ => [q1]) (fun ⟨hr, q1⟩ => -1 ≤ hr ∧ hr ≤ d.hours.length ∧ QQ hr 0 0 q1) (fun ⟨hr, q1⟩ => (hr + 1).toNat) ((d.hours.length : Int), q) [q] rfl ⟨by (try dsimp only); omega, by (try dsimp only); omega, hq⟩ (.c rfl (.base 0 rfl rfl)) ?_
  rintro ⟨hr, q1⟩ ⟨hr0, hr1, h1⟩ ih0
  dsimp only [List.cons_append, List.nil_append] at ih0 ⊢
  refine XK.seq ?_
  refine XK.seq ?_
  refine XK.region rfl ?_
  refine XO.q (Q.move rfl) ?_
  refine XO.q (Q.geq rfl rfl) ?_
  refine XO.done ?_
  refine XK.if rfl (fun c0 => ?_) (fun c0 => ?_)
  · have _t0 := True.intro
    obtain ⟨hn, ehn⟩ := Int.eq_ofNat_of_zero_le (show 0 ≤ hr by omega)
    subst ehn
    refine XK.skip ?_
    refine XK.seq ?_
    refine XK.block ?_
    refine XK.seq ?_
    refine XK.region rfl ?_
    refine XO.q (Q.move rfl) ?_
    refine XO.q (Q.nilCheck rfl) ?_
    refine XO.q (Q.fieldAddr rfl) ?_
    refine XO.q (Q.fieldAddr rfl) ?_
    refine XO.q (Q.fieldAddr rfl) ?_
    refine XO.q (Q.ld rfl rfl) ?_
    refine XO.q (Q.add rfl rfl ⟨by omega, by omega⟩) ?_
    refine XO.q (Q.move rfl) ?_
    refine XO.done ?_
    refine XK.block ?_
    refine XK.while (X := Nat × PHeap) [4, 6, 7, 25, 26, 27, 28, 29, 30, 31, 32, 33, 34, 35, 36, 37, 38, 39, 40, 41, 42, 43, 44] (fun ⟨i, q2⟩ => [(25, some (.int .i64 (i : Nat)))]) (fun ⟨i, q2⟩ => [q2]) (fun ⟨i, q2⟩ => (i : Int) ≤ d.store.full + 1 ∧ QQ (hn : Int) (i : Int) 0 q2) (fun ⟨i, q2⟩ => (d.store.full + 1).toNat - i) (0, q1) [q1] rfl ⟨by (try dsimp only); omega, h1⟩ (.c rfl (.base 0 rfl rfl)) ?_
    rintro ⟨i, q2⟩ ⟨hi, h2⟩ ih1
    dsimp only [List.cons_append, List.nil_append] at ih1 ⊢
    refine XK.seq ?_
    refine XK.region rfl ?_
    refine XO.q (Q.lss rfl rfl) ?_
    refine XO.done ?_
    refine XK.seq ?_
    refine XK.if rfl (fun c1 => ?_) (fun c1 => ?_)
    · have _t1 := True.intro
      refine XK.skip ?_
      refine XK.seq ?_
      refine XK.block ?_
      refine XK.seq ?_
      refine XK.region rfl ?_
      refine XO.q (Q.move rfl) ?_
      refine XO.q (Q.assign rfl) ?_
      refine XO.done ?_
      refine XK.seq ?_
      refine XK.region rfl ?_
      refine XO.q (Q.move rfl) ?_
      refine XO.q (Q.nilCheck rfl) ?_
      refine XO.q (Q.fieldAddr rfl) ?_
      refine XO.q (Q.fieldAddr rfl) ?_
      refine XO.q (Q.ld rfl rfl) ?_
      refine XO.q (Q.add rfl rfl ⟨by omega, by omega⟩) ?_
      refine XO.q (Q.move rfl) ?_
      refine XO.done ?_
      refine XK.block ?_
      refine XK.while (X := Nat × PHeap) [4, 7, 34, 35, 36, 37, 38, 39, 40, 41, 42, 43] (fun ⟨j, q3⟩ => [(34, some (.int .i64 (j : Nat)))]) (fun ⟨j, q3⟩ => [q3]) (fun ⟨j, q3⟩ => (j : Int) ≤ d.most + 1 ∧ QQ (hn : Int) (i : Int) (j : Int) q3) (fun ⟨j, q3⟩ => (d.most + 1).toNat - j) (0, q2) [q2] rfl ⟨by (try dsimp only); omega, h2⟩ (.c rfl (.base 0 rfl rfl)) ?_
      rintro ⟨j, q3⟩ ⟨hj, h3⟩ ih2
      dsimp only [List.cons_append, List.nil_append] at ih2 ⊢
      refine XK.seq ?_
      refine XK.region rfl ?_
      refine XO.q (Q.lss rfl rfl) ?_
      refine XO.done ?_
      refine XK.seq ?_
      refine XK.if rfl (fun c2 => ?_) (fun c2 => ?_)
      · have _t2 := True.intro
        refine XK.skip ?_
        refine XK.seq ?_
        refine XK.block ?_
        refine XK.seq ?_
        refine XK.region rfl ?_
        refine XO.q (Q.move rfl) ?_
        refine XO.q (Q.assign rfl) ?_
        refine XO.done ?_
        refine XK.seq ?_
        refine XK.region rfl ?_
        refine XO.q (Q.move rfl) ?_
        refine XO.q (Q.move rfl) ?_
        refine XO.q (Q.move rfl) ?_
        refine XO.q (Q.move rfl) ?_
        refine XO.vcall rfl rfl (hcall hn ((i : Nat) : Int) ((j : Nat) : Int) q3 (by omega) ⟨by omega, by omega, by omega, by omega⟩ h3) fun v41 s41 R41 => ?_
        obtain ⟨bb, q4, rfl, rfl, hT, hF⟩ := R41
        dsimp only [List.cons_append, List.nil_append]
        refine XO.q (Q.not rfl) ?_
        refine XO.done ?_
        refine XK.if rfl (fun c3 => ?_) (fun c3 => ?_)
        · have _t3 := True.intro
          refine XK.seq ?_
          refine XK.region rfl ?_
          refine XO.q (Q.assign rfl) ?_
          refine XO.done ?_
          refine XK.rt [q4] Tryz.func89 Tryz.results89 (.t rfl .n) ?_
          exact ⟨false, q4, rfl, rfl, (fun h => by cases h), fun _ => hF (by cases bb <;> simp_all)⟩
        · have _t3 := True.intro
          refine XK.skip ?_
          refine XK.inBlock ?_
          refine XK.region rfl ?_
          refine XO.q (Q.add rfl rfl ⟨by omega, by omega⟩) ?_
          refine XO.q (Q.move rfl) ?_
          refine XO.done ?_
          exact ih2 (j + 1, q4) _ _ ⟨by (try dsimp only); omega, hT (by cases bb <;> simp_all)⟩ (by first | omega | (dsimp only; omega)) (.c rfl (.base 24 rfl rfl)) inferInstance
      · have _t2 := True.intro
        have hjm : ((j : Nat) : Int) = d.most + 1 := by omega
        rw [hjm] at h3
        refine XK.exit rfl ?_
        refine XK.inBlock ?_
        refine XK.region rfl ?_
        refine XO.q (Q.add rfl rfl ⟨by omega, by omega⟩) ?_
        refine XO.q (Q.move rfl) ?_
        refine XO.done ?_
        exact ih1 (i + 1, q3) _ _ ⟨by (try dsimp only); omega, hE _ _ _ h3⟩ (by first | omega | (dsimp only; omega)) (.c rfl (.base 50 rfl rfl)) inferInstance
    · have _t1 := True.intro
      have hif : ((i : Nat) : Int) = d.store.full + 1 := by omega
      rw [hif] at h2
      refine XK.exit rfl ?_
      refine XK.inBlock ?_
      refine XK.region rfl ?_
      refine XO.q (Q.move rfl) ?_
      refine XO.q (Q.sub rfl rfl ⟨by omega, by omega⟩) ?_
      refine XO.q (Q.assign rfl) ?_
      refine XO.done ?_
      exact ih0 (((hn : Int) - 1), q2) _ _ ⟨by (try dsimp only); omega, by (try dsimp only); omega, hH _ _ h2⟩ (by first | omega | (dsimp only; omega)) (.c rfl (.base 74 rfl rfl)) inferInstance
  · have _t0 := True.intro
    have hm1 : hr = -1 := by omega
    subst hm1
    refine XK.exit rfl ?_
    refine XK.seq ?_
    refine XK.region rfl ?_
    refine XO.q (Q.assign rfl) ?_
    refine XO.done ?_
    refine XK.rt [q1] Tryz.func89 Tryz.results89 (.t rfl .n) ?_
    exact ⟨true, q1, rfl, rfl, fun _ => h1, (fun h => by cases h)⟩
theorem tables1 (d : KDay) (vh vj : Value) (hh hj : PHeap) [ih : Arr vh encHour 6 hh d.hours] [ij : Arr vj encJob 4 hj d.jobs] (vb vv : Value) (hb : PHeap) (base : List Int) [jb : Arr vb encI 1 hb base] (ok : DayOk d) (bo : BaseOk d base) (b bf bt : Nat) (h : Nat) (e m : Int) (q : PHeap) (hh1 : h ≤ d.hours.length) (so : StateOk d e m) (vals : List Int) [jv : OArr vv encI 1 3 q vals] (fl : Filled d base vals h e m) :
    Spec Tryz.prog 90 #[.int .i64 (h : Nat), .int .i64 e, .int .i64 m, ptr bf 0, ptr bt 0] [q] [blk b [vh, .int .i64 d.store.energy, .int .i64 d.store.full, .int .i64 d.store.power, .int .i64 d.store.fin, vj, .int .i64 d.most, .int .i64 d.peak, vb, vv] 123, blk bf [.func (.func 88) #[ptr b 0] #[]] 124, blk bt [ptr b 0] 120, hb, hh]
      (fun v hs => ∃ q', v = .bool true ∧ hs = [q'] ∧ ∃ vals', OArr vv encI 1 3 q' vals' ∧ Filled d base vals' h e (m + 1)) := by
  have e0 := so.e0
  have e1 := so.e1
  have m0 := so.m0
  have m1 := so.m1
  have f1 := ok.store.f1
  have q1 := ok.m1
  have h24 := ok.h2
  have ar := at_rng so (show (0 : Int) ≤ h by omega) (by omega)
  have hl := fl.len
  have nx : ∀ e' m', h < d.hours.length → StateOk d e' m' → vals.getD (atK d ((h : Int) + 1) e' m').toNat default = valH d base (h + 1) e' m' := fun e' m' hlt s' => by
    have := fl.val (h + 1) e' m' (by omega) s' (.inl (by omega))
    rw [← this]; rfl
  refine Spec.intro (fn := Tryz.f90) (N := 24) Tryz.func90 rfl Tryz.ntmps90 rfl fun B => ?_
  refine XK.seq ?_
  refine XK.region rfl ?_
  refine XO.q (Q.assign rfl) ?_
  refine XO.done ?_
  refine XK.seq ?_
  refine XK.drawn [0, 1, 2, 3, 4, 5, 6, 7, 9, 10, 11, 12, 14] [bt, bf] [] (.q 0 (.q 1 (.q 2 (.q 3 (.q 4 (.q 5 (.q 6 (.q 7 (.q 9 (.q 10 (.q 11 (.q 12 (.br 8 true (.br 13 true (.q 14 (.br 15 false .done .stop)) .stop) .stop))))))))))))) Tryz.mixed rfl (by kernel_rfl) ?_
  refine XT.q rfl rfl (Q.ld rfl rfl) ?_
  refine XT.q rfl rfl (Q.nilCheck rfl) ?_
  refine XT.q rfl rfl (Q.fieldAddr rfl) ?_
  refine XT.q rfl rfl (Q.ld rfl rfl) ?_
  refine XT.q rfl rfl (Q.ld rfl rfl) ?_
  refine XT.q rfl rfl (Q.move rfl) ?_
  refine XT.q rfl rfl (Q.move rfl) ?_
  refine XT.q rfl rfl (Q.move rfl) ?_
  refine XT.q rfl rfl (Q.ld rfl rfl) ?_
  refine XT.q rfl rfl (Q.move rfl) ?_
  refine XT.q rfl rfl (Q.move rfl) ?_
  refine XT.q rfl rfl (Q.move rfl) ?_
  refine XT.call rfl rfl Tryz.call60 rfl rfl rfl (at_spec d vh vj vb vv ok b (h : Int) e m (by omega) (by omega) (by omega)) (fun v17 s17 R17 => ?_) XT.stop
  obtain ⟨rfl, rfl⟩ := R17
  dsimp only [List.cons_append, List.nil_append]
  refine ⟨inferInstance, ?_⟩
  refine XT.vcall rfl rfl rfl rfl (VSpec.fn (fst := [ptr b 0]) (cap := []) Tryz.call88 rfl (follows_spec d vh vj hh hj vb vv hb q base vals ok bo hl b h hh1 e m so nx)) (fun v22 s22 R22 => ?_) XT.stop
  obtain ⟨rfl, rfl⟩ := R22
  dsimp only [List.cons_append, List.nil_append]
  refine ⟨inferInstance, ?_⟩
  refine XT.ix rfl rfl rfl rfl (by omega) (by omega) fun i23 => ?_
  refine XT.stE _ rfl rfl rfl rfl rfl (by assumption) rfl rfl (fun h1_15 O1_15 => ⟨inferInstance, ?_⟩) XT.stop
  refine XT.done ?_
  refine XK.seq ?_
  refine XK.region rfl ?_
  refine XO.q (Q.assign rfl) ?_
  refine XO.done ?_
  refine XK.rt [h1_15] Tryz.func90 Tryz.results90 (.t rfl .n) ?_
  exact ⟨h1_15, rfl, rfl, _, O1_15, fl.put hh1 so⟩
end Go.X

set_option linter.unusedSimpArgs false
set_option linter.unusedVariables false
set_option maxRecDepth 20000
namespace Go.X
open Go.Proofs
set_option maxHeartbeats 1000000 in
theorem tables_spec (d : KDay) (vh vj : Value) (hh hj : PHeap) [ih : Arr vh encHour 6 hh d.hours] [ij : Arr vj encJob 4 hj d.jobs] (s : List Int) (vs : Value) (hs_ : PHeap) [js : Arr vs encI 1 hs_ s] (ok : DayOk d) (so : SOk d s) : Spec Tryz.prog 59 #[.agg #[vh, .int .i64 d.store.energy, .int .i64 d.store.full, .int .i64 d.store.power, .int .i64 d.store.fin, vj, .int .i64 d.most, .int .i64 d.peak], vs] [] [hh, hj, hs_] (fun v hs => ∃ b vb vv hb hv vals, v = ptr b 0 ∧ hs = [blk b [vh, .int .i64 d.store.energy, .int .i64 d.store.full, .int .i64 d.store.power, .int .i64 d.store.fin, vj, .int .i64 d.most, .int .i64 d.peak, vb, vv] 123, hb, hv] ∧ OArr vb encI 1 3 hb (needsL d s) ∧ OArr vv encI 1 3 hv vals ∧ TabOk d (needsL d s) vals) := by
  have lh := ih.le
  have h24 := ok.h2
  have bo := needs_base ok s
  have sz := size_rng ok
  refine Spec.intro (fn := Tryz.f59) (N := 29) Tryz.func59 rfl Tryz.ntmps59 rfl fun B => ?_
  refine XK.seq ?_
  refine XK.region rfl ?_
  refine XO.box rfl fun b2 => ?_
  refine XO.q (Q.assign rfl) ?_
  refine XO.done ?_
  refine XK.seq ?_
  refine XK.meet (X := Nat × Nat × Value × PHeap) [5, 7, 8, 9, 10, 11, 12] (fun ⟨b5, b12, v10, k10⟩ => [(5, some (ptr b5 0))]) (fun ⟨b5, b12, v10, k10⟩ => [blk b5 [ptr b12 0] 120, blk b12 [vh, .int .i64 d.store.energy, .int .i64 d.store.full, .int .i64 d.store.power, .int .i64 d.store.fin, vj, .int .i64 d.most, .int .i64 d.peak, v10, .slice none 0 0] 123, k10]) (fun ⟨b5, b12, v10, k10⟩ => OArr v10 encI 1 3 k10 (needsL d s)) [] ?_ ?_
  · rintro ⟨b5, b12, v10, k10⟩ O10
    dsimp only [List.cons_append, List.nil_append]
    refine XK.seq ?_
    refine XK.drawn [0, 1, 2, 3, 4, 5, 8, 9] [b5, b2] [] (.q 0 (.q 1 (.q 2 (.q 3 (.q 4 (.q 5 (.br 6 true (.br 7 true (.q 8 (.q 9 (.br 10 true .done .stop))) .stop) .stop))))))) Tryz.mixed rfl (by kernel_rfl) ?_
    refine XT.q rfl rfl (Q.ld rfl rfl) ?_
    refine XT.q rfl rfl (Q.ld rfl rfl) ?_
    refine XT.q rfl rfl (Q.fieldAddr rfl) ?_
    refine XT.q rfl rfl (Q.ld rfl rfl) ?_
    refine XT.q rfl rfl (Q.len rfl) ?_
    refine XT.q rfl rfl (Q.add rfl rfl ⟨by omega, by omega⟩) ?_
    refine XT.call rfl rfl Tryz.call60 rfl rfl rfl (at_spec d vh vj v10 (.slice none 0 0) ok b12 ((d.hours.length : Int) + 1) 0 0 (by omega) (by omega) (by omega)) (fun v19 s19 R19 => ?_) XT.stop
    obtain ⟨rfl, rfl⟩ := R19
    dsimp only [List.cons_append, List.nil_append]
    refine ⟨inferInstance, ?_⟩
    rw [show atK d ((d.hours.length : Int) + 1) 0 0 = (((sizeK d).toNat : Nat) : Int) from (Int.toNat_of_nonneg sz.1).symm]
    refine XT.make encI (0) rfl rfl rfl rfl rfl (by omega) (by omega) (fun _ => rfl) rfl rfl rfl (by dsimp only [encI]; infer_instance) (fun v20 h20 O20 => ⟨inferInstance, ?_⟩) XT.stop
    refine XT.q rfl rfl (Q.nilCheck rfl) ?_
    refine XT.q rfl rfl (Q.fieldAddr rfl) ?_
    refine XT.st rfl rfl rfl rfl rfl ⟨inferInstance, ?_⟩ XT.stop
    refine XT.done ?_
    refine XK.seq ?_
    refine XK.region rfl ?_
    refine XO.q (Q.ld rfl rfl) ?_
    refine XO.q (Q.func (fun _ he => evs_rel he rfl) (fun _ he => rfl)) ?_
    refine XO.alloc fun b6 => ?_
    refine XO.st rfl rfl rfl ?_
    refine XO.done ?_
    refine XK.seq ?_
    refine XK.region rfl ?_
    refine XO.q (Q.ld rfl rfl) ?_
    refine XO.q (Q.func (fun _ he => rfl) (fun _ he => evs_rel he rfl)) ?_
    refine XO.call Tryz.call89 rfl rfl rfl (states_spec d vh vj v10 v20 ok b12 (by omega) hh (.func (.func 90) #[] #[ptr b6 0, ptr b5 0]) [blk b12 [vh, .int .i64 d.store.energy, .int .i64 d.store.full, .int .i64 d.store.power, .int .i64 d.store.fin, vj, .int .i64 d.most, .int .i64 d.peak, v10, v20] 123, blk b6 [.func (.func 88) #[ptr b12 0] #[]] 124, blk b5 [ptr b12 0] 120, k10, hh] (fun (h e m : Int) (q : PHeap) => ∃ vals, OArr v20 encI 1 3 q vals ∧ Filled d (needsL d s) vals h e m) (fun _ => False) (fun h e m q hh1 so2 hQ => by obtain ⟨vals, hO, fl⟩ := hQ; exact VSpec.fn (fst := []) (cap := [ptr b6 0, ptr b5 0]) Tryz.call90 rfl ((tables1 d vh vj hh hj v10 v20 k10 (needsL d s) ok bo b12 b6 b5 h e m q hh1 so2 vals fl).mono (fun v hs hx => by obtain ⟨q2, hv, hhs, hx2⟩ := hx; exact ⟨true, q2, hv, hhs, fun _ => hx2, fun h => by cases h⟩))) (fun h e q hQ => by obtain ⟨vals, hO, fl⟩ := hQ; exact ⟨vals, hO, fl.nextE⟩) (fun h q hQ => by obtain ⟨vals, hO, fl⟩ := hQ; exact ⟨vals, hO, fl.nextH⟩) h20 ⟨_, O20, Filled.start ok⟩) fun v27 s27 R27 => ?_
    obtain ⟨bb, q4, rfl, rfl, hT, hF⟩ := R27
    dsimp only [List.cons_append, List.nil_append]
    have hbt : bb = true := by
      cases bb with
      | false => exact (hF rfl).elim
      | true => rfl
    subst hbt
    obtain ⟨vals, OV, fl⟩ := hT rfl
    have tk := fl.all
    refine XO.done ?_
    refine XK.seq ?_
    refine XK.region rfl ?_
    refine XO.q (Q.ld rfl rfl) ?_
    refine XO.q (Q.assign rfl) ?_
    refine XO.done ?_
    refine XK.rt [blk b12 [vh, .int .i64 d.store.energy, .int .i64 d.store.full, .int .i64 d.store.power, .int .i64 d.store.fin, vj, .int .i64 d.most, .int .i64 d.peak, v10, v20] 123, k10, q4] Tryz.func59 Tryz.results59 (.t rfl .n) ?_
    exact ⟨b12, v10, v20, k10, q4, vals, rfl, rfl, O10, OV, tk⟩
  · intro mtr1
    dsimp only [List.cons_append, List.nil_append] at mtr1
    refine XK.drawn [0, 1, 2, 4] [b2] [] (.q 0 (.q 1 (.q 2 (.br 3 true (.q 4 (.br 5 true (.br 6 true (.br 7 false .done .stop) .stop) (.br 6 true (.br 5 true (.br 7 false .done .stop) .stop) .stop))) (.br 6 true (.br 3 true (.q 4 (.br 5 true (.br 7 false .done .stop) .stop)) .stop) .stop))))) Tryz.mixed rfl (by kernel_rfl) ?_
    refine XT.q rfl rfl (Q.ldA [_, _, _, _, _, _, _, _] rfl rfl rfl) ?_
    refine XT.q rfl rfl (Q.ldA [_, _, _, _, _, _, _, _] rfl rfl rfl) ?_
    refine XT.q rfl rfl (Q.move rfl) ?_
    refine XT.call rfl rfl Tryz.call66 rfl rfl rfl (needs_spec d vh vj hh hj s vs hs_ ok so) (fun v10 s10 R10 => ?_) ?_
    · skip
      obtain ⟨k10, rfl, O10⟩ := R10
      dsimp only [List.cons_append, List.nil_append]
      refine ⟨inferInstance, ?_⟩
      refine XT.q rfl rfl (Q.build [_, _, _, _, _, _, _, _, _, _] (.c 0 8 rfl rfl rfl (.c 8 1 rfl rfl rfl (.n _)))) ?_
      refine XT.box rfl rfl rfl (fun b12 => ⟨inferInstance, ?_⟩) ?_
      · skip
        refine XT.alloc rfl rfl (fun b5 => ⟨inferInstance, ?_⟩) XT.stop
        refine XT.st rfl rfl rfl rfl rfl ⟨inferInstance, ?_⟩ XT.stop
        refine XT.done ?_
        exact mtr1 ((b5, b12, v10, k10)) _ _ O10 (.c rfl (.base 7 rfl rfl)) inferInstance
      · skip
        refine XT.alloc rfl rfl (fun b5 => ⟨inferInstance, ?_⟩) XT.stop
        refine XT.box rfl rfl rfl (fun b12 => ⟨inferInstance, ?_⟩) XT.stop
        refine XT.st rfl rfl rfl rfl rfl ⟨inferInstance, ?_⟩ XT.stop
        refine XT.done ?_
        exact mtr1 ((b5, b12, v10, k10)) _ _ O10 (.c rfl (.base 7 rfl rfl)) inferInstance
    · skip
      refine XT.alloc rfl rfl (fun b5 => ⟨inferInstance, ?_⟩) XT.stop
      refine XT.call rfl rfl Tryz.call66 rfl rfl rfl (needs_spec d vh vj hh hj s vs hs_ ok so) (fun v10 s10 R10 => ?_) XT.stop
      obtain ⟨k10, rfl, O10⟩ := R10
      dsimp only [List.cons_append, List.nil_append]
      refine ⟨inferInstance, ?_⟩
      refine XT.q rfl rfl (Q.build [_, _, _, _, _, _, _, _, _, _] (.c 0 8 rfl rfl rfl (.c 8 1 rfl rfl rfl (.n _)))) ?_
      refine XT.box rfl rfl rfl (fun b12 => ⟨inferInstance, ?_⟩) XT.stop
      refine XT.st rfl rfl rfl rfl rfl ⟨inferInstance, ?_⟩ XT.stop
      refine XT.done ?_
      exact mtr1 ((b5, b12, v10, k10)) _ _ O10 (.c rfl (.base 7 rfl rfl)) inferInstance
end Go.X

set_option linter.unusedSimpArgs false
set_option linter.unusedVariables false
set_option maxRecDepth 20000
namespace Go.X
open Go.Proofs
theorem first_one {h : KHour} {n e m now low : Int} {v : Int → Int → Int} {k : Nat} (h0 : firstC h n e m v now low k = none) (hit : hitC h n e m v now (low + (k : Int)) = true) : ∀ c, k < c → firstC h n e m v now low c = some (low + (k : Int))
  | 0, hc => by omega
  | c + 1, hc => by
    rcases Nat.lt_or_ge k c with h2 | h2
    · rw [firstC, first_one h0 hit c h2]
    · obtain rfl : k = c := by omega
      rw [firstC, h0]
      simp [hit]
theorem first_none {h : KHour} {n e m now low : Int} {v : Int → Int → Int} {k : Nat} (h0 : firstC h n e m v now low k = none) (hit : ¬ hitC h n e m v now (low + (k : Int)) = true) : firstC h n e m v now low (k + 1) = none := by
  rw [firstC, h0]
  simp [hit]
set_option maxHeartbeats 1000000 in
theorem plan_spec (d : KDay) (vh vj : Value) (hh hj : PHeap) [ih : Arr vh encHour 6 hh d.hours] [ij : Arr vj encJob 4 hj d.jobs] (vb vv : Value) (hb hv : PHeap) (base vals : List Int) [jb : Arr vb encI 1 hb base] [jv : Arr vv encI 1 hv vals] (ok : DayOk d) (bo : BaseOk d base) (tk : TabOk d base vals) (b : Nat) : Spec Tryz.prog 61 #[ptr b 0] [] [blk b [vh, .int .i64 d.store.energy, .int .i64 d.store.full, .int .i64 d.store.power, .int .i64 d.store.fin, vj, .int .i64 d.most, .int .i64 d.peak, vb, vv] 123, hb, hv, hh] (fun v hs => ∃ k, hs = [k] ∧ OArr v encI 1 3 k (planL d base) ∧ StateOk d (planTo d base d.hours.length).e (planTo d base d.hours.length).m) := by
  have lh := ih.le
  have h24 := ok.h2
  have f1 := ok.store.f1
  have q1 := ok.m1
  have tl := tk.len
  have bl := bo.len
  have nI : OArr (.slice none 0 0) encI 1 3 emp ([] : List Int) := OArr.nil (fun _ => rfl)
  refine Spec.intro (fn := Tryz.f61) (N := 82) Tryz.func61 rfl Tryz.ntmps61 rfl fun B => ?_
  refine XK.seq ?_
  refine XK.region rfl ?_
  refine XO.box rfl fun b1 => ?_
  refine XO.q (Q.assign rfl) ?_
  refine XO.done ?_
  refine XK.seq ?_
  refine XK.region rfl ?_
  refine XO.alloc fun b3 => ?_
  refine XO.done ?_
  refine XK.seq ?_
  refine XK.region rfl ?_
  refine XO.q (Q.ld rfl rfl) ?_
  refine XO.q (Q.nilCheck rfl) ?_
  refine XO.q (Q.fieldAddr rfl) ?_
  refine XO.q (Q.fieldAddr rfl) ?_
  refine XO.q (Q.fieldAddr rfl) ?_
  refine XO.q (Q.ld rfl rfl) ?_
  refine XO.alloc fun b4 => ?_
  refine XO.alloc fun b5 => ?_
  refine XO.st rfl rfl rfl ?_
  refine XO.st rfl rfl rfl ?_
  refine XO.done ?_
  refine XK.seq ?_
  refine XK.seq ?_
  refine XK.region rfl ?_
  refine XO.q (Q.ld rfl rfl) ?_
  refine XO.q (Q.nilCheck rfl) ?_
  refine XO.q (Q.fieldAddr rfl) ?_
  refine XO.q (Q.fieldAddr rfl) ?_
  refine XO.q (Q.ld rfl rfl) ?_
  refine XO.len rfl fun l22 => ?_
  refine XO.q (Q.move rfl) ?_
  refine XO.done ?_
  refine XK.block ?_
  refine XK.while (X := Nat × Value × PHeap) [6, 7, 8, 9, 10, 23, 24, 25, 26, 27, 28, 29, 30, 31, 32, 33, 34, 35, 36, 37, 38, 39, 40, 41, 44, 45, 46, 47, 48, 49, 50, 51, 52, 53, 54, 55, 56, 57, 58, 59, 60, 61, 62, 63, 64, 65, 66, 67, 68, 69, 70, 71, 72, 73, 74, 75, 76, 77, 78, 79, 80] (fun ⟨hr, vo, ko⟩ => [(23, some (.int .i64 (hr : Nat)))]) (fun ⟨hr, vo, ko⟩ => [blk b3 [vo] 32, blk b4 [.int .i64 (planTo d base (hr)).e] 3, blk b5 [.int .i64 (planTo d base (hr)).m] 3, ko]) (fun ⟨hr, vo, ko⟩ => hr ≤ d.hours.length ∧ OArr vo encI 1 3 ko (planTo d base (hr)).l ∧ StateOk d (planTo d base (hr)).e (planTo d base (hr)).m ∧ (planTo d base (hr)).l.length ≤ hr) (fun ⟨hr, vo, ko⟩ => d.hours.length - hr) (0, .slice none 0 0, emp) [blk b3 [.slice none 0 0] 32, blk b4 [.int .i64 d.store.energy] 3, blk b5 [.int .i64 0] 3, emp] rfl ⟨by omega, nI, ⟨ok.store.e0, ok.store.e1, Int.le_refl _, ok.m0⟩, by simp [planTo]⟩ (.c rfl (.base 0 rfl rfl)) ?_
  rintro ⟨hr, vo, ko⟩ ⟨hh1, OO, so, lo⟩ ih0
  dsimp only [List.cons_append, List.nil_append] at ih0 ⊢
  refine XK.seq ?_
  refine XK.region rfl ?_
  refine XO.q (Q.lss rfl rfl) ?_
  refine XO.done ?_
  refine XK.seq ?_
  refine XK.if rfl (fun c0 => ?_) (fun c0 => ?_)
  · have _t0 := True.intro
    have so0 := so.e0
    have so1 := so.e1
    have so2 := so.m0
    have so3 := so.m1
    have ar := at_rng so (show (0 : Int) ≤ (hr : Int) by omega) (by omega)
    have ev := tk.val hr (planTo d base (hr)).e (planTo d base (hr)).m (by omega) so
    have br := bo.rng hr (by omega)
    refine XK.skip ?_
    refine XK.seq ?_
    refine XK.block ?_
    refine XK.seq ?_
    refine XK.region rfl ?_
    refine XO.q (Q.move rfl) ?_
    refine XO.alloc fun b6 => ?_
    refine XO.st rfl rfl rfl ?_
    refine XO.done ?_
    refine XK.seq ?_
    refine XK.meet (X := Nat) [7, 26, 27, 28, 29, 30, 31, 32, 33, 34, 35, 36] (fun b7 => [(7, some (ptr b7 0))]) (fun b7 => [blk b7 [.int .i64 (valH d base hr (planTo d base (hr)).e (planTo d base (hr)).m)] 3]) (fun b7 => True) [] ?_ ?_
    · rintro b7 _
      dsimp only [List.cons_append, List.nil_append]
      refine XK.seq ?_
      refine XK.region rfl ?_
      refine XO.q (Q.ld rfl rfl) ?_
      refine XO.q (Q.ld rfl rfl) ?_
      refine XO.q (Q.ld rfl rfl) ?_
      refine XO.q (Q.ld rfl rfl) ?_
      refine XO.call Tryz.call91 rfl rfl rfl (charges_spec b hr (planTo d base (hr)).e (planTo d base (hr)).m) fun v41 s41 R41 => ?_
      obtain ⟨x1, x2, x3, x4, rfl, rfl⟩ := R41
      dsimp only [List.cons_append, List.nil_append]
      refine XO.done ?_
      refine XK.block ?_
      refine XK.range (X := Nat × Value × PHeap × KSt) (ps := [42, 43]) (chItems d base hr (planTo d base (hr)).e (planTo d base (hr)).m) (fun ⟨k, vo2, ko2, st⟩ => [blk b3 [vo2] 32, blk b4 [.int .i64 st.e] 3, blk b5 [.int .i64 st.m] 3, ko2]) (fun i ⟨k, vo2, ko2, st⟩ => k = i ∧ st = (planTo d base (hr)) ∧ OArr vo2 encI 1 3 ko2 st.l ∧ (firstC (d.hours.getD hr default) (base.getD hr default) (planTo d base (hr)).e (planTo d base (hr)).m (valH d base (hr + 1)) (valH d base hr (planTo d base (hr)).e (planTo d base (hr)).m) (lowC d (planTo d base (hr)).e) (k)) = none) (fun j0 ⟨k, vo2, ko2, st⟩ => j0 = Code.exit 2 ∧ st = (planTo d base (hr + 1)) ∧ OArr vo2 encI 1 3 ko2 st.l ∧ StateOk d st.e st.m ∧ st.l.length ≤ hr + 1) (0, vo, ko, (planTo d base (hr))) [blk b3 [vo] 32, blk b4 [.int .i64 (planTo d base (hr)).e] 3, blk b5 [.int .i64 (planTo d base (hr)).m] 3, ko] rfl ⟨rfl, rfl, OO, rfl⟩ rfl (charges1 d vh vj hh hj vb vv hb base ok bo b x1 x2 x3 x4 hr (by omega) (planTo d base (hr)).e (planTo d base (hr)).m so) rfl (chItems_two) ?_ ?_ ?_
      · rintro lq rec B' i ⟨k, vo2, ko2, st⟩ hi ⟨hki, hst, O2, hfc⟩
        dsimp only [List.cons_append, List.nil_append]
        rw [chItems_len] at hi
        subst hki
        obtain ⟨sn, n1, n2, n3⟩ := next_ok ok so hi
        have arn0 := at_rng sn (show (0 : Int) ≤ ((hr : Int) + 1) by omega) (by omega)
        have ev2 : vals.getD (nextC d base hr (planTo d base (hr)).e (planTo d base (hr)).m ((lowC d (planTo d base (hr)).e) + ((k : Nat) : Int))).toNat default = (valH d base (hr + 1) ((planTo d base (hr)).e + ((lowC d (planTo d base (hr)).e) + ((k : Nat) : Int))) (max (planTo d base (hr)).m ((base.getD hr default) + ((lowC d (planTo d base (hr)).e) + ((k : Nat) : Int))))) := tk.val (hr + 1) _ _ (by omega) sn
        have arn : 0 ≤ nextC d base hr (planTo d base (hr)).e (planTo d base (hr)).m ((lowC d (planTo d base (hr)).e) + ((k : Nat) : Int)) ∧ nextC d base hr (planTo d base (hr)).e (planTo d base (hr)).m ((lowC d (planTo d base (hr)).e) + ((k : Nat) : Int)) < sizeK d := arn0
        have vr := val_rng ok bo (show hr + 1 ≤ d.hours.length by omega) sn
        have pr := price_rng (h := (d.hours.getD hr default)) (ok.hour hr (by omega)) (n := (base.getD hr default) + ((lowC d (planTo d base (hr)).e) + ((k : Nat) : Int))) (by omega) (by omega)
        rw [chItems_at hi]
        dsimp only [pars, chItem]
        unfold never at vr
        subst hst
        refine XK.seq ?_
        refine XK.region rfl ?_
        refine XO.q (Q.assign rfl) ?_
        refine XO.done ?_
        refine XK.region rfl ?_
        refine XO.alloc fun b9 => ?_
        refine XO.st rfl rfl rfl ?_
        refine XO.done ?_
        refine XK.beginRound ?_
        refine XK.block ?_
        refine XK.seq ?_
        refine XK.drawn [0, 1, 2, 3, 4, 5, 6, 7, 8] [b1, b9] [] (.q 0 (.q 1 (.q 2 (.q 3 (.q 4 (.q 5 (.q 6 (.q 7 (.q 8 .done))))))))) Tryz.mixed rfl (by kernel_rfl) ?_
        refine XT.q rfl rfl (Q.ld rfl rfl) ?_
        refine XT.q rfl rfl (Q.nilCheck rfl) ?_
        refine XT.q rfl rfl (Q.fieldAddr rfl) ?_
        refine XT.q rfl rfl (Q.ld rfl rfl) ?_
        refine XT.q rfl rfl (Q.ixA rfl rfl (by omega) (by omega)) ?_
        refine XT.q rfl rfl (Q.ld rfl rfl) ?_
        refine XT.ix rfl rfl rfl rfl (by omega) (by omega) fun i50 => ?_
        refine XT.q rfl rfl (Q.ldE rfl (by first | assumption | omega) rfl) ?_
        rw [ev2]
        refine XT.q rfl rfl (Q.assign rfl) ?_
        refine XT.done ?_
        refine XK.seq ?_
        refine XK.region rfl ?_
        refine XO.q (Q.move rfl) ?_
        refine XO.q (Q.lss rfl rfl) ?_
        refine XO.q (Q.move rfl) ?_
        refine XO.q (Quiet.guardT rfl rfl fun g55 p55 => Q.ixA rfl rfl (by omega) (by omega)) ?_
        refine XO.q (Quiet.guardT rfl rfl fun g56 p56 => Q.ld (lzv g56 rfl) rfl) ?_
        refine XO.q (Quiet.guardT rfl rfl fun g57 p57 => Q.move rfl) ?_
        refine XO.q (Quiet.guardT rfl rfl fun g58 p58 => Q.add (lzv g58 rfl) (lzv g58 rfl) ⟨by omega, by omega⟩) ?_
        refine XO.q (Quiet.guardT rfl rfl fun g59 p59 => Q.ld rfl rfl) ?_
        refine XO.q (Quiet.guardT rfl rfl fun g60 p60 => Q.eql (lzv g60 rfl) (lzv g60 rfl)) ?_
        refine XO.q (Q.and rfl (fun hp => lzv hp rfl)) ?_
        refine XO.done ?_
        refine XK.if rfl (fun c1 => ?_) (fun c1 => ?_)
        · have _t1 := True.intro
          refine XK.seq ?_
          refine XK.region rfl ?_
          refine XO.q (Q.ld rfl rfl) ?_
          refine XO.q (Q.move rfl) ?_
          refine XO.lit [_] [_] [((lowC d (planTo d base (hr)).e) + ((k : Nat) : Int))] encI (by rfl) (by rfl) rfl (by rfl) (by exact .c 0 1 rfl rfl rfl (.n _)) (fun _ => rfl) (by rfl) rfl (by infer_instance) rfl fun v64 h64 O64 => ?_
          refine XO.append rfl rfl rfl rfl (by simp only [List.length_cons, List.length_nil]; omega) fun v65 h65 O65 => ?_
          refine XO.st rfl rfl rfl ?_
          refine XO.done ?_
          refine XK.seq ?_
          refine XK.drawn [0, 1, 2, 3, 4, 5, 6, 7, 8, 9, 10] [b1, b5, b6] [] (.q 0 (.q 1 (.q 2 (.q 3 (.q 4 (.q 5 (.q 6 (.q 7 (.q 8 (.q 9 (.q 10 (.br 11 false .done .stop)))))))))))) Tryz.mixed rfl (by kernel_rfl) ?_
          refine XT.q rfl rfl (Q.ld rfl rfl) ?_
          refine XT.q rfl rfl (Q.ld rfl rfl) ?_
          refine XT.q rfl rfl (Q.nilCheck rfl) ?_
          refine XT.q rfl rfl (Q.fieldAddr rfl) ?_
          refine XT.q rfl rfl (Q.ld rfl rfl) ?_
          refine XT.q rfl rfl (Q.ld rfl rfl) ?_
          refine XT.ix rfl rfl rfl rfl (by omega) (by omega) fun i72 => ?_
          refine XT.q rfl rfl (Q.ldE rfl (by first | assumption | omega) rfl) ?_
          refine XT.q rfl rfl (Q.move rfl) ?_
          refine XT.q rfl rfl (Q.add rfl rfl ⟨by omega, by omega⟩) ?_
          refine XT.q rfl rfl (Q.max rfl rfl) ?_
          refine XT.st rfl rfl rfl rfl rfl ⟨inferInstance, ?_⟩ XT.stop
          refine XT.done ?_
          refine XK.seq ?_
          refine XK.region rfl ?_
          refine XO.q (Q.ld rfl rfl) ?_
          refine XO.q (Q.move rfl) ?_
          refine XO.q (Q.add rfl rfl ⟨by omega, by omega⟩) ?_
          refine XO.st rfl rfl rfl ?_
          refine XO.done ?_
          have hit : hitC (d.hours.getD hr default) (base.getD hr default) (planTo d base (hr)).e (planTo d base (hr)).m (valH d base (hr + 1)) (valH d base hr (planTo d base (hr)).e (planTo d base (hr)).m) ((lowC d (planTo d base (hr)).e) + ((k : Nat) : Int)) = true := by unfold hitC never; rw [Bool.and_eq_true, decide_eq_true_eq, decide_eq_true_eq]; exact c1
          have pe : (planTo d base (hr + 1)) = ⟨(planTo d base (hr)).l ++ [((lowC d (planTo d base (hr)).e) + ((k : Nat) : Int))], (planTo d base (hr)).e + ((lowC d (planTo d base (hr)).e) + ((k : Nat) : Int)), max (planTo d base (hr)).m ((base.getD hr default) + ((lowC d (planTo d base (hr)).e) + ((k : Nat) : Int)))⟩ := by rw [planTo, first_one hfc hit _ hi]
          exact XK.leave (j := some (.exit 2)) [blk b3 [v65] 32, blk b4 [.int .i64 ((planTo d base (hr)).e + ((lowC d (planTo d base (hr)).e) + ((k : Nat) : Int)))] 3, blk b5 [.int .i64 (max (planTo d base (hr)).m ((base.getD hr default) + ((lowC d (planTo d base (hr)).e) + ((k : Nat) : Int))))] 3, h65] ⟨rfl, rfl⟩ ⟨(k, v65, h65, ⟨(planTo d base (hr)).l ++ [((lowC d (planTo d base (hr)).e) + ((k : Nat) : Int))], (planTo d base (hr)).e + ((lowC d (planTo d base (hr)).e) + ((k : Nat) : Int)), max (planTo d base (hr)).m ((base.getD hr default) + ((lowC d (planTo d base (hr)).e) + ((k : Nat) : Int)))⟩), ⟨rfl, pe.symm, O65, sn, by dsimp only; rw [List.length_append]; simp only [List.length_cons, List.length_nil]; omega⟩, rfl⟩
        · have _t1 := True.intro
          refine XK.skip ?_
          refine XK.inBlock ?_
          have hit : ¬ hitC (d.hours.getD hr default) (base.getD hr default) (planTo d base (hr)).e (planTo d base (hr)).m (valH d base (hr + 1)) (valH d base hr (planTo d base (hr)).e (planTo d base (hr)).m) ((lowC d (planTo d base (hr)).e) + ((k : Nat) : Int)) = true := by unfold hitC never; rw [Bool.and_eq_true, decide_eq_true_eq, decide_eq_true_eq]; exact c1
          exact XK.leave (j := none) [blk b3 [vo2] 32, blk b4 [.int .i64 (planTo d base (hr)).e] 3, blk b5 [.int .i64 (planTo d base (hr)).m] 3, ko2] trivial ⟨(k + 1, vo2, ko2, (planTo d base (hr))), ⟨rfl, rfl, O2, first_none hfc hit⟩, rfl⟩
      · rintro ⟨k, vo2, ko2, st⟩ ⟨hki, hst, O2, hfc⟩
        dsimp only [List.cons_append, List.nil_append]
        rw [chItems_len] at hki
        subst hki
        have pe : (planTo d base (hr + 1)) = st := by rw [planTo, hfc, hst]
        rw [← pe] at O2 ⊢
        have S2 : StateOk d (planTo d base (hr + 1)).e (planTo d base (hr + 1)).m := by rw [pe, hst]; exact so
        have L2 : (planTo d base (hr + 1)).l.length ≤ hr + 1 := by rw [pe, hst]; omega
        refine XK.inBlock ?_
        refine XK.inBlock ?_
        refine XK.region rfl ?_
        refine XO.q (Q.add rfl rfl ⟨by omega, by omega⟩) ?_
        refine XO.q (Q.move rfl) ?_
        refine XO.done ?_
        exact ih0 (hr + 1, vo2, ko2) _ _ ⟨by dsimp only; omega, O2, S2, L2⟩ (by first | omega | (dsimp only; omega)) (.c rfl (.base 85 rfl rfl)) inferInstance
      · rintro _ ⟨k, vo2, ko2, st⟩ ⟨rfl, hst, O2, S2, L2⟩
        dsimp only [List.cons_append, List.nil_append]
        subst hst
        refine XK.exit rfl ?_
        refine XK.inBlock ?_
        refine XK.region rfl ?_
        refine XO.q (Q.add rfl rfl ⟨by omega, by omega⟩) ?_
        refine XO.q (Q.move rfl) ?_
        refine XO.done ?_
        exact ih0 (hr + 1, vo2, ko2) _ _ ⟨by dsimp only; omega, O2, S2, L2⟩ (by first | omega | (dsimp only; omega)) (.c rfl (.base 85 rfl rfl)) inferInstance
    · intro mtr6
      dsimp only [List.cons_append, List.nil_append] at mtr6
      refine XK.drawn [0, 1, 2, 3, 4, 5, 6, 7, 9, 10] [b1, b4, b5, b6] [] (.q 0 (.q 1 (.q 2 (.q 3 (.q 4 (.q 5 (.q 6 (.q 7 (.br 8 true (.q 9 (.q 10 (.br 11 true (.br 12 false .done .stop) .stop))) (.br 11 true (.br 8 true (.q 9 (.q 10 (.br 12 false .done .stop))) .stop) .stop)))))))))) Tryz.mixed rfl (by kernel_rfl) ?_
      refine XT.q rfl rfl (Q.ld rfl rfl) ?_
      refine XT.q rfl rfl (Q.nilCheck rfl) ?_
      refine XT.q rfl rfl (Q.fieldAddr rfl) ?_
      refine XT.q rfl rfl (Q.ld rfl rfl) ?_
      refine XT.q rfl rfl (Q.ld rfl rfl) ?_
      refine XT.q rfl rfl (Q.ld rfl rfl) ?_
      refine XT.q rfl rfl (Q.ld rfl rfl) ?_
      refine XT.q rfl rfl (Q.ld rfl rfl) ?_
      refine XT.call rfl rfl Tryz.call60 rfl rfl rfl (at_spec d vh vj vb vv ok b (hr : Int) (planTo d base (hr)).e (planTo d base (hr)).m (by omega) (by omega) (by omega)) (fun v34 s34 R34 => ?_) ?_
      · skip
        obtain ⟨rfl, rfl⟩ := R34
        dsimp only [List.cons_append, List.nil_append]
        refine ⟨inferInstance, ?_⟩
        refine XT.ix rfl rfl rfl rfl (by omega) (by omega) fun i35 => ?_
        refine XT.q rfl rfl (Q.ldE rfl (by first | assumption | omega) rfl) ?_
        rw [ev]
        refine XT.alloc rfl rfl (fun b7 => ⟨inferInstance, ?_⟩) XT.stop
        refine XT.st rfl rfl rfl rfl rfl ⟨inferInstance, ?_⟩ XT.stop
        refine XT.done ?_
        exact mtr6 (b7) _ _ trivial (.c rfl (.base 12 rfl rfl)) inferInstance
      · skip
        refine XT.alloc rfl rfl (fun b7 => ⟨inferInstance, ?_⟩) XT.stop
        refine XT.call rfl rfl Tryz.call60 rfl rfl rfl (at_spec d vh vj vb vv ok b (hr : Int) (planTo d base (hr)).e (planTo d base (hr)).m (by omega) (by omega) (by omega)) (fun v34 s34 R34 => ?_) XT.stop
        obtain ⟨rfl, rfl⟩ := R34
        dsimp only [List.cons_append, List.nil_append]
        refine ⟨inferInstance, ?_⟩
        refine XT.ix rfl rfl rfl rfl (by omega) (by omega) fun i35 => ?_
        refine XT.q rfl rfl (Q.ldE rfl (by first | assumption | omega) rfl) ?_
        rw [ev]
        refine XT.st rfl rfl rfl rfl rfl ⟨inferInstance, ?_⟩ XT.stop
        refine XT.done ?_
        exact mtr6 (b7) _ _ trivial (.c rfl (.base 12 rfl rfl)) inferInstance
  · have _t0 := True.intro
    have hin : hr = d.hours.length := by omega
    subst hin
    refine XK.exit rfl ?_
    refine XK.seq ?_
    refine XK.region rfl ?_
    refine XO.q (Q.ld rfl rfl) ?_
    refine XO.q (Q.assign rfl) ?_
    refine XO.done ?_
    refine XK.rt [ko] Tryz.func61 Tryz.results61 (.t rfl .n) ?_
    exact ⟨ko, rfl, OO, so⟩
end Go.X

set_option linter.unusedSimpArgs false
set_option linter.unusedVariables false
set_option maxRecDepth 20000
namespace Go.X
open Go.Proofs
structure TabsOk (d : KDay) (tabs : List (List Int)) : Prop where
  len : tabs.length = (startsL d).length
  tab : ∀ j, j < (startsL d).length → TabOk d (needsL d ((startsL d).getD j default)) (tabs.getD j default)
theorem tabs_snoc {d : KDay} {tabs : List (List Int)} {x : List Int} {i : Nat} (hl : tabs.length = i) (h : ∀ j, j < i → TabOk d (needsL d ((startsL d).getD j default)) (tabs.getD j default)) (hx : TabOk d (needsL d ((startsL d).getD i default)) x) :
    ∀ j, j < i + 1 → TabOk d (needsL d ((startsL d).getD j default)) ((tabs ++ [x]).getD j default) := fun j hj => by
  rw [snocK_at, hl]
  by_cases h2 : j < i
  · rw [if_pos h2]; exact h j h2
  · obtain rfl : j = i := by omega
    rw [if_neg h2, if_pos rfl]; exact hx
theorem getD_memK {α : Type} [Inhabited α] {xs : List α} {i : Nat} (h : i < xs.length) : xs.getD i default ∈ xs := getD_mem h
set_option maxHeartbeats 2000000 in
theorem Best_spec (d : KDay) (vh vj : Value) (hh hj : PHeap) [ih : Arr vh encHour 6 hh d.hours] [ij : Arr vj encJob 4 hj d.jobs] : Spec Tryz.prog 21 #[.agg #[vh, .int .i64 d.store.energy, .int .i64 d.store.full, .int .i64 d.store.power, .int .i64 d.store.fin, vj, .int .i64 d.most, .int .i64 d.peak]] [] [hh, hj] (fun v hs => ∃ vs vc vp K kc kp pus KP tabs, v = .tuple #[.agg #[vs, vc, .int .i64 (bestG d).1.cost], vp, .int .i64 (bestG d).2] ∧ hs = [K, kc, kp, KP] ∧ One vs ∧ Arr vs encI 1 K (bestG d).1.starts ∧ OArr vc encI 1 3 kc (bestG d).1.charge ∧ OArr vp encV 1 32 kp pus ∧ RowsK pus KP tabs ∧ ((bestG d).2 = 0 → TabsOk d tabs) ∧ ((bestG d).2 ≠ 0 → tabs = [])) := by
  have lh := ih.le
  have nI : OArr (.slice none 0 0) encI 1 3 emp ([] : List Int) := OArr.nil (fun _ => rfl)
  have nV : OArr (.slice none 0 0) encV 1 32 emp ([] : List Value) := OArr.nil (fun _ => rfl)
  refine Spec.intro (fn := Tryz.f21) (N := 63) Tryz.func21 rfl Tryz.ntmps21 rfl fun B => ?_
  refine XK.seq ?_
  refine XK.region rfl ?_
  refine XO.box rfl fun b1 => ?_
  refine XO.alloc fun b2 => ?_
  refine XO.q (Q.assign rfl) ?_
  refine XO.q (Q.assign rfl) ?_
  refine XO.done ?_
  refine XK.seq ?_
  refine XK.seq ?_
  refine XK.region rfl ?_
  refine XO.q (Q.ldA [_, _, _, _, _, _, _, _] rfl rfl rfl) ?_
  refine XO.call Tryz.call10 rfl rfl rfl (Check_spec d vh vj hh hj) fun v13 s13 R13 => ?_
  obtain ⟨rfl, rfl⟩ := R13
  dsimp only [List.cons_append, List.nil_append]
  refine XO.q (Q.assign rfl) ?_
  refine XO.done ?_
  refine XK.seq ?_
  refine XK.region rfl ?_
  refine XO.q (Q.move rfl) ?_
  refine XO.q (Q.neq rfl rfl) ?_
  refine XO.done ?_
  refine XK.if rfl (fun c0 => ?_) (fun c0 => ?_)
  · have _t0 := True.intro
    refine XK.seq ?_
    refine XK.region rfl ?_
    refine XO.q (Q.build [_, _, _] (.n _)) ?_
    refine XO.q (Q.move rfl) ?_
    refine XO.st rfl rfl rfl ?_
    refine XO.q (Q.assign rfl) ?_
    refine XO.q (Q.assign rfl) ?_
    refine XO.done ?_
    refine XK.rt [emp, emp, emp, emp] Tryz.func21 Tryz.results21 (.cell [_, _, _] rfl rfl rfl (.t rfl (.t rfl .n))) ?_
    have e : bestG d = (⟨[], [], 0⟩, kcheck d) := by rw [bestG, if_pos c0]
    rw [e]
    exact ⟨.slice none 0 0, .slice none 0 0, .slice none 0 0, emp, emp, emp, [], emp, [], rfl, rfl, inferInstance, OArr.arr (s := nI), nI, nV, RowsK.nil, fun h => absurd h (c0), fun _ => rfl⟩
  · have _t0 := True.intro
    have e0 := Decidable.of_not_not c0
    have ok := kcheck_iff.1 e0
    have s5 := ok.store.e0
    have s6 := ok.store.e1
    have f1 := ok.store.f1
    have q0 := ok.m0
    have sr0 : StateOk d d.store.energy 0 := ⟨s5, s6, Int.le_refl _, q0⟩
    have pr := prod_rng ok.h2 ok.j2 ok.job d.jobs.length (Nat.le_refl _)
    have few := ok.few
    have sl := starts_len ok.job d.jobs.length (Nat.le_refl _)
    have sll : (startsL d).length ≤ 8 := by unfold startsL; omega
    refine XK.skip ?_
    refine XK.seq ?_
    refine XK.region rfl ?_
    refine XO.q (Q.build [_, _, _] (.c 2 1 rfl rfl rfl (.n _))) ?_
    refine XO.alloc fun b6 => ?_
    refine XO.st rfl rfl rfl ?_
    refine XO.done ?_
    refine XK.seq ?_
    refine XK.region rfl ?_
    refine XO.q (Q.assign rfl) ?_
    refine XO.done ?_
    refine XK.seq ?_
    refine XK.seq ?_
    refine XK.region rfl ?_
    refine XO.q (Q.ldA [_, _, _, _, _, _, _, _] rfl rfl rfl) ?_
    refine XO.call Tryz.call48 rfl rfl rfl (starts_spec d vh vj hh hj ok) fun v20 s20 R20 => ?_
    obtain ⟨ho, us, K, rfl, OO, RO⟩ := R20
    dsimp only [List.cons_append, List.nil_append]
    refine XO.len rfl fun l21 => ?_
    refine XO.q (Q.move rfl) ?_
    refine XO.done ?_
    refine XK.block ?_
    refine XK.while (X := Nat × Value × PHeap × List Value × PHeap × Value × Value × PHeap × List (List Int)) [7, 9, 10, 11, 22, 23, 24, 25, 26, 27, 28, 29, 30, 31, 32, 33, 34, 35, 36, 37, 38, 39, 40, 41, 42, 43, 44, 45, 46, 47, 48, 49, 50, 51, 52, 53, 54, 55, 56] (fun ⟨i, vpr, kpr, pus, KP, vs1, vc1, kc1, tabs⟩ => [(7, some (vpr)), (22, some (.int .i64 (i : Nat)))]) (fun ⟨i, vpr, kpr, pus, KP, vs1, vc1, kc1, tabs⟩ => [blk b6 [vs1, vc1, .int .i64 (bestTo d (i)).cost] 34, kpr, KP, kc1]) (fun ⟨i, vpr, kpr, pus, KP, vs1, vc1, kc1, tabs⟩ => i ≤ us.length ∧ OArr vpr encV 1 32 kpr pus ∧ RowsK pus KP tabs ∧ tabs.length = i ∧ (∀ j, j < i → TabOk d (needsL d ((startsL d).getD j default)) (tabs.getD j default)) ∧ One vs1 ∧ Arr vs1 encI 1 K (bestTo d (i)).starts ∧ OArr vc1 encI 1 3 kc1 (bestTo d (i)).charge) (fun ⟨i, vpr, kpr, pus, KP, vs1, vc1, kc1, tabs⟩ => us.length - i) (0, .slice none 0 0, emp, [], emp, .slice none 0 0, .slice none 0 0, emp, []) [blk b6 [.slice none 0 0, .slice none 0 0, .int .i64 1000000000000000] 34, emp, emp, emp] rfl ⟨by omega, nV, RowsK.nil, rfl, fun j hj => by omega, inferInstance, Arr.nil (fun _ => rfl), nI⟩ (.c rfl (.c rfl (.base 0 rfl rfl))) ?_
    rintro ⟨i, vpr, kpr, pus, KP, vs1, vc1, kc1, tabs⟩ ⟨hi, OPR, RP, tl, ht, ow, AS, OC⟩ ih0
    dsimp only [List.cons_append, List.nil_append] at ih0 ⊢
    have pl := RP.1
    refine XK.seq ?_
    refine XK.region rfl ?_
    refine XO.q (Q.lss rfl rfl) ?_
    refine XO.done ?_
    refine XK.seq ?_
    refine XK.if rfl (fun c1 => ?_) (fun c1 => ?_)
    · have _t1 := True.intro
      have rl := RO.1
      have ar := RO.2 i (by omega)
      refine XK.skip ?_
      refine XK.seq ?_
      refine XK.block ?_
      refine XK.seq ?_
      refine XK.region rfl ?_
      refine XO.ix rfl rfl (by omega) (by omega) fun i24 => ?_
      refine XO.q (Q.ldE rfl (by first | assumption | omega) rfl) ?_
      refine XO.q (Q.assign rfl) ?_
      refine XO.done ?_
      refine XK.seq ?_
      refine XK.region rfl ?_
      refine XO.q (Q.ldA [_, _, _, _, _, _, _, _] rfl rfl rfl) ?_
      refine XO.q (Q.move rfl) ?_
      refine XO.call Tryz.call59 rfl rfl rfl (tables_spec d vh vj hh hj ((startsL d).getD i default) (us.getD i default) K ok (starts_ok (getD_memK (by omega)))) fun v28 s28 R28 => ?_
      obtain ⟨b, vb, vv, hb, hv, vals, rfl, rfl, OB, OV, TO⟩ := R28
      dsimp only [List.cons_append, List.nil_append]
      refine XO.q (Q.assign rfl) ?_
      refine XO.done ?_
      refine XK.seq ?_
      refine XK.region rfl ?_
      refine XO.q (Q.move rfl) ?_
      refine XO.q (Q.move rfl) ?_
      refine XO.q (Q.nilCheck rfl) ?_
      refine XO.q (Q.fieldAddr rfl) ?_
      refine XO.q (Q.ld rfl rfl) ?_
      refine XO.lit [_] [_] [vv] encV (by rfl) (by rfl) rfl (by rfl) (by exact .c 0 1 rfl rfl rfl (.n _)) (fun _ => rfl) (by rfl) rfl (by infer_instance) rfl fun v34 h34 O34 => ?_
      refine XO.append rfl rfl rfl rfl (by simp only [List.length_cons, List.length_nil]; omega) fun v35 h35 O35 => ?_
      refine XO.q (Q.assign rfl) ?_
      refine XO.done ?_
      refine XK.seq ?_
      refine XK.drawn [0, 1, 2, 3, 4, 5, 6, 7, 9, 10, 11] [b, b1] [hv] (.q 0 (.q 1 (.q 2 (.q 3 (.q 4 (.q 5 (.q 6 (.q 7 (.br 8 true (.q 9 (.q 10 (.q 11 .done))) .stop))))))))) Tryz.mixed rfl (by kernel_rfl) ?_
      refine XT.q rfl rfl (Q.move rfl) ?_
      refine XT.q rfl rfl (Q.nilCheck rfl) ?_
      refine XT.q rfl rfl (Q.fieldAddr rfl) ?_
      refine XT.q rfl rfl (Q.ld rfl rfl) ?_
      refine XT.q rfl rfl (Q.move rfl) ?_
      refine XT.q rfl rfl (Q.fieldAddr rfl) ?_
      refine XT.q rfl rfl (Q.fieldAddr rfl) ?_
      refine XT.q rfl rfl (Q.ld rfl rfl) ?_
      refine XT.call rfl rfl Tryz.call60 rfl rfl rfl (at_spec d vh vj vb vv ok b 0 d.store.energy 0 (by omega) (by omega) (by omega)) (fun v44 s44 R44 => ?_) XT.stop
      obtain ⟨rfl, rfl⟩ := R44
      dsimp only [List.cons_append, List.nil_append]
      refine ⟨inferInstance, ?_⟩
      have arn := at_rng sr0 (show (0 : Int) ≤ 0 by omega) (by omega)
      have vl := TO.len
      refine XT.ix rfl rfl rfl rfl (by omega) (by omega) fun i45 => ?_
      refine XT.q rfl rfl (Q.ldE rfl (by first | assumption | omega) rfl) ?_
      rw [show vals.getD (atK d 0 d.store.energy 0).toNat default = (valH d (needsL d ((startsL d).getD i default)) 0 d.store.energy 0) from TO.val 0 _ _ (Nat.zero_le _) sr0]
      refine XT.q rfl rfl (Q.assign rfl) ?_
      refine XT.done ?_
      refine XK.seq ?_
      refine XK.region rfl ?_
      refine XO.q (Q.move rfl) ?_
      refine XO.q (Q.fieldAddr rfl) ?_
      refine XO.q (Q.ld rfl rfl) ?_
      refine XO.q (Q.lss rfl rfl) ?_
      refine XO.done ?_
      refine XK.if rfl (fun c2 => ?_) (fun c2 => ?_)
      · have _t2 := True.intro
        refine XK.region rfl ?_
        refine XO.q (Q.move rfl) ?_
        refine XO.q (Q.move rfl) ?_
        refine XO.call Tryz.call61 rfl rfl rfl (plan_spec d vh vj hh hj vb vv hb hv (needsL d ((startsL d).getD i default)) vals ok (needs_base ok _) TO b) fun v53 s53 R53 => ?_
        obtain ⟨k53, rfl, O53, S53⟩ := R53
        dsimp only [List.cons_append, List.nil_append]
        refine XO.q (Q.move rfl) ?_
        refine XO.q (Q.build [_, _, _] (.c 0 1 rfl rfl rfl (.c 1 1 rfl rfl rfl (.c 2 1 rfl rfl rfl (.n _))))) ?_
        refine XO.st rfl rfl rfl ?_
        refine XO.done ?_
        refine XK.inBlock ?_
        refine XK.region rfl ?_
        refine XO.q (Q.add rfl rfl ⟨by omega, by omega⟩) ?_
        refine XO.q (Q.move rfl) ?_
        refine XO.done ?_
        refine XK.cat KP hv fun l1 l2 => ?_
        have be : (bestTo d (i + 1)) = ⟨((startsL d).getD i default), planL d (needsL d ((startsL d).getD i default)), (valH d (needsL d ((startsL d).getD i default)) 0 d.store.energy 0)⟩ := by rw [bestTo, if_pos c2]
        rw [show (valH d (needsL d ((startsL d).getD i default)) 0 d.store.energy 0) = (bestTo d (i + 1)).cost by rw [be]]
        exact ih0 (i + 1, v35, h35, pus ++ [vv], cat KP hv, us.getD i default, v53, k53, tabs ++ [vals]) _ _ ⟨by dsimp only; omega, O35, (RP.mono l1).snoc (Arr.le_heap (OArr.arr (s := OV)) l2), by rw [List.length_append, tl]; rfl, tabs_snoc tl ht TO, inferInstance, by dsimp only; rw [be]; exact ar, by dsimp only; rw [be]; exact O53⟩ (by first | omega | (dsimp only; omega)) (.c rfl (.c rfl (.base 80 rfl rfl))) inferInstance
      · have _t2 := True.intro
        refine XK.skip ?_
        refine XK.inBlock ?_
        refine XK.region rfl ?_
        refine XO.q (Q.add rfl rfl ⟨by omega, by omega⟩) ?_
        refine XO.q (Q.move rfl) ?_
        refine XO.done ?_
        refine XK.cat KP hv fun l1 l2 => ?_
        have be : (bestTo d (i + 1)) = (bestTo d (i)) := by rw [bestTo, if_neg c2]
        rw [show (bestTo d (i)).cost = (bestTo d (i + 1)).cost by rw [be]]
        exact ih0 (i + 1, v35, h35, pus ++ [vv], cat KP hv, vs1, vc1, kc1, tabs ++ [vals]) _ _ ⟨by dsimp only; omega, O35, (RP.mono l1).snoc (Arr.le_heap (OArr.arr (s := OV)) l2), by rw [List.length_append, tl]; rfl, tabs_snoc tl ht TO, ow, by dsimp only; rw [be]; exact AS, by dsimp only; rw [be]; exact OC⟩ (by first | omega | (dsimp only; omega)) (.c rfl (.c rfl (.base 75 rfl rfl))) inferInstance
    · have _t1 := True.intro
      have rl := RO.1
      have hin : i = (startsL d).length := by omega
      subst hin
      refine XK.exit rfl ?_
      refine XK.seq ?_
      refine XK.seq ?_
      refine XK.region rfl ?_
      refine XO.q (Q.fieldAddr rfl) ?_
      refine XO.q (Q.ld rfl rfl) ?_
      refine XO.q (Q.eql rfl rfl) ?_
      refine XO.done ?_
      refine XK.if rfl (fun c3 => ?_) (fun c3 => ?_)
      · have _t3 := True.intro
        refine XK.seq ?_
        refine XK.region rfl ?_
        refine XO.q (Q.build [_, _, _] (.n _)) ?_
        refine XO.st rfl rfl rfl ?_
        refine XO.q (Q.assign rfl) ?_
        refine XO.q (Q.assign rfl) ?_
        refine XO.done ?_
        refine XK.rt [emp, emp, emp, emp] Tryz.func21 Tryz.results21 (.cell [_, _, _] rfl rfl rfl (.t rfl (.t rfl .n))) ?_
        have e : bestG d = (⟨[], [], 0⟩, 4) := by rw [bestG, if_neg c0, if_pos (show (bestP d).cost = never from c3)]
        rw [e]
        exact ⟨.slice none 0 0, .slice none 0 0, .slice none 0 0, emp, emp, emp, [], emp, [], rfl, rfl, inferInstance, OArr.arr (s := nI), nI, nV, RowsK.nil, fun h => absurd h (by decide), fun _ => rfl⟩
      · have _t3 := True.intro
        refine XK.skip ?_
        refine XK.seq ?_
        refine XK.region rfl ?_
        refine XO.q (Q.ldA [_, _, _] rfl rfl rfl) ?_
        refine XO.q (Q.move rfl) ?_
        refine XO.st rfl rfl rfl ?_
        refine XO.q (Q.assign rfl) ?_
        refine XO.q (Q.assign rfl) ?_
        refine XO.done ?_
        refine XK.rt [K, kc1, kpr, KP] Tryz.func21 Tryz.results21 (.cell [_, _, _] rfl rfl rfl (.t rfl (.t rfl .n))) ?_
        have e : bestG d = (bestP d, 0) := by rw [bestG, if_neg c0, if_neg (show ¬ (bestP d).cost = never from c3)]
        rw [e]
        exact ⟨vs1, vc1, vpr, K, kc1, kpr, pus, KP, tabs, rfl, rfl, ow, AS, OC, OPR, RP, fun _ => ⟨tl, ht⟩, fun h => absurd rfl h⟩
end Go.X

/- The rows of a ledger: their ranges. -/
set_option linter.unusedVariables false
namespace Go.X
structure RowSmall (m : Int) (r : KRow) : Prop where
  a : -m ≤ r.bought ∧ r.bought ≤ m
  b : -m ≤ r.sold ∧ r.sold ≤ m
  c : -m ≤ r.made ∧ r.made ≤ m
  d : -m ≤ r.used ∧ r.used ≤ m
  e : -m ≤ r.stored ∧ r.stored ≤ m
  f : -m ≤ r.carbon ∧ r.carbon ≤ m
  g : -m ≤ r.water ∧ r.water ≤ m
theorem sumRow_rng {f : Nat → KRow} {n : Nat} (h : ∀ i, i < n → RowSmall 1000000 (f i)) : ∀ i, i ≤ n → RowSmall (1000000 * i) (sumRow f i)
  | 0, _ => by constructor <;> simp [sumRow]
  | i + 1, hi => by
    have r := sumRow_rng h i (by omega)
    have s := h i (by omega)
    have := r.a; have := r.b; have := r.c; have := r.d; have := r.e; have := r.f; have := r.g
    have := s.a; have := s.b; have := s.c; have := s.d; have := s.e; have := s.f; have := s.g
    constructor <;> simp only [sumRow, addRow] <;> omega
theorem sumRow_ext {f g : Nat → KRow} : ∀ n, (∀ i, i < n → f i = g i) → sumRow f n = sumRow g n
  | 0, _ => rfl
  | n + 1, h => by rw [sumRow, sumRow, sumRow_ext n fun i hi => h i (by omega), h n (by omega)]
theorem mul_rng {a b m n : Int} (a0 : 0 ≤ a) (a1 : a ≤ m) (b0 : 0 ≤ b) (b1 : b ≤ n) (n0 : 0 ≤ n) : 0 ≤ a * b ∧ a * b ≤ m * n := ⟨Int.mul_nonneg a0 b0, Int.le_trans (Int.mul_le_mul_of_nonneg_right a1 b0) (Int.mul_le_mul_of_nonneg_left b1 (Int.le_trans a0 a1))⟩
theorem row_facts {d : KDay} {p : KPlan} (h : (formG d p).2 = 0) {i : Nat} (hi : i < d.hours.length) :
    let n := (formG d p).1.getD i default + p.charge.getD i default
    (-50 ≤ n ∧ n ≤ 40) ∧ (0 ≤ (usedL d p.starts).getD i default ∧ (usedL d p.starts).getD i default ≤ 80) ∧ (-10 ≤ p.charge.getD i default ∧ p.charge.getD i default ≤ 10) ∧
    (0 ≤ max n 0 * (d.hours.getD i default).carbon ∧ max n 0 * (d.hours.getD i default).carbon ≤ 1000000) ∧ (0 ≤ (usedL d p.starts).getD i default * (d.hours.getD i default).water ∧ (usedL d p.starts).getD i default * (d.hours.getD i default).water ≤ 1000000) := by
  obtain ⟨ok, so, _, hl, ha, _, e⟩ := form_fine h
  have nr := needs_rng ok p.starts hi
  have ur := used_rng ok p.starts hi d.jobs.length (Nat.le_refl _)
  have ue : (usedL d p.starts).getD i default = usedAt d p.starts i d.jobs.length := by rw [usedL, range_at hi]
  have oi := okAt_iff.1 (allTo_at ha (by omega : i < p.charge.length))
  have s3 := ok.store.p0; have s4 := ok.store.p1
  have j2 := ok.j2
  have m1 := ok.m1
  have hk := ok.hour i hi
  intro n
  have hn : n = (needsL d p.starts).getD i default + p.charge.getD i default := by show (formG d p).1.getD i default + _ = _; rw [e]
  have c1 := mul_rng (a := max n 0) (b := (d.hours.getD i default).carbon) (m := 40) (n := 10000) (by omega) (by omega) hk.c0 hk.c1 (by omega)
  have w1 := mul_rng (a := (usedL d p.starts).getD i default) (b := (d.hours.getD i default).water) (m := 80) (n := 10000) (by omega) (by omega) hk.w0 hk.w1 (by omega)
  exact ⟨by omega, by omega, by omega, by omega, by omega⟩
theorem row_small {d : KDay} {p : KPlan} (h : (formG d p).2 = 0) {i : Nat} (hi : i < d.hours.length) : RowSmall 1000000 (rowAt d (formG d p).1 (usedL d p.starts) p.charge i) := by
  obtain ⟨a, b, c, e, f⟩ := row_facts h hi
  have hk := (form_fine h).1.hour i hi
  have := hk.u0; have := hk.u1
  (try dsimp only at a e)
  constructor <;> simp only [rowAt] <;> omega
theorem range_getK {α : Type} [Inhabited α] {f : Nat → α} {n i : Nat} (h : i < n) : ((List.range n).map f).getD i default = f i := by
  rw [List.getD_eq_getElem?_getD, List.getElem?_map, List.getElem?_range h]; rfl
end Go.X

set_option linter.unusedSimpArgs false
set_option linter.unusedVariables false
set_option maxRecDepth 20000
namespace Go.X
open Go.Proofs
theorem rows_len {f : Nat → KRow} {n : Nat} : ((List.range n).map f).length = n := by rw [List.length_map, List.length_range]
theorem add_spec (v : Value) (h : PHeap) (rows : List KRow) [s : Arr v encRow 7 h rows] (few : rows.length ≤ 30) (sm : ∀ i, i < rows.length → RowSmall 1000000 (rows.getD i default)) : Spec Tryz.prog 57 #[v] [] [h] (fun v hs => v = .agg #[.int .i64 (sumRow (fun i => rows.getD i default) rows.length).bought, .int .i64 (sumRow (fun i => rows.getD i default) rows.length).sold, .int .i64 (sumRow (fun i => rows.getD i default) rows.length).made, .int .i64 (sumRow (fun i => rows.getD i default) rows.length).used, .int .i64 (sumRow (fun i => rows.getD i default) rows.length).stored, .int .i64 (sumRow (fun i => rows.getD i default) rows.length).carbon, .int .i64 (sumRow (fun i => rows.getD i default) rows.length).water] ∧ hs = []) := by
  have le := s.le
  have sr := sumRow_rng (f := fun i => rows.getD i default) sm
  refine Spec.intro (fn := Tryz.f57) (N := 56) Tryz.func57 rfl Tryz.ntmps57 rfl fun B => ?_
  refine XK.seq ?_
  refine XK.region rfl ?_
  refine XO.alloc fun b2 => ?_
  refine XO.done ?_
  refine XK.seq ?_
  refine XK.region rfl ?_
  refine XO.alloc fun b3 => ?_
  refine XO.done ?_
  refine XK.seq ?_
  refine XK.seq ?_
  refine XK.region rfl ?_
  refine XO.q (Q.move rfl) ?_
  refine XO.len rfl fun l7 => ?_
  refine XO.q (Q.move rfl) ?_
  refine XO.done ?_
  refine XK.block ?_
  refine XK.while (X := Nat) [5, 8, 9, 10, 11, 12, 13, 14, 15, 16, 17, 18, 19, 20, 21, 22, 23, 24, 25, 26, 27, 28, 29, 30, 31, 32, 33, 34, 35, 36, 37, 38, 39, 40, 41, 42, 43, 44, 45, 46, 47, 48, 49, 50, 51, 52, 53, 54] (fun i => [(8, some (.int .i64 (i : Nat)))]) (fun i => [blk b3 [.int .i64 (sumRow (fun i => rows.getD i default) i).bought, .int .i64 (sumRow (fun i => rows.getD i default) i).sold, .int .i64 (sumRow (fun i => rows.getD i default) i).made, .int .i64 (sumRow (fun i => rows.getD i default) i).used, .int .i64 (sumRow (fun i => rows.getD i default) i).stored, .int .i64 (sumRow (fun i => rows.getD i default) i).carbon, .int .i64 (sumRow (fun i => rows.getD i default) i).water] 68]) (fun i => i ≤ rows.length) (fun i => rows.length - i) (0) [blk b3 [.int .i64 (KRow.mk 0 0 0 0 0 0 0).bought, .int .i64 (KRow.mk 0 0 0 0 0 0 0).sold, .int .i64 (KRow.mk 0 0 0 0 0 0 0).made, .int .i64 (KRow.mk 0 0 0 0 0 0 0).used, .int .i64 (KRow.mk 0 0 0 0 0 0 0).stored, .int .i64 (KRow.mk 0 0 0 0 0 0 0).carbon, .int .i64 (KRow.mk 0 0 0 0 0 0 0).water] 68] rfl (by omega) (.c rfl (.base 0 rfl rfl)) ?_
  rintro i hi ih0
  dsimp only [List.cons_append, List.nil_append] at ih0 ⊢
  refine XK.seq ?_
  refine XK.region rfl ?_
  refine XO.q (Q.lss rfl rfl) ?_
  refine XO.done ?_
  refine XK.seq ?_
  refine XK.if rfl (fun c0 => ?_) (fun c0 => ?_)
  · have _t0 := True.intro
    have q := sr i (by omega)
    have r := sm i (by omega)
    have qa := q.a
    have qb := q.b
    have qc := q.c
    have qd := q.d
    have qe := q.e
    have qf := q.f
    have qg := q.g
    have ra := r.a
    have rb := r.b
    have rc := r.c
    have rd := r.d
    have re := r.e
    have rf := r.f
    have rg := r.g
    refine XK.skip ?_
    refine XK.seq ?_
    refine XK.block ?_
    refine XK.seq ?_
    refine XK.region rfl ?_
    refine XO.ix rfl rfl (by omega) (by omega) fun i10 => ?_
    refine XO.q (Q.ldEA [_, _, _, _, _, _, _] rfl (by first | assumption | omega) rfl rfl) ?_
    refine XO.alloc fun b5 => ?_
    refine XO.st rfl rfl rfl ?_
    refine XO.done ?_
    refine XK.seq ?_
    refine XK.region rfl ?_
    refine XO.q (Q.fieldAddr rfl) ?_
    refine XO.q (Q.ld rfl rfl) ?_
    refine XO.q (Q.fieldAddr rfl) ?_
    refine XO.q (Q.ld rfl rfl) ?_
    refine XO.q (Q.add rfl rfl ⟨by omega, by omega⟩) ?_
    refine XO.q (Q.fieldAddr rfl) ?_
    refine XO.st rfl rfl rfl ?_
    refine XO.done ?_
    refine XK.seq ?_
    refine XK.region rfl ?_
    refine XO.q (Q.fieldAddr rfl) ?_
    refine XO.q (Q.ld rfl rfl) ?_
    refine XO.q (Q.fieldAddr rfl) ?_
    refine XO.q (Q.ld rfl rfl) ?_
    refine XO.q (Q.add rfl rfl ⟨by omega, by omega⟩) ?_
    refine XO.q (Q.fieldAddr rfl) ?_
    refine XO.st rfl rfl rfl ?_
    refine XO.done ?_
    refine XK.seq ?_
    refine XK.region rfl ?_
    refine XO.q (Q.fieldAddr rfl) ?_
    refine XO.q (Q.ld rfl rfl) ?_
    refine XO.q (Q.fieldAddr rfl) ?_
    refine XO.q (Q.ld rfl rfl) ?_
    refine XO.q (Q.add rfl rfl ⟨by omega, by omega⟩) ?_
    refine XO.q (Q.fieldAddr rfl) ?_
    refine XO.st rfl rfl rfl ?_
    refine XO.done ?_
    refine XK.seq ?_
    refine XK.region rfl ?_
    refine XO.q (Q.fieldAddr rfl) ?_
    refine XO.q (Q.ld rfl rfl) ?_
    refine XO.q (Q.fieldAddr rfl) ?_
    refine XO.q (Q.ld rfl rfl) ?_
    refine XO.q (Q.add rfl rfl ⟨by omega, by omega⟩) ?_
    refine XO.q (Q.fieldAddr rfl) ?_
    refine XO.st rfl rfl rfl ?_
    refine XO.done ?_
    refine XK.seq ?_
    refine XK.region rfl ?_
    refine XO.q (Q.fieldAddr rfl) ?_
    refine XO.q (Q.ld rfl rfl) ?_
    refine XO.q (Q.fieldAddr rfl) ?_
    refine XO.q (Q.ld rfl rfl) ?_
    refine XO.q (Q.add rfl rfl ⟨by omega, by omega⟩) ?_
    refine XO.q (Q.fieldAddr rfl) ?_
    refine XO.st rfl rfl rfl ?_
    refine XO.done ?_
    refine XK.seq ?_
    refine XK.region rfl ?_
    refine XO.q (Q.fieldAddr rfl) ?_
    refine XO.q (Q.ld rfl rfl) ?_
    refine XO.q (Q.fieldAddr rfl) ?_
    refine XO.q (Q.ld rfl rfl) ?_
    refine XO.q (Q.add rfl rfl ⟨by omega, by omega⟩) ?_
    refine XO.q (Q.fieldAddr rfl) ?_
    refine XO.st rfl rfl rfl ?_
    refine XO.done ?_
    refine XK.region rfl ?_
    refine XO.q (Q.fieldAddr rfl) ?_
    refine XO.q (Q.ld rfl rfl) ?_
    refine XO.q (Q.fieldAddr rfl) ?_
    refine XO.q (Q.ld rfl rfl) ?_
    refine XO.q (Q.add rfl rfl ⟨by omega, by omega⟩) ?_
    refine XO.q (Q.fieldAddr rfl) ?_
    refine XO.st rfl rfl rfl ?_
    refine XO.done ?_
    refine XK.inBlock ?_
    refine XK.region rfl ?_
    refine XO.q (Q.add rfl rfl ⟨by omega, by omega⟩) ?_
    refine XO.q (Q.move rfl) ?_
    refine XO.done ?_
    rw [show (sumRow (fun i => rows.getD i default) i).bought + (rows.getD i default).bought = (sumRow (fun i => rows.getD i default) (i + 1)).bought from rfl]
    rw [show (sumRow (fun i => rows.getD i default) i).sold + (rows.getD i default).sold = (sumRow (fun i => rows.getD i default) (i + 1)).sold from rfl]
    rw [show (sumRow (fun i => rows.getD i default) i).made + (rows.getD i default).made = (sumRow (fun i => rows.getD i default) (i + 1)).made from rfl]
    rw [show (sumRow (fun i => rows.getD i default) i).used + (rows.getD i default).used = (sumRow (fun i => rows.getD i default) (i + 1)).used from rfl]
    rw [show (sumRow (fun i => rows.getD i default) i).stored + (rows.getD i default).stored = (sumRow (fun i => rows.getD i default) (i + 1)).stored from rfl]
    rw [show (sumRow (fun i => rows.getD i default) i).carbon + (rows.getD i default).carbon = (sumRow (fun i => rows.getD i default) (i + 1)).carbon from rfl]
    rw [show (sumRow (fun i => rows.getD i default) i).water + (rows.getD i default).water = (sumRow (fun i => rows.getD i default) (i + 1)).water from rfl]
    exact ih0 (i + 1) _ _ (by omega) (by first | omega | (dsimp only; omega)) (.c rfl (.base 97 rfl rfl)) inferInstance
  · have _t0 := True.intro
    have hin : i = rows.length := by omega
    subst hin
    refine XK.exit rfl ?_
    refine XK.seq ?_
    refine XK.region rfl ?_
    refine XO.q (Q.ldA [_, _, _, _, _, _, _] rfl rfl rfl) ?_
    refine XO.st rfl rfl rfl ?_
    refine XO.done ?_
    refine XK.rt [] Tryz.func57 Tryz.results57 (.cell [_, _, _, _, _, _, _] rfl rfl rfl (.n)) ?_
    exact ⟨rfl, rfl⟩
set_option maxHeartbeats 1000000 in
theorem Ledger_spec (d : KDay) (vh vj : Value) (hh hj : PHeap) [ih : Arr vh encHour 6 hh d.hours] [ij : Arr vj encJob 4 hj d.jobs] (p : KPlan) (vs vc : Value) (hs_ hc : PHeap) [js : Arr vs encI 1 hs_ p.starts] [jc : Arr vc encI 1 hc p.charge] : Spec Tryz.prog 17 #[.agg #[vh, .int .i64 d.store.energy, .int .i64 d.store.full, .int .i64 d.store.power, .int .i64 d.store.fin, vj, .int .i64 d.most, .int .i64 d.peak], .agg #[vs, vc, .int .i64 p.cost]] [] [hh, hj, hs_, hc] (fun v hs => ∃ vo ho, v = .tuple #[vo, .agg #[.int .i64 (ledgerG d p).2.1.bought, .int .i64 (ledgerG d p).2.1.sold, .int .i64 (ledgerG d p).2.1.made, .int .i64 (ledgerG d p).2.1.used, .int .i64 (ledgerG d p).2.1.stored, .int .i64 (ledgerG d p).2.1.carbon, .int .i64 (ledgerG d p).2.1.water], .int .i64 (ledgerG d p).2.2] ∧ hs = [ho] ∧ OArr vo encRow 7 68 ho (ledgerG d p).1) := by
  have lh := ih.le
  have lc := jc.le
  have nR : OArr (.slice none 0 0) encRow 7 68 emp ([] : List KRow) := OArr.nil (fun _ => rfl)
  refine Spec.intro (fn := Tryz.f17) (N := 84) Tryz.func17 rfl Tryz.ntmps17 rfl fun B => ?_
  refine XK.seq ?_
  refine XK.region rfl ?_
  refine XO.box rfl fun b2 => ?_
  refine XO.box rfl fun b3 => ?_
  refine XO.q (Q.assign rfl) ?_
  refine XO.alloc fun b5 => ?_
  refine XO.q (Q.assign rfl) ?_
  refine XO.done ?_
  refine XK.seq ?_
  refine XK.region rfl ?_
  refine XO.q (Q.ldA [_, _, _, _, _, _, _, _] rfl rfl rfl) ?_
  refine XO.q (Q.ldA [_, _, _] rfl rfl rfl) ?_
  refine XO.call Tryz.call51 rfl rfl rfl (form_spec d vh vj hh hj p vs vc hs_ hc) fun v18 s18 R18 => ?_
  obtain ⟨v1, k1, rfl, rfl, O1⟩ := R18
  dsimp only [List.cons_append, List.nil_append]
  refine XO.q (Q.move rfl) ?_
  refine XO.q (Q.extract rfl rfl) ?_
  refine XO.q (Q.extract rfl rfl) ?_
  refine XO.q (Q.assign rfl) ?_
  refine XO.q (Q.assign rfl) ?_
  refine XO.done ?_
  refine XK.seq ?_
  refine XK.seq ?_
  refine XK.region rfl ?_
  refine XO.q (Q.move rfl) ?_
  refine XO.q (Q.neq rfl rfl) ?_
  refine XO.done ?_
  refine XK.if rfl (fun c0 => ?_) (fun c0 => ?_)
  · have _t0 := True.intro
    refine XK.seq ?_
    refine XK.region rfl ?_
    refine XO.q (Q.build [_, _, _, _, _, _, _] (.n _)) ?_
    refine XO.q (Q.move rfl) ?_
    refine XO.q (Q.assign rfl) ?_
    refine XO.st rfl rfl rfl ?_
    refine XO.q (Q.assign rfl) ?_
    refine XO.done ?_
    refine XK.rt [emp] Tryz.func17 Tryz.results17 (.t rfl (.cell [_, _, _, _, _, _, _] rfl rfl rfl (.t rfl .n))) ?_
    rw [ledgerG, if_pos c0]
    exact ⟨.slice none 0 0, emp, rfl, rfl, nR⟩
  · have _t0 := True.intro
    have e0 := Decidable.of_not_not c0
    have ff := form_fine e0
    have h24 := ff.1.h2
    have cl := ff.2.2.2.1
    have bl : (formG d p).1.length = d.hours.length := by rw [ff.2.2.2.2.2.2]; exact needsL_len d _
    have ul : (usedL d p.starts).length = d.hours.length := range_len
    refine XK.skip ?_
    refine XK.seq ?_
    refine XK.region rfl ?_
    refine XO.q (Q.ldA [_, _, _, _, _, _, _, _] rfl rfl rfl) ?_
    refine XO.q (Q.fieldAddr rfl) ?_
    refine XO.q (Q.ld rfl rfl) ?_
    refine XO.call Tryz.call56 rfl rfl rfl (used_spec d vh vj hh hj p.starts vs hs_ ff.1 ff.2.1) fun v28 s28 R28 => ?_
    obtain ⟨ku, rfl, OU⟩ := R28
    dsimp only [List.cons_append, List.nil_append]
    refine XO.q (Q.assign rfl) ?_
    refine XO.done ?_
    refine XK.seq ?_
    refine XK.region rfl ?_
    refine XO.q (Q.assign rfl) ?_
    refine XO.done ?_
    refine XK.seq ?_
    refine XK.seq ?_
    refine XK.region rfl ?_
    refine XO.q (Q.fieldAddr rfl) ?_
    refine XO.q (Q.ld rfl rfl) ?_
    refine XO.len rfl fun l31 => ?_
    refine XO.q (Q.move rfl) ?_
    refine XO.done ?_
    refine XK.block ?_
    refine XK.while (X := Nat × Value × PHeap) [10, 11, 12, 13, 14, 32, 33, 34, 35, 36, 37, 38, 39, 40, 41, 42, 43, 44, 45, 46, 47, 48, 49, 50, 51, 52, 53, 54, 55, 56, 57, 58, 59, 60, 61, 62, 63, 64, 65, 66, 67, 68, 69, 70, 71, 72, 73, 74, 75, 76, 77, 78, 79, 80] (fun ⟨i, vo, ho⟩ => [(10, some (vo)), (32, some (.int .i64 (i : Nat)))]) (fun ⟨i, vo, ho⟩ => [ho]) (fun ⟨i, vo, ho⟩ => i ≤ d.hours.length ∧ OArr vo encRow 7 68 ho ((List.range i).map (rowAt d (formG d p).1 (usedL d p.starts) p.charge))) (fun ⟨i, vo, ho⟩ => d.hours.length - i) (0, .slice none 0 0, emp) [emp] rfl ⟨by omega, nR⟩ (.c rfl (.c rfl (.base 0 rfl rfl))) ?_
    rintro ⟨i, vo, ho⟩ ⟨hi, OL⟩ ih0
    dsimp only [List.cons_append, List.nil_append] at ih0 ⊢
    refine XK.seq ?_
    refine XK.region rfl ?_
    refine XO.q (Q.lss rfl rfl) ?_
    refine XO.done ?_
    refine XK.seq ?_
    refine XK.if rfl (fun c1 => ?_) (fun c1 => ?_)
    · have _t1 := True.intro
      have rf := row_facts e0 (show i < d.hours.length by omega)
      obtain ⟨rn, ru, rs, rc, rw_⟩ := rf
      refine XK.skip ?_
      refine XK.seq ?_
      refine XK.block ?_
      refine XK.seq ?_
      refine XK.region rfl ?_
      refine XO.q (Q.move rfl) ?_
      refine XO.ix rfl rfl (by omega) (by omega) fun i35 => ?_
      refine XO.q (Q.ldEA [_, _, _, _, _, _] rfl (by first | assumption | omega) rfl rfl) ?_
      refine XO.alloc fun b12 => ?_
      refine XO.q (Q.assign rfl) ?_
      refine XO.st rfl rfl rfl ?_
      refine XO.done ?_
      refine XK.seq ?_
      refine XK.drawn [0, 1, 2, 3, 4, 5, 6, 7, 8, 9, 10] [b3] [k1] (.q 0 (.q 1 (.q 2 (.q 3 (.q 4 (.q 5 (.q 6 (.q 7 (.q 8 (.q 9 (.q 10 .done))))))))))) Tryz.mixed rfl (by kernel_rfl) ?_
      refine XT.q rfl rfl (Q.move rfl) ?_
      refine XT.q rfl rfl (Q.move rfl) ?_
      refine XT.ix rfl rfl rfl rfl (by omega) (by omega) fun i39 => ?_
      refine XT.q rfl rfl (Q.ldE rfl (by first | assumption | omega) rfl) ?_
      refine XT.q rfl rfl (Q.fieldAddr rfl) ?_
      refine XT.q rfl rfl (Q.ld rfl rfl) ?_
      refine XT.q rfl rfl (Q.move rfl) ?_
      refine XT.ix rfl rfl rfl rfl (by omega) (by omega) fun i44 => ?_
      refine XT.q rfl rfl (Q.ldE rfl (by first | assumption | omega) rfl) ?_
      refine XT.q rfl rfl (Q.add rfl rfl ⟨by omega, by omega⟩) ?_
      refine XT.q rfl rfl (Q.assign rfl) ?_
      refine XT.done ?_
      refine XK.seq ?_
      refine XK.drawn [0, 1, 2, 3, 4, 5, 6, 7, 8, 9, 10, 11, 12, 13, 14, 15, 16] [b12, b3] [ku] (.q 0 (.q 1 (.q 2 (.q 3 (.q 4 (.q 5 (.q 6 (.q 7 (.q 8 (.q 9 (.q 10 (.q 11 (.q 12 (.q 13 (.q 14 (.q 15 (.q 16 (.br 17 true (.br 18 false .done .stop) .stop)))))))))))))))))) Tryz.mixed rfl (by kernel_rfl) ?_
      refine XT.q rfl rfl (Q.move rfl) ?_
      refine XT.q rfl rfl (Q.max rfl rfl) ?_
      refine XT.q rfl rfl (Q.move rfl) ?_
      refine XT.q rfl rfl (Q.neg rfl ⟨by omega, by omega⟩) ?_
      rw [show (0 : Int) - ((formG d p).1.getD i default + p.charge.getD i default) = -((formG d p).1.getD i default + p.charge.getD i default) by omega]
      refine XT.q rfl rfl (Q.max rfl rfl) ?_
      refine XT.q rfl rfl (Q.fieldAddr rfl) ?_
      refine XT.q rfl rfl (Q.ld rfl rfl) ?_
      refine XT.q rfl rfl (Q.move rfl) ?_
      refine XT.q rfl rfl (Q.move rfl) ?_
      refine XT.ix rfl rfl rfl rfl (by omega) (by omega) fun i56 => ?_
      refine XT.q rfl rfl (Q.ldE rfl (by first | assumption | omega) rfl) ?_
      refine XT.q rfl rfl (Q.fieldAddr rfl) ?_
      refine XT.q rfl rfl (Q.ld rfl rfl) ?_
      refine XT.q rfl rfl (Q.move rfl) ?_
      refine XT.ix rfl rfl rfl rfl (by omega) (by omega) fun i61 => ?_
      refine XT.q rfl rfl (Q.ldE rfl (by first | assumption | omega) rfl) ?_
      refine XT.q rfl rfl (Q.build [_, _, _, _, _, _, _] (.c 0 1 rfl rfl rfl (.c 1 1 rfl rfl rfl (.c 2 1 rfl rfl rfl (.c 3 1 rfl rfl rfl (.c 4 1 rfl rfl rfl (.n _))))))) ?_
      refine XT.alloc rfl rfl (fun b14 => ⟨inferInstance, ?_⟩) XT.stop
      refine XT.st rfl rfl rfl rfl rfl ⟨inferInstance, ?_⟩ XT.stop
      refine XT.done ?_
      refine XK.seq ?_
      refine XK.meet (X := Unit) [64, 65, 66, 67, 68, 69, 70, 71, 72, 73, 74, 75] (fun _ => []) (fun _ => [blk b14 [.int .i64 (max ((formG d p).1.getD i default + p.charge.getD i default) 0), .int .i64 (max (-((formG d p).1.getD i default + p.charge.getD i default)) 0), .int .i64 (d.hours.getD i default).sun, .int .i64 ((usedL d p.starts).getD i default), .int .i64 (p.charge.getD i default), .int .i64 (max ((formG d p).1.getD i default + p.charge.getD i default) 0 * (d.hours.getD i default).carbon), .int .i64 (((usedL d p.starts).getD i default) * (d.hours.getD i default).water)] 68]) (fun _ => True) [blk b14 [.int .i64 (max ((formG d p).1.getD i default + p.charge.getD i default) 0), .int .i64 (max (-((formG d p).1.getD i default + p.charge.getD i default)) 0), .int .i64 (d.hours.getD i default).sun, .int .i64 ((usedL d p.starts).getD i default), .int .i64 (p.charge.getD i default), .int .i64 0, .int .i64 0] 68] ?_ ?_
      · rintro _ _
        dsimp only [List.cons_append, List.nil_append]
        refine XK.region rfl ?_
        refine XO.q (Q.move rfl) ?_
        refine XO.q (Q.ldA [_, _, _, _, _, _, _] rfl rfl rfl) ?_
        refine XO.lit [_, _, _, _, _, _, _] [_, _, _, _, _, _, _] [rowAt d (formG d p).1 (usedL d p.starts) p.charge i] encRow (by rfl) (by rfl) rfl (by rfl) (by exact .c 0 7 rfl rfl rfl (.n _)) (fun _ => rfl) (by rfl) rfl (by infer_instance) rfl fun v78 h78 O78 => ?_
        refine XO.append rfl rfl rfl rfl (by first | omega | (simp; omega)) fun v79 h79 O79 => ?_
        refine XO.q (Q.assign rfl) ?_
        refine XO.done ?_
        refine XK.inBlock ?_
        refine XK.region rfl ?_
        refine XO.q (Q.add rfl rfl ⟨by omega, by omega⟩) ?_
        refine XO.q (Q.move rfl) ?_
        refine XO.done ?_
        exact ih0 (i + 1, v79, h79) _ _ ⟨by dsimp only; omega, by dsimp only; rw [List.range_succ, List.map_append]; exact O79⟩ (by first | omega | (dsimp only; omega)) (.c rfl (.c rfl (.base 110 rfl rfl))) inferInstance
      · intro mtr11
        dsimp only [List.cons_append, List.nil_append] at mtr11
        refine XK.drawn [0, 2, 3, 5, 7, 8, 4, 9, 10, 12] [b12] [] (.q 0 (.q 2 (.q 3 (.q 5 (.q 7 (.q 8 (.br 1 true (.q 4 (.br 6 true (.q 9 (.q 10 (.br 11 true (.q 12 (.br 13 false .done .stop)) .stop))) .stop)) (.br 6 true (.q 9 (.br 1 true (.q 4 (.q 10 (.br 11 true (.q 12 (.br 13 false .done .stop)) .stop))) .stop)) .stop)))))))) Tryz.mixed rfl (by kernel_rfl) ?_
        refine XT.q rfl rfl (Q.fieldAddr rfl) ?_
        refine XT.q rfl rfl (Q.fieldAddr rfl) ?_
        refine XT.q rfl rfl (Q.ld rfl rfl) ?_
        refine XT.q rfl rfl (Q.fieldAddr rfl) ?_
        refine XT.q rfl rfl (Q.fieldAddr rfl) ?_
        refine XT.q rfl rfl (Q.ld rfl rfl) ?_
        refine XT.qs rfl rfl (Q.ld rfl rfl) ⟨inferInstance, ?_⟩ ?_
        · skip
          refine XT.q rfl rfl (Q.mul rfl rfl ⟨by omega, by omega⟩) ?_
          refine XT.qs rfl rfl (Q.ld rfl rfl) ⟨inferInstance, ?_⟩ XT.stop
          refine XT.q rfl rfl (Q.mul rfl rfl ⟨by omega, by omega⟩) ?_
          refine XT.q rfl rfl (Q.fieldAddr rfl) ?_
          refine XT.st rfl rfl rfl rfl rfl ⟨inferInstance, ?_⟩ XT.stop
          refine XT.q rfl rfl (Q.fieldAddr rfl) ?_
          refine XT.st rfl rfl rfl rfl rfl ⟨inferInstance, ?_⟩ XT.stop
          refine XT.done ?_
          exact mtr11 (()) _ _ trivial (.base 12 rfl rfl) inferInstance
        · skip
          refine XT.qs rfl rfl (Q.ld rfl rfl) ⟨inferInstance, ?_⟩ XT.stop
          refine XT.q rfl rfl (Q.mul rfl rfl ⟨by omega, by omega⟩) ?_
          refine XT.qs rfl rfl (Q.ld rfl rfl) ⟨inferInstance, ?_⟩ XT.stop
          refine XT.q rfl rfl (Q.mul rfl rfl ⟨by omega, by omega⟩) ?_
          refine XT.q rfl rfl (Q.fieldAddr rfl) ?_
          refine XT.st rfl rfl rfl rfl rfl ⟨inferInstance, ?_⟩ XT.stop
          refine XT.q rfl rfl (Q.fieldAddr rfl) ?_
          refine XT.st rfl rfl rfl rfl rfl ⟨inferInstance, ?_⟩ XT.stop
          refine XT.done ?_
          exact mtr11 (()) _ _ trivial (.base 12 rfl rfl) inferInstance
    · have _t1 := True.intro
      have hin : i = d.hours.length := by omega
      subst hin
      refine XK.exit rfl ?_
      refine XK.seq ?_
      refine XK.region rfl ?_
      refine XO.q (Q.move rfl) ?_
      refine XO.q (Q.move rfl) ?_
      refine XO.call Tryz.call57 rfl rfl rfl (add_spec vo ho ((List.range d.hours.length).map (rowAt d (formG d p).1 (usedL d p.starts) p.charge)) (by rw [rows_len]; have := ff.1.h2; omega) (fun i hi => by rw [rows_len] at hi; rw [range_getK hi]; exact row_small e0 hi)) fun v83 s83 R83 => ?_
      obtain ⟨rfl, rfl⟩ := R83
      dsimp only [List.cons_append, List.nil_append]
      refine XO.q (Q.assign rfl) ?_
      refine XO.st rfl rfl rfl ?_
      refine XO.q (Q.assign rfl) ?_
      refine XO.done ?_
      refine XK.rt [ho] Tryz.func17 Tryz.results17 (.t rfl (.cell [_, _, _, _, _, _, _] rfl rfl rfl (.t rfl .n))) ?_
      rw [ledgerG, if_neg c0]
      have es : sumRow (fun i => ((List.range d.hours.length).map (rowAt d (formG d p).1 (usedL d p.starts) p.charge)).getD i default) ((List.range d.hours.length).map (rowAt d (formG d p).1 (usedL d p.starts) p.charge)).length = sumRow (rowAt d (formG d p).1 (usedL d p.starts) p.charge) d.hours.length := by rw [rows_len]; exact sumRow_ext _ fun i hi => range_getK hi
      rw [es]
      exact ⟨vo, ho, rfl, rfl, OL⟩
end Go.X

set_option linter.unusedSimpArgs false
set_option linter.unusedVariables false
set_option maxRecDepth 20000
namespace Go.X
open Go.Proofs
theorem right1_spec (n : Int) : Spec Tryz.prog 94 #[.int .i64 n] [] [] (fun v hs => v = .bool (wild n) ∧ hs = []) := by
  refine Spec.intro (fn := Tryz.f94) (N := 9) Tryz.func94 rfl Tryz.ntmps94 rfl fun B => ?_
  refine XK.seq ?_
  refine XK.region rfl ?_
  refine XO.q (Q.assign rfl) ?_
  refine XO.done ?_
  refine XK.seq ?_
  refine XK.region rfl ?_
  refine XO.q (Q.move rfl) ?_
  refine XO.q (Q.lss rfl rfl) ?_
  refine XO.q (Q.move rfl) ?_
  refine XO.q (Quiet.guardF rfl rfl fun g6 p6 => Q.move rfl) ?_
  refine XO.q (Quiet.guardF rfl rfl fun g7 p7 => Q.gtr (lzv g7 rfl) rfl) ?_
  refine XO.q (Q.or rfl (fun hp => lzv hp rfl)) ?_
  refine XO.q (Q.assign rfl) ?_
  refine XO.done ?_
  refine XK.rt [] Tryz.func94 Tryz.results94 (.t rfl .n) ?_
  exact ⟨rfl, rfl⟩
theorem rightTo_succ {d : KDay} {base vals : List Int} {hour : Nat} {e m : Int} {k : Nat} (h : rightTo d base vals hour e m (k) = true) (hn : ¬ ((atV d vals ((hour : Int) + 1) (e + (lowC d e + ((k : Nat) : Int))) (max m (base.getD hour default + (lowC d e + ((k : Nat) : Int))))) < 1000000000000000 ∧ (priceH (d.hours.getD hour default) (base.getD hour default + (lowC d e + ((k : Nat) : Int)))) + (atV d vals ((hour : Int) + 1) (e + (lowC d e + ((k : Nat) : Int))) (max m (base.getD hour default + (lowC d e + ((k : Nat) : Int))))) < (atV d vals (hour : Nat) e m))) : rightTo d base vals hour e m (k + 1) = true := by
  unfold rightTo at h ⊢
  rw [allTo_succ, h, Bool.true_and, Bool.not_eq_true']
  refine Bool.eq_false_iff.2 fun hx => hn ?_
  unfold tooMuch at hx
  rw [Bool.and_eq_true, decide_eq_true_eq, decide_eq_true_eq] at hx
  exact hx
theorem rightTo_bad {d : KDay} {base vals : List Int} {hour : Nat} {e m : Int} {k n : Nat} (hk : k < n) (hn : (atV d vals ((hour : Int) + 1) (e + (lowC d e + ((k : Nat) : Int))) (max m (base.getD hour default + (lowC d e + ((k : Nat) : Int))))) < 1000000000000000 ∧ (priceH (d.hours.getD hour default) (base.getD hour default + (lowC d e + ((k : Nat) : Int)))) + (atV d vals ((hour : Int) + 1) (e + (lowC d e + ((k : Nat) : Int))) (max m (base.getD hour default + (lowC d e + ((k : Nat) : Int))))) < (atV d vals (hour : Nat) e m)) : rightTo d base vals hour e m (n) = false := by
  unfold rightTo
  refine allTo_false hk ?_
  rw [Bool.not_eq_false']
  unfold tooMuch
  rw [Bool.and_eq_true, decide_eq_true_eq, decide_eq_true_eq]
  exact hn
set_option maxHeartbeats 1000000 in
theorem right2_spec (d : KDay) (vh vj : Value) (hh hj : PHeap) [ih : Arr vh encHour 6 hh d.hours] [ij : Arr vj encJob 4 hj d.jobs] (vb vv : Value) (hb hv : PHeap) (base vals : List Int) [jb : Arr vb encI 1 hb base] [jv : Arr vv encI 1 hv vals] (ok : DayOk d) (bo : BaseOk d base) (hvl : (vals.length : Int) = sizeK d) (wl : vals.any wild = false) (b bt hour : Nat) (hh1 : hour ≤ d.hours.length) (e m : Int) (so : StateOk d e m) :
    Spec Tryz.prog 95 #[.int .i64 (hour : Nat), .int .i64 e, .int .i64 m, ptr bt 0] [] [blk b [vh, .int .i64 d.store.energy, .int .i64 d.store.full, .int .i64 d.store.power, .int .i64 d.store.fin, vj, .int .i64 d.most, .int .i64 d.peak, vb, vv] 123, blk bt [ptr b 0] 120, hb, hv, hh] (fun v hs => v = .bool (rightAt d base vals hour e m) ∧ hs = []) := by
  have lh := ih.le
  have h24 := ok.h2
  have p0 := ok.p0
  have p1 := ok.p1
  have e0 := so.e0
  have e1 := so.e1
  have m0 := so.m0
  have m1 := so.m1
  have q1 := ok.m1
  have f1 := ok.store.f1
  have ar := at_rng so (show (0 : Int) ≤ hour by omega) (by omega)
  have wa : -1000000000000000 ≤ (atV d vals (hour : Nat) e m) ∧ (atV d vals (hour : Nat) e m) ≤ 1000000000000000 := wild_at wl (atK d hour e m).toNat
  have pm := price_mul (a := d.peak) (b := m) p0 (by omega) m0 (by omega)
  refine Spec.intro (fn := Tryz.f95) (N := 75) Tryz.func95 rfl Tryz.ntmps95 rfl fun B => ?_
  refine XK.seq ?_
  refine XK.region rfl ?_
  refine XO.alloc fun b7 => ?_
  refine XO.done ?_
  refine XK.seq ?_
  refine XK.meet (X := Nat) [8, 12, 13, 14, 15, 16, 17, 18, 19, 20, 21, 22] (fun b8 => [(8, some (ptr b8 0))]) (fun b8 => [blk b8 [.int .i64 (atV d vals (hour : Nat) e m)] 3]) (fun b8 => True) [] ?_ ?_
  · rintro b8 _
    dsimp only [List.cons_append, List.nil_append]
    refine XK.seq ?_
    refine XK.seq ?_
    refine XK.region rfl ?_
    refine XO.q (Q.move rfl) ?_
    refine XO.q (Q.ld rfl rfl) ?_
    refine XO.q (Q.nilCheck rfl) ?_
    refine XO.q (Q.fieldAddr rfl) ?_
    refine XO.q (Q.fieldAddr rfl) ?_
    refine XO.q (Q.ld rfl rfl) ?_
    refine XO.len rfl fun l29 => ?_
    refine XO.q (Q.eql rfl rfl) ?_
    refine XO.done ?_
    refine XK.if rfl (fun c0 => ?_) (fun c0 => ?_)
    · have _t0 := True.intro
      have hn : hour = d.hours.length := by omega
      refine XK.seq ?_
      refine XK.drawn [0, 1, 2, 3, 4, 5, 6, 7, 8, 9, 10, 11, 12, 13, 14, 15, 16, 17, 18] [bt, b, b8] [] (.q 0 (.q 1 (.q 2 (.q 3 (.q 4 (.q 5 (.q 6 (.q 7 (.q 8 (.q 9 (.q 10 (.q 11 (.q 12 (.q 13 (.q 14 (.q 15 (.q 16 (.q 17 (.q 18 (.br 19 false .done .stop)))))))))))))))))))) Tryz.mixed rfl (by kernel_rfl) ?_
      refine XT.q rfl rfl (Q.move rfl) ?_
      refine XT.q rfl rfl (Q.ld rfl rfl) ?_
      refine XT.q rfl rfl (Q.nilCheck rfl) ?_
      refine XT.q rfl rfl (Q.fieldAddr rfl) ?_
      refine XT.q rfl rfl (Q.fieldAddr rfl) ?_
      refine XT.q rfl rfl (Q.fieldAddr rfl) ?_
      refine XT.q rfl rfl (Q.ld rfl rfl) ?_
      refine XT.q rfl rfl (Q.lss rfl rfl) ?_
      refine XT.q rfl rfl (Q.move rfl) ?_
      refine XT.q rfl rfl (Quiet.guardF rfl rfl fun g40 p40 => Q.ld rfl rfl) ?_
      refine XT.q rfl rfl (Quiet.guardF rfl rfl fun g41 p41 => Q.ld rfl rfl) ?_
      refine XT.q rfl rfl (Quiet.guardF rfl rfl fun g42 p42 => Q.nilCheck (lzv g42 rfl)) ?_
      refine XT.q rfl rfl (Quiet.guardF rfl rfl fun g43 p43 => Q.fieldAddr (lzv g43 rfl)) ?_
      refine XT.q rfl rfl (Quiet.guardF rfl rfl fun g44 p44 => Q.fieldAddr (lzv g44 rfl)) ?_
      refine XT.q rfl rfl (Quiet.guardF rfl rfl fun g45 p45 => Q.ld (lzv g45 rfl) rfl) ?_
      refine XT.q rfl rfl (Quiet.guardF rfl rfl fun g46 p46 => Q.move rfl) ?_
      refine XT.q rfl rfl (Quiet.guardF rfl rfl fun g47 p47 => Q.mul (lzv g47 rfl) (lzv g47 rfl) ⟨by omega, by omega⟩) ?_
      refine XT.q rfl rfl (Quiet.guardF rfl rfl fun g48 p48 => Q.leq (lzv g48 rfl) (lzv g48 rfl)) ?_
      refine XT.q rfl rfl (Q.or rfl (fun hp => lzv hp rfl)) ?_
      refine XT.st rfl rfl rfl rfl rfl ⟨inferInstance, ?_⟩ XT.stop
      refine XT.done ?_
      refine XK.rt [] Tryz.func95 Tryz.results95 (.cell1 rfl rfl (.n)) ?_
      exact ⟨by rw [rightAt, if_pos hn], rfl⟩
    · have _t0 := True.intro
      have hlt : hour < d.hours.length := by omega
      have br := bo.rng hour hlt
      refine XK.skip ?_
      refine XK.seq ?_
      refine XK.seq ?_
      refine XK.region rfl ?_
      refine XO.q (Q.ld rfl rfl) ?_
      refine XO.q (Q.move rfl) ?_
      refine XO.q (Q.move rfl) ?_
      refine XO.q (Q.move rfl) ?_
      refine XO.call Tryz.call91 rfl rfl rfl (charges_spec b hour e m) fun v54 s54 R54 => ?_
      obtain ⟨b1, b2, b3, b4, rfl, rfl⟩ := R54
      dsimp only [List.cons_append, List.nil_append]
      refine XO.done ?_
      refine XK.block ?_
      refine XK.range (X := Nat) (ps := [55, 56]) (chItems d base hour e m) (fun k => [blk b7 [.bool false] 4]) (fun i k => k = i ∧ rightTo d base vals hour e m (k) = true) (fun j0 k => j0 = Code.ret ∧ rightAt d base vals hour e m = false) (0) [blk b7 [.bool false] 4] rfl ⟨rfl, rfl⟩ rfl (charges1 d vh vj hh hj vb vv hb base ok bo b b1 b2 b3 b4 hour hlt e m so) rfl (chItems_two) ?_ ?_ ?_
      · rintro lq rec B' i k hi ⟨hki, hrt⟩
        dsimp only [List.cons_append, List.nil_append]
        rw [chItems_len] at hi
        subst hki
        obtain ⟨sn, n1, n2, n3⟩ := next_ok ok so hi
        have ar := at_rng sn (show (0 : Int) ≤ ((hour : Int) + 1) by omega) (by omega)
        have ev : vals.getD (nextC d base hour e m (lowC d e + ((k : Nat) : Int))).toNat default = (atV d vals ((hour : Int) + 1) (e + (lowC d e + ((k : Nat) : Int))) (max m (base.getD hour default + (lowC d e + ((k : Nat) : Int))))) := rfl
        have arn : 0 ≤ nextC d base hour e m (lowC d e + ((k : Nat) : Int)) ∧ nextC d base hour e m (lowC d e + ((k : Nat) : Int)) < sizeK d := ar
        have wn := wild_at wl (nextC d base hour e m (lowC d e + ((k : Nat) : Int))).toNat
        rw [ev] at wn
        have pr := price_rng (h := d.hours.getD hour default) (ok.hour hour hlt) (n := base.getD hour default + (lowC d e + ((k : Nat) : Int))) (by omega) (by omega)
        rw [chItems_at hi]
        dsimp only [pars, chItem]
        refine XK.region rfl ?_
        refine XO.alloc fun b10 => ?_
        refine XO.st rfl rfl rfl ?_
        refine XO.done ?_
        refine XK.beginRound ?_
        refine XK.block ?_
        refine XK.seq ?_
        refine XK.drawn [0, 1, 2, 3, 4, 5, 6, 7, 8] [bt, b, b10] [] (.q 0 (.q 1 (.q 2 (.q 3 (.q 4 (.q 5 (.q 6 (.q 7 (.q 8 .done))))))))) Tryz.mixed rfl (by kernel_rfl) ?_
        refine XT.q rfl rfl (Q.ld rfl rfl) ?_
        refine XT.q rfl rfl (Q.nilCheck rfl) ?_
        refine XT.q rfl rfl (Q.fieldAddr rfl) ?_
        refine XT.q rfl rfl (Q.ld rfl rfl) ?_
        refine XT.q rfl rfl (Q.ixA rfl rfl (by omega) (by omega)) ?_
        refine XT.q rfl rfl (Q.ld rfl rfl) ?_
        refine XT.ix rfl rfl rfl rfl (by omega) (by omega) fun i63 => ?_
        refine XT.q rfl rfl (Q.ldE rfl (by first | assumption | omega) rfl) ?_
        rw [ev]
        refine XT.q rfl rfl (Q.assign rfl) ?_
        refine XT.done ?_
        refine XK.seq ?_
        refine XK.region rfl ?_
        refine XO.q (Q.move rfl) ?_
        refine XO.q (Q.lss rfl rfl) ?_
        refine XO.q (Q.move rfl) ?_
        refine XO.q (Quiet.guardT rfl rfl fun g68 p68 => Q.ld rfl rfl) ?_
        refine XO.q (Quiet.guardT rfl rfl fun g69 p69 => Q.ixA rfl rfl (by omega) (by omega)) ?_
        refine XO.q (Quiet.guardT rfl rfl fun g70 p70 => Q.ld (lzv g70 rfl) rfl) ?_
        refine XO.q (Quiet.guardT rfl rfl fun g71 p71 => Q.move rfl) ?_
        refine XO.q (Quiet.guardT rfl rfl fun g72 p72 => Q.add (lzv g72 rfl) (lzv g72 rfl) ⟨by omega, by omega⟩) ?_
        refine XO.q (Quiet.guardT rfl rfl fun g73 p73 => Q.gtr (lzv g73 rfl) (lzv g73 rfl)) ?_
        refine XO.q (Q.and rfl (fun hp => lzv hp rfl)) ?_
        refine XO.done ?_
        refine XK.if rfl (fun c1 => ?_) (fun c1 => ?_)
        · have _t1 := True.intro
          refine XK.seq ?_
          refine XK.region rfl ?_
          refine XO.st rfl rfl rfl ?_
          refine XO.done ?_
          exact XK.leave (j := some .ret) [blk b7 [.bool false] 4] trivial ⟨(k), ⟨rfl, by rw [rightAt, if_neg (by omega)]; exact rightTo_bad hi c1⟩, rfl⟩
        · have _t1 := True.intro
          refine XK.skip ?_
          refine XK.inBlock ?_
          exact XK.leave (j := none) [blk b7 [.bool false] 4] trivial ⟨(k + 1), ⟨rfl, rightTo_succ hrt c1⟩, rfl⟩
      · rintro k ⟨hki, hrt⟩
        dsimp only [List.cons_append, List.nil_append]
        rw [chItems_len] at hki
        subst hki
        refine XK.inBlock ?_
        refine XK.seq ?_
        refine XK.region rfl ?_
        refine XO.st rfl rfl rfl ?_
        refine XO.done ?_
        refine XK.rt [] Tryz.func95 Tryz.results95 (.cell1 rfl rfl (.n)) ?_
        exact ⟨by rw [rightAt, if_neg (by omega), hrt], rfl⟩
      · rintro _ k ⟨rfl, hJ⟩
        dsimp only [List.cons_append, List.nil_append]
        refine XK.rt [] Tryz.func95 Tryz.results95 (.cell1 rfl rfl (.n)) ?_
        exact ⟨by rw [hJ], rfl⟩
  · intro mtr1
    dsimp only [List.cons_append, List.nil_append] at mtr1
    refine XK.drawn [0, 1, 2, 3, 4, 5, 6, 7, 9, 10] [bt, b] [] (.q 0 (.q 1 (.q 2 (.q 3 (.q 4 (.q 5 (.q 6 (.q 7 (.br 8 true (.q 9 (.q 10 (.br 11 true (.br 12 false .done .stop) .stop))) (.br 11 true (.br 8 true (.q 9 (.q 10 (.br 12 false .done .stop))) .stop) .stop)))))))))) Tryz.mixed rfl (by kernel_rfl) ?_
    refine XT.q rfl rfl (Q.ld rfl rfl) ?_
    refine XT.q rfl rfl (Q.nilCheck rfl) ?_
    refine XT.q rfl rfl (Q.fieldAddr rfl) ?_
    refine XT.q rfl rfl (Q.ld rfl rfl) ?_
    refine XT.q rfl rfl (Q.ld rfl rfl) ?_
    refine XT.q rfl rfl (Q.move rfl) ?_
    refine XT.q rfl rfl (Q.move rfl) ?_
    refine XT.q rfl rfl (Q.move rfl) ?_
    refine XT.call rfl rfl Tryz.call60 rfl rfl rfl (at_spec d vh vj vb vv ok b (hour : Int) e m (by omega) (by omega) (by omega)) (fun v20 s20 R20 => ?_) ?_
    · skip
      obtain ⟨rfl, rfl⟩ := R20
      dsimp only [List.cons_append, List.nil_append]
      refine ⟨inferInstance, ?_⟩
      refine XT.ix rfl rfl rfl rfl (by omega) (by omega) fun i21 => ?_
      refine XT.q rfl rfl (Q.ldE rfl (by first | assumption | omega) rfl) ?_
      rw [show vals.getD (atK d (hour : Int) e m).toNat default = (atV d vals (hour : Nat) e m) from rfl]
      refine XT.alloc rfl rfl (fun b8 => ⟨inferInstance, ?_⟩) XT.stop
      refine XT.st rfl rfl rfl rfl rfl ⟨inferInstance, ?_⟩ XT.stop
      refine XT.done ?_
      exact mtr1 (b8) _ _ trivial (.c rfl (.base 12 rfl rfl)) inferInstance
    · skip
      refine XT.alloc rfl rfl (fun b8 => ⟨inferInstance, ?_⟩) XT.stop
      refine XT.call rfl rfl Tryz.call60 rfl rfl rfl (at_spec d vh vj vb vv ok b (hour : Int) e m (by omega) (by omega) (by omega)) (fun v20 s20 R20 => ?_) XT.stop
      obtain ⟨rfl, rfl⟩ := R20
      dsimp only [List.cons_append, List.nil_append]
      refine ⟨inferInstance, ?_⟩
      refine XT.ix rfl rfl rfl rfl (by omega) (by omega) fun i21 => ?_
      refine XT.q rfl rfl (Q.ldE rfl (by first | assumption | omega) rfl) ?_
      rw [show vals.getD (atK d (hour : Int) e m).toNat default = (atV d vals (hour : Nat) e m) from rfl]
      refine XT.st rfl rfl rfl rfl rfl ⟨inferInstance, ?_⟩ XT.stop
      refine XT.done ?_
      exact mtr1 (b8) _ _ trivial (.c rfl (.base 12 rfl rfl)) inferInstance
end Go.X

set_option linter.unusedSimpArgs false
set_option linter.unusedVariables false
set_option maxRecDepth 20000
namespace Go.X
open Go.Proofs
set_option maxHeartbeats 1000000 in
theorem right_spec (d : KDay) (vh vj : Value) (hh hj : PHeap) [ih : Arr vh encHour 6 hh d.hours] [ij : Arr vj encJob 4 hj d.jobs] (vb vv : Value) (hb hv : PHeap) (base vals : List Int) [jb : Arr vb encI 1 hb base] [jv : Arr vv encI 1 hv vals] (ok : DayOk d) (bo : BaseOk d base) (hvl : (vals.length : Int) = sizeK d) (b : Nat) : Spec Tryz.prog 69 #[ptr b 0] [] [blk b [vh, .int .i64 d.store.energy, .int .i64 d.store.full, .int .i64 d.store.power, .int .i64 d.store.fin, vj, .int .i64 d.most, .int .i64 d.peak, vb, vv] 123, hb, hv, hh] (fun v hs => v = .bool (rightB d base vals) ∧ hs = []) := by
  have lh := ih.le
  have h24 := ok.h2
  refine Spec.intro (fn := Tryz.f69) (N := 11) Tryz.func69 rfl Tryz.ntmps69 rfl fun B => ?_
  refine XK.seq ?_
  refine XK.region rfl ?_
  refine XO.box rfl fun b1 => ?_
  refine XO.q (Q.assign rfl) ?_
  refine XO.done ?_
  refine XK.seq ?_
  refine XK.seq ?_
  refine XK.region rfl ?_
  refine XO.q (Q.ld rfl rfl) ?_
  refine XO.q (Q.nilCheck rfl) ?_
  refine XO.q (Q.fieldAddr rfl) ?_
  refine XO.q (Q.ld rfl rfl) ?_
  refine XO.call Tryz.call83 rfl rfl rfl (containsFuncI vv hv vals 94 [] [] wild Tryz.call94 (fun x hx => right1_spec x)) fun v7 s7 R7 => ?_
  obtain ⟨rfl, rfl⟩ := R7
  dsimp only [List.cons_append, List.nil_append]
  refine XO.done ?_
  refine XK.if rfl (fun c0 => ?_) (fun c0 => ?_)
  · have _t0 := True.intro
    refine XK.seq ?_
    refine XK.region rfl ?_
    refine XO.q (Q.assign rfl) ?_
    refine XO.done ?_
    refine XK.rt [] Tryz.func69 Tryz.results69 (.t rfl .n) ?_
    exact ⟨by rw [rightB_of (b := false) ⟨fun h => by (cases h), fun hR => by rw [hR.rng] at c0; cases c0⟩], rfl⟩
  · have _t0 := True.intro
    have wl : vals.any wild = false := Bool.eq_false_iff.2 c0
    refine XK.skip ?_
    refine XK.seq ?_
    refine XK.region rfl ?_
    refine XO.q (Q.ld rfl rfl) ?_
    refine XO.q (Q.func (fun _ he => rfl) (fun _ he => evs_rel he rfl)) ?_
    refine XO.drop (o' := [emp, blk b1 [ptr b 0] 120]) ?_
    refine XO.call Tryz.call89 rfl rfl rfl (states_spec d vh vj vb vv ok b (by omega) hh (.func (.func 95) #[] #[ptr b1 0]) [blk b [vh, .int .i64 d.store.energy, .int .i64 d.store.full, .int .i64 d.store.power, .int .i64 d.store.fin, vj, .int .i64 d.most, .int .i64 d.peak, vb, vv] 123, blk b1 [ptr b 0] 120, hb, hv, hh] (fun (h e m : Int) (q : PHeap) => q = emp ∧ RightTo d base vals h e m) (fun q => q = emp ∧ ¬ RightP d base vals) (fun h e m q hh1 so2 hQ => by obtain ⟨hq, fl⟩ := hQ; subst hq; exact VSpec.fn (fst := []) (cap := [ptr b1 0]) Tryz.call95 rfl ((Spec.addEmp (right2_spec d vh vj hh hj vb vv hb hv base vals ok bo hvl wl b b1 h hh1 e m so2)).mono (fun v hs hx => by obtain ⟨hv, hhs⟩ := hx; exact ⟨_, emp, hv, hhs, fun hb => ⟨rfl, fl.put hb⟩, fun hb => ⟨rfl, fun hR => by rw [hR.all h e m hh1 so2] at hb; cases hb⟩⟩))) (fun h e q hQ => ⟨hQ.1, hQ.2.nextE⟩) (fun h q hQ => ⟨hQ.1, hQ.2.nextH⟩) emp ⟨rfl, RightTo.start⟩) fun v10 s10 R10 => ?_
    obtain ⟨bb, q4, rfl, rfl, hT, hF⟩ := R10
    dsimp only [List.cons_append, List.nil_append]
    have hq4 : q4 = emp := by
      cases bb with
      | false => exact (hF rfl).1
      | true => exact (hT rfl).1
    subst hq4
    have hbb : rightB d base vals = bb := rightB_of ⟨fun h => ⟨wl, (hT h).2.all⟩, fun hR => by
      cases bb with
      | true => rfl
      | false => exact absurd hR (hF rfl).2⟩
    refine XO.q (Q.assign rfl) ?_
    refine XO.done ?_
    refine XK.rt [] Tryz.func69 Tryz.results69 (.t rfl .n) ?_
    exact ⟨by rw [hbb], rfl⟩
/-- The tables of a proof, laid in one heap. -/
structure TabsK (d : KDay) (vh vj : Value) (us : List Value) (K KP : PHeap) (proof : List (List Int)) : Prop where
  at' : ∀ i, i < us.length → ∃ b vb vv, us.getD i default = ptr b 0 ∧ leH (blk b [vh, .int .i64 d.store.energy, .int .i64 d.store.full, .int .i64 d.store.power, .int .i64 d.store.fin, vj, .int .i64 d.most, .int .i64 d.peak, vb, vv] 123) K ∧ Arr vb encI 1 K (needsL d ((startsL d).getD i default)) ∧ Arr vv encI 1 KP (proof.getD i default)
theorem TabsK.nil {d : KDay} {vh vj : Value} {K KP : PHeap} {proof : List (List Int)} : TabsK d vh vj [] K KP proof := ⟨fun i hi => absurd hi (Nat.not_lt_zero i)⟩
theorem TabsK.mono {d : KDay} {vh vj : Value} {us : List Value} {K K' KP : PHeap} {proof : List (List Int)} (t : TabsK d vh vj us K KP proof) (hl : leH K K') : TabsK d vh vj us K' KP proof := ⟨fun i hi => by
  obtain ⟨b, vb, vv, e, l, a, c⟩ := t.at' i hi
  exact ⟨b, vb, vv, e, l.trans hl, a.le_heap hl, c⟩⟩
theorem TabsK.snoc {d : KDay} {vh vj : Value} {us : List Value} {K KP : PHeap} {proof : List (List Int)} (t : TabsK d vh vj us K KP proof) {b : Nat} {vb vv : Value} (l : leH (blk b [vh, .int .i64 d.store.energy, .int .i64 d.store.full, .int .i64 d.store.power, .int .i64 d.store.fin, vj, .int .i64 d.most, .int .i64 d.peak, vb, vv] 123) K) (a : Arr vb encI 1 K (needsL d ((startsL d).getD us.length default))) (c : Arr vv encI 1 KP (proof.getD us.length default)) : TabsK d vh vj (us ++ [ptr b 0]) K KP proof := ⟨fun i hi => by
  rw [List.length_append, List.length_singleton] at hi
  rw [snocK_at]
  by_cases h : i < us.length
  · rw [if_pos h]; exact t.at' i h
  · obtain rfl : i = us.length := by omega
    rw [if_neg h, if_pos rfl]
    exact ⟨b, vb, vv, rfl, l, a, c⟩⟩
set_option maxHeartbeats 1000000 in
theorem verify1_spec (d : KDay) (vh vj : Value) (hh hj : PHeap) [ih : Arr vh encHour 6 hh d.hours] [ij : Arr vj encJob 4 hj d.jobs] (p : KPlan) (vs vc : Value) (hs_ hc : PHeap) [js : Arr vs encI 1 hs_ p.starts] [jc : Arr vc encI 1 hc p.charge] (vb vv : Value) (hb hv : PHeap) (base vals : List Int) [jb : Arr vb encI 1 hb base] [jv : Arr vv encI 1 hv vals] (s : List Int) (ok : DayOk d) (bs : base = needsL d s) (hvl : (vals.length : Int) = sizeK d) (b b1 b2 : Nat) : Spec Tryz.prog 68 #[ptr b 0, ptr b1 0, ptr b2 0] [] [blk b [vh, .int .i64 d.store.energy, .int .i64 d.store.full, .int .i64 d.store.power, .int .i64 d.store.fin, vj, .int .i64 d.most, .int .i64 d.peak, vb, vv] 123, hb, hv, hh, blk b1 [vh, .int .i64 d.store.energy, .int .i64 d.store.full, .int .i64 d.store.power, .int .i64 d.store.fin, vj, .int .i64 d.most, .int .i64 d.peak] 27, blk b2 [vs, vc, .int .i64 p.cost] 34] (fun v hs => v = .bool (badTab d p vals s) ∧ hs = []) := by
  subst bs
  have lh := ih.le
  have f0 := ok.store.e0
  have f1 := ok.store.e1
  have f2 := ok.store.f1
  have q0 := ok.m0
  have ar := at_rng (d := d) (e := d.store.energy) (m := 0) ⟨f0, f1, by omega, q0⟩ (show (0 : Int) ≤ 0 by omega) (by omega)
  have bo := needs_base ok s
  refine Spec.intro (fn := Tryz.f68) (N := 24) Tryz.func68 rfl Tryz.ntmps68 rfl fun B => ?_
  refine XK.seq ?_
  refine XK.region rfl ?_
  refine XO.q (Q.assign rfl) ?_
  refine XO.done ?_
  refine XK.seq ?_
  refine XK.drawn [0, 2, 3, 4, 5, 6, 7, 8, 9, 10, 11, 15, 16, 13, 14, 17, 18, 19] [b1, b2] [] (.q 0 (.br 1 true (.q 2 (.q 3 (.q 4 (.q 5 (.q 6 (.q 7 (.q 8 (.q 9 (.q 10 (.q 11 (.q 15 (.q 16 (.br 12 true (.q 13 (.q 14 (.q 17 (.q 18 (.q 19 .done))))) .stop))))))))))))) .stop)) Tryz.mixed rfl (by kernel_rfl) ?_
  refine XT.q rfl rfl (Q.move rfl) ?_
  refine XT.call rfl rfl Tryz.call69 rfl rfl rfl (right_spec d vh vj hh hj vb vv hb hv (needsL d s) vals ok bo hvl b) (fun v6 s6 R6 => ?_) XT.stop
  obtain ⟨rfl, rfl⟩ := R6
  dsimp only [List.cons_append, List.nil_append]
  refine ⟨inferInstance, ?_⟩
  refine XT.q rfl rfl (Q.not rfl) ?_
  refine XT.q rfl rfl (Q.move rfl) ?_
  refine XT.q rfl rfl (Quiet.guardF rfl rfl fun g9 p9 => Q.move rfl) ?_
  refine XT.q rfl rfl (Quiet.guardF rfl rfl fun g10 p10 => Q.nilCheck (lzv g10 rfl)) ?_
  refine XT.q rfl rfl (Quiet.guardF rfl rfl fun g11 p11 => Q.fieldAddr (lzv g11 rfl)) ?_
  refine XT.q rfl rfl (Quiet.guardF rfl rfl fun g12 p12 => Q.ld (lzv g12 rfl) rfl) ?_
  refine XT.q rfl rfl (Quiet.guardF rfl rfl fun g13 p13 => Q.move rfl) ?_
  refine XT.q rfl rfl (Quiet.guardF rfl rfl fun g14 p14 => Q.fieldAddr rfl) ?_
  refine XT.q rfl rfl (Quiet.guardF rfl rfl fun g15 p15 => Q.fieldAddr (lzv g15 rfl)) ?_
  refine XT.q rfl rfl (Quiet.guardF rfl rfl fun g16 p16 => Q.ld (lzv g16 rfl) rfl) ?_
  refine XT.q rfl rfl (Quiet.guardF rfl rfl fun g20 p20 => Q.fieldAddr rfl) ?_
  refine XT.q rfl rfl (Quiet.guardF rfl rfl fun g21 p21 => Q.ld (lzv g21 rfl) rfl) ?_
  refine XT.gcallF rfl rfl rfl rfl Tryz.call60 rfl (fun g17 => .c (lzv g17 rfl) (.c rfl (.c (lzv g17 rfl) (.c rfl .n)))) rfl (fun g17 p17 => at_spec d vh vj vb vv ok b 0 d.store.energy 0 (by omega) (by omega) (by omega)) ⟨inferInstance, ?_⟩ XT.stop
  refine XT.q rfl rfl (Quiet.guardF rfl rfl fun g18 p18 => Q.ix (lzv g18 rfl) (lzv g18 rfl) (by omega) (by omega)) ?_
  refine XT.q rfl rfl (Quiet.guardF rfl rfl fun g19 p19 => Q.ldE (lzv g19 rfl) (by first | assumption | omega) rfl) ?_
  refine XT.q rfl rfl (Quiet.guardF rfl rfl fun g22 p22 => Q.lss (lzv g22 rfl) (lzv g22 rfl)) ?_
  refine XT.q rfl rfl (Q.or rfl (fun hp => lzv hp rfl)) ?_
  refine XT.q rfl rfl (Q.assign rfl) ?_
  refine XT.done ?_
  refine XK.rt [] Tryz.func68 Tryz.results68 (.t rfl .n) ?_
  exact ⟨rfl, rfl⟩
end Go.X

set_option linter.unusedSimpArgs false
set_option linter.unusedVariables false
set_option maxRecDepth 20000
namespace Go.X
open Go.Proofs
theorem indexTabs (v : Value) (h : PHeap) (us : List Value) [s : Arr v encV 1 h us] (gid : FuncId) (cap : List Value) (Hr : List PHeap) (p : Nat → Bool)
    (hc : ∀ args w, (callFunc gid args).run Tryz.prog w = .ok (.enter gid args) w) (hS : ∀ i, i < us.length → Spec Tryz.prog gid (us.getD i default :: cap).toArray [] Hr (fun v hs => v = .bool (p i) ∧ hs = [])) :
    Spec Tryz.prog 93 #[v, .func (.func gid) #[] cap.toArray] [] (h :: Hr) (fun v hs => v = .int .i64 (findFirst p (List.range us.length)) ∧ hs = []) := by
  have rl : (List.range us.length).length = us.length := List.length_range
  refine Spec.intro (fn := Tryz.f93) (N := 19) Tryz.func93 rfl Tryz.ntmps93 rfl fun B => ?_
  refine XK.seq ?_
  refine XK.region rfl ?_
  refine XO.q (Q.assign rfl) ?_
  refine XO.done ?_
  refine XK.seq ?_
  refine XK.seq ?_
  refine XK.region rfl ?_
  refine XO.q (Q.move rfl) ?_
  refine XO.len rfl fun l7 => ?_
  refine XO.q (Q.move rfl) ?_
  refine XO.done ?_
  refine XK.block ?_
  refine XK.while (X := Nat) [4, 5, 8, 9, 10, 11, 12, 13, 14, 15, 16, 17, 18] (fun i => [(8, some (.int .i64 (i : Nat)))]) (fun i => []) (fun i => i ≤ us.length ∧ ((List.range us.length).take i).any p = false) (fun i => us.length - i) (0) [] rfl ⟨by omega, rfl⟩ (.c rfl (.base 0 rfl rfl)) ?_
  rintro i ⟨hi, ht⟩ ih0
  dsimp only [List.cons_append, List.nil_append] at ih0 ⊢
  refine XK.seq ?_
  refine XK.region rfl ?_
  refine XO.q (Q.lss rfl rfl) ?_
  refine XO.done ?_
  refine XK.seq ?_
  refine XK.if rfl (fun c0 => ?_) (fun c0 => ?_)
  · have _t0 := True.intro
    refine XK.skip ?_
    refine XK.seq ?_
    refine XK.block ?_
    refine XK.seq ?_
    refine XK.region rfl ?_
    refine XO.q (Q.move rfl) ?_
    refine XO.q (Q.assign rfl) ?_
    refine XO.done ?_
    refine XK.seq ?_
    refine XK.region rfl ?_
    refine XO.q (Q.move rfl) ?_
    refine XO.q (Q.move rfl) ?_
    refine XO.q (Q.move rfl) ?_
    refine XO.ix rfl rfl (by omega) (by omega) fun i14 => ?_
    refine XO.q (Q.ldE rfl (by first | assumption | omega) rfl) ?_
    refine XO.call hc rfl rfl rfl (hS i (by omega)) fun v16 s16 R16 => ?_
    obtain ⟨rfl, rfl⟩ := R16
    dsimp only [List.cons_append, List.nil_append]
    refine XO.done ?_
    refine XK.if rfl (fun c1 => ?_) (fun c1 => ?_)
    · have _t1 := True.intro
      refine XK.seq ?_
      refine XK.region rfl ?_
      refine XO.q (Q.move rfl) ?_
      refine XO.q (Q.assign rfl) ?_
      refine XO.done ?_
      refine XK.rt [] Tryz.func93 Tryz.results93 (.t rfl .n) ?_
      exact ⟨by rw [findFirst_here ht (by omega) (by rw [range_id (by omega)]; exact c1)], rfl⟩
    · have _t1 := True.intro
      refine XK.skip ?_
      refine XK.inBlock ?_
      refine XK.region rfl ?_
      refine XO.q (Q.add rfl rfl ⟨by omega, by omega⟩) ?_
      refine XO.q (Q.move rfl) ?_
      refine XO.done ?_
      exact ih0 (i + 1) _ _ ⟨by omega, any_step ht (by omega) (by rw [range_id (by omega)]; exact Bool.eq_false_iff.2 c1)⟩ (by first | omega | (dsimp only; omega)) (.c rfl (.base 25 rfl rfl)) inferInstance
  · have _t0 := True.intro
    refine XK.exit rfl ?_
    refine XK.seq ?_
    refine XK.region rfl ?_
    refine XO.q (Q.assign rfl) ?_
    refine XO.done ?_
    refine XK.rt [] Tryz.func93 Tryz.results93 (.t rfl .n) ?_
    exact ⟨by rw [findFirst_none ht (by omega)], rfl⟩
theorem containsTabs (v : Value) (h : PHeap) (us : List Value) [s : Arr v encV 1 h us] (gid : FuncId) (cap : List Value) (Hr : List PHeap) (p : Nat → Bool)
    (hc : ∀ args w, (callFunc gid args).run Tryz.prog w = .ok (.enter gid args) w) (hS : ∀ i, i < us.length → Spec Tryz.prog gid (us.getD i default :: cap).toArray [] Hr (fun v hs => v = .bool (p i) ∧ hs = [])) :
    Spec Tryz.prog 67 #[v, .func (.func gid) #[] cap.toArray] [] (h :: Hr) (fun v hs => v = .bool (anyTo p us.length) ∧ hs = []) := by
  refine Spec.intro (fn := Tryz.f67) (N := 9) Tryz.func67 rfl Tryz.ntmps67 rfl fun B => ?_
  refine XK.seq ?_
  refine XK.region rfl ?_
  refine XO.q (Q.assign rfl) ?_
  refine XO.done ?_
  refine XK.seq ?_
  refine XK.region rfl ?_
  refine XO.q (Q.move rfl) ?_
  refine XO.q (Q.move rfl) ?_
  refine XO.call Tryz.call93 rfl rfl rfl (indexTabs v h us gid cap Hr p hc hS) fun v7 s7 R7 => ?_
  obtain ⟨rfl, rfl⟩ := R7
  dsimp only [List.cons_append, List.nil_append]
  refine XO.q (Q.geq rfl rfl) ?_
  refine XO.q (Q.assign rfl) ?_
  refine XO.done ?_
  refine XK.rt [] Tryz.func67 Tryz.results67 (.t rfl .n) ?_
  exact ⟨by rw [← show decide ((0 : Int) ≤ findFirst p (List.range us.length)) = anyTo p us.length from findFirst_any], rfl⟩
theorem allTo_all {p : Nat → Bool} {n : Nat} (h : ∀ i, i < n → p i = true) : allTo p n = true := List.all_eq_true.2 fun i hi => h i (List.mem_range.1 hi)
theorem verify_each (d : KDay) (vh vj : Value) (hh hj : PHeap) [ih : Arr vh encHour 6 hh d.hours] [ij : Arr vj encJob 4 hj d.jobs] (p : KPlan) (vs vc : Value) (hs_ hc : PHeap) [js : Arr vs encI 1 hs_ p.starts] [jc : Arr vc encI 1 hc p.charge] (ok : DayOk d) {us : List Value} {K KP : PHeap} {proof : List (List Int)} (t : TabsK d vh vj us K KP proof) (hl : ∀ i, i < us.length → ((proof.getD i default).length : Int) = sizeK d) (b3 b4 : Nat) (i : Nat) (hi : i < us.length) :
    Spec Tryz.prog 68 #[us.getD i default, ptr b3 0, ptr b4 0] [] [K, KP, hh, blk b3 [vh, .int .i64 d.store.energy, .int .i64 d.store.full, .int .i64 d.store.power, .int .i64 d.store.fin, vj, .int .i64 d.most, .int .i64 d.peak] 27, blk b4 [vs, vc, .int .i64 p.cost] 34] (fun v hs => v = .bool ((fun i => badTab d p (proof.getD i default) ((startsL d).getD i default)) i) ∧ hs = []) := by
  obtain ⟨b, vb, vv, e, l, a, c⟩ := t.at' i hi
  rw [e]
  refine Spec.part (verify1_spec d vh vj hh hj p vs vc hs_ hc vb vv K KP _ (proof.getD i default) ((startsL d).getD i default) ok rfl (hl i hi) b b3 b4) fun x hx => ?_
  simp only [List.mem_cons, List.not_mem_nil, or_false] at hx
  rcases hx with rfl | rfl | rfl | rfl | rfl | rfl
  · exact .inr ⟨rfl, K, by simp, l⟩
  · exact .inl (by simp)
  · exact .inl (by simp)
  · exact .inl (by simp)
  · exact .inl (by simp)
  · exact .inl (by simp)
set_option maxHeartbeats 2000000 in
theorem Verify_spec (d : KDay) (vh vj : Value) (hh hj : PHeap) [ih : Arr vh encHour 6 hh d.hours] [ij : Arr vj encJob 4 hj d.jobs] (p : KPlan) (vs vc : Value) (hs_ hc : PHeap) [js : Arr vs encI 1 hs_ p.starts] [jc : Arr vc encI 1 hc p.charge] (vp : Value) (hp KP : PHeap) (pus : List Value) (proof : List (List Int)) [jp : Arr vp encV 1 hp pus] (rp : RowsK pus KP proof) : Spec Tryz.prog 26 #[.agg #[vh, .int .i64 d.store.energy, .int .i64 d.store.full, .int .i64 d.store.power, .int .i64 d.store.fin, vj, .int .i64 d.most, .int .i64 d.peak], .agg #[vs, vc, .int .i64 p.cost], vp] [] [hh, hj, hs_, hc, hp, KP] (fun v hs => v = .int .i64 (verifyG d p proof) ∧ hs = []) := by
  have lh := ih.le
  have lp := jp.le
  have rpl := rp.1
  have nV : OArr (.slice none 0 0) encV 1 120 emp ([] : List Value) := OArr.nil (fun _ => rfl)
  refine Spec.intro (fn := Tryz.f26) (N := 77) Tryz.func26 rfl Tryz.ntmps26 rfl fun B => ?_
  refine XK.seq ?_
  refine XK.region rfl ?_
  refine XO.box rfl fun b3 => ?_
  refine XO.box rfl fun b4 => ?_
  refine XO.q (Q.assign rfl) ?_
  refine XO.done ?_
  refine XK.seq ?_
  refine XK.region rfl ?_
  refine XO.q (Q.ldA [_, _, _, _, _, _, _, _] rfl rfl rfl) ?_
  refine XO.q (Q.ldA [_, _, _] rfl rfl rfl) ?_
  refine XO.call Tryz.call51 rfl rfl rfl (form_spec d vh vj hh hj p vs vc hs_ hc) fun v17 s17 R17 => ?_
  obtain ⟨v1, k1, rfl, rfl, O1⟩ := R17
  dsimp only [List.cons_append, List.nil_append]
  refine XO.q (Q.move rfl) ?_
  refine XO.q (Q.extract rfl rfl) ?_
  refine XO.q (Q.extract rfl rfl) ?_
  refine XO.q (Q.assign rfl) ?_
  refine XO.q (Q.assign rfl) ?_
  refine XO.done ?_
  refine XK.seq ?_
  refine XK.seq ?_
  refine XK.region rfl ?_
  refine XO.q (Q.move rfl) ?_
  refine XO.q (Q.neq rfl rfl) ?_
  refine XO.done ?_
  refine XK.if rfl (fun c0 => ?_) (fun c0 => ?_)
  · have _t0 := True.intro
    refine XK.seq ?_
    refine XK.region rfl ?_
    refine XO.q (Q.move rfl) ?_
    refine XO.q (Q.assign rfl) ?_
    refine XO.done ?_
    refine XK.rt [] Tryz.func26 Tryz.results26 (.t rfl .n) ?_
    exact ⟨by rw [verifyG, if_pos c0], rfl⟩
  · have _t0 := True.intro
    have e0 := Decidable.of_not_not c0
    have ff := form_fine e0
    have h24 := ff.1.h2
    have pr0 := prod_rng ff.1.h2 ff.1.j2 ff.1.job d.jobs.length (Nat.le_refl _)
    have few := ff.1.few
    have sl := starts_len ff.1.job d.jobs.length (Nat.le_refl _)
    have sll : (startsL d).length ≤ 8 := by unfold startsL; omega
    refine XK.skip ?_
    refine XK.seq ?_
    refine XK.region rfl ?_
    refine XO.q (Q.ldA [_, _, _, _, _, _, _, _] rfl rfl rfl) ?_
    refine XO.call Tryz.call48 rfl rfl rfl (starts_spec d vh vj hh hj ff.1) fun v24 s24 R24 => ?_
    obtain ⟨ho, us0, K0, rfl, OO, RO⟩ := R24
    dsimp only [List.cons_append, List.nil_append]
    have RL := RO.1
    refine XO.q (Q.assign rfl) ?_
    refine XO.done ?_
    refine XK.seq ?_
    refine XK.seq ?_
    refine XK.region rfl ?_
    refine XO.q (Q.move rfl) ?_
    refine XO.len rfl fun l26 => ?_
    refine XO.q (Q.move rfl) ?_
    refine XO.len rfl fun l28 => ?_
    refine XO.q (Q.neq rfl rfl) ?_
    refine XO.done ?_
    refine XK.if rfl (fun c1 => ?_) (fun c1 => ?_)
    · have _t1 := True.intro
      refine XK.seq ?_
      refine XK.region rfl ?_
      refine XO.q (Q.assign rfl) ?_
      refine XO.done ?_
      refine XK.rt [] Tryz.func26 Tryz.results26 (.t rfl .n) ?_
      exact ⟨by rw [verifyG, if_neg c0, if_pos (by omega)], rfl⟩
    · have _t1 := True.intro
      have c1a : proof.length = (startsL d).length := by omega
      refine XK.skip ?_
      refine XK.seq ?_
      refine XK.region rfl ?_
      refine XO.q (Q.assign rfl) ?_
      refine XO.done ?_
      refine XK.seq ?_
      refine XK.seq ?_
      refine XK.region rfl ?_
      refine XO.q (Q.move rfl) ?_
      refine XO.len rfl fun l31 => ?_
      refine XO.q (Q.move rfl) ?_
      refine XO.done ?_
      refine XK.block ?_
      refine XK.while (X := Nat × Value × PHeap × List Value × PHeap) [6, 10, 11, 12, 13, 32, 33, 34, 35, 36, 37, 38, 39, 40, 41, 42, 43, 44, 45, 46, 47, 48, 49, 50, 51, 52, 53, 54, 55, 56, 57, 58, 59, 60, 61, 62, 63] (fun ⟨i, va, ka, us, K⟩ => [(10, some (va)), (32, some (.int .i64 (i : Nat)))]) (fun ⟨i, va, ka, us, K⟩ => [ka, K]) (fun ⟨i, va, ka, us, K⟩ => i ≤ (startsL d).length ∧ OArr va encV 1 120 ka us ∧ us.length = i ∧ TabsK d vh vj us K KP proof ∧ (∀ j, j < i → ((proof.getD j default).length : Int) = sizeK d)) (fun ⟨i, va, ka, us, K⟩ => (startsL d).length - i) (0, .slice none 0 0, emp, [], emp) [emp, emp] rfl ⟨by omega, nV, rfl, TabsK.nil, fun j hj => by omega⟩ (.c rfl (.c rfl (.base 0 rfl rfl))) ?_
      rintro ⟨i, va, ka, us, K⟩ ⟨hi, OA, ul, TK, hl⟩ ih0
      dsimp only [List.cons_append, List.nil_append] at ih0 ⊢
      refine XK.seq ?_
      refine XK.region rfl ?_
      refine XO.q (Q.lss rfl rfl) ?_
      refine XO.done ?_
      refine XK.seq ?_
      refine XK.if rfl (fun c2 => ?_) (fun c2 => ?_)
      · have _t2 := True.intro
        have ar := RO.2 i (by omega)
        have pr := rp.2 i (by omega)
        have prl := pr.le
        refine XK.skip ?_
        refine XK.seq ?_
        refine XK.block ?_
        refine XK.seq ?_
        refine XK.region rfl ?_
        refine XO.q (Q.move rfl) ?_
        refine XO.ix rfl rfl (by omega) (by omega) fun i35 => ?_
        refine XO.q (Q.ldE rfl (by first | assumption | omega) rfl) ?_
        refine XO.q (Q.assign rfl) ?_
        refine XO.q (Q.assign rfl) ?_
        refine XO.done ?_
        refine XK.seq ?_
        refine XK.drawn [0, 1, 2, 4, 5, 6, 7, 8, 10] [b3] [] (.q 0 (.q 1 (.q 2 (.q 4 (.q 5 (.q 6 (.q 7 (.br 3 true (.q 8 (.br 9 true (.q 10 .done) .stop)) .stop)))))))) Tryz.mixed rfl (by kernel_rfl) ?_
        refine XT.q rfl rfl (Q.ldA [_, _, _, _, _, _, _, _] rfl rfl rfl) ?_
        refine XT.q rfl rfl (Q.ldA [_, _, _, _, _, _, _, _] rfl rfl rfl) ?_
        refine XT.q rfl rfl (Q.move rfl) ?_
        refine XT.q rfl rfl (Q.move rfl) ?_
        refine XT.q rfl rfl (Q.move rfl) ?_
        refine XT.ix rfl rfl rfl rfl (by omega) (by omega) fun i43 => ?_
        refine XT.q rfl rfl (Q.ldE rfl (by first | assumption | omega) rfl) ?_
        refine XT.call rfl rfl Tryz.call66 rfl rfl rfl (needs_spec d vh vj hh hj ((startsL d).getD i default) (us0.getD i default) K0 ff.1 (starts_ok (getD_memK (by omega)))) (fun v40 s40 R40 => ?_) XT.stop
        obtain ⟨k40, rfl, O40⟩ := R40
        dsimp only [List.cons_append, List.nil_append]
        refine ⟨inferInstance, ?_⟩
        refine XT.q rfl rfl (Q.build [_, _, _, _, _, _, _, _, _, _] (.c 0 8 rfl rfl rfl (.c 8 1 rfl rfl rfl (.c 9 1 rfl rfl rfl (.n _))))) ?_
        refine XT.box rfl rfl rfl (fun b46 => ⟨inferInstance, ?_⟩) XT.stop
        refine XT.q rfl rfl (Q.assign rfl) ?_
        refine XT.done ?_
        refine XK.seq ?_
        refine XK.seq ?_
        refine XK.drawn [0, 1, 2, 3, 4, 5, 6, 7, 8, 9, 11] [b3, b46] [] (.q 0 (.q 1 (.q 2 (.q 3 (.q 4 (.q 5 (.q 6 (.q 7 (.q 8 (.q 9 (.br 10 true (.q 11 .done) .stop))))))))))) Tryz.mixed rfl (by kernel_rfl) ?_
        refine XT.q rfl rfl (Q.move rfl) ?_
        refine XT.q rfl rfl (Q.move rfl) ?_
        refine XT.ix rfl rfl rfl rfl (by omega) (by omega) fun i49 => ?_
        refine XT.q rfl rfl (Q.ldE rfl (by first | assumption | omega) rfl) ?_
        refine XT.q rfl rfl (Q.len rfl) ?_
        refine XT.q rfl rfl (Q.move rfl) ?_
        refine XT.q rfl rfl (Q.fieldAddr rfl) ?_
        refine XT.q rfl rfl (Q.ld rfl rfl) ?_
        refine XT.q rfl rfl (Q.len rfl) ?_
        refine XT.q rfl rfl (Q.add rfl rfl ⟨by omega, by omega⟩) ?_
        refine XT.call rfl rfl Tryz.call60 rfl rfl rfl (at_spec d vh vj v40 (pus.getD i default) ff.1 b46 ((d.hours.length : Int) + 1) 0 0 (by omega) (by omega) (by omega)) (fun v57 s57 R57 => ?_) XT.stop
        obtain ⟨rfl, rfl⟩ := R57
        dsimp only [List.cons_append, List.nil_append]
        refine ⟨inferInstance, ?_⟩
        refine XT.q rfl rfl (Q.neq rfl rfl) ?_
        refine XT.done ?_
        refine XK.if rfl (fun c3 => ?_) (fun c3 => ?_)
        · have _t3 := True.intro
          refine XK.seq ?_
          refine XK.region rfl ?_
          refine XO.q (Q.assign rfl) ?_
          refine XO.done ?_
          refine XK.rt [] Tryz.func26 Tryz.results26 (.t rfl .n) ?_
          exact ⟨by rw [verifyG, if_neg c0, if_neg (by omega), if_pos (by rw [allTo_false (s := i) (by omega) (decide_eq_false c3)]; decide)], rfl⟩
        · have _t3 := True.intro
          have c3a : ((proof.getD i default).length : Int) = sizeK d := Decidable.of_not_not c3
          refine XK.skip ?_
          refine XK.region rfl ?_
          refine XO.q (Q.move rfl) ?_
          refine XO.q (Q.move rfl) ?_
          refine XO.lit [_] [_] [ptr b46 0] encV (by rfl) (by rfl) rfl (by rfl) (by exact .c 0 1 rfl rfl rfl (.n _)) (fun _ => rfl) (by rfl) rfl (by infer_instance) rfl fun v61 h61 O61 => ?_
          refine XO.append rfl rfl rfl rfl (by simp only [List.length_cons, List.length_nil]; omega) fun v62 h62 O62 => ?_
          refine XO.q (Q.assign rfl) ?_
          refine XO.done ?_
          refine XK.inBlock ?_
          refine XK.region rfl ?_
          refine XO.q (Q.add rfl rfl ⟨by omega, by omega⟩) ?_
          refine XO.q (Q.move rfl) ?_
          refine XO.done ?_
          refine XK.cat K (blk b46 [vh, .int .i64 d.store.energy, .int .i64 d.store.full, .int .i64 d.store.power, .int .i64 d.store.fin, vj, .int .i64 d.most, .int .i64 d.peak, v40, pus.getD i default] 123) fun l1 l2 => ?_
          refine XK.cat (cat K (blk b46 [vh, .int .i64 d.store.energy, .int .i64 d.store.full, .int .i64 d.store.power, .int .i64 d.store.fin, vj, .int .i64 d.most, .int .i64 d.peak, v40, pus.getD i default] 123)) k40 fun l3 l4 => ?_
          exact ih0 (i + 1, v62, h62, us ++ [ptr b46 0], cat (cat K (blk b46 [vh, .int .i64 d.store.energy, .int .i64 d.store.full, .int .i64 d.store.power, .int .i64 d.store.fin, vj, .int .i64 d.most, .int .i64 d.peak, v40, pus.getD i default] 123)) k40) _ _ ⟨by dsimp only; omega, O62, by dsimp only; rw [List.length_append, ul]; rfl, (TK.mono (l1.trans l3)).snoc (l2.trans l3) (by rw [ul]; exact Arr.le_heap (OArr.arr (s := O40)) l4) (by rw [ul]; exact pr), fun j hj => by
            by_cases h2 : j < i
            · exact hl j h2
            · obtain rfl : j = i := by omega
              exact c3a⟩ (by first | omega | (dsimp only; omega)) (.c rfl (.c rfl (.base 75 rfl rfl))) inferInstance
      · have _t2 := True.intro
        have hin : i = (startsL d).length := by omega
        subst hin
        refine XK.exit rfl ?_
        refine XK.seq ?_
        refine XK.seq ?_
        refine XK.drawn [0, 1, 2, 3, 5, 6, 7, 8, 9, 10, 12] [b3, b4] [k1, K] (.q 0 (.q 1 (.q 2 (.q 3 (.q 5 (.q 6 (.br 4 true (.q 7 (.q 8 (.q 9 (.q 10 (.br 11 true (.q 12 .done) .stop))))) .stop))))))) Tryz.mixed rfl (by kernel_rfl) ?_
        refine XT.q rfl rfl (Q.ldA [_, _, _, _, _, _, _, _] rfl rfl rfl) ?_
        refine XT.q rfl rfl (Q.move rfl) ?_
        refine XT.q rfl rfl (Q.fieldAddr rfl) ?_
        refine XT.q rfl rfl (Q.ld rfl rfl) ?_
        refine XT.q rfl rfl (Q.fieldAddr rfl) ?_
        refine XT.q rfl rfl (Q.ld rfl rfl) ?_
        refine XT.call rfl rfl Tryz.call52 rfl rfl rfl (cost_spec d vh vj hh hj (formG d p).1 v1 k1 p.charge vc hc ff.1 ff.2.2.2.1 (by rw [ff.2.2.2.2.2.2]; exact needsL_len d _) (fun i hi => (form_rng e0 i hi).2)) (fun v68 s68 R68 => ?_) XT.stop
        obtain ⟨rfl, rfl⟩ := R68
        dsimp only [List.cons_append, List.nil_append]
        refine ⟨inferInstance, ?_⟩
        refine XT.q rfl rfl (Q.neq rfl rfl) ?_
        refine XT.q rfl rfl (Q.move rfl) ?_
        refine XT.q rfl rfl (Quiet.guardF rfl rfl fun g73 p73 => Q.move rfl) ?_
        refine XT.q rfl rfl (Quiet.guardF rfl rfl fun g74 p74 => Q.func (fun _ he => rfl) (fun _ he => evs_rel he rfl)) ?_
        refine XT.gcallF rfl rfl rfl rfl Tryz.call67 rfl (fun g75 => .c (lzv g75 rfl) (.c (lzv g75 rfl) .n)) rfl (fun g75 p75 => containsTabs va ka us 68 [ptr b3 0, ptr b4 0] [K, KP, hh, blk b3 [vh, .int .i64 d.store.energy, .int .i64 d.store.full, .int .i64 d.store.power, .int .i64 d.store.fin, vj, .int .i64 d.most, .int .i64 d.peak] 27, blk b4 [vs, vc, .int .i64 p.cost] 34] (fun i => badTab d p (proof.getD i default) ((startsL d).getD i default)) Tryz.call68 (fun i hi => verify_each d vh vj hh hj p vs vc hs_ hc ff.1 TK (fun j hj => hl j (by omega)) b3 b4 i hi)) ⟨inferInstance, ?_⟩ XT.stop
        refine XT.q rfl rfl (Q.or rfl (fun hp => lzv hp rfl)) ?_
        refine XT.done ?_
        refine XK.if rfl (fun c4 => ?_) (fun c4 => ?_)
        · have _t4 := True.intro
          refine XK.seq ?_
          refine XK.region rfl ?_
          refine XO.q (Q.assign rfl) ?_
          refine XO.done ?_
          refine XK.rt [] Tryz.func26 Tryz.results26 (.t rfl .n) ?_
          have ha : allTo (fun i => decide (((proof.getD i default).length : Int) = sizeK d)) (startsL d).length = true := allTo_all fun i hi => decide_eq_true (hl i (by omega))
          rw [ul] at c4
          exact ⟨by rw [verifyG, if_neg c0, if_neg (by omega), if_neg (fun h => h ha), if_pos c4], rfl⟩
        · have _t4 := True.intro
          refine XK.skip ?_
          refine XK.seq ?_
          refine XK.region rfl ?_
          refine XO.q (Q.assign rfl) ?_
          refine XO.done ?_
          refine XK.rt [] Tryz.func26 Tryz.results26 (.t rfl .n) ?_
          have ha : allTo (fun i => decide (((proof.getD i default).length : Int) = sizeK d)) (startsL d).length = true := allTo_all fun i hi => decide_eq_true (hl i (by omega))
          rw [ul] at c4
          exact ⟨by rw [verifyG, if_neg c0, if_neg (by omega), if_neg (fun h => h ha), if_neg c4], rfl⟩
end Go.X

set_option linter.unusedSimpArgs false
set_option linter.unusedVariables false
set_option maxRecDepth 20000
namespace Go.X
open Go.Proofs
set_option maxHeartbeats 2000000 in
theorem begin_spec (o : KOffer) (ok : OfferOk 24 o) (b2 b3 b4 : Nat) (c : Nat) : ∀ (l : List Int) (v : Value) (hl : PHeap) [_ow : One v] [_al : Arr v encI 1 hl l] (frm : Int) (hf : 0 ≤ frm ∧ frm ≤ 100) (hc : (l.length : Int) + (c : Int) = o.calls) (out : LLI) (hout : out.length ≤ 4096) (vo : Value) (ho K : PHeap) (us : List Value) [_oo : OArr vo encV 1 32 ho us] (ru : RowsK us K out),
    Spec Tryz.prog 103 #[v, .int .i64 frm, ptr b2 0, ptr b3 0, ptr b4 0] [blk b2 [vo] 39, ho, K, hl] [blk b3 [.int .i64 o.beg, .int .i64 o.fin, .int .i64 o.power, .int .i64 o.hours, .int .i64 o.calls, .int .i64 o.pause] 38, blk b4 [.func (.func 103) #[] #[ptr b2 0, ptr b3 0, ptr b4 0]] 161]
      (fun w hs => ∃ vo2 ho2 us2 K2, w = .bool (beginP o c l frm out).1 ∧ hs = [blk b2 [vo2] 39, ho2, K2] ∧ OArr vo2 encV 1 32 ho2 us2 ∧ RowsK us2 K2 (beginP o c l frm out).2 ∧ leH K K2) := by
  induction c using Nat.strongRecOn with
  | ind c IH =>
  intro l v hl _ow _al frm hf hc out hout vo ho K us _oo ru
  have lo := (OArr.arr (s := _oo)).le
  have ll := _al.le
  have rl := ru.1
  have o1 := ok.b0
  have o2 := ok.bf
  have o3 := ok.fn
  have o4 := ok.h0
  have o5 := ok.q0
  have o6 := ok.q1
  have o7 := ok.c1
  have o8 := ok.c0
  refine Spec.intro (fn := Tryz.f103) (N := 52) Tryz.func103 rfl Tryz.ntmps103 rfl fun B => ?_
  refine XK.seq ?_
  refine XK.region rfl ?_
  refine XO.q (Q.assign rfl) ?_
  refine XO.done ?_
  refine XK.seq ?_
  refine XK.seq ?_
  refine XK.region rfl ?_
  refine XO.q (Q.ld rfl rfl) ?_
  refine XO.len rfl fun l10 => ?_
  refine XO.q (Q.eql rfl rfl) ?_
  refine XO.done ?_
  refine XK.if rfl (fun c0 => ?_) (fun c0 => ?_)
  · have _t0 := True.intro
    refine XK.seq ?_
    refine XK.region rfl ?_
    refine XO.q (Q.assign rfl) ?_
    refine XO.done ?_
    refine XK.rt [blk b2 [vo] 39, ho, K] Tryz.func103 Tryz.results103 (.t rfl .n) ?_
    have e : beginP o c l frm out = (false, out) := by cases c <;> rw [beginP, if_pos (by omega)]
    rw [e]
    exact ⟨vo, ho, us, K, rfl, rfl, inferInstance, ru, leH.refl K⟩
  · have _t0 := True.intro
    have hne : out.length ≠ 4096 := by omega
    refine XK.skip ?_
    refine XK.seq ?_
    refine XK.region rfl ?_
    refine XO.q (Q.ld rfl rfl) ?_
    refine XO.q (Q.move rfl) ?_
    refine XO.lit [_] [_] [v] encV (by rfl) (by rfl) rfl (by rfl) (by exact .c 0 1 rfl rfl rfl (.n _)) (fun _ => rfl) (by rfl) rfl (by infer_instance) rfl fun v14 h14 O14 => ?_
    refine XO.append rfl rfl rfl rfl (by first | omega | (simp; omega)) fun v15 h15 O15 => ?_
    refine XO.st rfl rfl rfl ?_
    refine XO.done ?_
    refine XK.seq ?_
    refine XK.seq ?_
    refine XK.region rfl ?_
    refine XO.q (Q.move rfl) ?_
    refine XO.len rfl fun l17 => ?_
    refine XO.q (Q.fieldAddr rfl) ?_
    refine XO.q (Q.ld rfl rfl) ?_
    refine XO.q (Q.eql rfl rfl) ?_
    refine XO.done ?_
    refine XK.if rfl (fun c1 => ?_) (fun c1 => ?_)
    · have _t1 := True.intro
      have hc0 : c = 0 := by omega
      subst hc0
      refine XK.cat K hl fun l1 l2 => ?_
      refine XK.seq ?_
      refine XK.region rfl ?_
      refine XO.q (Q.assign rfl) ?_
      refine XO.done ?_
      refine XK.rt [blk b2 [v15] 39, h15, cat K hl] Tryz.func103 Tryz.results103 (.t rfl .n) ?_
      rw [beginP, if_neg hne]
      exact ⟨v15, h15, us ++ [v], cat K hl, rfl, rfl, O15, (ru.mono l1).snoc (_al.le_heap l2), l1⟩
    · have _t1 := True.intro
      refine XK.cat K hl fun l1 l2 => ?_
      obtain ⟨c', rfl⟩ : ∃ c', c = c' + 1 := ⟨c - 1, by omega⟩
      refine XK.skip ?_
      refine XK.seq ?_
      refine XK.seq ?_
      refine XK.region rfl ?_
      refine XO.q (Q.move rfl) ?_
      refine XO.q (Q.assign rfl) ?_
      refine XO.done ?_
      refine XK.block ?_
      refine XK.while (X := Nat × Int × Value × PHeap × List Value × PHeap) [7, 8, 22, 23, 24, 25, 26, 27, 28, 29, 30, 31, 32, 33, 34, 35, 36, 37, 38, 39, 40, 41, 42, 43, 44, 45, 46, 47, 48, 49, 50, 51] (fun ⟨j, t, vo1, ho1, us1, K2⟩ => [(8, some (.int .i64 t))]) (fun ⟨j, t, vo1, ho1, us1, K2⟩ => [blk b2 [vo1] 39, ho1, K2]) (fun ⟨j, t, vo1, ho1, us1, K2⟩ => j ≤ cntO o frm ∧ t = frm + ((j : Nat) : Int) ∧ OArr vo1 encV 1 32 ho1 us1 ∧ RowsK us1 K2 (itF (beginP o c') (o.hours + o.pause) l frm (out ++ [l]) (j)).2 ∧ (itF (beginP o c') (o.hours + o.pause) l frm (out ++ [l]) (j)).1 = true ∧ leH (cat K hl) K2) (fun ⟨j, t, vo1, ho1, us1, K2⟩ => cntO o frm - j) (0, frm, v15, h15, us ++ [v], cat K hl) [blk b2 [v15] 39, h15, cat K hl] rfl ⟨by omega, by (try dsimp only); omega, O15, (ru.mono l1).snoc (_al.le_heap l2), rfl, leH.refl _⟩ (.c rfl (.base 0 rfl rfl)) ?_
      rintro ⟨j, t, vo1, ho1, us1, K2⟩ ⟨hj, ht, O1, RU, hT, LK⟩ ih0
      dsimp only [List.cons_append, List.nil_append] at ih0 ⊢
      subst ht
      have a1 := _al.le_heap (l2.trans LK)
      have il : (itF (beginP o c') (o.hours + o.pause) l frm (out ++ [l]) (j)).2.length ≤ 4096 := itF_len (beginP_len o c') (by rw [List.length_append, List.length_singleton]; omega) j
      have ul1 := RU.1
      refine XK.seq ?_
      refine XK.seq ?_
      refine XK.region rfl ?_
      refine XO.q (Q.move rfl) ?_
      refine XO.q (Q.fieldAddr rfl) ?_
      refine XO.q (Q.ld rfl rfl) ?_
      refine XO.q (Q.lss rfl rfl) ?_
      refine XO.q (Q.move rfl) ?_
      refine XO.q (Quiet.guardT rfl rfl fun g27 p27 => Q.fieldAddr rfl) ?_
      refine XO.q (Quiet.guardT rfl rfl fun g28 p28 => Q.ld (lzv g28 rfl) rfl) ?_
      refine XO.q (Quiet.guardT rfl rfl fun g29 p29 => Q.fieldAddr rfl) ?_
      refine XO.q (Quiet.guardT rfl rfl fun g30 p30 => Q.ld (lzv g30 rfl) rfl) ?_
      refine XO.q (Quiet.guardT rfl rfl fun g31 p31 => Q.move rfl) ?_
      refine XO.q (Quiet.guardT rfl rfl fun g32 p32 => Q.sub (lzv g32 rfl) (lzv g32 rfl) ⟨by omega, by omega⟩) ?_
      refine XO.q (Quiet.guardT rfl rfl fun g33 p33 => Q.leq (lzv g33 rfl) (lzv g33 rfl)) ?_
      refine XO.q (Q.and rfl (fun hp => lzv hp rfl)) ?_
      refine XO.done ?_
      refine XK.if rfl (fun c2 => ?_) (fun c2 => ?_)
      · have _t2 := True.intro
        have hjc : j < cntO o frm := by unfold cntO; omega
        refine XK.skip ?_
        refine XK.seq ?_
        refine XK.block ?_
        refine XK.seq ?_
        refine XK.meet (X := Value × PHeap × List Value × PHeap) [37, 38, 39, 40, 41, 42, 43, 44, 45, 46, 47, 48, 49, 50, 51] (fun ⟨vo3, ho3, us3, K3⟩ => [(51, some (.bool (!(beginP o c' (l ++ [frm + (j : Int)]) (frm + (j : Int) + o.hours + o.pause) (itF (beginP o c') (o.hours + o.pause) l frm (out ++ [l]) (j)).2).1)))]) (fun ⟨vo3, ho3, us3, K3⟩ => [blk b2 [vo3] 39, ho3, K3]) (fun ⟨vo3, ho3, us3, K3⟩ => OArr vo3 encV 1 32 ho3 us3 ∧ RowsK us3 K3 (beginP o c' (l ++ [frm + (j : Int)]) (frm + (j : Int) + o.hours + o.pause) (itF (beginP o c') (o.hours + o.pause) l frm (out ++ [l]) (j)).2).2 ∧ leH K2 K3) [blk b2 [vo1] 39, ho1, K2] ?_ ?_
        · rintro ⟨vo3, ho3, us3, K3⟩ ⟨O3, R3, L3⟩
          dsimp only [List.cons_append, List.nil_append]
          have hstep : (itF (beginP o c') (o.hours + o.pause) l frm (out ++ [l]) (j + 1)) = (beginP o c' (l ++ [frm + (j : Int)]) (frm + (j : Int) + o.hours + o.pause) (itF (beginP o c') (o.hours + o.pause) l frm (out ++ [l]) (j)).2) := by rw [itF, if_pos hT, ← Int.add_assoc]
          refine XK.if rfl (fun c3 => ?_) (fun c3 => ?_)
          · have _t3 := True.intro
            have c3b := Bool.eq_false_iff.2 c3
            refine XK.seq ?_
            refine XK.region rfl ?_
            refine XO.q (Q.assign rfl) ?_
            refine XO.done ?_
            refine XK.rt [blk b2 [vo3] 39, ho3, K3] Tryz.func103 Tryz.results103 (.t rfl .n) ?_
            rw [beginP, if_neg hne, itF_false (j := j + 1) (by rw [hstep]; exact c3b) _ (by omega), hstep, c3b]
            exact ⟨vo3, ho3, us3, K3, rfl, rfl, O3, R3, (l1.trans LK).trans L3⟩
          · have _t3 := True.intro
            have c3b := Decidable.of_not_not c3
            refine XK.skip ?_
            refine XK.inBlock ?_
            refine XK.region rfl ?_
            refine XO.q (Q.move rfl) ?_
            refine XO.q (Q.add rfl rfl ⟨by omega, by omega⟩) ?_
            refine XO.q (Q.assign rfl) ?_
            refine XO.done ?_
            exact ih0 (j + 1, _, vo3, ho3, us3, K3) _ _ ⟨by dsimp only; omega, by (try dsimp only); omega, O3, by dsimp only; rw [hstep]; exact R3, by dsimp only; rw [hstep]; exact c3b, LK.trans L3⟩ (by first | omega | (dsimp only; omega)) (.c rfl (.base 65 rfl rfl)) inferInstance
        · intro mtr9
          dsimp only [List.cons_append, List.nil_append] at mtr9
          refine XK.drawn [0, 1, 3, 6, 7, 8, 9, 10, 11, 12, 14] [b3, b4] [] (.q 0 (.q 1 (.q 3 (.q 6 (.q 7 (.q 8 (.q 9 (.q 10 (.q 11 (.q 12 (.br 2 true (.br 4 true (.br 5 true (.br 13 true (.q 14 .done) .stop) .stop) .stop) (.br 4 true (.br 2 true (.br 5 true (.br 13 true (.q 14 .done) .stop) .stop) .stop) .stop)))))))))))) Tryz.mixed rfl (by kernel_rfl) ?_
          refine XT.q rfl rfl (Q.ld rfl rfl) ?_
          refine XT.q rfl rfl (Q.move rfl) ?_
          refine XT.q rfl rfl (Q.move rfl) ?_
          refine XT.q rfl rfl (Q.move rfl) ?_
          refine XT.q rfl rfl (Q.fieldAddr rfl) ?_
          refine XT.q rfl rfl (Q.ld rfl rfl) ?_
          refine XT.q rfl rfl (Q.add rfl rfl ⟨by omega, by omega⟩) ?_
          refine XT.q rfl rfl (Q.fieldAddr rfl) ?_
          refine XT.q rfl rfl (Q.ld rfl rfl) ?_
          refine XT.q rfl rfl (Q.add rfl rfl ⟨by omega, by omega⟩) ?_
          refine XT.call rfl rfl Tryz.call31 rfl rfl rfl (cloneI v K2 l (by omega)) (fun v39 s39 R39 => ?_) ?_
          · skip
            obtain ⟨k39, rfl, O39⟩ := R39
            dsimp only [List.cons_append, List.nil_append]
            refine ⟨inferInstance, ?_⟩
            refine XT.lit [_] [_] [frm + ((j : Nat) : Int)] encI rfl rfl (by rfl) (by rfl) rfl (by rfl) (by exact .c 0 1 rfl rfl rfl (.n _)) (fun _ => rfl) (by rfl) rfl (by infer_instance) rfl (fun v41 h41 O41 => ⟨inferInstance, ?_⟩) XT.stop
            refine XT.append rfl rfl rfl rfl rfl rfl (by first | omega | (simp; omega)) (fun v42 h42 O42 => ⟨inferInstance, ?_⟩) XT.stop
            refine XT.vcall rfl rfl rfl rfl (VSpec.fn (fst := []) (cap := [ptr b2 0, ptr b3 0, ptr b4 0]) Tryz.call103 rfl (IH c' (by omega) (l ++ [frm + (j : Int)]) v42 h42 (frm + (j : Int) + o.hours + o.pause) (by omega) (by rw [List.length_append, List.length_singleton]; omega) (itF (beginP o c') (o.hours + o.pause) l frm (out ++ [l]) (j)).2 (itF_len (beginP_len o c') (by rw [List.length_append, List.length_singleton]; omega) j) vo1 ho1 K2 us1 RU)) (fun v50 s50 R50 => ?_) XT.stop
            obtain ⟨vo3, ho3, us3, K3, rfl, rfl, O3, R3, L3⟩ := R50
            dsimp only [List.cons_append, List.nil_append]
            refine ⟨inferInstance, ?_⟩
            refine XT.q rfl rfl (Q.not rfl) ?_
            refine XT.done ?_
            exact mtr9 ((vo3, ho3, us3, K3)) _ _ ⟨O3, R3, L3⟩ (.c rfl (.base 15 rfl rfl)) inferInstance
          · skip
            refine XT.lit [_] [_] [frm + ((j : Nat) : Int)] encI rfl rfl (by rfl) (by rfl) rfl (by rfl) (by exact .c 0 1 rfl rfl rfl (.n _)) (fun _ => rfl) (by rfl) rfl (by infer_instance) rfl (fun v41 h41 O41 => ⟨inferInstance, ?_⟩) XT.stop
            refine XT.call rfl rfl Tryz.call31 rfl rfl rfl (cloneI v K2 l (by omega)) (fun v39 s39 R39 => ?_) XT.stop
            obtain ⟨k39, rfl, O39⟩ := R39
            dsimp only [List.cons_append, List.nil_append]
            refine ⟨inferInstance, ?_⟩
            refine XT.append rfl rfl rfl rfl rfl rfl (by first | omega | (simp; omega)) (fun v42 h42 O42 => ⟨inferInstance, ?_⟩) XT.stop
            refine XT.vcall rfl rfl rfl rfl (VSpec.fn (fst := []) (cap := [ptr b2 0, ptr b3 0, ptr b4 0]) Tryz.call103 rfl (IH c' (by omega) (l ++ [frm + (j : Int)]) v42 h42 (frm + (j : Int) + o.hours + o.pause) (by omega) (by rw [List.length_append, List.length_singleton]; omega) (itF (beginP o c') (o.hours + o.pause) l frm (out ++ [l]) (j)).2 (itF_len (beginP_len o c') (by rw [List.length_append, List.length_singleton]; omega) j) vo1 ho1 K2 us1 RU)) (fun v50 s50 R50 => ?_) XT.stop
            obtain ⟨vo3, ho3, us3, K3, rfl, rfl, O3, R3, L3⟩ := R50
            dsimp only [List.cons_append, List.nil_append]
            refine ⟨inferInstance, ?_⟩
            refine XT.q rfl rfl (Q.not rfl) ?_
            refine XT.done ?_
            exact mtr9 ((vo3, ho3, us3, K3)) _ _ ⟨O3, R3, L3⟩ (.c rfl (.base 15 rfl rfl)) inferInstance
      · have _t2 := True.intro
        have hjc : j = cntO o frm := by unfold cntO at hj ⊢; omega
        subst hjc
        refine XK.exit rfl ?_
        refine XK.seq ?_
        refine XK.region rfl ?_
        refine XO.q (Q.assign rfl) ?_
        refine XO.done ?_
        refine XK.rt [blk b2 [vo1] 39, ho1, K2] Tryz.func103 Tryz.results103 (.t rfl .n) ?_
        rw [beginP, if_neg hne, hT]
        exact ⟨vo1, ho1, us1, K2, rfl, rfl, O1, RU, l1.trans LK⟩
end Go.X

set_option linter.unusedSimpArgs false
set_option linter.unusedVariables false
set_option maxRecDepth 20000
namespace Go.X
open Go.Proofs
theorem mul64_one (n : Nat) (h : n ≤ 4294967295) : Spec Tryz.prog 106 #[.int .u64 1, .int .u64 (n : Nat)] [] [] (fun v hs => v = .tuple #[.int .u64 0, .int .u64 (n : Nat)] ∧ hs = []) := by
  have h1 : (1 : Int) % 4294967296 = 1 := by decide
  have h2 : (1 : Int) / 4294967296 = 0 := by decide
  have h3 : (n : Int) % 4294967296 = n := by omega
  have h4 : (n : Int) / 4294967296 = 0 := by omega
  have h5 : (0 : Int) % 4294967296 = 0 := by decide
  have h6 : (0 : Int) / 4294967296 = 0 := by decide
  refine Spec.intro (fn := Tryz.f106) (N := 51) Tryz.func106 rfl Tryz.ntmps106 rfl fun B => ?_
  refine XK.seq ?_
  refine XK.region rfl ?_
  refine XO.q (Q.assign rfl) ?_
  refine XO.q (Q.assign rfl) ?_
  refine XO.done ?_
  refine XK.seq ?_
  refine XK.region rfl ?_
  refine XO.q (Q.move rfl) ?_
  refine XO.q (Q.mask32 rfl rfl (by omega)) ?_
  rw [h1]
  refine XO.q (Q.assign rfl) ?_
  refine XO.done ?_
  refine XK.seq ?_
  refine XK.region rfl ?_
  refine XO.q (Q.move rfl) ?_
  refine XO.q (Q.shr32 rfl rfl) ?_
  rw [h2]
  refine XO.q (Q.assign rfl) ?_
  refine XO.done ?_
  refine XK.seq ?_
  refine XK.region rfl ?_
  refine XO.q (Q.move rfl) ?_
  refine XO.q (Q.mask32 rfl rfl (by omega)) ?_
  rw [h3]
  refine XO.q (Q.assign rfl) ?_
  refine XO.done ?_
  refine XK.seq ?_
  refine XK.region rfl ?_
  refine XO.q (Q.move rfl) ?_
  refine XO.q (Q.shr32 rfl rfl) ?_
  rw [h4]
  refine XO.q (Q.assign rfl) ?_
  refine XO.done ?_
  refine XK.seq ?_
  refine XK.region rfl ?_
  refine XO.q (Q.move rfl) ?_
  refine XO.q (Q.move rfl) ?_
  refine XO.q (Q.mulU rfl rfl (by omega)) ?_
  rw [Int.one_mul]
  refine XO.q (Q.assign rfl) ?_
  refine XO.done ?_
  refine XK.seq ?_
  refine XK.region rfl ?_
  refine XO.q (Q.move rfl) ?_
  refine XO.q (Q.move rfl) ?_
  refine XO.q (Q.mulU rfl rfl (by omega)) ?_
  rw [Int.zero_mul]
  refine XO.q (Q.move rfl) ?_
  refine XO.q (Q.shr32 rfl rfl) ?_
  rw [h4]
  refine XO.q (Q.addU rfl rfl (by omega)) ?_
  rw [Int.add_zero]
  refine XO.q (Q.assign rfl) ?_
  refine XO.done ?_
  refine XK.seq ?_
  refine XK.region rfl ?_
  refine XO.q (Q.move rfl) ?_
  refine XO.q (Q.mask32 rfl rfl (by omega)) ?_
  rw [h5]
  refine XO.q (Q.assign rfl) ?_
  refine XO.done ?_
  refine XK.seq ?_
  refine XK.region rfl ?_
  refine XO.q (Q.move rfl) ?_
  refine XO.q (Q.shr32 rfl rfl) ?_
  rw [h6]
  refine XO.q (Q.assign rfl) ?_
  refine XO.done ?_
  refine XK.seq ?_
  refine XK.region rfl ?_
  refine XO.q (Q.move rfl) ?_
  refine XO.q (Q.move rfl) ?_
  refine XO.q (Q.move rfl) ?_
  refine XO.q (Q.mulU rfl rfl (by omega)) ?_
  rw [Int.mul_zero]
  refine XO.q (Q.addU rfl rfl (by omega)) ?_
  rw [Int.add_zero]
  refine XO.q (Q.assign rfl) ?_
  refine XO.done ?_
  refine XK.seq ?_
  refine XK.region rfl ?_
  refine XO.q (Q.move rfl) ?_
  refine XO.q (Q.move rfl) ?_
  refine XO.q (Q.mulU rfl rfl (by omega)) ?_
  rw [Int.mul_zero]
  refine XO.q (Q.move rfl) ?_
  refine XO.q (Q.addU rfl rfl (by omega)) ?_
  rw [Int.add_zero]
  refine XO.q (Q.move rfl) ?_
  refine XO.q (Q.shr32 rfl rfl) ?_
  rw [h6]
  refine XO.q (Q.addU rfl rfl (by omega)) ?_
  rw [Int.add_zero]
  refine XO.q (Q.assign rfl) ?_
  refine XO.done ?_
  refine XK.seq ?_
  refine XK.region rfl ?_
  refine XO.q (Q.move rfl) ?_
  refine XO.q (Q.move rfl) ?_
  refine XO.q (Q.mulU rfl rfl (by omega)) ?_
  rw [Int.one_mul]
  refine XO.q (Q.assign rfl) ?_
  refine XO.done ?_
  refine XK.rt [] Tryz.func106 Tryz.results106 (.t rfl (.t rfl .n)) ?_
  exact ⟨rfl, rfl⟩
theorem mul_one' (n : Nat) (h : n ≤ 4294967295) : Spec Tryz.prog 104 #[.int .u64 1, .int .u64 (n : Nat)] [] [] (fun v hs => v = .tuple #[.int .u64 0, .int .u64 (n : Nat)] ∧ hs = []) := by
  refine Spec.intro (fn := Tryz.f104) (N := 30) Tryz.func104 rfl Tryz.ntmps104 rfl fun B => ?_
  refine XK.seq ?_
  refine XK.region rfl ?_
  refine XO.q (Q.assign rfl) ?_
  refine XO.q (Q.assign rfl) ?_
  refine XO.done ?_
  refine XK.seq ?_
  refine XK.if rfl (fun c0 => ?_) (fun c0 => ?_)
  · have _t0 := True.intro
    exact c0.elim
  · have _t0 := True.intro
    refine XK.skip ?_
    refine XK.seq ?_
    refine XK.region rfl ?_
    refine XO.q (Q.move rfl) ?_
    refine XO.q (Q.move rfl) ?_
    refine XO.call Tryz.call106 rfl rfl rfl (mul64_one n h) fun v25 s25 R25 => ?_
    obtain ⟨rfl, rfl⟩ := R25
    dsimp only [List.cons_append, List.nil_append]
    refine XO.q (Q.move rfl) ?_
    refine XO.q (Q.extract rfl rfl) ?_
    refine XO.q (Q.extract rfl rfl) ?_
    refine XO.q (Q.assign rfl) ?_
    refine XO.q (Q.assign rfl) ?_
    refine XO.done ?_
    refine XK.seq ?_
    refine XK.region rfl ?_
    refine XO.q (Q.move rfl) ?_
    refine XO.q (Q.move rfl) ?_
    refine XO.q (Q.assign rfl) ?_
    refine XO.q (Q.assign rfl) ?_
    refine XO.done ?_
    refine XK.rt [] Tryz.func104 Tryz.results104 (.t rfl (.t rfl .n)) ?_
    exact ⟨rfl, rfl⟩
theorem repeatI (v : Value) (h : PHeap) (x : Int) [s : Arr v encI 1 h [x]] (n : Nat) (hn : n ≤ 4294967295) : Spec Tryz.prog 99 #[v, .int .i64 (n : Nat)] [] [h] (fun v' hs => ∃ h', hs = [h'] ∧ OArr v' encI 1 3 h' (List.replicate n x)) := by
  have hw1 : IntKind.u64.wrap ((([x] : List Int).length : Nat) : Int) = 1 := rfl
  have hw2 : IntKind.u64.wrap ((n : Nat) : Int) = n := wrapu64 (by omega)
  have hw3 : IntKind.i64.wrap ((n : Nat) : Int) = n := wrap64_of ⟨by omega, by omega⟩
  have hl1 : ([x] : List Int).length = 1 := rfl
  refine Spec.intro (fn := Tryz.f99) (N := 48) Tryz.func99 rfl Tryz.ntmps99 rfl fun B => ?_
  refine XK.seq ?_
  refine XK.region rfl ?_
  refine XO.q (Q.assign rfl) ?_
  refine XO.done ?_
  refine XK.seq ?_
  refine XK.seq ?_
  refine XK.region rfl ?_
  refine XO.q (Q.move rfl) ?_
  refine XO.q (Q.lss rfl rfl) ?_
  refine XO.done ?_
  refine XK.if rfl (fun c0 => ?_) (fun c0 => ?_)
  · have _t0 := True.intro
    exact absurd c0 (by omega)
  · have _t0 := True.intro
    refine XK.skip ?_
    refine XK.seq ?_
    refine XK.region rfl ?_
    refine XO.q (Q.move rfl) ?_
    refine XO.len rfl fun l14 => ?_
    refine XO.q (Q.conv rfl) ?_
    rw [hw1]
    refine XO.q (Q.move rfl) ?_
    refine XO.q (Q.conv rfl) ?_
    rw [hw2]
    refine XO.call Tryz.call104 rfl rfl rfl (mul_one' n hn) fun v18 s18 R18 => ?_
    obtain ⟨rfl, rfl⟩ := R18
    dsimp only [List.cons_append, List.nil_append]
    refine XO.q (Q.move rfl) ?_
    refine XO.q (Q.extract rfl rfl) ?_
    refine XO.q (Q.extract rfl rfl) ?_
    refine XO.q (Q.assign rfl) ?_
    refine XO.q (Q.assign rfl) ?_
    refine XO.done ?_
    refine XK.seq ?_
    refine XK.seq ?_
    refine XK.region rfl ?_
    refine XO.q (Q.move rfl) ?_
    refine XO.q (Q.gtr rfl rfl) ?_
    refine XO.q (Q.move rfl) ?_
    refine XO.q (Quiet.guardF rfl rfl fun g24 p24 => Q.move rfl) ?_
    refine XO.q (Quiet.guardF rfl rfl fun g25 p25 => Q.gtr (lzv g25 rfl) rfl) ?_
    refine XO.q (Q.or rfl (fun hp => lzv hp rfl)) ?_
    refine XO.done ?_
    refine XK.if rfl (fun c1 => ?_) (fun c1 => ?_)
    · have _t1 := True.intro
      exact absurd c1 (by omega)
    · have _t1 := True.intro
      refine XK.skip ?_
      refine XK.seq ?_
      refine XK.region rfl ?_
      refine XO.q (Q.move rfl) ?_
      refine XO.q (Q.conv rfl) ?_
      rw [hw3]
      refine XO.make encI (0) rfl rfl rfl (by omega) (by omega) (fun _ => rfl) rfl rfl rfl (by dsimp only [encI]; infer_instance) fun v30 h30 O30 => ?_
      refine XO.q (Q.assign rfl) ?_
      refine XO.done ?_
      refine XK.seq ?_
      refine XK.region rfl ?_
      refine XO.q (Q.move rfl) ?_
      refine XO.q (Q.move rfl) ?_
      refine XO.copy rfl (tailv_zero (s := O30)).symm rfl (by omega) fun h33 O33 => ?_
      rw [show min ([x] : List Int).length ((List.replicate n (0 : Int)).length - 0) = min 1 n by simp]
      refine XO.q (Q.assign rfl) ?_
      refine XO.done ?_
      refine XK.seq ?_
      refine XK.block ?_
      refine XK.while (X := Nat × PHeap) [8, 34, 35, 36, 37, 38, 39, 40, 41, 42, 43, 44, 45, 46] (fun ⟨m, hM⟩ => [(8, some (.int .i64 (m : Nat)))]) (fun ⟨m, hM⟩ => [hM]) (fun ⟨m, hM⟩ => m ≤ n ∧ (0 < n → 0 < m) ∧ OArr v30 encI 1 3 hM (List.replicate m x ++ List.replicate (n - m) 0)) (fun ⟨m, hM⟩ => n - m) (min 1 n, h33) [h33] rfl ⟨by omega, by omega, by have := O33; rw [repeat_first] at this; exact this⟩ (.c rfl (.base 0 rfl rfl)) ?_
      rintro ⟨m, hM⟩ ⟨hm, hm0, OM⟩ ih0
      dsimp only [List.cons_append, List.nil_append] at ih0 ⊢
      have hlm : (List.replicate m x ++ List.replicate (n - m) 0).length = n := by rw [List.length_append, List.length_replicate, List.length_replicate]; omega
      have hmm : min (((List.replicate m x ++ List.replicate (n - m) (0 : Int)).drop 0).take (m - 0)).length ((List.replicate m x ++ List.replicate (n - m) (0 : Int)).length - m) = min m (n - m) := by
        rw [hlm, List.drop_zero, List.length_take, hlm]; omega
      refine XK.seq ?_
      refine XK.seq ?_
      refine XK.region rfl ?_
      refine XO.q (Q.move rfl) ?_
      refine XO.q (Q.move rfl) ?_
      refine XO.len rfl fun l36 => ?_
      refine XO.q (Q.lss rfl rfl) ?_
      refine XO.done ?_
      refine XK.if rfl (fun c2 => ?_) (fun c2 => ?_)
      · have _t2 := True.intro
        refine XK.skip ?_
        refine XK.block ?_
        refine XK.drawn [0, 1, 2, 3, 4, 5, 6, 8, 9] [] [] (.q 0 (.q 1 (.q 2 (.q 3 (.q 4 (.q 5 (.q 6 (.br 7 true (.q 8 (.q 9 .done)) .stop)))))))) Tryz.mixed rfl (by kernel_rfl) ?_
        refine XT.q rfl rfl (Q.move rfl) ?_
        refine XT.q rfl rfl (Q.move rfl) ?_
        refine XT.q rfl rfl (Q.move rfl) ?_
        refine XT.q rfl rfl (Q.tail (i := m) rfl (.s rfl (by omega)) (by omega)) ?_
        refine XT.q rfl rfl (Q.move rfl) ?_
        refine XT.q rfl rfl (Q.move rfl) ?_
        refine XT.q rfl rfl (Q.cut (i := 0) (j := m) rfl .n (.s rfl (by omega)) (by omega) (by omega)) ?_
        have A44 := Arr.cut (v := v30) (i := 0) (j := m) inferInstance (by omega) (by omega)
        refine XT.copy rfl rfl rfl rfl rfl (by omega) (fun h45 O45 => ⟨inferInstance, ?_⟩) XT.stop
        rw [hmm]
        refine XT.q rfl rfl (Q.add rfl rfl ⟨by omega, by omega⟩) ?_
        rw [show ((m : Int) + ((min m (n - m) : Nat) : Int)) = ((m + min m (n - m) : Nat) : Int) from rfl]
        refine XT.q rfl rfl (Q.assign rfl) ?_
        refine XT.done ?_
        refine XK.inBlock ?_
        exact ih0 (m + min m (n - m), h45) _ _ ⟨by omega, by omega, by have := O45; rw [repeat_step x 0 hm] at this; exact this⟩ (by first | omega | (dsimp only; omega)) (.c rfl (.base 29 rfl rfl)) inferInstance
      · have _t2 := True.intro
        refine XK.exit rfl ?_
        refine XK.seq ?_
        refine XK.region rfl ?_
        refine XO.q (Q.move rfl) ?_
        refine XO.q (Q.assign rfl) ?_
        refine XO.done ?_
        refine XK.rt [hM] Tryz.func99 Tryz.results99 (.t rfl .n) ?_
        have hmn : m = n := by omega
        subst hmn
        exact ⟨hM, rfl, by simpa using OM⟩
theorem oright_spec (o : KOffer) (n : Int) : Spec Tryz.prog 96 #[.agg #[.int .i64 o.beg, .int .i64 o.fin, .int .i64 o.power, .int .i64 o.hours, .int .i64 o.calls, .int .i64 o.pause], .int .i64 n] [] [] (fun v hs => v = .bool (offerR o n) ∧ hs = []) := by
  refine Spec.intro (fn := Tryz.f96) (N := 46) Tryz.func96 rfl Tryz.ntmps96 rfl fun B => ?_
  refine XK.seq ?_
  refine XK.region rfl ?_
  refine XO.box rfl fun b2 => ?_
  refine XO.q (Q.assign rfl) ?_
  refine XO.done ?_
  refine XK.seq ?_
  refine XK.region rfl ?_
  refine XO.q (Q.move rfl) ?_
  refine XO.q (Q.fieldAddr rfl) ?_
  refine XO.q (Q.ld rfl rfl) ?_
  refine XO.q (Q.fieldAddr rfl) ?_
  refine XO.q (Q.ld rfl rfl) ?_
  refine XO.lit [_, _] [_, _] [o.beg, o.fin] encI (by rfl) (by rfl) rfl (by rfl) (by exact .c 0 1 rfl rfl rfl (.c 1 1 rfl rfl rfl (.n _))) (fun _ => rfl) (by rfl) rfl (by infer_instance) rfl fun v10 h10 O10 => ?_
  refine XO.call Tryz.call46 rfl rfl rfl (kin_spec n v10 h10 [o.beg, o.fin]) fun v11 s11 R11 => ?_
  obtain ⟨rfl, rfl⟩ := R11
  dsimp only [List.cons_append, List.nil_append]
  refine XO.q (Q.move rfl) ?_
  refine XO.q (Quiet.guardT rfl rfl fun g13 p13 => Q.fieldAddr rfl) ?_
  refine XO.q (Quiet.guardT rfl rfl fun g14 p14 => Q.ld (lzv g14 rfl) rfl) ?_
  refine XO.q (Quiet.guardT rfl rfl fun g15 p15 => Q.fieldAddr rfl) ?_
  refine XO.q (Quiet.guardT rfl rfl fun g16 p16 => Q.ld (lzv g16 rfl) rfl) ?_
  refine XO.q (Quiet.guardT rfl rfl fun g17 p17 => Q.leq (lzv g17 rfl) (lzv g17 rfl)) ?_
  refine XO.q (Q.and rfl (fun hp => lzv hp rfl)) ?_
  refine XO.q (Q.move rfl) ?_
  refine XO.q (Quiet.guardT rfl rfl fun g20 p20 => Q.fieldAddr rfl) ?_
  refine XO.q (Quiet.guardT rfl rfl fun g21 p21 => Q.ld (lzv g21 rfl) rfl) ?_
  refine XO.q (Quiet.guardT rfl rfl fun g22 p22 => Q.geq (lzv g22 rfl) rfl) ?_
  refine XO.q (Q.and rfl (fun hp => lzv hp rfl)) ?_
  refine XO.q (Q.move rfl) ?_
  refine XO.q (Quiet.guardT rfl rfl fun g25 p25 => Q.fieldAddr rfl) ?_
  refine XO.q (Quiet.guardT rfl rfl fun g26 p26 => Q.ld (lzv g26 rfl) rfl) ?_
  refine XO.q (Quiet.guardT rfl rfl fun g27 p27 => Q.leq (lzv g27 rfl) rfl) ?_
  refine XO.q (Q.and rfl (fun hp => lzv hp rfl)) ?_
  refine XO.q (Q.move rfl) ?_
  refine XO.q (Quiet.guardT rfl rfl fun g30 p30 => Q.fieldAddr rfl) ?_
  refine XO.q (Quiet.guardT rfl rfl fun g31 p31 => Q.ld (lzv g31 rfl) rfl) ?_
  refine XO.q (Quiet.guardT rfl rfl fun g32 p32 => Q.geq (lzv g32 rfl) rfl) ?_
  refine XO.q (Q.and rfl (fun hp => lzv hp rfl)) ?_
  refine XO.q (Q.move rfl) ?_
  refine XO.q (Quiet.guardT rfl rfl fun g35 p35 => Q.fieldAddr rfl) ?_
  refine XO.q (Quiet.guardT rfl rfl fun g36 p36 => Q.ld (lzv g36 rfl) rfl) ?_
  refine XO.lit1 [_] [_] [o.calls] encI rfl rfl (by rfl) (by rfl) rfl (by rfl) (fun g37 => by exact .c 0 1 (lzv g37 rfl) rfl rfl (.n _)) (fun _ => rfl) (by rfl) rfl (fun _ => by infer_instance) rfl (fun v37 h37 O37 => ?_)
  refine XO.gcallT rfl rfl Tryz.call46 rfl (fun g38 => .c rfl (.c (lzv g38 rfl) .n)) rfl (fun g38 p38 => by haveI := O37 g38; exact kin_spec 4 v37 h37 [o.calls]) ?_
  refine XO.q (Q.and rfl (fun hp => lzv hp rfl)) ?_
  refine XO.q (Q.move rfl) ?_
  refine XO.q (Quiet.guardT rfl rfl fun g41 p41 => Q.fieldAddr rfl) ?_
  refine XO.q (Quiet.guardT rfl rfl fun g42 p42 => Q.ld (lzv g42 rfl) rfl) ?_
  refine XO.lit1 [_] [_] [o.pause] encI rfl rfl (by rfl) (by rfl) rfl (by rfl) (fun g43 => by exact .c 0 1 (lzv g43 rfl) rfl rfl (.n _)) (fun _ => rfl) (by rfl) rfl (fun _ => by infer_instance) rfl (fun v43 h43 O43 => ?_)
  refine XO.gcallT rfl rfl Tryz.call46 rfl (fun g44 => .c rfl (.c (lzv g44 rfl) .n)) rfl (fun g44 p44 => by haveI := O43 g44; exact kin_spec 24 v43 h43 [o.pause]) ?_
  refine XO.q (Q.and rfl (fun hp => lzv hp rfl)) ?_
  refine XO.q (Q.assign rfl) ?_
  refine XO.done ?_
  refine XK.rt [] Tryz.func96 Tryz.results96 (.t rfl .n) ?_
  exact ⟨rfl, rfl⟩
theorem patterns_spec (o : KOffer) (ok : OfferOk 24 o) : Spec Tryz.prog 97 #[.agg #[.int .i64 o.beg, .int .i64 o.fin, .int .i64 o.power, .int .i64 o.hours, .int .i64 o.calls, .int .i64 o.pause]] [] [] (fun v hs => ∃ ho us K, hs = [ho, K] ∧ OArr v encV 1 32 ho us ∧ RowsK us K (patternsG o)) := by
  have o1 := ok.b0
  have o2 := ok.bf
  have o3 := ok.fn
  have o7 := ok.c0
  have nV : OArr (.slice none 0 0) encV 1 32 emp ([] : List Value) := OArr.nil (fun _ => rfl)
  have nI : Arr (.slice none 0 0) encI 1 emp ([] : List Int) := OArr.arr (s := (OArr.nil (fun _ => rfl) : OArr (.slice none 0 0) encI 1 3 emp ([] : List Int)))
  refine Spec.intro (fn := Tryz.f97) (N := 12) Tryz.func97 rfl Tryz.ntmps97 rfl fun B => ?_
  refine XK.seq ?_
  refine XK.region rfl ?_
  refine XO.box rfl fun b1 => ?_
  refine XO.q (Q.assign rfl) ?_
  refine XO.done ?_
  refine XK.seq ?_
  refine XK.region rfl ?_
  refine XO.alloc fun b3 => ?_
  refine XO.done ?_
  refine XK.seq ?_
  refine XK.region rfl ?_
  refine XO.alloc fun b4 => ?_
  refine XO.done ?_
  refine XK.seq ?_
  refine XK.region rfl ?_
  refine XO.q (Q.func (fun _ he => rfl) (fun _ he => evs_rel he rfl)) ?_
  refine XO.st rfl rfl rfl ?_
  refine XO.done ?_
  refine XK.seq ?_
  refine XK.seq ?_
  refine XK.region rfl ?_
  refine XO.q (Q.ld rfl rfl) ?_
  refine XO.q (Q.fieldAddr rfl) ?_
  refine XO.q (Q.ld rfl rfl) ?_
  refine XO.drop (o' := [blk b3 [.slice none 0 0] 39, emp, emp, emp, blk b1 [.int .i64 o.beg, .int .i64 o.fin, .int .i64 o.power, .int .i64 o.hours, .int .i64 o.calls, .int .i64 o.pause] 38, blk b4 [.func (.func 103) #[] #[ptr b3 0, ptr b1 0, ptr b4 0]] 161]) ?_
  refine XO.vcall rfl rfl (VSpec.fn (fst := []) (cap := [ptr b3 0, ptr b1 0, ptr b4 0]) Tryz.call103 rfl (begin_spec o ok b3 b1 b4 o.calls.toNat [] (.slice none 0 0) emp o.beg (by omega) (by rw [List.length_nil]; omega) [] (Nat.zero_le _) (.slice none 0 0) emp emp [] RowsK.nil)) fun v9 s9 R9 => ?_
  obtain ⟨vo3, ho3, us3, K3, rfl, rfl, O3, R3, L3⟩ := R9
  dsimp only [List.cons_append, List.nil_append]
  refine XO.q (Q.not rfl) ?_
  refine XO.done ?_
  refine XK.if rfl (fun c0 => ?_) (fun c0 => ?_)
  · have _t0 := True.intro
    refine XK.seq ?_
    refine XK.region rfl ?_
    refine XO.q (Q.assign rfl) ?_
    refine XO.done ?_
    refine XK.rt [emp, emp] Tryz.func97 Tryz.results97 (.t rfl .n) ?_
    rw [patterns_no c0]
    exact ⟨emp, [], emp, rfl, nV, RowsK.nil⟩
  · have _t0 := True.intro
    have c0b := Decidable.of_not_not c0
    rw [patterns_yes c0b] at R3
    refine XK.skip ?_
    refine XK.seq ?_
    refine XK.region rfl ?_
    refine XO.q (Q.ld rfl rfl) ?_
    refine XO.q (Q.assign rfl) ?_
    refine XO.done ?_
    refine XK.rt [ho3, K3] Tryz.func97 Tryz.results97 (.t rfl .n) ?_
    exact ⟨ho3, us3, K3, rfl, O3, R3⟩
theorem offered_spec (d : KDay) (vh vj : Value) (hh hj : PHeap) [ih : Arr vh encHour 6 hh d.hours] [ij : Arr vj encJob 4 hj d.jobs] (o : KOffer) : Spec Tryz.prog 73 #[.agg #[vh, .int .i64 d.store.energy, .int .i64 d.store.full, .int .i64 d.store.power, .int .i64 d.store.fin, vj, .int .i64 d.most, .int .i64 d.peak], .agg #[.int .i64 o.beg, .int .i64 o.fin, .int .i64 o.power, .int .i64 o.hours, .int .i64 o.calls, .int .i64 o.pause]] [] [hh, hj] (fun v hs => ∃ vo ho us K, v = .tuple #[vo, .int .i64 (offeredG d o).2] ∧ hs = [ho, K] ∧ OArr vo encV 1 32 ho us ∧ RowsK us K (offeredG d o).1) := by
  have lh := ih.le
  have nV : OArr (.slice none 0 0) encV 1 32 emp ([] : List Value) := OArr.nil (fun _ => rfl)
  refine Spec.intro (fn := Tryz.f73) (N := 25) Tryz.func73 rfl Tryz.ntmps73 rfl fun B => ?_
  refine XK.seq ?_
  refine XK.region rfl ?_
  refine XO.box rfl fun b2 => ?_
  refine XO.box rfl fun b3 => ?_
  refine XO.q (Q.assign rfl) ?_
  refine XO.q (Q.assign rfl) ?_
  refine XO.done ?_
  refine XK.seq ?_
  refine XK.seq ?_
  refine XK.region rfl ?_
  refine XO.q (Q.ldA [_, _, _, _, _, _, _, _] rfl rfl rfl) ?_
  refine XO.call Tryz.call10 rfl rfl rfl (Check_spec d vh vj hh hj) fun v9 s9 R9 => ?_
  obtain ⟨rfl, rfl⟩ := R9
  dsimp only [List.cons_append, List.nil_append]
  refine XO.q (Q.assign rfl) ?_
  refine XO.done ?_
  refine XK.seq ?_
  refine XK.region rfl ?_
  refine XO.q (Q.move rfl) ?_
  refine XO.q (Q.neq rfl rfl) ?_
  refine XO.done ?_
  refine XK.if rfl (fun c0 => ?_) (fun c0 => ?_)
  · have _t0 := True.intro
    refine XK.seq ?_
    refine XK.region rfl ?_
    refine XO.q (Q.move rfl) ?_
    refine XO.q (Q.assign rfl) ?_
    refine XO.q (Q.assign rfl) ?_
    refine XO.done ?_
    refine XK.rt [emp, emp] Tryz.func73 Tryz.results73 (.t rfl (.t rfl .n)) ?_
    have e : offeredG d o = ([], kcheck d) := by rw [offeredG, if_pos c0]
    rw [e]
    exact ⟨.slice none 0 0, emp, [], emp, rfl, rfl, nV, RowsK.nil⟩
  · have _t0 := True.intro
    have ok := kcheck_iff.1 (Decidable.of_not_not c0)
    refine XK.skip ?_
    refine XK.seq ?_
    refine XK.seq ?_
    refine XK.region rfl ?_
    refine XO.q (Q.ldA [_, _, _, _, _, _] rfl rfl rfl) ?_
    refine XO.q (Q.fieldAddr rfl) ?_
    refine XO.q (Q.ld rfl rfl) ?_
    refine XO.len rfl fun l16 => ?_
    refine XO.call Tryz.call96 rfl rfl rfl (oright_spec o (d.hours.length : Int)) fun v17 s17 R17 => ?_
    obtain ⟨rfl, rfl⟩ := R17
    dsimp only [List.cons_append, List.nil_append]
    refine XO.q (Q.not rfl) ?_
    refine XO.done ?_
    refine XK.if rfl (fun c1 => ?_) (fun c1 => ?_)
    · have _t1 := True.intro
      refine XK.seq ?_
      refine XK.region rfl ?_
      refine XO.q (Q.assign rfl) ?_
      refine XO.q (Q.assign rfl) ?_
      refine XO.done ?_
      refine XK.rt [emp, emp] Tryz.func73 Tryz.results73 (.t rfl (.t rfl .n)) ?_
      have e : offeredG d o = ([], 100) := by rw [offeredG, if_neg c0, if_pos c1]
      rw [e]
      exact ⟨.slice none 0 0, emp, [], emp, rfl, rfl, nV, RowsK.nil⟩
    · have _t1 := True.intro
      have ofk := Decidable.of_not_not c1
      refine XK.skip ?_
      refine XK.seq ?_
      refine XK.region rfl ?_
      refine XO.q (Q.ldA [_, _, _, _, _, _] rfl rfl rfl) ?_
      refine XO.call Tryz.call97 rfl rfl rfl (patterns_spec o ((offerR_iff.1 ofk).wide (by have := ok.h2; omega))) fun v20 s20 R20 => ?_
      obtain ⟨ho, us, K, rfl, OO, RO⟩ := R20
      dsimp only [List.cons_append, List.nil_append]
      have RL := RO.1
      refine XO.q (Q.assign rfl) ?_
      refine XO.done ?_
      refine XK.seq ?_
      refine XK.seq ?_
      refine XK.region rfl ?_
      refine XO.q (Q.move rfl) ?_
      refine XO.len rfl fun l22 => ?_
      refine XO.q (Q.eql rfl rfl) ?_
      refine XO.done ?_
      refine XK.if rfl (fun c2 => ?_) (fun c2 => ?_)
      · have _t2 := True.intro
        refine XK.seq ?_
        refine XK.region rfl ?_
        refine XO.q (Q.assign rfl) ?_
        refine XO.q (Q.assign rfl) ?_
        refine XO.done ?_
        refine XK.rt [emp, emp] Tryz.func73 Tryz.results73 (.t rfl (.t rfl .n)) ?_
        have e : offeredG d o = ([], 8) := by rw [offeredG, if_neg c0, if_neg c1, if_pos (by omega)]
        rw [e]
        exact ⟨.slice none 0 0, emp, [], emp, rfl, rfl, nV, RowsK.nil⟩
      · have _t2 := True.intro
        refine XK.skip ?_
        refine XK.seq ?_
        refine XK.region rfl ?_
        refine XO.q (Q.move rfl) ?_
        refine XO.q (Q.assign rfl) ?_
        refine XO.q (Q.assign rfl) ?_
        refine XO.done ?_
        refine XK.rt [ho, K] Tryz.func73 Tryz.results73 (.t rfl (.t rfl .n)) ?_
        have e : offeredG d o = (patternsG o, 0) := by rw [offeredG, if_neg c0, if_neg c1, if_neg (by omega)]
        rw [e]
        exact ⟨v20, ho, us, K, rfl, rfl, OO, RO⟩
theorem Patterns_spec (d : KDay) (vh vj : Value) (hh hj : PHeap) [ih : Arr vh encHour 6 hh d.hours] [ij : Arr vj encJob 4 hj d.jobs] (o : KOffer) : Spec Tryz.prog 29 #[.agg #[vh, .int .i64 d.store.energy, .int .i64 d.store.full, .int .i64 d.store.power, .int .i64 d.store.fin, vj, .int .i64 d.most, .int .i64 d.peak], .agg #[.int .i64 o.beg, .int .i64 o.fin, .int .i64 o.power, .int .i64 o.hours, .int .i64 o.calls, .int .i64 o.pause]] [] [hh, hj] (fun v hs => ∃ vo ho us K, v = .tuple #[vo, .int .i64 (offeredG d o).2] ∧ hs = [ho, K] ∧ OArr vo encV 1 32 ho us ∧ RowsK us K (offeredG d o).1) := by
  refine Spec.intro (fn := Tryz.f29) (N := 11) Tryz.func29 rfl Tryz.ntmps29 rfl fun B => ?_
  refine XK.seq ?_
  refine XK.region rfl ?_
  refine XO.box rfl fun b2 => ?_
  refine XO.box rfl fun b3 => ?_
  refine XO.q (Q.assign rfl) ?_
  refine XO.q (Q.assign rfl) ?_
  refine XO.done ?_
  refine XK.seq ?_
  refine XK.region rfl ?_
  refine XO.q (Q.ldA [_, _, _, _, _, _, _, _] rfl rfl rfl) ?_
  refine XO.q (Q.ldA [_, _, _, _, _, _] rfl rfl rfl) ?_
  refine XO.call Tryz.call73 rfl rfl rfl (offered_spec d vh vj hh hj o) fun v8 s8 R8 => ?_
  obtain ⟨vo, ho, us, K, rfl, rfl, OO, RO⟩ := R8
  dsimp only [List.cons_append, List.nil_append]
  refine XO.q (Q.extract rfl rfl) ?_
  refine XO.q (Q.extract rfl rfl) ?_
  refine XO.q (Q.assign rfl) ?_
  refine XO.q (Q.assign rfl) ?_
  refine XO.done ?_
  refine XK.rt [ho, K] Tryz.func29 Tryz.results29 (.t rfl (.t rfl .n)) ?_
  exact ⟨vo, ho, us, K, rfl, rfl, OO, RO⟩
end Go.X

set_option linter.unusedSimpArgs false
set_option linter.unusedVariables false
set_option maxRecDepth 20000
namespace Go.X
open Go.Proofs
theorem lim_rng {d : KDay} {o : KOffer} {base ch pat : List Int} (m0 : 0 ≤ d.most) (m1 : d.most ≤ 40) (p0 : 1 ≤ o.power) (p1 : o.power ≤ 40) (hb : ∀ i, i < base.length → -2000 ≤ base.getD i default + ch.getD i default ∧ base.getD i default + ch.getD i default ≤ 2000) {i : Nat} (hi : i < base.length) : -3000 ≤ (limL d o base ch pat).getD i default ∧ (limL d o base ch pat).getD i default ≤ 3000 := by
  have h := hb i hi
  rw [limL, range_at hi, limAt]
  split
  · unfold capH; omega
  · omega
set_option maxHeartbeats 2000000 in
theorem answer_spec (d : KDay) (vh vj : Value) (hh hj : PHeap) [ih : Arr vh encHour 6 hh d.hours] [ij : Arr vj encJob 4 hj d.jobs] (base : List Int) (vb : Value) (hb : PHeap) [jb : Arr vb encI 1 hb base] (p : KPlan) (vs vc : Value) (hs_ hc : PHeap) [js : Arr vs encI 1 hs_ p.starts] [jc : Arr vc encI 1 hc p.charge] (o : KOffer) (pat : List Int) (vt : Value) (ht : PHeap) [jt : Arr vt encI 1 ht pat] (ok : DayOk d) (ofk : OfferOk d.hours.length o) (bl : base.length = d.hours.length) (cl : p.charge.length = d.hours.length)
    (hr : ∀ i, i < base.length → (-1000 ≤ base.getD i default ∧ base.getD i default ≤ 1000) ∧ (-1000 ≤ p.charge.getD i default ∧ p.charge.getD i default ≤ 1000)) (pc : ∀ k, k < pat.length → Call o (pat.getD k default)) :
    Spec Tryz.prog 78 #[.agg #[vh, .int .i64 d.store.energy, .int .i64 d.store.full, .int .i64 d.store.power, .int .i64 d.store.fin, vj, .int .i64 d.most, .int .i64 d.peak], vb, .agg #[vs, vc, .int .i64 p.cost], .agg #[.int .i64 o.beg, .int .i64 o.fin, .int .i64 o.power, .int .i64 o.hours, .int .i64 o.calls, .int .i64 o.pause], vt] [] [hh, hj, hb, hs_, hc, ht] (fun v hs => ∃ v1 k1, v = .tuple #[v1, .bool (answerG d base p.charge o pat).2] ∧ hs = [k1] ∧ OArr v1 encI 1 3 k1 (answerG d base p.charge o pat).1) := by
  have lb := jb.le
  have lt := jt.le
  have h24 := ok.h2
  have m0 := ok.m0
  have m1 := ok.m1
  have s1 := ok.store.f0
  have s2 := ok.store.f1
  have s3 := ok.store.p0
  have s4 := ok.store.p1
  have s5 := ok.store.e0
  have s6 := ok.store.e1
  have o1 := ofk.b0
  have o2 := ofk.fn
  have o3 := ofk.h0
  have o4 := ofk.p0
  have o5 := ofk.p1
  have nI : OArr (.slice none 0 0) encI 1 3 emp ([] : List Int) := OArr.nil (fun _ => rfl)
  refine Spec.intro (fn := Tryz.f78) (N := 109) Tryz.func78 rfl Tryz.ntmps78 rfl fun B => ?_
  refine XK.seq ?_
  refine XK.region rfl ?_
  refine XO.box rfl fun b5 => ?_
  refine XO.box rfl fun b7 => ?_
  refine XO.box rfl fun b8 => ?_
  refine XO.q (Q.assign rfl) ?_
  refine XO.q (Q.assign rfl) ?_
  refine XO.done ?_
  refine XK.seq ?_
  refine XK.region rfl ?_
  refine XO.q (Q.fieldAddr rfl) ?_
  refine XO.q (Q.ld rfl rfl) ?_
  refine XO.lit [_] [_] [d.most] encI (by rfl) (by rfl) rfl (by rfl) (by exact .c 0 1 rfl rfl rfl (.n _)) (fun _ => rfl) (by rfl) rfl (by infer_instance) rfl fun v23 h23 O23 => ?_
  refine XO.q (Q.move rfl) ?_
  refine XO.len rfl fun l25 => ?_
  refine XO.call Tryz.call99 rfl rfl rfl (repeatI v23 h23 d.most base.length (by omega)) fun v26 s26 R26 => ?_
  obtain ⟨k26, rfl, O26⟩ := R26
  dsimp only [List.cons_append, List.nil_append]
  rw [← limT_start d o base p.charge pat] at O26
  refine XO.q (Q.assign rfl) ?_
  refine XO.done ?_
  refine XK.seq ?_
  refine XK.seq ?_
  refine XK.region rfl ?_
  refine XO.q (Q.move rfl) ?_
  refine XO.len rfl fun l28 => ?_
  refine XO.q (Q.move rfl) ?_
  refine XO.done ?_
  refine XK.block ?_
  refine XK.while (X := Nat × PHeap) [14, 15, 29, 30, 31, 32, 33, 34, 35, 36, 37, 38, 39, 40, 41, 42, 43, 44, 45, 46, 47, 48, 49, 50, 51, 52, 53, 54, 55, 56, 57, 58, 59] (fun ⟨k, kq⟩ => [(29, some (.int .i64 (k : Nat)))]) (fun ⟨k, kq⟩ => [kq]) (fun ⟨k, kq⟩ => k ≤ pat.length ∧ OArr v26 encI 1 3 kq (limT d o base p.charge pat k 0)) (fun ⟨k, kq⟩ => pat.length - k) (0, k26) [k26] rfl ⟨by omega, O26⟩ (.c rfl (.base 0 rfl rfl)) ?_
  rintro ⟨k, kq⟩ ⟨hk, OU⟩ ih0
  dsimp only [List.cons_append, List.nil_append] at ih0 ⊢
  refine XK.seq ?_
  refine XK.region rfl ?_
  refine XO.q (Q.lss rfl rfl) ?_
  refine XO.done ?_
  refine XK.seq ?_
  refine XK.if rfl (fun c0 => ?_) (fun c0 => ?_)
  · have _t0 := True.intro
    have pk := pc k (by omega)
    have pk1 := pk.1
    have pk2 := pk.2
    refine XK.skip ?_
    refine XK.seq ?_
    refine XK.block ?_
    refine XK.seq ?_
    refine XK.region rfl ?_
    refine XO.ix rfl rfl (by omega) (by omega) fun i31 => ?_
    refine XO.q (Q.ldE rfl (by first | assumption | omega) rfl) ?_
    refine XO.q (Q.assign rfl) ?_
    refine XO.done ?_
    refine XK.seq ?_
    refine XK.region rfl ?_
    refine XO.q (Q.move rfl) ?_
    refine XO.q (Q.assign rfl) ?_
    refine XO.done ?_
    refine XK.block ?_
    refine XK.while (X := Nat × Int × PHeap) [15, 34, 35, 36, 37, 38, 39, 40, 41, 42, 43, 44, 45, 46, 47, 48, 49, 50, 51, 52, 53, 54, 55, 56, 57, 58] (fun ⟨q, z, kr⟩ => [(15, some (.int .i64 z))]) (fun ⟨q, z, kr⟩ => [kr]) (fun ⟨q, z, kr⟩ => (q : Int) ≤ o.hours ∧ z = (pat.getD k default) + ((q : Nat) : Int) ∧ OArr v26 encI 1 3 kr (limT d o base p.charge pat k q)) (fun ⟨q, z, kr⟩ => o.hours.toNat - q) (0, (pat.getD k default), kq) [kq] rfl ⟨by (try dsimp only); omega, by (try dsimp only); omega, OU⟩ (.c rfl (.base 0 rfl rfl)) ?_
    rintro ⟨q, z, kr⟩ ⟨hq, hz, OT⟩ ih1
    dsimp only [List.cons_append, List.nil_append] at ih1 ⊢
    subst hz
    refine XK.seq ?_
    refine XK.seq ?_
    refine XK.region rfl ?_
    refine XO.q (Q.move rfl) ?_
    refine XO.q (Q.move rfl) ?_
    refine XO.q (Q.fieldAddr rfl) ?_
    refine XO.q (Q.ld rfl rfl) ?_
    refine XO.q (Q.add rfl rfl ⟨by omega, by omega⟩) ?_
    refine XO.q (Q.lss rfl rfl) ?_
    refine XO.done ?_
    refine XK.if rfl (fun c1 => ?_) (fun c1 => ?_)
    · have _t1 := True.intro
      have ha : ((pat.getD k default) + ((q : Nat) : Int)).toNat < base.length := by omega
      have hra := hr ((pat.getD k default) + ((q : Nat) : Int)).toNat ha
      have tl := limT_len d o base p.charge pat k q
      refine XK.skip ?_
      refine XK.seq ?_
      refine XK.block ?_
      refine XK.drawn [0, 1, 2, 3, 4, 5, 6, 7, 8, 9, 10, 11, 12, 13, 14, 15, 16] [b7, b8] [kr] (.q 0 (.q 1 (.q 2 (.q 3 (.q 4 (.q 5 (.q 6 (.q 7 (.q 8 (.q 9 (.q 10 (.q 11 (.q 12 (.q 13 (.q 14 (.q 15 (.q 16 (.br 17 false .done .stop)))))))))))))))))) Tryz.mixed rfl (by kernel_rfl) ?_
      refine XT.q rfl rfl (Q.move rfl) ?_
      refine XT.q rfl rfl (Q.move rfl) ?_
      refine XT.q rfl rfl (Q.move rfl) ?_
      refine XT.q rfl rfl (Q.move rfl) ?_
      refine XT.ix rfl rfl rfl rfl (by omega) (by omega) fun i46 => ?_
      refine XT.q rfl rfl (Q.ldE rfl (by first | assumption | omega) rfl) ?_
      refine XT.q rfl rfl (Q.fieldAddr rfl) ?_
      refine XT.q rfl rfl (Q.ld rfl rfl) ?_
      refine XT.q rfl rfl (Q.move rfl) ?_
      refine XT.ix rfl rfl rfl rfl (by omega) (by omega) fun i51 => ?_
      refine XT.q rfl rfl (Q.ldE rfl (by first | assumption | omega) rfl) ?_
      refine XT.q rfl rfl (Q.add rfl rfl ⟨by omega, by omega⟩) ?_
      refine XT.q rfl rfl (Q.max rfl rfl) ?_
      refine XT.q rfl rfl (Q.fieldAddr rfl) ?_
      refine XT.q rfl rfl (Q.ld rfl rfl) ?_
      refine XT.q rfl rfl (Q.sub rfl rfl ⟨by omega, by omega⟩) ?_
      refine XT.ix rfl rfl rfl rfl (by omega) (by omega) fun i58 => ?_
      refine XT.stE _ rfl rfl rfl rfl rfl (by assumption) rfl rfl (fun h8_17 O8_17 => ⟨inferInstance, ?_⟩) XT.stop
      rw [show max (base.getD ((pat.getD k default) + ((q : Nat) : Int)).toNat default + p.charge.getD ((pat.getD k default) + ((q : Nat) : Int)).toNat default) 0 - o.power = capH o base p.charge ((pat.getD k default) + ((q : Nat) : Int)).toNat from rfl, limT_step ha (by omega)] at O8_17
      refine XT.done ?_
      refine XK.inBlock ?_
      refine XK.region rfl ?_
      refine XO.q (Q.move rfl) ?_
      refine XO.q (Q.add rfl rfl ⟨by omega, by omega⟩) ?_
      refine XO.q (Q.assign rfl) ?_
      refine XO.done ?_
      exact ih1 (q + 1, _, h8_17) _ _ ⟨by dsimp only; omega, by (try dsimp only); omega, O8_17⟩ (by first | omega | (dsimp only; omega)) (.c rfl (.base 53 rfl rfl)) inferInstance
    · have _t1 := True.intro
      have hqe : ((q : Nat) : Int) = o.hours := by omega
      refine XK.exit rfl ?_
      refine XK.inBlock ?_
      refine XK.region rfl ?_
      refine XO.q (Q.add rfl rfl ⟨by omega, by omega⟩) ?_
      refine XO.q (Q.move rfl) ?_
      refine XO.done ?_
      exact ih0 (k + 1, kr) _ _ ⟨by dsimp only; omega, by dsimp only; rw [← limT_all (by omega) hqe]; exact OT⟩ (by first | omega | (dsimp only; omega)) (.c rfl (.base 75 rfl rfl)) inferInstance
  · have _t0 := True.intro
    have hkl : k = pat.length := by omega
    subst hkl
    rw [limT_end] at OU
    refine XK.exit rfl ?_
    refine XK.seq ?_
    refine XK.region rfl ?_
    refine XO.q (Q.assign rfl) ?_
    refine XO.done ?_
    refine XK.seq ?_
    refine XK.region rfl ?_
    refine XO.q (Q.fieldAddr rfl) ?_
    refine XO.q (Q.fieldAddr rfl) ?_
    refine XO.q (Q.ld rfl rfl) ?_
    refine XO.q (Q.assign rfl) ?_
    refine XO.done ?_
    refine XK.seq ?_
    refine XK.seq ?_
    refine XK.region rfl ?_
    refine XO.q (Q.move rfl) ?_
    refine XO.len rfl fun l64 => ?_
    refine XO.q (Q.move rfl) ?_
    refine XO.done ?_
    refine XK.block ?_
    refine XK.while (X := Nat × Value × PHeap) [10, 11, 16, 17, 18, 19, 20, 65, 66, 67, 68, 69, 70, 71, 72, 73, 74, 75, 76, 77, 78, 79, 80, 81, 82, 83, 84, 85, 86, 87, 88, 89, 90, 91, 92, 93, 94, 95, 96, 97, 98, 99, 100, 101, 102] (fun ⟨i, vo, ko⟩ => [(16, some (vo)), (17, some (.int .i64 (ansTo d base (limL d o base p.charge pat) i).e)), (65, some (.int .i64 (i : Nat)))]) (fun ⟨i, vo, ko⟩ => [ko]) (fun ⟨i, vo, ko⟩ => i ≤ base.length ∧ OArr vo encI 1 3 ko (ansTo d base (limL d o base p.charge pat) i).l ∧ (ansTo d base (limL d o base p.charge pat) i).ok = true ∧ 0 ≤ (ansTo d base (limL d o base p.charge pat) i).e ∧ (ansTo d base (limL d o base p.charge pat) i).e ≤ d.store.full ∧ (ansTo d base (limL d o base p.charge pat) i).l.length ≤ i) (fun ⟨i, vo, ko⟩ => base.length - i) (0, .slice none 0 0, emp) [emp] rfl ⟨by omega, nI, rfl, s5, s6, by simp [ansTo]⟩ (.c rfl (.c rfl (.c rfl (.base 0 rfl rfl)))) ?_
    rintro ⟨i, vo, ko⟩ ⟨hi, OA, hok, e0, e1, al⟩ ih2
    dsimp only [List.cons_append, List.nil_append] at ih2 ⊢
    refine XK.seq ?_
    refine XK.region rfl ?_
    refine XO.q (Q.lss rfl rfl) ?_
    refine XO.done ?_
    refine XK.seq ?_
    refine XK.if rfl (fun c2 => ?_) (fun c2 => ?_)
    · have _t2 := True.intro
      have hri := hr i (by omega)
      have lr := lim_rng (d := d) (o := o) (pat := pat) (ch := p.charge) m0 m1 o4 o5 (fun j hj => by have h2 := hr j hj; omega) (show i < base.length by omega)
      have ll : (limL d o base p.charge pat).length = base.length := range_len
      refine XK.skip ?_
      refine XK.seq ?_
      refine XK.block ?_
      refine XK.seq ?_
      refine XK.region rfl ?_
      refine XO.q (Q.move rfl) ?_
      refine XO.ix rfl rfl (by omega) (by omega) fun i68 => ?_
      refine XO.q (Q.ldE rfl (by first | assumption | omega) rfl) ?_
      refine XO.q (Q.assign rfl) ?_
      refine XO.q (Q.assign rfl) ?_
      refine XO.done ?_
      refine XK.seq ?_
      refine XK.drawn [0, 1, 2, 3, 4, 5, 6, 7, 8, 9, 10, 11, 12, 13, 14, 15] [b5] [kq] (.q 0 (.q 1 (.q 2 (.q 3 (.q 4 (.q 5 (.q 6 (.q 7 (.q 8 (.q 9 (.q 10 (.q 11 (.q 12 (.q 13 (.q 14 (.q 15 .done)))))))))))))))) Tryz.mixed rfl (by kernel_rfl) ?_
      refine XT.q rfl rfl (Q.fieldAddr rfl) ?_
      refine XT.q rfl rfl (Q.fieldAddr rfl) ?_
      refine XT.q rfl rfl (Q.ld rfl rfl) ?_
      refine XT.q rfl rfl (Q.fieldAddr rfl) ?_
      refine XT.q rfl rfl (Q.fieldAddr rfl) ?_
      refine XT.q rfl rfl (Q.ld rfl rfl) ?_
      refine XT.q rfl rfl (Q.move rfl) ?_
      refine XT.q rfl rfl (Q.sub rfl rfl ⟨by omega, by omega⟩) ?_
      refine XT.q rfl rfl (Q.move rfl) ?_
      refine XT.q rfl rfl (Q.move rfl) ?_
      refine XT.ix rfl rfl rfl rfl (by omega) (by omega) fun i80 => ?_
      refine XT.q rfl rfl (Q.ldE rfl (by first | assumption | omega) rfl) ?_
      refine XT.q rfl rfl (Q.move rfl) ?_
      refine XT.q rfl rfl (Q.sub rfl rfl ⟨by omega, by omega⟩) ?_
      refine XT.q rfl rfl (Q.min3 rfl rfl rfl) ?_
      rw [show min (min d.store.power (d.store.full - (ansTo d base (limL d o base p.charge pat) i).e)) ((limL d o base p.charge pat).getD i default - base.getD i default) = (greC d (ansTo d base (limL d o base p.charge pat) i).e ((limL d o base p.charge pat).getD i default) (base.getD i default)) from rfl]
      refine XT.q rfl rfl (Q.assign rfl) ?_
      refine XT.done ?_
      refine XK.seq ?_
      refine XK.seq ?_
      refine XK.region rfl ?_
      refine XO.q (Q.move rfl) ?_
      refine XO.q (Q.fieldAddr rfl) ?_
      refine XO.q (Q.fieldAddr rfl) ?_
      refine XO.q (Q.ld rfl rfl) ?_
      refine XO.q (Q.neg rfl ⟨by omega, by omega⟩) ?_
      rw [show (0 : Int) - d.store.power = -d.store.power by omega]
      refine XO.q (Q.move rfl) ?_
      refine XO.q (Q.neg rfl ⟨by omega, by omega⟩) ?_
      rw [show (0 : Int) - (ansTo d base (limL d o base p.charge pat) i).e = -(ansTo d base (limL d o base p.charge pat) i).e by omega]
      refine XO.q (Q.max rfl rfl) ?_
      refine XO.q (Q.lss rfl rfl) ?_
      refine XO.done ?_
      refine XK.if rfl (fun c3 => ?_) (fun c3 => ?_)
      · have _t3 := True.intro
        have he : (ansTo d base (limL d o base p.charge pat) (i + 1)) = ⟨(ansTo d base (limL d o base p.charge pat) i).l, (ansTo d base (limL d o base p.charge pat) i).e, false⟩ := by rw [ansTo, if_pos hok, if_pos c3]
        have hs : (ansTo d base (limL d o base p.charge pat) base.length) = (ansTo d base (limL d o base p.charge pat) (i + 1)) := ansTo_stay (by rw [he]) _ (by omega)
        refine XK.seq ?_
        refine XK.region rfl ?_
        refine XO.q (Q.move rfl) ?_
        refine XO.q (Q.assign rfl) ?_
        refine XO.q (Q.assign rfl) ?_
        refine XO.done ?_
        refine XK.rt [ko] Tryz.func78 Tryz.results78 (.t rfl (.t rfl .n)) ?_
        rw [answerG, hs, he]
        exact ⟨vo, ko, rfl, rfl, OA⟩
      · have _t3 := True.intro
        have he : (ansTo d base (limL d o base p.charge pat) (i + 1)) = ⟨(ansTo d base (limL d o base p.charge pat) i).l ++ [(greC d (ansTo d base (limL d o base p.charge pat) i).e ((limL d o base p.charge pat).getD i default) (base.getD i default))], (ansTo d base (limL d o base p.charge pat) i).e + (greC d (ansTo d base (limL d o base p.charge pat) i).e ((limL d o base p.charge pat).getD i default) (base.getD i default)), true⟩ := by rw [ansTo, if_pos hok, if_neg c3]
        have gr : 0 ≤ (ansTo d base (limL d o base p.charge pat) i).e + (greC d (ansTo d base (limL d o base p.charge pat) i).e ((limL d o base p.charge pat).getD i default) (base.getD i default)) ∧ (ansTo d base (limL d o base p.charge pat) i).e + (greC d (ansTo d base (limL d o base p.charge pat) i).e ((limL d o base p.charge pat).getD i default) (base.getD i default)) ≤ d.store.full := by unfold greC at c3 ⊢; omega
        have gr2 : -1000 ≤ (greC d (ansTo d base (limL d o base p.charge pat) i).e ((limL d o base p.charge pat).getD i default) (base.getD i default)) ∧ (greC d (ansTo d base (limL d o base p.charge pat) i).e ((limL d o base p.charge pat).getD i default) (base.getD i default)) ≤ 1000 := by unfold greC at c3 ⊢; omega
        refine XK.skip ?_
        refine XK.seq ?_
        refine XK.region rfl ?_
        refine XO.q (Q.move rfl) ?_
        refine XO.q (Q.move rfl) ?_
        refine XO.lit [_] [_] [(greC d (ansTo d base (limL d o base p.charge pat) i).e ((limL d o base p.charge pat).getD i default) (base.getD i default))] encI (by rfl) (by rfl) rfl (by rfl) (by exact .c 0 1 rfl rfl rfl (.n _)) (fun _ => rfl) (by rfl) rfl (by infer_instance) rfl fun v97 h97 O97 => ?_
        refine XO.append rfl rfl rfl rfl (by simp only [List.length_cons, List.length_nil]; omega) fun v98 h98 O98 => ?_
        refine XO.q (Q.assign rfl) ?_
        refine XO.done ?_
        refine XK.region rfl ?_
        refine XO.q (Q.move rfl) ?_
        refine XO.q (Q.move rfl) ?_
        refine XO.q (Q.add rfl rfl ⟨by omega, by omega⟩) ?_
        refine XO.q (Q.assign rfl) ?_
        refine XO.done ?_
        refine XK.inBlock ?_
        refine XK.region rfl ?_
        refine XO.q (Q.add rfl rfl ⟨by omega, by omega⟩) ?_
        refine XO.q (Q.move rfl) ?_
        refine XO.done ?_
        rw [show (ansTo d base (limL d o base p.charge pat) i).e + (greC d (ansTo d base (limL d o base p.charge pat) i).e ((limL d o base p.charge pat).getD i default) (base.getD i default)) = (ansTo d base (limL d o base p.charge pat) (i + 1)).e by rw [he]]
        exact ih2 (i + 1, v98, h98) _ _ ⟨by dsimp only; omega, by dsimp only; rw [he]; exact O98, by dsimp only; rw [he], by dsimp only; rw [he]; exact gr.1, by dsimp only; rw [he]; exact gr.2, by dsimp only; rw [he]; simp only [List.length_append, List.length_cons, List.length_nil]; omega⟩ (by first | omega | (dsimp only; omega)) (.c rfl (.c rfl (.c rfl (.base 90 rfl rfl)))) inferInstance
    · have _t2 := True.intro
      have hin : i = base.length := by omega
      subst hin
      refine XK.exit rfl ?_
      refine XK.seq ?_
      refine XK.drawn [0, 1, 2, 3, 4, 5, 6, 7] [b5] [] (.q 0 (.q 1 (.q 2 (.q 3 (.q 4 (.q 5 (.q 6 (.q 7 .done)))))))) Tryz.mixed rfl (by kernel_rfl) ?_
      refine XT.q rfl rfl (Q.move rfl) ?_
      refine XT.q rfl rfl (Q.move rfl) ?_
      refine XT.q rfl rfl (Q.fieldAddr rfl) ?_
      refine XT.q rfl rfl (Q.fieldAddr rfl) ?_
      refine XT.q rfl rfl (Q.ld rfl rfl) ?_
      refine XT.q rfl rfl (Q.geq rfl rfl) ?_
      refine XT.q rfl rfl (Q.assign rfl) ?_
      refine XT.q rfl rfl (Q.assign rfl) ?_
      refine XT.done ?_
      refine XK.rt [ko] Tryz.func78 Tryz.results78 (.t rfl (.t rfl .n)) ?_
      rw [answerG, hok]
      exact ⟨vo, ko, rfl, rfl, OA⟩
end Go.X

set_option linter.unusedSimpArgs false
set_option linter.unusedVariables false
set_option maxRecDepth 20000
namespace Go.X
open Go.Proofs
theorem ready_spec (d : KDay) (vh vj : Value) (hh hj : PHeap) [ih : Arr vh encHour 6 hh d.hours] [ij : Arr vj encJob 4 hj d.jobs] (p : KPlan) (vs vc : Value) (hs_ hc : PHeap) [js : Arr vs encI 1 hs_ p.starts] [jc : Arr vc encI 1 hc p.charge] (o : KOffer) : Spec Tryz.prog 75 #[.agg #[vh, .int .i64 d.store.energy, .int .i64 d.store.full, .int .i64 d.store.power, .int .i64 d.store.fin, vj, .int .i64 d.most, .int .i64 d.peak], .agg #[vs, vc, .int .i64 p.cost], .agg #[.int .i64 o.beg, .int .i64 o.fin, .int .i64 o.power, .int .i64 o.hours, .int .i64 o.calls, .int .i64 o.pause]] [] [hh, hj, hs_, hc] (fun v hs => ∃ vl ho us K vb kb bs, v = .tuple #[vl, vb, .int .i64 (readyG d p o)] ∧ hs = [ho, K, kb] ∧ OArr vl encV 1 32 ho us ∧ RowsK us K (offeredG d o).1 ∧ OArr vb encI 1 3 kb bs ∧ (readyG d p o = 0 → bs = (formG d p).1)) := by
  have nV : OArr (.slice none 0 0) encV 1 32 emp ([] : List Value) := OArr.nil (fun _ => rfl)
  have nI : OArr (.slice none 0 0) encI 1 3 emp ([] : List Int) := OArr.nil (fun _ => rfl)
  have off0 : (offeredG d o).2 ≠ 0 → (offeredG d o).1 = [] := fun h => by
    unfold offeredG at h ⊢
    split
    · rfl
    · rename_i h0
      rw [if_neg h0] at h
      split
      · rfl
      · rename_i h1
        rw [if_neg h1] at h
        split
        · rfl
        · rename_i h2
          rw [if_neg h2] at h
          exact absurd rfl h
  refine Spec.intro (fn := Tryz.f75) (N := 30) Tryz.func75 rfl Tryz.ntmps75 rfl fun B => ?_
  refine XK.seq ?_
  refine XK.region rfl ?_
  refine XO.box rfl fun b3 => ?_
  refine XO.box rfl fun b4 => ?_
  refine XO.box rfl fun b5 => ?_
  refine XO.q (Q.assign rfl) ?_
  refine XO.q (Q.assign rfl) ?_
  refine XO.q (Q.assign rfl) ?_
  refine XO.done ?_
  refine XK.seq ?_
  refine XK.region rfl ?_
  refine XO.q (Q.ldA [_, _, _, _, _, _, _, _] rfl rfl rfl) ?_
  refine XO.q (Q.ldA [_, _, _, _, _, _] rfl rfl rfl) ?_
  refine XO.call Tryz.call73 rfl rfl rfl (offered_spec d vh vj hh hj o) fun v15 s15 R15 => ?_
  obtain ⟨vo, ho, us, K, rfl, rfl, OO, RO⟩ := R15
  dsimp only [List.cons_append, List.nil_append]
  refine XO.q (Q.move rfl) ?_
  refine XO.q (Q.extract rfl rfl) ?_
  refine XO.q (Q.extract rfl rfl) ?_
  refine XO.q (Q.assign rfl) ?_
  refine XO.q (Q.assign rfl) ?_
  refine XO.done ?_
  refine XK.seq ?_
  refine XK.seq ?_
  refine XK.region rfl ?_
  refine XO.q (Q.move rfl) ?_
  refine XO.q (Q.neq rfl rfl) ?_
  refine XO.done ?_
  refine XK.if rfl (fun c0 => ?_) (fun c0 => ?_)
  · have _t0 := True.intro
    refine XK.seq ?_
    refine XK.region rfl ?_
    refine XO.q (Q.move rfl) ?_
    refine XO.q (Q.assign rfl) ?_
    refine XO.q (Q.assign rfl) ?_
    refine XO.q (Q.assign rfl) ?_
    refine XO.done ?_
    refine XK.rt [emp, emp, emp] Tryz.func75 Tryz.results75 (.t rfl (.t rfl (.t rfl .n))) ?_
    have e : readyG d p o = (offeredG d o).2 := by rw [readyG, if_pos c0]
    rw [e, off0 c0]
    exact ⟨.slice none 0 0, emp, [], emp, .slice none 0 0, emp, [], rfl, rfl, nV, RowsK.nil, nI, fun h => absurd h c0⟩
  · have _t0 := True.intro
    refine XK.skip ?_
    refine XK.seq ?_
    refine XK.region rfl ?_
    refine XO.q (Q.ldA [_, _, _, _, _, _, _, _] rfl rfl rfl) ?_
    refine XO.q (Q.ldA [_, _, _] rfl rfl rfl) ?_
    refine XO.call Tryz.call51 rfl rfl rfl (form_spec d vh vj hh hj p vs vc hs_ hc) fun v24 s24 R24 => ?_
    obtain ⟨v1, k1, rfl, rfl, O1⟩ := R24
    dsimp only [List.cons_append, List.nil_append]
    refine XO.q (Q.move rfl) ?_
    refine XO.q (Q.extract rfl rfl) ?_
    refine XO.q (Q.extract rfl rfl) ?_
    refine XO.q (Q.assign rfl) ?_
    refine XO.q (Q.assign rfl) ?_
    refine XO.done ?_
    refine XK.seq ?_
    refine XK.region rfl ?_
    refine XO.q (Q.move rfl) ?_
    refine XO.q (Q.move rfl) ?_
    refine XO.q (Q.move rfl) ?_
    refine XO.q (Q.assign rfl) ?_
    refine XO.q (Q.assign rfl) ?_
    refine XO.q (Q.assign rfl) ?_
    refine XO.done ?_
    refine XK.rt [ho, K, k1] Tryz.func75 Tryz.results75 (.t rfl (.t rfl (.t rfl .n))) ?_
    have e : readyG d p o = (formG d p).2 := by rw [readyG, if_neg c0]
    rw [e]
    exact ⟨vo, ho, us, K, v1, k1, _, rfl, rfl, OO, RO, O1, fun _ => rfl⟩
theorem ready_fine {d : KDay} {p : KPlan} {o : KOffer} (h : readyG d p o = 0) : (offeredG d o).2 = 0 ∧ (formG d p).2 = 0 := by
  unfold readyG at h
  split at h
  · rename_i h1; exact absurd h h1
  · rename_i h1; exact ⟨Decidable.of_not_not h1, h⟩
theorem ready_rng {d : KDay} {p : KPlan} (h : (formG d p).2 = 0) : ∀ i, i < (formG d p).1.length → (-1000 ≤ (formG d p).1.getD i default ∧ (formG d p).1.getD i default ≤ 1000) ∧ (-1000 ≤ p.charge.getD i default ∧ p.charge.getD i default ≤ 1000) := fun i hi => by
  have ff := form_fine h
  have fl : (formG d p).1.length = d.hours.length := by rw [ff.2.2.2.2.2.2]; exact needsL_len d _
  have r := (form_rng h i (by have := ff.2.2.2.1; omega)).2
  exact ⟨r.1, r.2.1⟩
theorem form_len {d : KDay} {p : KPlan} (h : (formG d p).2 = 0) : (formG d p).1.length = d.hours.length := by rw [(form_fine h).2.2.2.2.2.2]; exact needsL_len d _
theorem answer2_spec (b : Nat) (x y : Value) (K hy : PHeap) (xs ys : List Int) [ix : Arr x encI 1 K xs] [iy : Arr y encI 1 hy ys] : Spec Tryz.prog 77 #[x, ptr b 0] [] [K, blk b [y] 32, hy] (fun v hs => v = .bool (decide (xs = ys)) ∧ hs = []) := by
  refine Spec.intro (fn := Tryz.f77) (N := 7) Tryz.func77 rfl Tryz.ntmps77 rfl fun B => ?_
  refine XK.seq ?_
  refine XK.region rfl ?_
  refine XO.q (Q.assign rfl) ?_
  refine XO.done ?_
  refine XK.seq ?_
  refine XK.region rfl ?_
  refine XO.q (Q.move rfl) ?_
  refine XO.q (Q.ld rfl rfl) ?_
  refine XO.call Tryz.call34 rfl rfl rfl (equalI x y K hy xs ys) fun v6 s6 R6 => ?_
  obtain ⟨rfl, rfl⟩ := R6
  dsimp only [List.cons_append, List.nil_append]
  refine XO.q (Q.assign rfl) ?_
  refine XO.done ?_
  refine XK.rt [] Tryz.func77 Tryz.results77 (.t rfl .n) ?_
  exact ⟨rfl, rfl⟩
set_option maxHeartbeats 1000000 in
theorem Answer_spec (d : KDay) (vh vj : Value) (hh hj : PHeap) [ih : Arr vh encHour 6 hh d.hours] [ij : Arr vj encJob 4 hj d.jobs] (p : KPlan) (vs vc : Value) (hs_ hc : PHeap) [js : Arr vs encI 1 hs_ p.starts] [jc : Arr vc encI 1 hc p.charge] (o : KOffer) (pat : List Int) (vt : Value) (ht : PHeap) [jt : Arr vt encI 1 ht pat] : Spec Tryz.prog 32 #[.agg #[vh, .int .i64 d.store.energy, .int .i64 d.store.full, .int .i64 d.store.power, .int .i64 d.store.fin, vj, .int .i64 d.most, .int .i64 d.peak], .agg #[vs, vc, .int .i64 p.cost], .agg #[.int .i64 o.beg, .int .i64 o.fin, .int .i64 o.power, .int .i64 o.hours, .int .i64 o.calls, .int .i64 o.pause], vt] [] [hh, hj, hs_, hc, ht] (fun v hs => ∃ v1 k1, v = .tuple #[v1, .bool (AnswerG d p o pat).2.1, .int .i64 (AnswerG d p o pat).2.2] ∧ hs = [k1] ∧ OArr v1 encI 1 3 k1 (AnswerG d p o pat).1) := by
  have nI : OArr (.slice none 0 0) encI 1 3 emp ([] : List Int) := OArr.nil (fun _ => rfl)
  refine Spec.intro (fn := Tryz.f32) (N := 42) Tryz.func32 rfl Tryz.ntmps32 rfl fun B => ?_
  refine XK.seq ?_
  refine XK.region rfl ?_
  refine XO.box rfl fun b4 => ?_
  refine XO.box rfl fun b5 => ?_
  refine XO.box rfl fun b6 => ?_
  refine XO.box rfl fun b7 => ?_
  refine XO.q (Q.assign rfl) ?_
  refine XO.q (Q.assign rfl) ?_
  refine XO.q (Q.assign rfl) ?_
  refine XO.done ?_
  refine XK.seq ?_
  refine XK.region rfl ?_
  refine XO.q (Q.ldA [_, _, _, _, _, _, _, _] rfl rfl rfl) ?_
  refine XO.q (Q.ldA [_, _, _] rfl rfl rfl) ?_
  refine XO.q (Q.ldA [_, _, _, _, _, _] rfl rfl rfl) ?_
  refine XO.call Tryz.call75 rfl rfl rfl (ready_spec d vh vj hh hj p vs vc hs_ hc o) fun v20 s20 R20 => ?_
  obtain ⟨vl, ho, us, K, vb, kb, bs, rfl, rfl, OO, RO, OB, hbs⟩ := R20
  dsimp only [List.cons_append, List.nil_append]
  refine XO.q (Q.move rfl) ?_
  refine XO.q (Q.extract rfl rfl) ?_
  refine XO.q (Q.extract rfl rfl) ?_
  refine XO.q (Q.extract rfl rfl) ?_
  refine XO.q (Q.assign rfl) ?_
  refine XO.q (Q.assign rfl) ?_
  refine XO.q (Q.assign rfl) ?_
  refine XO.done ?_
  refine XK.seq ?_
  refine XK.seq ?_
  refine XK.region rfl ?_
  refine XO.q (Q.move rfl) ?_
  refine XO.q (Q.neq rfl rfl) ?_
  refine XO.done ?_
  refine XK.if rfl (fun c0 => ?_) (fun c0 => ?_)
  · have _t0 := True.intro
    refine XK.seq ?_
    refine XK.region rfl ?_
    refine XO.q (Q.move rfl) ?_
    refine XO.q (Q.assign rfl) ?_
    refine XO.q (Q.assign rfl) ?_
    refine XO.q (Q.assign rfl) ?_
    refine XO.done ?_
    refine XK.rt [emp] Tryz.func32 Tryz.results32 (.t rfl (.t rfl (.t rfl .n))) ?_
    have e : AnswerG d p o pat = ([], false, readyG d p o) := by rw [AnswerG, if_pos c0]
    rw [e]
    exact ⟨.slice none 0 0, emp, rfl, rfl, nI⟩
  · have _t0 := True.intro
    have hz := Decidable.of_not_not c0
    have e0 := ready_fine hz
    obtain rfl := hbs hz
    have ff := form_fine e0.2
    have of1 := offered_fine e0.1
    rw [of1.2.2.1] at RO
    refine XK.skip ?_
    refine XK.seq ?_
    refine XK.seq ?_
    refine XK.region rfl ?_
    refine XO.q (Q.move rfl) ?_
    refine XO.q (Q.func (fun _ he => rfl) (fun _ he => evs_rel he rfl)) ?_
    refine XO.call Tryz.call76 rfl rfl rfl (containsRows vl ho us K (patternsG o) RO 77 [ptr b7 0] [blk b7 [vt] 32, ht] (fun x => decide (x = pat)) Tryz.call77 (fun i hi => by haveI := RO.2 i hi; exact answer2_spec b7 (us.getD i default) vt K ht ((patternsG o).getD i default) pat)) fun v29 s29 R29 => ?_
    obtain ⟨rfl, rfl⟩ := R29
    dsimp only [List.cons_append, List.nil_append]
    refine XO.q (Q.not rfl) ?_
    refine XO.done ?_
    refine XK.if rfl (fun c1 => ?_) (fun c1 => ?_)
    · have _t1 := True.intro
      refine XK.seq ?_
      refine XK.region rfl ?_
      refine XO.q (Q.assign rfl) ?_
      refine XO.q (Q.assign rfl) ?_
      refine XO.q (Q.assign rfl) ?_
      refine XO.done ?_
      refine XK.rt [emp] Tryz.func32 Tryz.results32 (.t rfl (.t rfl (.t rfl .n))) ?_
      have e : AnswerG d p o pat = ([], false, 1) := by rw [AnswerG, if_neg c0, if_pos c1]
      rw [e]
      exact ⟨.slice none 0 0, emp, rfl, rfl, nI⟩
    · have _t1 := True.intro
      have c1a : (patternsG o).any (fun x => decide (x = pat)) = true := Decidable.of_not_not c1
      have pm : pat ∈ patternsG o := by
        obtain ⟨x, hx, hxe⟩ := List.any_eq_true.1 c1a
        rw [decide_eq_true_eq] at hxe
        exact hxe ▸ hx
      have pc : ∀ k, k < pat.length → Call o (pat.getD k default) := fun k hk => patterns_calls of1.2.1 pm _ (getD_memK hk)
      refine XK.skip ?_
      refine XK.seq ?_
      refine XK.region rfl ?_
      refine XO.q (Q.ldA [_, _, _, _, _, _, _, _] rfl rfl rfl) ?_
      refine XO.q (Q.move rfl) ?_
      refine XO.q (Q.ldA [_, _, _] rfl rfl rfl) ?_
      refine XO.q (Q.ldA [_, _, _, _, _, _] rfl rfl rfl) ?_
      refine XO.q (Q.ld rfl rfl) ?_
      refine XO.call Tryz.call78 rfl rfl rfl (answer_spec d vh vj hh hj (formG d p).1 vb kb p vs vc hs_ hc o pat vt ht of1.1 of1.2.1 (form_len e0.2) ff.2.2.2.1 (ready_rng e0.2) pc) fun v37 s37 R37 => ?_
      obtain ⟨v1, k1, rfl, rfl, O1⟩ := R37
      dsimp only [List.cons_append, List.nil_append]
      refine XO.q (Q.move rfl) ?_
      refine XO.q (Q.extract rfl rfl) ?_
      refine XO.q (Q.extract rfl rfl) ?_
      refine XO.q (Q.assign rfl) ?_
      refine XO.q (Q.assign rfl) ?_
      refine XO.done ?_
      refine XK.seq ?_
      refine XK.region rfl ?_
      refine XO.q (Q.move rfl) ?_
      refine XO.q (Q.move rfl) ?_
      refine XO.q (Q.assign rfl) ?_
      refine XO.q (Q.assign rfl) ?_
      refine XO.q (Q.assign rfl) ?_
      refine XO.done ?_
      refine XK.rt [k1] Tryz.func32 Tryz.results32 (.t rfl (.t rfl (.t rfl .n))) ?_
      have e : AnswerG d p o pat = ((answerG d (formG d p).1 p.charge o pat).1, (answerG d (formG d p).1 p.charge o pat).2, 0) := by rw [AnswerG, if_neg c0, if_neg c1]
      rw [e]
      exact ⟨v1, k1, rfl, rfl, O1⟩
set_option maxHeartbeats 1000000 in
theorem Deliver_spec (d : KDay) (vh vj : Value) (hh hj : PHeap) [ih : Arr vh encHour 6 hh d.hours] [ij : Arr vj encJob 4 hj d.jobs] (p : KPlan) (vs vc : Value) (hs_ hc : PHeap) [js : Arr vs encI 1 hs_ p.starts] [jc : Arr vc encI 1 hc p.charge] (o : KOffer) : Spec Tryz.prog 35 #[.agg #[vh, .int .i64 d.store.energy, .int .i64 d.store.full, .int .i64 d.store.power, .int .i64 d.store.fin, vj, .int .i64 d.most, .int .i64 d.peak], .agg #[vs, vc, .int .i64 p.cost], .agg #[.int .i64 o.beg, .int .i64 o.fin, .int .i64 o.power, .int .i64 o.hours, .int .i64 o.calls, .int .i64 o.pause]] [] [hh, hj, hs_, hc] (fun v hs => ∃ v1 k1, v = .tuple #[.bool (DeliverG d p o).1, v1, .int .i64 (DeliverG d p o).2.2] ∧ hs = [k1] ∧ One v1 ∧ Arr v1 encI 1 k1 (DeliverG d p o).2.1) := by
  have nI : OArr (.slice none 0 0) encI 1 3 emp ([] : List Int) := OArr.nil (fun _ => rfl)
  have nA : Arr (.slice none 0 0) encI 1 emp ([] : List Int) := OArr.arr (s := nI)
  refine Spec.intro (fn := Tryz.f35) (N := 46) Tryz.func35 rfl Tryz.ntmps35 rfl fun B => ?_
  refine XK.seq ?_
  refine XK.region rfl ?_
  refine XO.box rfl fun b3 => ?_
  refine XO.box rfl fun b4 => ?_
  refine XO.box rfl fun b5 => ?_
  refine XO.q (Q.assign rfl) ?_
  refine XO.q (Q.assign rfl) ?_
  refine XO.q (Q.assign rfl) ?_
  refine XO.done ?_
  refine XK.seq ?_
  refine XK.region rfl ?_
  refine XO.q (Q.ldA [_, _, _, _, _, _, _, _] rfl rfl rfl) ?_
  refine XO.q (Q.ldA [_, _, _] rfl rfl rfl) ?_
  refine XO.q (Q.ldA [_, _, _, _, _, _] rfl rfl rfl) ?_
  refine XO.call Tryz.call75 rfl rfl rfl (ready_spec d vh vj hh hj p vs vc hs_ hc o) fun v20 s20 R20 => ?_
  obtain ⟨vl, ho, us, K, vb, kb, bs, rfl, rfl, OO, RO, OB, hbs⟩ := R20
  dsimp only [List.cons_append, List.nil_append]
  refine XO.q (Q.move rfl) ?_
  refine XO.q (Q.extract rfl rfl) ?_
  refine XO.q (Q.extract rfl rfl) ?_
  refine XO.q (Q.extract rfl rfl) ?_
  refine XO.q (Q.assign rfl) ?_
  refine XO.q (Q.assign rfl) ?_
  refine XO.q (Q.assign rfl) ?_
  refine XO.done ?_
  refine XK.seq ?_
  refine XK.seq ?_
  refine XK.region rfl ?_
  refine XO.q (Q.move rfl) ?_
  refine XO.q (Q.neq rfl rfl) ?_
  refine XO.done ?_
  refine XK.if rfl (fun c0 => ?_) (fun c0 => ?_)
  · have _t0 := True.intro
    refine XK.seq ?_
    refine XK.region rfl ?_
    refine XO.q (Q.move rfl) ?_
    refine XO.q (Q.assign rfl) ?_
    refine XO.q (Q.assign rfl) ?_
    refine XO.q (Q.assign rfl) ?_
    refine XO.done ?_
    refine XK.rt [emp] Tryz.func35 Tryz.results35 (.t rfl (.t rfl (.t rfl .n))) ?_
    have e : DeliverG d p o = (false, [], readyG d p o) := by rw [DeliverG, if_pos c0]
    rw [e]
    exact ⟨.slice none 0 0, emp, rfl, rfl, inferInstance, nA⟩
  · have _t0 := True.intro
    have hz := Decidable.of_not_not c0
    have e0 := ready_fine hz
    obtain rfl := hbs hz
    have ff := form_fine e0.2
    have of1 := offered_fine e0.1
    rw [of1.2.2.1] at RO
    have RL := RO.1
    refine XK.skip ?_
    refine XK.seq ?_
    refine XK.seq ?_
    refine XK.region rfl ?_
    refine XO.q (Q.move rfl) ?_
    refine XO.len rfl fun l28 => ?_
    refine XO.q (Q.move rfl) ?_
    refine XO.done ?_
    refine XK.block ?_
    refine XK.while (X := Nat) [6, 7, 8, 13, 14, 15, 29, 30, 31, 32, 33, 34, 35, 36, 37, 38, 39, 40, 41, 42, 43, 44, 45] (fun i => [(29, some (.int .i64 (i : Nat)))]) (fun i => []) (fun i => i ≤ us.length ∧ ((patternsG o).take i).any (badPat d p o) = false) (fun i => us.length - i) (0) [] rfl ⟨by omega, rfl⟩ (.c rfl (.base 0 rfl rfl)) ?_
    rintro i ⟨hi, hg⟩ ih0
    dsimp only [List.cons_append, List.nil_append] at ih0 ⊢
    refine XK.seq ?_
    refine XK.region rfl ?_
    refine XO.q (Q.lss rfl rfl) ?_
    refine XO.done ?_
    refine XK.seq ?_
    refine XK.if rfl (fun c1 => ?_) (fun c1 => ?_)
    · have _t1 := True.intro
      have ar := RO.2 i (by omega)
      have pc : ∀ k, k < ((patternsG o).getD i default).length → Call o (((patternsG o).getD i default).getD k default) := fun k hk => patterns_calls of1.2.1 (getD_memK (show i < (patternsG o).length by omega)) _ (getD_memK hk)
      refine XK.skip ?_
      refine XK.seq ?_
      refine XK.block ?_
      refine XK.seq ?_
      refine XK.region rfl ?_
      refine XO.ix rfl rfl (by omega) (by omega) fun i31 => ?_
      refine XO.q (Q.ldE rfl (by first | assumption | omega) rfl) ?_
      refine XO.q (Q.assign rfl) ?_
      refine XO.done ?_
      refine XK.seq ?_
      refine XK.region rfl ?_
      refine XO.q (Q.ldA [_, _, _, _, _, _, _, _] rfl rfl rfl) ?_
      refine XO.q (Q.move rfl) ?_
      refine XO.q (Q.ldA [_, _, _] rfl rfl rfl) ?_
      refine XO.q (Q.ldA [_, _, _, _, _, _] rfl rfl rfl) ?_
      refine XO.q (Q.move rfl) ?_
      refine XO.call Tryz.call78 rfl rfl rfl (answer_spec d vh vj hh hj (formG d p).1 vb kb p vs vc hs_ hc o ((patternsG o).getD i default) (us.getD i default) K of1.1 of1.2.1 (form_len e0.2) ff.2.2.2.1 (ready_rng e0.2) pc) fun v39 s39 R39 => ?_
      obtain ⟨v1, k1, rfl, rfl, O1⟩ := R39
      dsimp only [List.cons_append, List.nil_append]
      refine XO.q (Q.move rfl) ?_
      refine XO.q (Q.extract rfl rfl) ?_
      refine XO.q (Q.extract rfl rfl) ?_
      refine XO.q (Q.assign rfl) ?_
      refine XO.q (Q.assign rfl) ?_
      refine XO.done ?_
      refine XK.seq ?_
      refine XK.region rfl ?_
      refine XO.q (Q.move rfl) ?_
      refine XO.q (Q.not rfl) ?_
      refine XO.done ?_
      refine XK.if rfl (fun c2 => ?_) (fun c2 => ?_)
      · have _t2 := True.intro
        have hbad : badPat d p o ((patternsG o).getD i default) = true := by unfold badPat; rw [Bool.not_eq_true']; exact Bool.eq_false_iff.2 c2
        refine XK.seq ?_
        refine XK.region rfl ?_
        refine XO.q (Q.move rfl) ?_
        refine XO.q (Q.assign rfl) ?_
        refine XO.q (Q.assign rfl) ?_
        refine XO.q (Q.assign rfl) ?_
        refine XO.done ?_
        refine XK.rt [K] Tryz.func35 Tryz.results35 (.t rfl (.t rfl (.t rfl .n))) ?_
        have e : DeliverG d p o = (false, (patternsG o).getD i default, 0) := by rw [DeliverG, if_neg c0, deliver_bad hg (by omega) hbad]
        rw [e]
        exact ⟨us.getD i default, K, rfl, rfl, inferInstance, ar⟩
      · have _t2 := True.intro
        have hgood : badPat d p o ((patternsG o).getD i default) = false := by unfold badPat; rw [Decidable.of_not_not c2]; rfl
        refine XK.skip ?_
        refine XK.inBlock ?_
        refine XK.region rfl ?_
        refine XO.q (Q.add rfl rfl ⟨by omega, by omega⟩) ?_
        refine XO.q (Q.move rfl) ?_
        refine XO.done ?_
        exact ih0 (i + 1) _ _ ⟨by omega, any_step hg (by omega) hgood⟩ (by first | omega | (dsimp only; omega)) (.c rfl (.base 43 rfl rfl)) inferInstance
    · have _t1 := True.intro
      refine XK.exit rfl ?_
      refine XK.seq ?_
      refine XK.region rfl ?_
      refine XO.q (Q.assign rfl) ?_
      refine XO.q (Q.assign rfl) ?_
      refine XO.q (Q.assign rfl) ?_
      refine XO.done ?_
      refine XK.rt [emp] Tryz.func35 Tryz.results35 (.t rfl (.t rfl (.t rfl .n))) ?_
      have e : DeliverG d p o = (true, [], 0) := by rw [DeliverG, if_neg c0, deliver_good (by rw [List.take_of_length_le (by omega)] at hg; exact hg)]
      rw [e]
      exact ⟨.slice none 0 0, emp, rfl, rfl, inferInstance, nA⟩
end Go.X

set_option linter.unusedSimpArgs false
set_option linter.unusedVariables false
set_option maxRecDepth 20000
namespace Go.X
open Go.Proofs
end Go.X

set_option linter.unusedSimpArgs false
set_option linter.unusedVariables false
set_option maxRecDepth 20000
namespace Go.X
open Go.Proofs
end Go.X

set_option linter.unusedSimpArgs false
set_option linter.unusedVariables false
set_option maxRecDepth 20000
namespace Go.X
open Go.Proofs
end Go.X

set_option linter.unusedSimpArgs false
set_option linter.unusedVariables false
set_option maxRecDepth 20000
namespace Go.X
open Go.Proofs
end Go.X

set_option linter.unusedSimpArgs false
set_option linter.unusedVariables false
set_option maxRecDepth 20000
namespace Go.X
open Go.Proofs
end Go.X

set_option linter.unusedSimpArgs false
set_option linter.unusedVariables false
set_option maxRecDepth 20000
namespace Go.X
open Go.Proofs
theorem example10 (n : Int) : Spec Tryz.prog 6 #[.int .i64 n] [] [] (fun v hs => ∃ vh kh, v = .agg #[vh, .int .i64 0, .int .i64 2, .int .i64 2, .int .i64 0, .slice none 0 0, .int .i64 10, .int .i64 n] ∧ hs = [kh, emp] ∧ OArr vh encHour 6 29 kh (exDay n).hours) := by
  refine Spec.intro (fn := Tryz.f6) (N := 9) Tryz.func6 rfl Tryz.ntmps6 rfl fun B => ?_
  refine XK.seq ?_
  refine XK.region rfl ?_
  refine XO.alloc fun b2 => ?_
  refine XO.done ?_
  refine XK.seq ?_
  refine XK.region rfl ?_
  refine XO.q (Q.build [_, _, _, _, _, _] (.c 0 1 rfl rfl rfl (.c 3 1 rfl rfl rfl (.n _)))) ?_
  refine XO.q (Q.build [_, _, _, _, _, _] (.c 0 1 rfl rfl rfl (.c 3 1 rfl rfl rfl (.n _)))) ?_
  refine XO.lit [_, _, _, _, _, _, _, _, _, _, _, _] [_, _, _, _, _, _, _, _, _, _, _, _] [⟨10, 0, 0, 2, 0, 0⟩, ⟨30, 0, 0, 2, 0, 0⟩] encHour (by rfl) (by rfl) rfl (by rfl) (by exact .c 0 6 rfl rfl rfl (.c 6 6 rfl rfl rfl (.n _))) (fun _ => rfl) (by rfl) rfl (by infer_instance) rfl fun v5 h5 O5 => ?_
  refine XO.q (Q.build [_, _, _, _] (.c 1 1 rfl rfl rfl (.c 2 1 rfl rfl rfl (.n _)))) ?_
  refine XO.q (Q.move rfl) ?_
  refine XO.q (Q.build [_, _, _, _, _, _, _, _] (.c 0 1 rfl rfl rfl (.c 1 4 rfl rfl rfl (.c 6 1 rfl rfl rfl (.c 7 1 rfl rfl rfl (.n _)))))) ?_
  refine XO.st rfl rfl rfl ?_
  refine XO.done ?_
  refine XK.rt [h5, emp] Tryz.func6 Tryz.results6 (.cell [_, _, _, _, _, _, _, _] rfl rfl rfl (.n)) ?_
  exact ⟨v5, h5, rfl, rfl, O5⟩
set_option maxHeartbeats 4000000 in
theorem awake10 : Spec Tryz.prog 7 #[] [] [] (fun v hs => v = .bool true ∧ hs = []) := by
  have nJ : OArr (.slice none 0 0) encJob 4 31 emp ([] : List KJob) := OArr.nil (fun _ => rfl)
  refine Spec.intro (fn := Tryz.f7) (N := 97) Tryz.func7 rfl Tryz.ntmps7 rfl fun B => ?_
  refine XK.seq ?_
  refine XK.region rfl ?_
  refine XO.q (Q.assign rfl) ?_
  refine XO.done ?_
  refine XK.seq ?_
  refine XK.region rfl ?_
  refine XO.call Tryz.call6 rfl rfl rfl (example10 0) fun v14 s14 R14 => ?_
  obtain ⟨vh1, kh1, rfl, rfl, OH1⟩ := R14
  dsimp only [List.cons_append, List.nil_append]
  refine XO.call Tryz.call21 rfl rfl rfl (Best_spec (exDay 0) vh1 (.slice none 0 0) kh1 emp) fun v15 s15 R15 => ?_
  obtain ⟨vs1, vc1, vp1, K1, kc1, kp1, pus1, KP1, tabs1, rfl, rfl, ow1, AS1, OC1, OP1, RP1, HT1, _⟩ := R15
  dsimp only [List.cons_append, List.nil_append]
  rw [ex_best0] at AS1 OC1 HT1
  rw [ex_best0]
  have HT1 := HT1 rfl
  dsimp only [exPlan] at AS1 OC1
  dsimp only [exPlan]
  refine XO.q (Q.move rfl) ?_
  refine XO.q (Q.extract rfl rfl) ?_
  refine XO.q (Q.extract rfl rfl) ?_
  refine XO.q (Q.extract rfl rfl) ?_
  refine XO.alloc fun b1 => ?_
  refine XO.st rfl rfl rfl ?_
  refine XO.q (Q.assign rfl) ?_
  refine XO.q (Q.assign rfl) ?_
  refine XO.done ?_
  refine XK.seq ?_
  refine XK.region rfl ?_
  refine XO.call Tryz.call6 rfl rfl rfl (example10 10) fun v20 s20 R20 => ?_
  obtain ⟨vh2, kh2, rfl, rfl, OH2⟩ := R20
  dsimp only [List.cons_append, List.nil_append]
  refine XO.call Tryz.call21 rfl rfl rfl (Best_spec (exDay 10) vh2 (.slice none 0 0) kh2 emp) fun v21 s21 R21 => ?_
  obtain ⟨vs2, vc2, vp2, K2, kc2, kp2, pus2, KP2, tabs2, rfl, rfl, ow2, AS2, OC2, OP2, RP2, HT2, _⟩ := R21
  dsimp only [List.cons_append, List.nil_append]
  rw [ex_best10] at AS2 OC2 HT2
  rw [ex_best10]
  have HT2 := HT2 rfl
  dsimp only [exPlan] at AS2 OC2
  dsimp only [exPlan]
  refine XO.q (Q.move rfl) ?_
  refine XO.q (Q.extract rfl rfl) ?_
  refine XO.q (Q.extract rfl rfl) ?_
  refine XO.q (Q.extract rfl rfl) ?_
  refine XO.alloc fun b4 => ?_
  refine XO.st rfl rfl rfl ?_
  refine XO.q (Q.assign rfl) ?_
  refine XO.q (Q.assign rfl) ?_
  refine XO.done ?_
  refine XK.seq ?_
  refine XK.drawn [1, 2, 4, 5, 6, 7, 8, 9, 10] [b1] [] (.q 1 (.q 2 (.br 0 true (.br 3 true (.q 4 (.q 5 (.q 6 (.q 7 (.q 8 (.q 9 (.q 10 .done))))))) .stop) .stop))) Tryz.mixed rfl (by kernel_rfl) ?_
  refine XT.q rfl rfl (Q.ldA [_, _, _] rfl rfl rfl) ?_
  refine XT.q rfl rfl (Q.build [_, _, _, _, _, _] (.c 0 1 rfl rfl rfl (.c 1 1 rfl rfl rfl (.c 2 1 rfl rfl rfl (.c 3 1 rfl rfl rfl (.c 4 1 rfl rfl rfl (.n _))))))) ?_
  refine XT.call rfl rfl Tryz.call6 rfl rfl rfl (example10 0) (fun v26 s26 R26 => ?_) XT.stop
  obtain ⟨vh3, kh3, rfl, rfl, OH3⟩ := R26
  dsimp only [List.cons_append, List.nil_append]
  refine ⟨inferInstance, ?_⟩
  refine XT.call rfl rfl Tryz.call35 rfl rfl rfl (Deliver_spec (exDay 0) vh3 (.slice none 0 0) kh3 emp (exPlan 40) vs1 vc1 K1 kc1 ⟨0, 1, 2, 1, 1, 0⟩) (fun v29 s29 R29 => ?_) XT.stop
  obtain ⟨vd3, kd3, rfl, rfl, od3, AD3⟩ := R29
  dsimp only [List.cons_append, List.nil_append]
  refine ⟨inferInstance, ?_⟩
  rw [ex_yes] at AD3
  rw [ex_yes]
  dsimp only
  dsimp only at AD3
  refine XT.q rfl rfl (Q.move rfl) ?_
  refine XT.q rfl rfl (Q.extract rfl rfl) ?_
  refine XT.q rfl rfl (Q.extract rfl rfl) ?_
  refine XT.q rfl rfl (Q.extract rfl rfl) ?_
  refine XT.q rfl rfl (Q.assign rfl) ?_
  refine XT.q rfl rfl (Q.assign rfl) ?_
  refine XT.q rfl rfl (Q.assign rfl) ?_
  refine XT.done ?_
  refine XK.seq ?_
  refine XK.drawn [1, 2, 4, 5, 6, 7, 8, 9, 10] [b1] [] (.q 1 (.q 2 (.br 0 true (.br 3 true (.q 4 (.q 5 (.q 6 (.q 7 (.q 8 (.q 9 (.q 10 .done))))))) .stop) .stop))) Tryz.mixed rfl (by kernel_rfl) ?_
  refine XT.q rfl rfl (Q.ldA [_, _, _] rfl rfl rfl) ?_
  refine XT.q rfl rfl (Q.build [_, _, _, _, _, _] (.c 0 1 rfl rfl rfl (.c 1 1 rfl rfl rfl (.c 2 1 rfl rfl rfl (.c 3 1 rfl rfl rfl (.c 4 1 rfl rfl rfl (.n _))))))) ?_
  refine XT.call rfl rfl Tryz.call6 rfl rfl rfl (example10 0) (fun v34 s34 R34 => ?_) XT.stop
  obtain ⟨vh4, kh4, rfl, rfl, OH4⟩ := R34
  dsimp only [List.cons_append, List.nil_append]
  refine ⟨inferInstance, ?_⟩
  refine XT.call rfl rfl Tryz.call35 rfl rfl rfl (Deliver_spec (exDay 0) vh4 (.slice none 0 0) kh4 emp (exPlan 40) vs1 vc1 K1 kc1 ⟨1, 2, 2, 1, 1, 0⟩) (fun v37 s37 R37 => ?_) XT.stop
  obtain ⟨vd4, kd4, rfl, rfl, od4, AD4⟩ := R37
  dsimp only [List.cons_append, List.nil_append]
  refine ⟨inferInstance, ?_⟩
  rw [ex_no] at AD4
  rw [ex_no]
  dsimp only
  dsimp only at AD4
  refine XT.q rfl rfl (Q.move rfl) ?_
  refine XT.q rfl rfl (Q.extract rfl rfl) ?_
  refine XT.q rfl rfl (Q.extract rfl rfl) ?_
  refine XT.q rfl rfl (Q.extract rfl rfl) ?_
  refine XT.q rfl rfl (Q.assign rfl) ?_
  refine XT.q rfl rfl (Q.assign rfl) ?_
  refine XT.q rfl rfl (Q.assign rfl) ?_
  refine XT.done ?_
  refine XK.seq ?_
  refine XK.drawn [0, 1, 2, 3, 4, 5, 6, 7, 8, 9, 10, 11, 12, 13, 14, 15, 16, 17, 18, 19, 20, 21, 22, 23, 24, 25, 26, 29, 30, 31, 32, 33, 34, 36, 37, 39, 40, 42, 43, 44, 45, 46, 47, 48, 49, 50, 51, 52, 55, 56] [b1, b4] [] (.q 0 (.q 1 (.q 2 (.q 3 (.q 4 (.q 5 (.q 6 (.q 7 (.q 8 (.q 9 (.q 10 (.q 11 (.q 12 (.q 13 (.q 14 (.q 15 (.q 16 (.q 17 (.q 18 (.q 19 (.q 20 (.q 21 (.q 22 (.q 23 (.q 24 (.q 25 (.q 26 (.br 27 true (.br 28 true (.q 29 (.q 30 (.q 31 (.q 32 (.q 33 (.q 34 (.br 35 true (.q 36 (.q 37 (.q 39 (.q 40 (.br 38 true (.br 41 true (.q 42 (.q 43 (.q 44 (.q 45 (.q 46 (.q 47 (.q 48 (.q 49 (.q 50 (.q 51 (.q 52 (.br 53 true (.br 54 true (.q 55 (.q 56 .done)) .stop) .stop)))))))))))) .stop) .stop))))) .stop))))))) .stop) .stop)))))))))))))))))))))))))))) Tryz.mixed rfl (by kernel_rfl) ?_
  refine XT.q rfl rfl (Q.move rfl) ?_
  refine XT.q rfl rfl (Q.eql rfl rfl) ?_
  refine XT.q rfl rfl (Q.move rfl) ?_
  refine XT.q rfl rfl (Quiet.guardT rfl rfl fun g44 p44 => Q.move rfl) ?_
  refine XT.q rfl rfl (Quiet.guardT rfl rfl fun g45 p45 => Q.eql (lzv rfl rfl) rfl) ?_
  refine XT.q rfl rfl (Q.and rfl (fun hp => lzv hp rfl)) ?_
  refine XT.q rfl rfl (Q.move rfl) ?_
  refine XT.q rfl rfl (Quiet.guardT rfl rfl fun g48 p48 => Q.move rfl) ?_
  refine XT.q rfl rfl (Quiet.guardT rfl rfl fun g49 p49 => Q.eql (lzv rfl rfl) rfl) ?_
  refine XT.q rfl rfl (Q.and rfl (fun hp => lzv hp rfl)) ?_
  refine XT.q rfl rfl (Q.move rfl) ?_
  refine XT.q rfl rfl (Quiet.guardT rfl rfl fun g52 p52 => Q.move rfl) ?_
  refine XT.q rfl rfl (Quiet.guardT rfl rfl fun g53 p53 => Q.eql (lzv rfl rfl) rfl) ?_
  refine XT.q rfl rfl (Q.and rfl (fun hp => lzv hp rfl)) ?_
  refine XT.q rfl rfl (Q.move rfl) ?_
  refine XT.q rfl rfl (Quiet.guardT rfl rfl fun g56 p56 => Q.fieldAddr rfl) ?_
  refine XT.q rfl rfl (Quiet.guardT rfl rfl fun g57 p57 => Q.ld (lzv rfl rfl) rfl) ?_
  refine XT.q rfl rfl (Quiet.guardT rfl rfl fun g58 p58 => Q.eql (lzv rfl rfl) rfl) ?_
  refine XT.q rfl rfl (Q.and rfl (fun hp => lzv hp rfl)) ?_
  refine XT.q rfl rfl (Q.move rfl) ?_
  refine XT.q rfl rfl (Quiet.guardT rfl rfl fun g61 p61 => Q.fieldAddr rfl) ?_
  refine XT.q rfl rfl (Quiet.guardT rfl rfl fun g62 p62 => Q.ld (lzv rfl rfl) rfl) ?_
  refine XT.q rfl rfl (Quiet.guardT rfl rfl fun g63 p63 => Q.eql (lzv rfl rfl) rfl) ?_
  refine XT.q rfl rfl (Q.and rfl (fun hp => lzv hp rfl)) ?_
  refine XT.q rfl rfl (Q.move rfl) ?_
  refine XT.q rfl rfl (Quiet.guardT rfl rfl fun g66 p66 => Q.fieldAddr rfl) ?_
  refine XT.q rfl rfl (Quiet.guardT rfl rfl fun g67 p67 => Q.ld (lzv rfl rfl) rfl) ?_
  refine XT.litS [_, _] [_, _] [2, -2] encI rfl rfl rfl rfl rfl (by rfl) (by rfl) rfl (by rfl) (by exact .c 0 1 rfl rfl rfl (.c 1 1 rfl rfl rfl (.n _))) (fun _ => rfl) (by rfl) rfl (by infer_instance) rfl (fun v68 h68 O68 => ⟨inferInstance, ?_⟩) XT.stop
  refine XT.callS rfl rfl rfl rfl rfl Tryz.call34 rfl (.c (lzv rfl rfl) (.c rfl .n)) rfl (equalI vc1 v68 kc1 h68 [2, -2] [2, -2]) (fun v69 s69 R69 => ?_) XT.stop
  obtain ⟨rfl, rfl⟩ := R69
  dsimp only [List.cons_append, List.nil_append]
  refine ⟨inferInstance, ?_⟩
  refine XT.q rfl rfl (Q.and rfl (fun _ => rfl)) ?_
  refine XT.q rfl rfl (Q.move rfl) ?_
  refine XT.q rfl rfl (Quiet.guardT rfl rfl fun g72 p72 => Q.fieldAddr rfl) ?_
  refine XT.q rfl rfl (Quiet.guardT rfl rfl fun g73 p73 => Q.ld (lzv rfl rfl) rfl) ?_
  refine XT.q rfl rfl (Quiet.guardT rfl rfl fun g74 p74 => Q.fieldAddr rfl) ?_
  refine XT.q rfl rfl (Quiet.guardT rfl rfl fun g75 p75 => Q.ld (lzv rfl rfl) rfl) ?_
  refine XT.callS rfl rfl rfl rfl rfl Tryz.call34 rfl (.c (lzv rfl rfl) (.c (lzv rfl rfl) .n)) rfl (equalI vc2 vc1 kc2 kc1 [2, -2] [2, -2]) (fun v76 s76 R76 => ?_) XT.stop
  obtain ⟨rfl, rfl⟩ := R76
  dsimp only [List.cons_append, List.nil_append]
  refine ⟨inferInstance, ?_⟩
  refine XT.q rfl rfl (Q.and rfl (fun _ => rfl)) ?_
  refine XT.q rfl rfl (Q.move rfl) ?_
  refine XT.q rfl rfl (Quiet.guardT rfl rfl fun g80 p80 => Q.ldA [_, _, _] rfl rfl rfl) ?_
  refine XT.q rfl rfl (Quiet.guardT rfl rfl fun g81 p81 => Q.move rfl) ?_
  refine XT.callS rfl rfl rfl rfl rfl Tryz.call6 rfl (.c rfl .n) rfl (example10 0) (fun v79 s79 R79 => ?_) XT.stop
  obtain ⟨vh5, kh5, rfl, rfl, OH5⟩ := R79
  dsimp only [List.cons_append, List.nil_append]
  refine ⟨inferInstance, ?_⟩
  refine XT.callS rfl rfl rfl rfl rfl Tryz.call26 rfl (.c rfl (.c (lzv rfl rfl) (.c (lzv rfl rfl) .n))) rfl (Verify_spec (exDay 0) vh5 (.slice none 0 0) kh5 emp (exPlan 40) vs1 vc1 K1 kc1 vp1 kp1 KP1 pus1 tabs1 RP1) (fun v82 s82 R82 => ?_) XT.stop
  obtain ⟨rfl, rfl⟩ := R82
  dsimp only [List.cons_append, List.nil_append]
  refine ⟨inferInstance, ?_⟩
  rw [ex_verify HT1.len HT1.tab]
  refine XT.q rfl rfl (Quiet.guardT rfl rfl fun g83 p83 => Q.eql rfl rfl) ?_
  refine XT.q rfl rfl (Q.and rfl (fun hp => lzv hp rfl)) ?_
  refine XT.q rfl rfl (Q.move rfl) ?_
  refine XT.q rfl rfl (Quiet.guardT rfl rfl fun g86 p86 => Q.move rfl) ?_
  refine XT.q rfl rfl (Q.and rfl (fun hp => lzv hp rfl)) ?_
  refine XT.q rfl rfl (Q.move rfl) ?_
  refine XT.q rfl rfl (Quiet.guardT rfl rfl fun g89 p89 => Q.move rfl) ?_
  refine XT.q rfl rfl (Quiet.guardT rfl rfl fun g90 p90 => Q.not (lzv rfl rfl)) ?_
  refine XT.q rfl rfl (Q.and rfl (fun hp => lzv hp rfl)) ?_
  refine XT.q rfl rfl (Q.move rfl) ?_
  refine XT.q rfl rfl (Quiet.guardT rfl rfl fun g93 p93 => Q.move rfl) ?_
  refine XT.litS [_] [_] [1] encI rfl rfl rfl rfl rfl (by rfl) (by rfl) rfl (by rfl) (by exact .c 0 1 rfl rfl rfl (.n _)) (fun _ => rfl) (by rfl) rfl (by infer_instance) rfl (fun v94 h94 O94 => ⟨inferInstance, ?_⟩) XT.stop
  refine XT.callS rfl rfl rfl rfl rfl Tryz.call34 rfl (.c (lzv rfl rfl) (.c rfl .n)) rfl (equalI vd4 v94 kd4 h94 [1] [1]) (fun v95 s95 R95 => ?_) XT.stop
  obtain ⟨rfl, rfl⟩ := R95
  dsimp only [List.cons_append, List.nil_append]
  refine ⟨inferInstance, ?_⟩
  refine XT.q rfl rfl (Q.and rfl (fun _ => rfl)) ?_
  refine XT.q rfl rfl (Q.assign rfl) ?_
  refine XT.done ?_
  refine XK.rt [] Tryz.func7 Tryz.results7 (.t rfl .n) ?_
  exact ⟨rfl, rfl⟩
end Go.X
