/- A part of the proof: a small program logic, plain laws and contracts of functions, each proved by a walk through its operations. No condition but those that stand in each theorem. -/
import Derived.Test.YtkoojoljdpbnoaaGreatA6
set_option linter.unusedSimpArgs false
set_option linter.unusedVariables false
set_option maxRecDepth 20000
namespace Go.X.Ma
open Go.Proofs
theorem at_spec (d : KDay) (vh vj vb : Value) (vv : Value) (ok : DayOk d) (b : Nat) (h e m : Int) (h0 : 0 ≤ h ∧ h ≤ 100) (e0 : -100 ≤ e ∧ e ≤ 100) (m0 : -1000 ≤ m ∧ m ≤ 1000) : Spec Tryz.prog 147 #[ptr b 0, .int .i64 h, .int .i64 e, .int .i64 m] [] [blk b [vh, .int .i64 d.store.energy, .int .i64 d.store.full, .int .i64 d.store.power, .int .i64 d.store.fin, vj, .int .i64 d.most, .int .i64 d.peak, vb, vv] 298] (fun v hs => v = .int .i64 (atK d h e m) ∧ hs = []) := by
 have f0 := ok.store.f0
 have f1 := ok.store.f1
 have q0 := ok.m0
 have q1 := ok.m1
 have p1 : 0 ≤ h * (d.store.full + 1) ∧ h * (d.store.full + 1) ≤ 1100 := ⟨Int.mul_nonneg h0.1 (by omega), Int.le_trans (Int.mul_le_mul h0.2 (show d.store.full + 1 ≤ 11 by omega) (by omega) (by omega)) (by decide)⟩
 have p2 : -100 * 41 ≤ (h * (d.store.full + 1) + e) * (d.most + 1) ∧ (h * (d.store.full + 1) + e) * (d.most + 1) ≤ 1200 * 41 := by
  constructor
  ·rcases Int.le_total 0 (h * (d.store.full + 1) + e) with hp | hp
   ·have := Int.mul_nonneg hp (show 0 ≤ d.most + 1 by omega); omega
   ·have := Int.mul_le_mul_of_nonneg_right (show -100 ≤ h * (d.store.full + 1) + e by omega) (show 0 ≤ d.most + 1 by omega)
    omega
  ·rcases Int.le_total 0 (h * (d.store.full + 1) + e) with hp | hp
   ·exact Int.mul_le_mul (by omega) (by omega) (by omega) (by omega)
   ·have := Int.mul_nonneg (show 0 ≤ -(h * (d.store.full + 1) + e) by omega) (show 0 ≤ d.most + 1 by omega)
    rw [Int.neg_mul] at this; omega
 refine Spec.intro (fn := Tryz.f147) (N := 29) Tryz.func147 rfl Tryz.ntmps147 rfl fun B => ?_
 refine XK.seq (XK.region rfl (XO.q (Q.assign rfl) (XO.done (XK.seq ?_))))
 refine XK.drawn [0, 1, 2, 3, 4, 5, 6, 7, 8, 9, 10, 11, 12, 13, 14, 15, 16, 17, 18, 19, 20] [] [] (.q 0 (.q 1 (.q 2 (.q 3 (.q 4 (.q 5 (.q 6 (.q 7 (.q 8 (.q 9 (.q 10 (.q 11 (.q 12 (.q 13 (.q 14 (.q 15 (.q 16 (.q 17 (.q 18 (.q 19 (.q 20 .done))))))))))))))))))))) Tryz.mixed rfl (by kernel_rfl) ?_
 refine XT.q rfl rfl (Q.move rfl) ?_
 refine XT.q rfl rfl (Q.move rfl) ?_
 refine XT.q rfl rfl (Q.nilCheck rfl) ?_
 refine XT.q rfl rfl (Q.fieldAddr rfl) ?_
 refine XT.q rfl rfl (Q.fieldAddr rfl) ?_
 refine XT.q rfl rfl (Q.fieldAddr rfl) ?_
 refine XT.q rfl rfl (Q.ld rfl rfl) ?_
 refine XT.q rfl rfl (Q.add rfl rfl ⟨by omega, by omega⟩) ?_
 refine XT.q rfl rfl (Q.mul rfl rfl ⟨by omega, by omega⟩) ?_
 refine XT.q rfl rfl (Q.move rfl) ?_
 refine XT.q rfl rfl (Q.add rfl rfl ⟨by omega, by omega⟩) ?_
 refine XT.q rfl rfl (Q.move rfl) ?_
 refine XT.q rfl rfl (Q.nilCheck rfl) ?_
 refine XT.q rfl rfl (Q.fieldAddr rfl) ?_
 refine XT.q rfl rfl (Q.fieldAddr rfl) ?_
 refine XT.q rfl rfl (Q.ld rfl rfl) ?_
 refine XT.q rfl rfl (Q.add rfl rfl ⟨by omega, by omega⟩) ?_
 refine XT.q rfl rfl (Q.mul rfl rfl ⟨by omega, by omega⟩) ?_
 refine XT.q rfl rfl (Q.move rfl) ?_
 refine XT.q rfl rfl (Q.add rfl rfl ⟨by omega, by omega⟩) ?_
 refine XT.q rfl rfl (Q.assign rfl) ?_
 refine XT.done ?_
 refine XK.rt [] Tryz.func147 Tryz.results147 (.t rfl .n) ?_
 exact ⟨rfl, rfl⟩
def nextC (d : KDay) (base : List Int) (hour : Nat) (e m c : Int) : Int := atK d ((hour : Int) + 1) (e + c) (max m (base.getD hour default + c))
def chItem (d : KDay) (base : List Int) (hour : Nat) (e m c : Int) : List Value := [.int .i64 c, .agg #[.int .i64 (nextC d base hour e m c), .int .i64 (priceH (d.hours.getD hour default) (base.getD hour default + c))]]
def chItems (d : KDay) (base : List Int) (hour : Nat) (e m : Int) : List (List Value) := (List.range (cntC d (base.getD hour default) e)).map fun (k : Nat) => chItem d base hour e m (lowC d e + (k : Int))
theorem chItems_len (d : KDay) (base : List Int) (hour : Nat) (e m : Int) : (chItems d base hour e m).length = cntC d (base.getD hour default) e := by simp [chItems]
theorem chItems_at {d : KDay} {base : List Int} {hour : Nat} {e m : Int} {k : Nat} (h : k < cntC d (base.getD hour default) e) : (chItems d base hour e m).getD k [] = chItem d base hour e m (lowC d e + (k : Int)) := by
 rw [List.getD_eq_getElem?_getD, chItems, List.getElem?_map, List.getElem?_range h]; rfl
theorem chItems_two {d : KDay} {base : List Int} {hour : Nat} {e m : Int} : ∀ i, i < (chItems d base hour e m).length → ((chItems d base hour e m).getD i []).length = 2 := fun i hi => by
 rw [chItems_len] at hi
 rw [chItems_at hi]; rfl
theorem charges1 (d : KDay) (vh vj : Value) (hh hj : PHeap) [ih : Arr vh encHour 6 hh d.hours] [ij : Arr vj encJob 4 hj d.jobs] (vb vv : Value) (hb : PHeap) (base : List Int) [jb : Arr vb encI 1 hb base] (ok : DayOk d) (bo : BaseOk d base) (b b1 b2 b3 b4 hour : Nat) (hh1 : hour < d.hours.length) (e m : Int) (so : StateOk d e m) :
  It Tryz.prog (.func (.func 205) #[] #[ptr b1 0, ptr b2 0, ptr b3 0, ptr b4 0]) (chItems d base hour e m) [blk b1 [ptr b 0] 295, blk b2 [.int .i64 e] 3, blk b3 [.int .i64 ((hour : Nat) : Int)] 3, blk b4 [.int .i64 m] 3, blk b [vh, .int .i64 d.store.energy, .int .i64 d.store.full, .int .i64 d.store.power, .int .i64 d.store.fin, vj, .int .i64 d.most, .int .i64 d.peak, vb, vv] 298, hb, hh] := by
 intro f Hr QQ XX hy q hq
 refine VSpec.fn (P := Tryz.prog) (g := 205) (fst := []) (vs := [f]) (cap := [ptr b1 0, ptr b2 0, ptr b3 0, ptr b4 0]) (A := [f, ptr b1 0, ptr b2 0, ptr b3 0, ptr b4 0]) (Hm := [q]) Tryz.call205 rfl ?_
 dsimp only [lcA, lnA]
 rw [chItems_len] at *
 have lh := ih.le
 have f0 := ok.store.f0
 have f1 := ok.store.f1
 have p0 := ok.store.p0
 have p1 := ok.store.p1
 have q0 := ok.m0
 have q1 := ok.m1
 have e0 := so.e0
 have e1 := so.e1
 have m0 := so.m0
 have m1 := so.m1
 have h24 := ok.h2
 have bl := bo.len
 have br := bo.rng hour hh1
 have hk := ok.hour hour hh1
 have hcall : ∀ k : Nat, k < cntC d (base.getD hour default) e → ∀ q, QQ k q →
   VSpec Tryz.prog f (chItem d base hour e m (lowC d e + (k : Int))) [q] Hr (fun v hs => ∃ bb q', v = .bool bb ∧ hs = [q'] ∧ (bb = true → QQ (k + 1) q') ∧ (bb = false → XX q')) := by
  intro k hk q hq
  have := hy k hk q hq
  rwa [chItems_at hk] at this
 refine Spec.intro (fn := Tryz.f205) (N := 78) Tryz.func205 rfl Tryz.ntmps205 rfl fun B => ?_
 refine XK.seq (XK.region rfl ?_)
 refine XO.q (Q.ld rfl rfl) ?_
 refine XO.q (Q.nilCheck rfl) ?_
 refine XO.q (Q.fieldAddr rfl) ?_
 refine XO.q (Q.fieldAddr rfl) ?_
 refine XO.q (Q.ldA [_, _, _, _] rfl rfl rfl) ?_
 refine XO.alloc fun b6 => ?_
 refine XO.st rfl rfl rfl ?_
 refine XO.done (XK.seq (XK.region rfl ?_))
 refine XO.q (Q.fieldAddr rfl) ?_
 refine XO.q (Q.ld rfl rfl) ?_
 refine XO.q (Q.neg rfl ⟨by omega, by omega⟩) ?_
 refine XO.q (Q.ld rfl rfl) ?_
 refine XO.q (Q.neg rfl ⟨by omega, by omega⟩) ?_
 refine XO.q (Q.max rfl rfl) ?_
 refine XO.q (Q.assign rfl) (XO.done (XK.block ?_))
 refine XK.while (X := Nat × Int × PHeap) [7, 8, 20, 21, 22, 23, 24, 25, 26, 27, 28, 29, 30, 31, 32, 33, 34, 35, 36, 37, 38, 39, 40, 41, 42, 43, 44, 45, 46, 47, 48, 49, 50, 51, 52, 53, 54, 55, 56, 57, 58, 59, 60, 61, 62, 63, 64, 65, 66, 67, 68, 69, 70, 71, 72, 73, 74, 75, 76, 77] (fun ⟨k, c, q1⟩ => [(7, some (.int .i64 c))]) (fun ⟨k, c, q1⟩ => [q1]) (fun ⟨k, c, q1⟩ => k ≤ cntC d (base.getD hour default) e ∧ c = lowC d e + (k : Int) ∧ QQ k q1) (fun ⟨k, c, q1⟩ => cntC d (base.getD hour default) e - k) (0, _, q) [q] rfl ⟨by omega, by unfold lowC; omega, hq⟩ (.c rfl (.base 0 rfl rfl)) ?_
 rintro ⟨k, c, q1⟩ ⟨hk2, hc, hQ⟩ ih0
 dsimp only [lcA, lnA] at ih0 ⊢
 refine XK.seq (XK.seq ?_)
 refine XK.drawn [0, 1, 2, 3, 4, 5, 6, 7, 8, 9, 10, 11, 12, 13, 14, 15, 16, 17, 18, 19, 20, 21] [b6, b2, b1, b3] [] (.q 0 (.q 1 (.q 2 (.q 3 (.q 4 (.q 5 (.q 6 (.q 7 (.q 8 (.q 9 (.q 10 (.q 11 (.q 12 (.q 13 (.q 14 (.q 15 (.q 16 (.q 17 (.q 18 (.q 19 (.q 20 (.q 21 .done)))))))))))))))))))))) Tryz.mixed rfl (by kernel_rfl) ?_
 refine XT.q rfl rfl (Q.move rfl) ?_
 refine XT.q rfl rfl (Q.fieldAddr rfl) ?_
 refine XT.q rfl rfl (Q.ld rfl rfl) ?_
 refine XT.q rfl rfl (Q.fieldAddr rfl) ?_
 refine XT.q rfl rfl (Q.ld rfl rfl) ?_
 refine XT.q rfl rfl (Q.ld rfl rfl) ?_
 refine XT.q rfl rfl (Q.sub rfl rfl ⟨by omega, by omega⟩) ?_
 refine XT.q rfl rfl (Q.ld rfl rfl) ?_
 refine XT.q rfl rfl (Q.nilCheck rfl) ?_
 refine XT.q rfl rfl (Q.fieldAddr rfl) ?_
 refine XT.q rfl rfl (Q.fieldAddr rfl) ?_
 refine XT.q rfl rfl (Q.ld rfl rfl) ?_
 refine XT.q rfl rfl (Q.ld rfl rfl) ?_
 refine XT.q rfl rfl (Q.nilCheck rfl) ?_
 refine XT.q rfl rfl (Q.fieldAddr rfl) ?_
 refine XT.q rfl rfl (Q.ld rfl rfl) ?_
 refine XT.q rfl rfl (Q.ld rfl rfl) ?_
 refine XT.ix rfl rfl rfl rfl (by omega) (by omega) fun i37 => ?_
 refine XT.q rfl rfl (Q.ldE rfl (by first | assumption | omega) rfl) ?_
 refine XT.q rfl rfl (Q.sub rfl rfl ⟨by omega, by omega⟩) ?_
 refine XT.q rfl rfl (Q.min3 rfl rfl rfl) ?_
 refine XT.q rfl rfl (Q.leq rfl rfl) ?_
 refine XT.done ?_
 refine XK.if rfl (fun c0 => ?_) (fun c0 => ?_)
 ·skip
  have hkc : k < cntC d (base.getD hour default) e := by unfold cntC highC; omega
  have cr : -10 ≤ c ∧ c ≤ 10 ∧ 0 ≤ e + c ∧ e + c ≤ 10 := by unfold lowC at hc; omega
  refine XK.skip (XK.seq (XK.block (XK.seq ?_)))
  refine XK.drawn [0, 1, 2, 3, 4, 5, 6, 7, 8, 9] [b1, b3] [] (.q 0 (.q 1 (.q 2 (.q 3 (.q 4 (.q 5 (.q 6 (.q 7 (.q 8 (.q 9 .done)))))))))) Tryz.mixed rfl (by kernel_rfl) ?_
  refine XT.q rfl rfl (Q.ld rfl rfl) ?_
  refine XT.q rfl rfl (Q.nilCheck rfl) ?_
  refine XT.q rfl rfl (Q.fieldAddr rfl) ?_
  refine XT.q rfl rfl (Q.ld rfl rfl) ?_
  refine XT.q rfl rfl (Q.ld rfl rfl) ?_
  refine XT.ix rfl rfl rfl rfl (by omega) (by omega) fun i49 => ?_
  refine XT.q rfl rfl (Q.ldE rfl (by first | assumption | omega) rfl) ?_
  refine XT.q rfl rfl (Q.move rfl) ?_
  refine XT.q rfl rfl (Q.add rfl rfl ⟨by omega, by omega⟩) ?_
  refine XT.q rfl rfl (Q.assign rfl) ?_
  refine XT.done ?_
  refine XK.seq ?_
  refine XK.drawn [0, 1, 2, 3, 4, 5, 6, 7, 8, 9, 10, 12, 13, 14, 15, 16, 17, 18, 19, 20, 22, 24] [b1, b3, b2, b4] [] (.q 0 (.q 1 (.q 2 (.q 3 (.q 4 (.q 5 (.q 6 (.q 7 (.q 8 (.q 9 (.q 10 (.q 12 (.q 13 (.q 14 (.q 15 (.q 16 (.q 17 (.q 18 (.q 19 (.q 20 (.br 11 true (.br 21 true (.q 22 (.br 23 true (.q 24 .done) .stop)) .stop) .stop))))))))))))))))))))) Tryz.mixed rfl (by kernel_rfl) ?_
  refine XT.q rfl rfl (Q.move rfl) ?_
  refine XT.q rfl rfl (Q.move rfl) ?_
  refine XT.q rfl rfl (Q.ld rfl rfl) ?_
  refine XT.q rfl rfl (Q.ld rfl rfl) ?_
  refine XT.q rfl rfl (Q.add rfl rfl ⟨by omega, by omega⟩) ?_
  refine XT.q rfl rfl (Q.ld rfl rfl) ?_
  refine XT.q rfl rfl (Q.move rfl) ?_
  refine XT.q rfl rfl (Q.add rfl rfl ⟨by omega, by omega⟩) ?_
  refine XT.q rfl rfl (Q.ld rfl rfl) ?_
  refine XT.q rfl rfl (Q.move rfl) ?_
  refine XT.q rfl rfl (Q.max rfl rfl) ?_
  refine XT.q rfl rfl (Q.ld rfl rfl) ?_
  refine XT.q rfl rfl (Q.nilCheck rfl) ?_
  refine XT.q rfl rfl (Q.fieldAddr rfl) ?_
  refine XT.q rfl rfl (Q.fieldAddr rfl) ?_
  refine XT.q rfl rfl (Q.ld rfl rfl) ?_
  refine XT.q rfl rfl (Q.ld rfl rfl) ?_
  refine XT.ix rfl rfl rfl rfl (by omega) (by omega) fun i71 => ?_
  refine XT.q rfl rfl (Q.ldEA [_, _, _, _, _, _] rfl (by first | assumption | omega) rfl rfl) ?_
  refine XT.q rfl rfl (Q.move rfl) ?_
  refine XT.call rfl rfl Tryz.call147 rfl rfl rfl (at_spec d vh vj vb vv ok b ((hour : Int) + 1) (e + c) (max m (base.getD hour default + c)) (by omega) (by omega) (by omega)) (fun v64 s64 R64 => ?_) XT.stop
  obtain ⟨rfl, rfl⟩ := R64
  dsimp only [lcA, lnA]
  refine ⟨inferInstance, ?_⟩
  refine XT.call rfl rfl Tryz.call162 rfl rfl rfl (price_spec (d.hours.getD hour default) hk (base.getD hour default + c) (by omega) (by omega)) (fun v74 s74 R74 => ?_) XT.stop
  obtain ⟨rfl, rfl⟩ := R74
  dsimp only [lcA, lnA]
  refine ⟨inferInstance, ?_⟩
  refine XT.q rfl rfl (Q.build [_, _] (.c 0 1 rfl rfl rfl (.c 1 1 rfl rfl rfl (.n _)))) ?_
  subst hc
  refine XT.vcall rfl rfl rfl rfl (hcall k hkc q1 hQ) (fun v76 s76 R76 => ?_) XT.stop
  obtain ⟨bb, q2, rfl, rfl, hT, hF⟩ := R76
  dsimp only [lcA, lnA]
  refine ⟨inferInstance, ?_⟩
  refine XT.q rfl rfl (Q.not rfl) ?_
  refine XT.done ?_
  refine XK.if rfl (fun c1 => ?_) (fun c1 => ?_)
  ·skip
   refine XK.rt [q2] Tryz.func205 Tryz.results205 (.n) ?_
   exact ⟨q2, rfl, .inr (hF (by cases bb <;> simp_all))⟩
  ·skip
   refine XK.skip ?_
   refine XK.inBlock ?_
   refine XK.region rfl (XO.q (Q.move rfl) ?_)
   refine XO.q (Q.add rfl rfl ⟨by omega, by omega⟩) ?_
   refine XO.q (Q.assign rfl) (XO.done ?_)
   exact ih0 (k + 1, _, q2) _ _ ⟨by dsimp only; omega, by dsimp only; omega, hT (by cases bb <;> simp_all)⟩ (by first | omega | (dsimp only; omega)) (.c rfl (.base 121 rfl rfl)) inferInstance
 ·skip
  refine XK.exit rfl ?_
  refine XK.fn [q1] Tryz.func205 Tryz.results205 (.n) ?_
  have hke : k = cntC d (base.getD hour default) e := by unfold cntC highC at hk2 ⊢; omega
  rw [hke] at hQ
  exact ⟨q1, rfl, .inl hQ⟩
end Go.X.Ma

set_option linter.unusedSimpArgs false
set_option linter.unusedVariables false
set_option maxRecDepth 20000
namespace Go.X.Ma
open Go.Proofs
theorem charges_spec (b : Nat) (hour : Nat) (e m : Int) : Spec Tryz.prog 195 #[ptr b 0, .int .i64 (hour : Nat), .int .i64 e, .int .i64 m] [] [] (fun v hs => ∃ b1 b2 b3 b4, v = .func (.func 205) #[] #[ptr b1 0, ptr b2 0, ptr b3 0, ptr b4 0] ∧ hs = [blk b1 [ptr b 0] 295, blk b2 [.int .i64 e] 3, blk b3 [.int .i64 ((hour : Nat) : Int)] 3, blk b4 [.int .i64 m] 3]) := by
 refine Spec.intro (fn := Tryz.f195) (N := 10) Tryz.func195 rfl Tryz.ntmps195 rfl fun B => ?_
 refine XK.seq (XK.region rfl ?_)
 refine XO.box rfl fun b4 => ?_
 refine XO.box rfl fun b5 => ?_
 refine XO.box rfl fun b6 => ?_
 refine XO.box rfl fun b7 => ?_
 refine XO.q (Q.assign rfl) (XO.done (XK.seq (XK.region rfl ?_)))
 refine XO.q (Q.func (fun _ he => rfl) (fun _ he => evs_rel he rfl)) ?_
 refine XO.q (Q.assign rfl) (XO.done ?_)
 refine XK.rt [blk b4 [ptr b 0] 295, blk b6 [.int .i64 e] 3, blk b5 [.int .i64 ((hour : Nat) : Int)] 3, blk b7 [.int .i64 m] 3] Tryz.func195 Tryz.results195 (.t rfl .n) ?_
 exact ⟨_, _, _, _, rfl, rfl⟩
set_option maxHeartbeats 1000000 in
theorem follows_spec (d : KDay) (vh vj : Value) (hh hj : PHeap) [ih : Arr vh encHour 6 hh d.hours] [ij : Arr vj encJob 4 hj d.jobs] (vb vv : Value) (hb hv : PHeap) (base vals : List Int) [jb : Arr vb encI 1 hb base] [jv : Arr vv encI 1 hv vals] (ok : DayOk d) (bo : BaseOk d base) (hvl : (vals.length : Int) = sizeK d) (b hour : Nat) (hh1 : hour ≤ d.hours.length) (e m : Int) (so : StateOk d e m)
  (fl : ∀ e' m', hour < d.hours.length → StateOk d e' m' → vals.getD (atK d ((hour : Int) + 1) e' m').toNat default = valH d base (hour + 1) e' m') :
  Spec Tryz.prog 192 #[ptr b 0, .int .i64 (hour : Nat), .int .i64 e, .int .i64 m] [] [blk b [vh, .int .i64 d.store.energy, .int .i64 d.store.full, .int .i64 d.store.power, .int .i64 d.store.fin, vj, .int .i64 d.most, .int .i64 d.peak, vb, vv] 298, hb, hv, hh] (fun v hs => v = .int .i64 (valH d base hour e m) ∧ hs = []) := by
 have lh := ih.le
 have h24 := ok.h2
 have p0 := ok.p0
 have p1 := ok.p1
 have m0 := so.m0
 have m1 := so.m1
 have q1 := ok.m1
 have pm := price_mul (a := d.peak) (b := m) p0 (by omega) m0 (by omega)
 refine Spec.intro (fn := Tryz.f192) (N := 60) Tryz.func192 rfl Tryz.ntmps192 rfl fun B => ?_
 refine XK.seq (XK.region rfl ?_)
 refine XO.box rfl fun b4 => ?_
 refine XO.q (Q.assign rfl) (XO.done (XK.seq (XK.seq (XK.region rfl (XO.q (Q.move rfl) ?_)))))
 refine XO.q (Q.ld rfl rfl) ?_
 refine XO.q (Q.nilCheck rfl) ?_
 refine XO.q (Q.fieldAddr rfl) ?_
 refine XO.q (Q.fieldAddr rfl) ?_
 refine XO.q (Q.ld rfl rfl) ?_
 refine XO.len rfl fun l19 => ?_
 refine XO.q (Q.eql rfl rfl) ?_
 refine XO.done ?_
 refine XK.if rfl (fun c0 => ?_) (fun c0 => ?_)
 ·skip
  have hn : hour = d.hours.length := by omega
  subst hn
  refine XK.seq (XK.seq (XK.region rfl (XO.q (Q.move rfl) ?_)))
  refine XO.q (Q.ld rfl rfl) ?_
  refine XO.q (Q.nilCheck rfl) ?_
  refine XO.q (Q.fieldAddr rfl) ?_
  refine XO.q (Q.fieldAddr rfl) ?_
  refine XO.q (Q.fieldAddr rfl) ?_
  refine XO.q (Q.ld rfl rfl) ?_
  refine XO.q (Q.lss rfl rfl) ?_
  refine XO.done ?_
  refine XK.if rfl (fun c1 => ?_) (fun c1 => ?_)
  ·skip
   refine XK.seq (XK.region rfl (XO.q (Q.assign rfl) (XO.done ?_)))
   refine XK.rt [] Tryz.func192 Tryz.results192 (.t rfl .n) ?_
   exact ⟨by rw [valH_end, if_pos c1]; rfl, rfl⟩
  ·skip
   refine XK.skip (XK.seq (XK.region rfl ?_))
   refine XO.q (Q.ld rfl rfl) ?_
   refine XO.q (Q.nilCheck rfl) ?_
   refine XO.q (Q.fieldAddr rfl) ?_
   refine XO.q (Q.fieldAddr rfl) ?_
   refine XO.q (Q.ld rfl rfl) ?_
   refine XO.q (Q.move rfl) ?_
   refine XO.q (Q.mul rfl rfl ⟨by omega, by omega⟩) ?_
   refine XO.q (Q.assign rfl) (XO.done ?_)
   refine XK.rt [] Tryz.func192 Tryz.results192 (.t rfl .n) ?_
   exact ⟨by rw [valH_end, if_neg c1], rfl⟩
 ·skip
  have hlt : hour < d.hours.length := by omega
  have br := bo.rng hour hlt
  refine XK.skip (XK.seq (XK.region rfl ?_))
  refine XO.alloc fun b9 => ?_
  refine XO.st rfl rfl rfl ?_
  refine XO.done (XK.seq (XK.seq (XK.region rfl ?_)))
  refine XO.q (Q.ld rfl rfl) ?_
  refine XO.q (Q.move rfl) (XO.q (Q.move rfl) (XO.q (Q.move rfl) ?_))
  refine XO.call Tryz.call195 rfl rfl rfl (charges_spec b hour e m) fun v40 s40 R40 => ?_
  obtain ⟨b1, b2, b3, b4, rfl, rfl⟩ := R40
  dsimp only [lcA, lnA]
  refine XO.done (XK.block ?_)
  refine XK.range (X := Nat) (ps := [41, 42]) (chItems d base hour e m) (fun k => [blk b9 [.int .i64 (leastN (d.hours.getD hour default) (base.getD hour default) e m (valH d base (hour + 1)) (lowC d e) (k))] 3]) (fun i k => k = i) (fun _ _ => False) (0) [blk b9 [.int .i64 1000000000000000] 3] rfl rfl rfl (charges1 d vh vj hh hj vb vv hb base ok bo b b1 b2 b3 b4 hour hlt e m so) rfl (chItems_two) ?_ ?_ (fun _ _ hJ => hJ.elim)
  ·rintro lq rec B' i k hi hki
   dsimp only [lcA, lnA]
   rw [chItems_len] at hi
   subst hki
   obtain ⟨sn, n1, n2, n3⟩ := next_ok ok so hi
   have ar := at_rng sn (show (0 : Int) ≤ ((hour : Int) + 1) by omega) (by omega)
   have ev : vals.getD (nextC d base hour e m (lowC d e + ((k : Nat) : Int))).toNat default = (valH d base (hour + 1) (e + (lowC d e + ((k : Nat) : Int))) (max m (base.getD hour default + (lowC d e + ((k : Nat) : Int))))) := fl _ _ hlt sn
   have arn : 0 ≤ nextC d base hour e m (lowC d e + ((k : Nat) : Int)) ∧ nextC d base hour e m (lowC d e + ((k : Nat) : Int)) < sizeK d := ar
   have vr := val_rng ok bo (show hour + 1 ≤ d.hours.length by omega) sn
   have pr := price_rng (h := d.hours.getD hour default) (ok.hour hour hlt) (n := base.getD hour default + (lowC d e + ((k : Nat) : Int))) (by omega) (by omega)
   have lr := least_rng ok bo hlt so (Nat.le_of_lt hi)
   rw [chItems_at hi]
   dsimp only [pars, chItem]
   unfold never at vr
   refine XK.region rfl ?_
   refine XO.alloc fun b11 => ?_
   refine XO.st rfl rfl rfl ?_
   refine XO.done ?_
   refine XK.beginRound ?_
   refine XK.block (XK.seq ?_)
   refine XK.drawn [0, 1, 2, 3, 4, 5, 6, 7, 8] [b4, b11] [] (.q 0 (.q 1 (.q 2 (.q 3 (.q 4 (.q 5 (.q 6 (.q 7 (.q 8 .done))))))))) Tryz.mixed rfl (by kernel_rfl) ?_
   refine XT.q rfl rfl (Q.ld rfl rfl) ?_
   refine XT.q rfl rfl (Q.nilCheck rfl) ?_
   refine XT.q rfl rfl (Q.fieldAddr rfl) ?_
   refine XT.q rfl rfl (Q.ld rfl rfl) ?_
   refine XT.q rfl rfl (Q.ixA rfl rfl (by omega) (by omega)) ?_
   refine XT.q rfl rfl (Q.ld rfl rfl) ?_
   refine XT.ix rfl rfl rfl rfl (by omega) (by omega) fun i49 => ?_
   refine XT.q rfl rfl (Q.ldE rfl (by first | assumption | omega) rfl) ?_
   rw [ev]
   refine XT.q rfl rfl (Q.assign rfl) ?_
   refine XT.done ?_
   refine XK.seq (XK.region rfl (XO.q (Q.move rfl) ?_))
   refine XO.q (Q.lss rfl rfl) ?_
   refine XO.done ?_
   refine XK.if rfl (fun c2 => ?_) (fun c2 => ?_)
   ·skip
    refine XK.region rfl ?_
    refine XO.q (Q.ld rfl rfl) ?_
    refine XO.q (Q.ixA rfl rfl (by omega) (by omega)) ?_
    refine XO.q (Q.ld rfl rfl) ?_
    refine XO.q (Q.move rfl) ?_
    refine XO.q (Q.add rfl rfl ⟨by omega, by omega⟩) ?_
    refine XO.q (Q.min rfl rfl) ?_
    refine XO.st rfl rfl rfl ?_
    refine XO.done ?_
    refine XK.inBlock ?_
    rw [show min (leastN (d.hours.getD hour default) (base.getD hour default) e m (valH d base (hour + 1)) (lowC d e) (k)) ((priceH (d.hours.getD hour default) (base.getD hour default + (lowC d e + ((k : Nat) : Int)))) + (valH d base (hour + 1) (e + (lowC d e + ((k : Nat) : Int))) (max m (base.getD hour default + (lowC d e + ((k : Nat) : Int)))))) = (leastN (d.hours.getD hour default) (base.getD hour default) e m (valH d base (hour + 1)) (lowC d e) (k + 1)) by rw [leastN, seeC, if_pos (show (valH d base (hour + 1) (e + (lowC d e + ((k : Nat) : Int))) (max m (base.getD hour default + (lowC d e + ((k : Nat) : Int))))) < never from c2)]]
    exact XK.leave (j := none) [blk b9 [.int .i64 (leastN (d.hours.getD hour default) (base.getD hour default) e m (valH d base (hour + 1)) (lowC d e) (k + 1))] 3] trivial ⟨(k + 1), rfl, rfl⟩
   ·skip
    refine XK.skip ?_
    refine XK.inBlock ?_
    rw [show (leastN (d.hours.getD hour default) (base.getD hour default) e m (valH d base (hour + 1)) (lowC d e) (k)) = (leastN (d.hours.getD hour default) (base.getD hour default) e m (valH d base (hour + 1)) (lowC d e) (k + 1)) by rw [leastN, seeC, if_neg (show ¬ (valH d base (hour + 1) (e + (lowC d e + ((k : Nat) : Int))) (max m (base.getD hour default + (lowC d e + ((k : Nat) : Int))))) < never from c2)]]
    exact XK.leave (j := none) [blk b9 [.int .i64 (leastN (d.hours.getD hour default) (base.getD hour default) e m (valH d base (hour + 1)) (lowC d e) (k + 1))] 3] trivial ⟨(k + 1), rfl, rfl⟩
  ·rintro k hki
   dsimp only [lcA, lnA]
   rw [chItems_len] at hki
   subst hki
   refine XK.inBlock ?_
   refine XK.seq (XK.region rfl ?_)
   refine XO.q (Q.ld rfl rfl) ?_
   refine XO.q (Q.assign rfl) (XO.done ?_)
   refine XK.rt [] Tryz.func192 Tryz.results192 (.t rfl .n) ?_
   exact ⟨by rw [valH_step hlt], rfl⟩
end Go.X.Ma

set_option linter.unusedSimpArgs false
set_option linter.unusedVariables false
set_option maxRecDepth 20000
namespace Go.X.Ma
open Go.Proofs
theorem states_spec (d : KDay) (vh vj vb : Value) (vv : Value) (ok : DayOk d) (b : Nat) [ov : One vh] (hlen : (d.hours.length : Int) ≤ 24) (hh : PHeap) [ih : Arr vh encHour 6 hh d.hours] (f : Value) (Hr : List PHeap) (QQ : Int → Int → Int → PHeap → Prop) (XX : PHeap → Prop)
  (hcall : ∀ (h : Nat) (e m : Int) (q : PHeap), h ≤ d.hours.length → StateOk d e m → QQ h e m q → VSpec Tryz.prog f [.int .i64 (h : Nat), .int .i64 e, .int .i64 m] [q] Hr (fun v hs => ∃ bb q', v = .bool bb ∧ hs = [q'] ∧ (bb = true → QQ h e (m + 1) q') ∧ (bb = false → XX q')))
  (hE : ∀ h e q, QQ h e (d.most + 1) q → QQ h (e + 1) 0 q) (hH : ∀ h q, QQ h (d.store.full + 1) 0 q → QQ (h - 1) 0 0 q) (q : PHeap) (hq : QQ d.hours.length 0 0 q) :
  Spec Tryz.prog 193 #[ptr b 0, f] [q] (blk b [vh, .int .i64 d.store.energy, .int .i64 d.store.full, .int .i64 d.store.power, .int .i64 d.store.fin, vj, .int .i64 d.most, .int .i64 d.peak, vb, vv] 298 :: Hr) (fun v hs => ∃ bb q', v = .bool bb ∧ hs = [q'] ∧ (bb = true → QQ (-1) 0 0 q') ∧ (bb = false → XX q')) := by
 have f0 := ok.store.f0
 have f1 := ok.store.f1
 have m0 := ok.m0
 have m1 := ok.m1
 refine Spec.intro (fn := Tryz.f193) (N := 45) Tryz.func193 rfl Tryz.ntmps193 rfl fun B => ?_
 refine XK.seq (XK.region rfl (XO.q (Q.assign rfl) (XO.done (XK.seq (XK.seq ?_)))))
 refine XK.region rfl (XO.q (Q.move rfl) ?_)
 refine XO.q (Q.nilCheck rfl) ?_
 refine XO.q (Q.fieldAddr rfl) ?_
 refine XO.q (Q.fieldAddr rfl) ?_
 refine XO.q (Q.ld rfl rfl) ?_
 refine XO.len rfl fun l13 => ?_
 refine XO.q (Q.assign rfl) (XO.done (XK.block ?_))
 refine XK.while (X := Int × PHeap) [4, 5, 6, 7, 14, 15, 16, 17, 18, 19, 20, 21, 22, 23, 24, 25, 26, 27, 28, 29, 30, 31, 32, 33, 34, 35, 36, 37, 38, 39, 40, 41, 42, 43, 44] (fun ⟨hr, q1⟩ => [(5, some (.int .i64 hr))]) (fun ⟨hr, q1⟩ => [q1]) (fun ⟨hr, q1⟩ => -1 ≤ hr ∧ hr ≤ d.hours.length ∧ QQ hr 0 0 q1) (fun ⟨hr, q1⟩ => (hr + 1).toNat) ((d.hours.length : Int), q) [q] rfl ⟨by (try dsimp only); omega, by (try dsimp only); omega, hq⟩ (.c rfl (.base 0 rfl rfl)) ?_
 rintro ⟨hr, q1⟩ ⟨hr0, hr1, h1⟩ ih0
 dsimp only [lcA, lnA] at ih0 ⊢
 refine XK.seq (XK.seq (XK.region rfl (XO.q (Q.move rfl) ?_)))
 refine XO.q (Q.geq rfl rfl) ?_
 refine XO.done ?_
 refine XK.if rfl (fun c0 => ?_) (fun c0 => ?_)
 ·skip
  obtain ⟨hn, ehn⟩ := Int.eq_ofNat_of_zero_le (show 0 ≤ hr by omega)
  subst ehn
  refine XK.skip (XK.seq (XK.block (XK.seq (XK.region rfl (XO.q (Q.move rfl) ?_)))))
  refine XO.q (Q.nilCheck rfl) ?_
  refine XO.q (Q.fieldAddr rfl) ?_
  refine XO.q (Q.fieldAddr rfl) ?_
  refine XO.q (Q.fieldAddr rfl) ?_
  refine XO.q (Q.ld rfl rfl) ?_
  refine XO.q (Q.add rfl rfl ⟨by omega, by omega⟩) ?_
  refine XO.q (Q.move rfl) (XO.done (XK.block ?_))
  refine XK.while (X := Nat × PHeap) [4, 6, 7, 25, 26, 27, 28, 29, 30, 31, 32, 33, 34, 35, 36, 37, 38, 39, 40, 41, 42, 43, 44] (fun ⟨i, q2⟩ => [(25, some (.int .i64 (i : Nat)))]) (fun ⟨i, q2⟩ => [q2]) (fun ⟨i, q2⟩ => (i : Int) ≤ d.store.full + 1 ∧ QQ (hn : Int) (i : Int) 0 q2) (fun ⟨i, q2⟩ => (d.store.full + 1).toNat - i) (0, q1) [q1] rfl ⟨by (try dsimp only); omega, h1⟩ (.c rfl (.base 0 rfl rfl)) ?_
  rintro ⟨i, q2⟩ ⟨hi, h2⟩ ih1
  dsimp only [lcA, lnA] at ih1 ⊢
  refine XK.seq (XK.region rfl ?_)
  refine XO.q (Q.lss rfl rfl) ?_
  refine XO.done (XK.seq ?_)
  refine XK.if rfl (fun c1 => ?_) (fun c1 => ?_)
  ·skip
   refine XK.skip (XK.seq (XK.block (XK.seq (XK.region rfl (XO.q (Q.move rfl) ?_)))))
   refine XO.q (Q.assign rfl) (XO.done (XK.seq (XK.region rfl (XO.q (Q.move rfl) ?_))))
   refine XO.q (Q.nilCheck rfl) ?_
   refine XO.q (Q.fieldAddr rfl) ?_
   refine XO.q (Q.fieldAddr rfl) ?_
   refine XO.q (Q.ld rfl rfl) ?_
   refine XO.q (Q.add rfl rfl ⟨by omega, by omega⟩) ?_
   refine XO.q (Q.move rfl) (XO.done (XK.block ?_))
   refine XK.while (X := Nat × PHeap) [4, 7, 34, 35, 36, 37, 38, 39, 40, 41, 42, 43] (fun ⟨j, q3⟩ => [(34, some (.int .i64 (j : Nat)))]) (fun ⟨j, q3⟩ => [q3]) (fun ⟨j, q3⟩ => (j : Int) ≤ d.most + 1 ∧ QQ (hn : Int) (i : Int) (j : Int) q3) (fun ⟨j, q3⟩ => (d.most + 1).toNat - j) (0, q2) [q2] rfl ⟨by (try dsimp only); omega, h2⟩ (.c rfl (.base 0 rfl rfl)) ?_
   rintro ⟨j, q3⟩ ⟨hj, h3⟩ ih2
   dsimp only [lcA, lnA] at ih2 ⊢
   refine XK.seq (XK.region rfl ?_)
   refine XO.q (Q.lss rfl rfl) ?_
   refine XO.done (XK.seq ?_)
   refine XK.if rfl (fun c2 => ?_) (fun c2 => ?_)
   ·skip
    refine XK.skip (XK.seq (XK.block (XK.seq (XK.region rfl (XO.q (Q.move rfl) ?_)))))
    refine XO.q (Q.assign rfl) (XO.done (XK.seq (XK.region rfl (XO.q (Q.move rfl) (XO.q (Q.move rfl) ?_)))))
    refine XO.q (Q.move rfl) (XO.q (Q.move rfl) ?_)
    refine XO.vcall rfl rfl (hcall hn ((i : Nat) : Int) ((j : Nat) : Int) q3 (by omega) ⟨by omega, by omega, by omega, by omega⟩ h3) fun v41 s41 R41 => ?_
    obtain ⟨bb, q4, rfl, rfl, hT, hF⟩ := R41
    dsimp only [lcA, lnA]
    refine XO.q (Q.not rfl) ?_
    refine XO.done ?_
    refine XK.if rfl (fun c3 => ?_) (fun c3 => ?_)
    ·skip
     refine XK.seq (XK.region rfl (XO.q (Q.assign rfl) (XO.done ?_)))
     refine XK.rt [q4] Tryz.func193 Tryz.results193 (.t rfl .n) ?_
     exact ⟨false, q4, rfl, rfl, (fun h => by cases h), fun _ => hF (by cases bb <;> simp_all)⟩
    ·skip
     refine XK.skip ?_
     refine XK.inBlock ?_
     refine XK.region rfl ?_
     refine XO.q (Q.add rfl rfl ⟨by omega, by omega⟩) ?_
     refine XO.q (Q.move rfl) (XO.done ?_)
     exact ih2 (j + 1, q4) _ _ ⟨by (try dsimp only); omega, hT (by cases bb <;> simp_all)⟩ (by first | omega | (dsimp only; omega)) (.c rfl (.base 24 rfl rfl)) inferInstance
   ·skip
    have hjm : ((j : Nat) : Int) = d.most + 1 := by omega
    rw [hjm] at h3
    refine XK.exit rfl ?_
    refine XK.inBlock ?_
    refine XK.region rfl ?_
    refine XO.q (Q.add rfl rfl ⟨by omega, by omega⟩) ?_
    refine XO.q (Q.move rfl) (XO.done ?_)
    exact ih1 (i + 1, q3) _ _ ⟨by (try dsimp only); omega, hE _ _ _ h3⟩ (by first | omega | (dsimp only; omega)) (.c rfl (.base 50 rfl rfl)) inferInstance
  ·skip
   have hif : ((i : Nat) : Int) = d.store.full + 1 := by omega
   rw [hif] at h2
   refine XK.exit rfl ?_
   refine XK.inBlock ?_
   refine XK.region rfl (XO.q (Q.move rfl) ?_)
   refine XO.q (Q.sub rfl rfl ⟨by omega, by omega⟩) ?_
   refine XO.q (Q.assign rfl) (XO.done ?_)
   exact ih0 (((hn : Int) - 1), q2) _ _ ⟨by (try dsimp only); omega, by (try dsimp only); omega, hH _ _ h2⟩ (by first | omega | (dsimp only; omega)) (.c rfl (.base 74 rfl rfl)) inferInstance
 ·skip
  have hm1 : hr = -1 := by omega
  subst hm1
  refine XK.exit rfl ?_
  refine XK.seq (XK.region rfl (XO.q (Q.assign rfl) (XO.done ?_)))
  refine XK.rt [q1] Tryz.func193 Tryz.results193 (.t rfl .n) ?_
  exact ⟨true, q1, rfl, rfl, fun _ => h1, (fun h => by cases h)⟩
theorem tables1 (d : KDay) (vh vj : Value) (hh hj : PHeap) [ih : Arr vh encHour 6 hh d.hours] [ij : Arr vj encJob 4 hj d.jobs] (vb vv : Value) (hb : PHeap) (base : List Int) [jb : Arr vb encI 1 hb base] (ok : DayOk d) (bo : BaseOk d base) (b bf bt : Nat) (h : Nat) (e m : Int) (q : PHeap) (hh1 : h ≤ d.hours.length) (so : StateOk d e m) (vals : List Int) [jv : OArr vv encI 1 3 q vals] (fl : Filled d base vals h e m) :
  Spec Tryz.prog 194 #[.int .i64 (h : Nat), .int .i64 e, .int .i64 m, ptr bf 0, ptr bt 0] [q] [blk b [vh, .int .i64 d.store.energy, .int .i64 d.store.full, .int .i64 d.store.power, .int .i64 d.store.fin, vj, .int .i64 d.most, .int .i64 d.peak, vb, vv] 298, blk bf [.func (.func 192) #[ptr b 0] #[]] 299, blk bt [ptr b 0] 295, hb, hh]
   (fun v hs => ∃ q', v = .bool true ∧ hs = [q'] ∧ ∃ vals', OArr vv encI 1 3 q' vals' ∧ Filled d base vals' h e (m + 1)) := by
 have e0 := so.e0
 have e1 := so.e1
 have m0 := so.m0
 have m1 := so.m1
 have f1 := ok.store.f1
 have q1 := ok.m1
 have h24 := ok.h2
 have ar := at_rng so (show (0 : Int) ≤ h by omega) (by omega)
 have hl := fl.len
 have nx : ∀ e' m', h < d.hours.length → StateOk d e' m' → vals.getD (atK d ((h : Int) + 1) e' m').toNat default = valH d base (h + 1) e' m' := fun e' m' hlt s' => by
  have := fl.val (h + 1) e' m' (by omega) s' (.inl (by omega))
  rw [← this]; rfl
 refine Spec.intro (fn := Tryz.f194) (N := 24) Tryz.func194 rfl Tryz.ntmps194 rfl fun B => ?_
 refine XK.seq (XK.region rfl (XO.q (Q.assign rfl) (XO.done (XK.seq ?_))))
 refine XK.drawn [0, 1, 2, 3, 4, 5, 6, 7, 9, 10, 11, 12, 14] [bt, bf] [] (.q 0 (.q 1 (.q 2 (.q 3 (.q 4 (.q 5 (.q 6 (.q 7 (.q 9 (.q 10 (.q 11 (.q 12 (.br 8 true (.br 13 true (.q 14 (.br 15 false .done .stop)) .stop) .stop))))))))))))) Tryz.mixed rfl (by kernel_rfl) ?_
 refine XT.q rfl rfl (Q.ld rfl rfl) ?_
 refine XT.q rfl rfl (Q.nilCheck rfl) ?_
 refine XT.q rfl rfl (Q.fieldAddr rfl) ?_
 refine XT.q rfl rfl (Q.ld rfl rfl) ?_
 refine XT.q rfl rfl (Q.ld rfl rfl) ?_
 refine XT.q rfl rfl (Q.move rfl) ?_
 refine XT.q rfl rfl (Q.move rfl) ?_
 refine XT.q rfl rfl (Q.move rfl) ?_
 refine XT.q rfl rfl (Q.ld rfl rfl) ?_
 refine XT.q rfl rfl (Q.move rfl) ?_
 refine XT.q rfl rfl (Q.move rfl) ?_
 refine XT.q rfl rfl (Q.move rfl) ?_
 refine XT.call rfl rfl Tryz.call147 rfl rfl rfl (at_spec d vh vj vb vv ok b (h : Int) e m (by omega) (by omega) (by omega)) (fun v17 s17 R17 => ?_) XT.stop
 obtain ⟨rfl, rfl⟩ := R17
 dsimp only [lcA, lnA]
 refine ⟨inferInstance, ?_⟩
 refine XT.vcall rfl rfl rfl rfl (VSpec.fn (fst := [ptr b 0]) (cap := []) Tryz.call192 rfl (follows_spec d vh vj hh hj vb vv hb q base vals ok bo hl b h hh1 e m so nx)) (fun v22 s22 R22 => ?_) XT.stop
 obtain ⟨rfl, rfl⟩ := R22
 dsimp only [lcA, lnA]
 refine ⟨inferInstance, ?_⟩
 refine XT.ix rfl rfl rfl rfl (by omega) (by omega) fun i23 => ?_
 refine XT.stE _ rfl rfl rfl rfl rfl (by assumption) rfl rfl (fun h1_15 O1_15 => ⟨inferInstance, ?_⟩) XT.stop
 refine XT.done ?_
 refine XK.seq (XK.region rfl (XO.q (Q.assign rfl) (XO.done ?_)))
 refine XK.rt [h1_15] Tryz.func194 Tryz.results194 (.t rfl .n) ?_
 exact ⟨h1_15, rfl, rfl, _, O1_15, fl.put hh1 so⟩
end Go.X.Ma

set_option linter.unusedSimpArgs false
set_option linter.unusedVariables false
set_option maxRecDepth 20000
namespace Go.X.Ma
open Go.Proofs
set_option maxHeartbeats 1000000 in
theorem tables_spec (d : KDay) (vh vj : Value) (hh hj : PHeap) [ih : Arr vh encHour 6 hh d.hours] [ij : Arr vj encJob 4 hj d.jobs] (s : List Int) (vs : Value) (hs_ : PHeap) [js : Arr vs encI 1 hs_ s] (ok : DayOk d) (so : SOk d s) : Spec Tryz.prog 146 #[.agg #[vh, .int .i64 d.store.energy, .int .i64 d.store.full, .int .i64 d.store.power, .int .i64 d.store.fin, vj, .int .i64 d.most, .int .i64 d.peak], vs] [] [hh, hj, hs_] (fun v hs => ∃ b vb vv hb hv vals, v = ptr b 0 ∧ hs = [blk b [vh, .int .i64 d.store.energy, .int .i64 d.store.full, .int .i64 d.store.power, .int .i64 d.store.fin, vj, .int .i64 d.most, .int .i64 d.peak, vb, vv] 298, hb, hv] ∧ OArr vb encI 1 3 hb (needsL d s) ∧ OArr vv encI 1 3 hv vals ∧ TabOk d (needsL d s) vals) := by
 have lh := ih.le
 have h24 := ok.h2
 have bo := needs_base ok s
 have sz := size_rng ok
 refine Spec.intro (fn := Tryz.f146) (N := 29) Tryz.func146 rfl Tryz.ntmps146 rfl fun B => ?_
 refine XK.seq (XK.region rfl ?_)
 refine XO.box rfl fun b2 => ?_
 refine XO.q (Q.assign rfl) (XO.done (XK.seq ?_))
 refine XK.meet (X := Nat × Nat × Value × PHeap) [5, 7, 8, 9, 10, 11, 12] (fun ⟨b5, b12, v10, k10⟩ => [(5, some (ptr b5 0))]) (fun ⟨b5, b12, v10, k10⟩ => [blk b5 [ptr b12 0] 295, blk b12 [vh, .int .i64 d.store.energy, .int .i64 d.store.full, .int .i64 d.store.power, .int .i64 d.store.fin, vj, .int .i64 d.most, .int .i64 d.peak, v10, .slice none 0 0] 298, k10]) (fun ⟨b5, b12, v10, k10⟩ => OArr v10 encI 1 3 k10 (needsL d s)) [] ?_ ?_
 ·rintro ⟨b5, b12, v10, k10⟩ O10
  dsimp only [lcA, lnA]
  refine XK.seq ?_
  refine XK.drawn [0, 1, 2, 3, 4, 5, 8, 9] [b5, b2] [] (.q 0 (.q 1 (.q 2 (.q 3 (.q 4 (.q 5 (.br 6 true (.br 7 true (.q 8 (.q 9 (.br 10 true .done .stop))) .stop) .stop))))))) Tryz.mixed rfl (by kernel_rfl) ?_
  refine XT.q rfl rfl (Q.ld rfl rfl) ?_
  refine XT.q rfl rfl (Q.ld rfl rfl) ?_
  refine XT.q rfl rfl (Q.fieldAddr rfl) ?_
  refine XT.q rfl rfl (Q.ld rfl rfl) ?_
  refine XT.q rfl rfl (Q.len rfl) ?_
  refine XT.q rfl rfl (Q.add rfl rfl ⟨by omega, by omega⟩) ?_
  refine XT.call rfl rfl Tryz.call147 rfl rfl rfl (at_spec d vh vj v10 (.slice none 0 0) ok b12 ((d.hours.length : Int) + 1) 0 0 (by omega) (by omega) (by omega)) (fun v19 s19 R19 => ?_) XT.stop
  obtain ⟨rfl, rfl⟩ := R19
  dsimp only [lcA, lnA]
  refine ⟨inferInstance, ?_⟩
  rw [show atK d ((d.hours.length : Int) + 1) 0 0 = (((sizeK d).toNat : Nat) : Int) from (Int.toNat_of_nonneg sz.1).symm]
  refine XT.make encI (0) rfl rfl rfl rfl rfl (by omega) (by omega) (fun _ => rfl) rfl rfl rfl (by dsimp only [encI]; infer_instance) (fun v20 h20 O20 => ⟨inferInstance, ?_⟩) XT.stop
  refine XT.q rfl rfl (Q.nilCheck rfl) ?_
  refine XT.q rfl rfl (Q.fieldAddr rfl) ?_
  refine XT.st rfl rfl rfl rfl rfl ⟨inferInstance, ?_⟩ XT.stop
  refine XT.done ?_
  refine XK.seq (XK.region rfl ?_)
  refine XO.q (Q.ld rfl rfl) ?_
  refine XO.q (Q.func (fun _ he => evs_rel he rfl) (fun _ he => rfl)) ?_
  refine XO.alloc fun b6 => ?_
  refine XO.st rfl rfl rfl ?_
  refine XO.done (XK.seq (XK.region rfl ?_))
  refine XO.q (Q.ld rfl rfl) ?_
  refine XO.q (Q.func (fun _ he => rfl) (fun _ he => evs_rel he rfl)) ?_
  refine XO.call Tryz.call193 rfl rfl rfl (states_spec d vh vj v10 v20 ok b12 (by omega) hh (.func (.func 194) #[] #[ptr b6 0, ptr b5 0]) [blk b12 [vh, .int .i64 d.store.energy, .int .i64 d.store.full, .int .i64 d.store.power, .int .i64 d.store.fin, vj, .int .i64 d.most, .int .i64 d.peak, v10, v20] 298, blk b6 [.func (.func 192) #[ptr b12 0] #[]] 299, blk b5 [ptr b12 0] 295, k10, hh] (fun (h e m : Int) (q : PHeap) => ∃ vals, OArr v20 encI 1 3 q vals ∧ Filled d (needsL d s) vals h e m) (fun _ => False) (fun h e m q hh1 so2 hQ => by obtain ⟨vals, hO, fl⟩ := hQ; exact VSpec.fn (fst := []) (cap := [ptr b6 0, ptr b5 0]) Tryz.call194 rfl ((tables1 d vh vj hh hj v10 v20 k10 (needsL d s) ok bo b12 b6 b5 h e m q hh1 so2 vals fl).mono (fun v hs hx => by obtain ⟨q2, hv, hhs, hx2⟩ := hx; exact ⟨true, q2, hv, hhs, fun _ => hx2, fun h => by cases h⟩))) (fun h e q hQ => by obtain ⟨vals, hO, fl⟩ := hQ; exact ⟨vals, hO, fl.nextE⟩) (fun h q hQ => by obtain ⟨vals, hO, fl⟩ := hQ; exact ⟨vals, hO, fl.nextH⟩) h20 ⟨_, O20, Filled.start ok⟩) fun v27 s27 R27 => ?_
  obtain ⟨bb, q4, rfl, rfl, hT, hF⟩ := R27
  dsimp only [lcA, lnA]
  have hbt : bb = true := by
   cases bb with
   | false => exact (hF rfl).elim
   | true => rfl
  subst hbt
  obtain ⟨vals, OV, fl⟩ := hT rfl
  have tk := fl.all
  refine XO.done (XK.seq (XK.region rfl ?_))
  refine XO.q (Q.ld rfl rfl) ?_
  refine XO.q (Q.assign rfl) (XO.done ?_)
  refine XK.rt [blk b12 [vh, .int .i64 d.store.energy, .int .i64 d.store.full, .int .i64 d.store.power, .int .i64 d.store.fin, vj, .int .i64 d.most, .int .i64 d.peak, v10, v20] 298, k10, q4] Tryz.func146 Tryz.results146 (.t rfl .n) ?_
  exact ⟨b12, v10, v20, k10, q4, vals, rfl, rfl, O10, OV, tk⟩
 ·intro mtr1
  dsimp only [lcA, lnA] at mtr1
  refine XK.drawn [0, 1, 2, 4] [b2] [] (.q 0 (.q 1 (.q 2 (.br 3 true (.q 4 (.br 5 true (.br 6 true (.br 7 false .done .stop) .stop) (.br 6 true (.br 5 true (.br 7 false .done .stop) .stop) .stop))) (.br 6 true (.br 3 true (.q 4 (.br 5 true (.br 7 false .done .stop) .stop)) .stop) .stop))))) Tryz.mixed rfl (by kernel_rfl) ?_
  refine XT.q rfl rfl (Q.ldA [_, _, _, _, _, _, _, _] rfl rfl rfl) ?_
  refine XT.q rfl rfl (Q.ldA [_, _, _, _, _, _, _, _] rfl rfl rfl) ?_
  refine XT.q rfl rfl (Q.move rfl) ?_
  refine XT.call rfl rfl Tryz.call150 rfl rfl rfl (needs_spec d vh vj hh hj s vs hs_ ok so) (fun v10 s10 R10 => ?_) ?_
  ·skip
   obtain ⟨k10, rfl, O10⟩ := R10
   dsimp only [lcA, lnA]
   refine ⟨inferInstance, ?_⟩
   refine XT.q rfl rfl (Q.build [_, _, _, _, _, _, _, _, _, _] (.c 0 8 rfl rfl rfl (.c 8 1 rfl rfl rfl (.n _)))) ?_
   refine XT.box rfl rfl rfl (fun b12 => ⟨inferInstance, ?_⟩) ?_
   ·skip
    refine XT.alloc rfl rfl (fun b5 => ⟨inferInstance, ?_⟩) XT.stop
    refine XT.st rfl rfl rfl rfl rfl ⟨inferInstance, ?_⟩ XT.stop
    refine XT.done ?_
    exact mtr1 ((b5, b12, v10, k10)) _ _ O10 (.c rfl (.base 7 rfl rfl)) inferInstance
   ·skip
    refine XT.alloc rfl rfl (fun b5 => ⟨inferInstance, ?_⟩) XT.stop
    refine XT.box rfl rfl rfl (fun b12 => ⟨inferInstance, ?_⟩) XT.stop
    refine XT.st rfl rfl rfl rfl rfl ⟨inferInstance, ?_⟩ XT.stop
    refine XT.done ?_
    exact mtr1 ((b5, b12, v10, k10)) _ _ O10 (.c rfl (.base 7 rfl rfl)) inferInstance
  ·skip
   refine XT.alloc rfl rfl (fun b5 => ⟨inferInstance, ?_⟩) XT.stop
   refine XT.call rfl rfl Tryz.call150 rfl rfl rfl (needs_spec d vh vj hh hj s vs hs_ ok so) (fun v10 s10 R10 => ?_) XT.stop
   obtain ⟨k10, rfl, O10⟩ := R10
   dsimp only [lcA, lnA]
   refine ⟨inferInstance, ?_⟩
   refine XT.q rfl rfl (Q.build [_, _, _, _, _, _, _, _, _, _] (.c 0 8 rfl rfl rfl (.c 8 1 rfl rfl rfl (.n _)))) ?_
   refine XT.box rfl rfl rfl (fun b12 => ⟨inferInstance, ?_⟩) XT.stop
   refine XT.st rfl rfl rfl rfl rfl ⟨inferInstance, ?_⟩ XT.stop
   refine XT.done ?_
   exact mtr1 ((b5, b12, v10, k10)) _ _ O10 (.c rfl (.base 7 rfl rfl)) inferInstance
end Go.X.Ma

set_option linter.unusedSimpArgs false
set_option linter.unusedVariables false
set_option maxRecDepth 20000
namespace Go.X.Ma
open Go.Proofs
theorem first_one {h : KHour} {n e m now low : Int} {v : Int → Int → Int} {k : Nat} (h0 : firstC h n e m v now low k = none) (hit : hitC h n e m v now (low + (k : Int)) = true) : ∀ c, k < c → firstC h n e m v now low c = some (low + (k : Int))
 | 0, hc => by omega
 | c + 1, hc => by
  rcases Nat.lt_or_ge k c with h2 | h2
  ·rw [firstC, first_one h0 hit c h2]
  ·obtain rfl : k = c := by omega
   rw [firstC, h0]
   simp [hit]
theorem first_none {h : KHour} {n e m now low : Int} {v : Int → Int → Int} {k : Nat} (h0 : firstC h n e m v now low k = none) (hit : ¬ hitC h n e m v now (low + (k : Int)) = true) : firstC h n e m v now low (k + 1) = none := by
 rw [firstC, h0]
 simp [hit]
set_option maxHeartbeats 1000000 in
theorem plan_spec (d : KDay) (vh vj : Value) (hh hj : PHeap) [ih : Arr vh encHour 6 hh d.hours] [ij : Arr vj encJob 4 hj d.jobs] (vb vv : Value) (hb hv : PHeap) (base vals : List Int) [jb : Arr vb encI 1 hb base] [jv : Arr vv encI 1 hv vals] (ok : DayOk d) (bo : BaseOk d base) (tk : TabOk d base vals) (b : Nat) : Spec Tryz.prog 148 #[ptr b 0] [] [blk b [vh, .int .i64 d.store.energy, .int .i64 d.store.full, .int .i64 d.store.power, .int .i64 d.store.fin, vj, .int .i64 d.most, .int .i64 d.peak, vb, vv] 298, hb, hv, hh] (fun v hs => ∃ k, hs = [k] ∧ OArr v encI 1 3 k (planL d base) ∧ StateOk d (planTo d base d.hours.length).e (planTo d base d.hours.length).m) := by
 have lh := ih.le
 have h24 := ok.h2
 have f1 := ok.store.f1
 have q1 := ok.m1
 have tl := tk.len
 have bl := bo.len
 have nI : OArr (.slice none 0 0) encI 1 3 emp ([] : List Int) := OArr.nil (fun _ => rfl)
 refine Spec.intro (fn := Tryz.f148) (N := 82) Tryz.func148 rfl Tryz.ntmps148 rfl fun B => ?_
 refine XK.seq (XK.region rfl ?_)
 refine XO.box rfl fun b1 => ?_
 refine XO.q (Q.assign rfl) (XO.done (XK.seq (XK.region rfl ?_)))
 refine XO.alloc fun b3 => ?_
 refine XO.done (XK.seq (XK.region rfl ?_))
 refine XO.q (Q.ld rfl rfl) ?_
 refine XO.q (Q.nilCheck rfl) ?_
 refine XO.q (Q.fieldAddr rfl) ?_
 refine XO.q (Q.fieldAddr rfl) ?_
 refine XO.q (Q.fieldAddr rfl) ?_
 refine XO.q (Q.ld rfl rfl) ?_
 refine XO.alloc fun b4 => ?_
 refine XO.alloc fun b5 => ?_
 refine XO.st rfl rfl rfl ?_
 refine XO.st rfl rfl rfl ?_
 refine XO.done (XK.seq (XK.seq (XK.region rfl ?_)))
 refine XO.q (Q.ld rfl rfl) ?_
 refine XO.q (Q.nilCheck rfl) ?_
 refine XO.q (Q.fieldAddr rfl) ?_
 refine XO.q (Q.fieldAddr rfl) ?_
 refine XO.q (Q.ld rfl rfl) ?_
 refine XO.len rfl fun l22 => ?_
 refine XO.q (Q.move rfl) (XO.done (XK.block ?_))
 refine XK.while (X := Nat × Value × PHeap) [6, 7, 8, 9, 10, 23, 24, 25, 26, 27, 28, 29, 30, 31, 32, 33, 34, 35, 36, 37, 38, 39, 40, 41, 44, 45, 46, 47, 48, 49, 50, 51, 52, 53, 54, 55, 56, 57, 58, 59, 60, 61, 62, 63, 64, 65, 66, 67, 68, 69, 70, 71, 72, 73, 74, 75, 76, 77, 78, 79, 80] (fun ⟨hr, vo, ko⟩ => [(23, some (.int .i64 (hr : Nat)))]) (fun ⟨hr, vo, ko⟩ => [blk b3 [vo] 29, blk b4 [.int .i64 (planTo d base (hr)).e] 3, blk b5 [.int .i64 (planTo d base (hr)).m] 3, ko]) (fun ⟨hr, vo, ko⟩ => hr ≤ d.hours.length ∧ OArr vo encI 1 3 ko (planTo d base (hr)).l ∧ StateOk d (planTo d base (hr)).e (planTo d base (hr)).m ∧ (planTo d base (hr)).l.length ≤ hr) (fun ⟨hr, vo, ko⟩ => d.hours.length - hr) (0, .slice none 0 0, emp) [blk b3 [.slice none 0 0] 29, blk b4 [.int .i64 d.store.energy] 3, blk b5 [.int .i64 0] 3, emp] rfl ⟨by omega, nI, ⟨ok.store.e0, ok.store.e1, Int.le_refl _, ok.m0⟩, by simp [planTo]⟩ (.c rfl (.base 0 rfl rfl)) ?_
 rintro ⟨hr, vo, ko⟩ ⟨hh1, OO, so, lo⟩ ih0
 dsimp only [lcA, lnA] at ih0 ⊢
 refine XK.seq (XK.region rfl ?_)
 refine XO.q (Q.lss rfl rfl) ?_
 refine XO.done (XK.seq ?_)
 refine XK.if rfl (fun c0 => ?_) (fun c0 => ?_)
 ·skip
  have so0 := so.e0
  have so1 := so.e1
  have so2 := so.m0
  have so3 := so.m1
  have ar := at_rng so (show (0 : Int) ≤ (hr : Int) by omega) (by omega)
  have ev := tk.val hr (planTo d base (hr)).e (planTo d base (hr)).m (by omega) so
  have br := bo.rng hr (by omega)
  refine XK.skip (XK.seq (XK.block (XK.seq (XK.region rfl (XO.q (Q.move rfl) ?_)))))
  refine XO.alloc fun b6 => ?_
  refine XO.st rfl rfl rfl ?_
  refine XO.done (XK.seq ?_)
  refine XK.meet (X := Nat) [7, 26, 27, 28, 29, 30, 31, 32, 33, 34, 35, 36] (fun b7 => [(7, some (ptr b7 0))]) (fun b7 => [blk b7 [.int .i64 (valH d base hr (planTo d base (hr)).e (planTo d base (hr)).m)] 3]) (fun b7 => True) [] ?_ ?_
  ·rintro b7 _
   dsimp only [lcA, lnA]
   refine XK.seq (XK.region rfl ?_)
   refine XO.q (Q.ld rfl rfl) ?_
   refine XO.q (Q.ld rfl rfl) ?_
   refine XO.q (Q.ld rfl rfl) ?_
   refine XO.q (Q.ld rfl rfl) ?_
   refine XO.call Tryz.call195 rfl rfl rfl (charges_spec b hr (planTo d base (hr)).e (planTo d base (hr)).m) fun v41 s41 R41 => ?_
   obtain ⟨x1, x2, x3, x4, rfl, rfl⟩ := R41
   dsimp only [lcA, lnA]
   refine XO.done (XK.block ?_)
   refine XK.range (X := Nat × Value × PHeap × KSt) (ps := [42, 43]) (chItems d base hr (planTo d base (hr)).e (planTo d base (hr)).m) (fun ⟨k, vo2, ko2, st⟩ => [blk b3 [vo2] 29, blk b4 [.int .i64 st.e] 3, blk b5 [.int .i64 st.m] 3, ko2]) (fun i ⟨k, vo2, ko2, st⟩ => k = i ∧ st = (planTo d base (hr)) ∧ OArr vo2 encI 1 3 ko2 st.l ∧ (firstC (d.hours.getD hr default) (base.getD hr default) (planTo d base (hr)).e (planTo d base (hr)).m (valH d base (hr + 1)) (valH d base hr (planTo d base (hr)).e (planTo d base (hr)).m) (lowC d (planTo d base (hr)).e) (k)) = none) (fun j0 ⟨k, vo2, ko2, st⟩ => j0 = Code.exit 2 ∧ st = (planTo d base (hr + 1)) ∧ OArr vo2 encI 1 3 ko2 st.l ∧ StateOk d st.e st.m ∧ st.l.length ≤ hr + 1) (0, vo, ko, (planTo d base (hr))) [blk b3 [vo] 29, blk b4 [.int .i64 (planTo d base (hr)).e] 3, blk b5 [.int .i64 (planTo d base (hr)).m] 3, ko] rfl ⟨rfl, rfl, OO, rfl⟩ rfl (charges1 d vh vj hh hj vb vv hb base ok bo b x1 x2 x3 x4 hr (by omega) (planTo d base (hr)).e (planTo d base (hr)).m so) rfl (chItems_two) ?_ ?_ ?_
   ·rintro lq rec B' i ⟨k, vo2, ko2, st⟩ hi ⟨hki, hst, O2, hfc⟩
    dsimp only [lcA, lnA]
    rw [chItems_len] at hi
    subst hki
    obtain ⟨sn, n1, n2, n3⟩ := next_ok ok so hi
    have arn0 := at_rng sn (show (0 : Int) ≤ ((hr : Int) + 1) by omega) (by omega)
    have ev2 : vals.getD (nextC d base hr (planTo d base (hr)).e (planTo d base (hr)).m ((lowC d (planTo d base (hr)).e) + ((k : Nat) : Int))).toNat default = (valH d base (hr + 1) ((planTo d base (hr)).e + ((lowC d (planTo d base (hr)).e) + ((k : Nat) : Int))) (max (planTo d base (hr)).m ((base.getD hr default) + ((lowC d (planTo d base (hr)).e) + ((k : Nat) : Int))))) := tk.val (hr + 1) _ _ (by omega) sn
    have arn : 0 ≤ nextC d base hr (planTo d base (hr)).e (planTo d base (hr)).m ((lowC d (planTo d base (hr)).e) + ((k : Nat) : Int)) ∧ nextC d base hr (planTo d base (hr)).e (planTo d base (hr)).m ((lowC d (planTo d base (hr)).e) + ((k : Nat) : Int)) < sizeK d := arn0
    have vr := val_rng ok bo (show hr + 1 ≤ d.hours.length by omega) sn
    have pr := price_rng (h := (d.hours.getD hr default)) (ok.hour hr (by omega)) (n := (base.getD hr default) + ((lowC d (planTo d base (hr)).e) + ((k : Nat) : Int))) (by omega) (by omega)
    rw [chItems_at hi]
    dsimp only [pars, chItem]
    unfold never at vr
    subst hst
    refine XK.seq (XK.region rfl (XO.q (Q.assign rfl) (XO.done (XK.region rfl ?_))))
    refine XO.alloc fun b9 => ?_
    refine XO.st rfl rfl rfl ?_
    refine XO.done ?_
    refine XK.beginRound ?_
    refine XK.block (XK.seq ?_)
    refine XK.drawn [0, 1, 2, 3, 4, 5, 6, 7, 8] [b1, b9] [] (.q 0 (.q 1 (.q 2 (.q 3 (.q 4 (.q 5 (.q 6 (.q 7 (.q 8 .done))))))))) Tryz.mixed rfl (by kernel_rfl) ?_
    refine XT.q rfl rfl (Q.ld rfl rfl) ?_
    refine XT.q rfl rfl (Q.nilCheck rfl) ?_
    refine XT.q rfl rfl (Q.fieldAddr rfl) ?_
    refine XT.q rfl rfl (Q.ld rfl rfl) ?_
    refine XT.q rfl rfl (Q.ixA rfl rfl (by omega) (by omega)) ?_
    refine XT.q rfl rfl (Q.ld rfl rfl) ?_
    refine XT.ix rfl rfl rfl rfl (by omega) (by omega) fun i50 => ?_
    refine XT.q rfl rfl (Q.ldE rfl (by first | assumption | omega) rfl) ?_
    rw [ev2]
    refine XT.q rfl rfl (Q.assign rfl) ?_
    refine XT.done ?_
    refine XK.seq (XK.region rfl (XO.q (Q.move rfl) ?_))
    refine XO.q (Q.lss rfl rfl) ?_
    refine XO.q (Q.move rfl) ?_
    refine XO.q (Quiet.guardT rfl rfl fun g55 p55 => Q.ixA rfl rfl (by omega) (by omega)) ?_
    refine XO.q (Quiet.guardT rfl rfl fun g56 p56 => Q.ld (lzv g56 rfl) rfl) ?_
    refine XO.q (Quiet.guardT rfl rfl fun g57 p57 => Q.move rfl) ?_
    refine XO.q (Quiet.guardT rfl rfl fun g58 p58 => Q.add (lzv g58 rfl) (lzv g58 rfl) ⟨by omega, by omega⟩) ?_
    refine XO.q (Quiet.guardT rfl rfl fun g59 p59 => Q.ld rfl rfl) ?_
    refine XO.q (Quiet.guardT rfl rfl fun g60 p60 => Q.eql (lzv g60 rfl) (lzv g60 rfl)) ?_
    refine XO.q (Q.and rfl (fun hp => lzv hp rfl)) ?_
    refine XO.done ?_
    refine XK.if rfl (fun c1 => ?_) (fun c1 => ?_)
    ·skip
     refine XK.seq (XK.region rfl ?_)
     refine XO.q (Q.ld rfl rfl) ?_
     refine XO.q (Q.move rfl) ?_
     refine XO.lit [_] [_] [((lowC d (planTo d base (hr)).e) + ((k : Nat) : Int))] encI (by rfl) (by rfl) rfl (by rfl) (by exact .c 0 1 rfl rfl rfl (.n _)) (fun _ => rfl) (by rfl) rfl (by infer_instance) rfl fun v64 h64 O64 => ?_
     refine XO.append rfl rfl rfl rfl (by simp only [List.length_cons, List.length_nil]; omega) fun v65 h65 O65 => ?_
     refine XO.st rfl rfl rfl ?_
     refine XO.done (XK.seq ?_)
     refine XK.drawn [0, 1, 2, 3, 4, 5, 6, 7, 8, 9, 10] [b1, b5, b6] [] (.q 0 (.q 1 (.q 2 (.q 3 (.q 4 (.q 5 (.q 6 (.q 7 (.q 8 (.q 9 (.q 10 (.br 11 false .done .stop)))))))))))) Tryz.mixed rfl (by kernel_rfl) ?_
     refine XT.q rfl rfl (Q.ld rfl rfl) ?_
     refine XT.q rfl rfl (Q.ld rfl rfl) ?_
     refine XT.q rfl rfl (Q.nilCheck rfl) ?_
     refine XT.q rfl rfl (Q.fieldAddr rfl) ?_
     refine XT.q rfl rfl (Q.ld rfl rfl) ?_
     refine XT.q rfl rfl (Q.ld rfl rfl) ?_
     refine XT.ix rfl rfl rfl rfl (by omega) (by omega) fun i72 => ?_
     refine XT.q rfl rfl (Q.ldE rfl (by first | assumption | omega) rfl) ?_
     refine XT.q rfl rfl (Q.move rfl) ?_
     refine XT.q rfl rfl (Q.add rfl rfl ⟨by omega, by omega⟩) ?_
     refine XT.q rfl rfl (Q.max rfl rfl) ?_
     refine XT.st rfl rfl rfl rfl rfl ⟨inferInstance, ?_⟩ XT.stop
     refine XT.done ?_
     refine XK.seq (XK.region rfl ?_)
     refine XO.q (Q.ld rfl rfl) ?_
     refine XO.q (Q.move rfl) ?_
     refine XO.q (Q.add rfl rfl ⟨by omega, by omega⟩) ?_
     refine XO.st rfl rfl rfl ?_
     refine XO.done ?_
     have hit : hitC (d.hours.getD hr default) (base.getD hr default) (planTo d base (hr)).e (planTo d base (hr)).m (valH d base (hr + 1)) (valH d base hr (planTo d base (hr)).e (planTo d base (hr)).m) ((lowC d (planTo d base (hr)).e) + ((k : Nat) : Int)) = true := by unfold hitC never; rw [Bool.and_eq_true, decide_eq_true_eq, decide_eq_true_eq]; exact c1
     have pe : (planTo d base (hr + 1)) = ⟨(planTo d base (hr)).l ++ [((lowC d (planTo d base (hr)).e) + ((k : Nat) : Int))], (planTo d base (hr)).e + ((lowC d (planTo d base (hr)).e) + ((k : Nat) : Int)), max (planTo d base (hr)).m ((base.getD hr default) + ((lowC d (planTo d base (hr)).e) + ((k : Nat) : Int)))⟩ := by rw [planTo, first_one hfc hit _ hi]
     exact XK.leave (j := some (.exit 2)) [blk b3 [v65] 29, blk b4 [.int .i64 ((planTo d base (hr)).e + ((lowC d (planTo d base (hr)).e) + ((k : Nat) : Int)))] 3, blk b5 [.int .i64 (max (planTo d base (hr)).m ((base.getD hr default) + ((lowC d (planTo d base (hr)).e) + ((k : Nat) : Int))))] 3, h65] ⟨rfl, rfl⟩ ⟨(k, v65, h65, ⟨(planTo d base (hr)).l ++ [((lowC d (planTo d base (hr)).e) + ((k : Nat) : Int))], (planTo d base (hr)).e + ((lowC d (planTo d base (hr)).e) + ((k : Nat) : Int)), max (planTo d base (hr)).m ((base.getD hr default) + ((lowC d (planTo d base (hr)).e) + ((k : Nat) : Int)))⟩), ⟨rfl, pe.symm, O65, sn, by dsimp only; rw [List.length_append]; simp only [List.length_cons, List.length_nil]; omega⟩, rfl⟩
    ·skip
     refine XK.skip ?_
     refine XK.inBlock ?_
     have hit : ¬ hitC (d.hours.getD hr default) (base.getD hr default) (planTo d base (hr)).e (planTo d base (hr)).m (valH d base (hr + 1)) (valH d base hr (planTo d base (hr)).e (planTo d base (hr)).m) ((lowC d (planTo d base (hr)).e) + ((k : Nat) : Int)) = true := by unfold hitC never; rw [Bool.and_eq_true, decide_eq_true_eq, decide_eq_true_eq]; exact c1
     exact XK.leave (j := none) [blk b3 [vo2] 29, blk b4 [.int .i64 (planTo d base (hr)).e] 3, blk b5 [.int .i64 (planTo d base (hr)).m] 3, ko2] trivial ⟨(k + 1, vo2, ko2, (planTo d base (hr))), ⟨rfl, rfl, O2, first_none hfc hit⟩, rfl⟩
   ·rintro ⟨k, vo2, ko2, st⟩ ⟨hki, hst, O2, hfc⟩
    dsimp only [lcA, lnA]
    rw [chItems_len] at hki
    subst hki
    have pe : (planTo d base (hr + 1)) = st := by rw [planTo, hfc, hst]
    rw [← pe] at O2 ⊢
    have S2 : StateOk d (planTo d base (hr + 1)).e (planTo d base (hr + 1)).m := by rw [pe, hst]; exact so
    have L2 : (planTo d base (hr + 1)).l.length ≤ hr + 1 := by rw [pe, hst]; omega
    refine XK.inBlock ?_
    refine XK.inBlock ?_
    refine XK.region rfl ?_
    refine XO.q (Q.add rfl rfl ⟨by omega, by omega⟩) ?_
    refine XO.q (Q.move rfl) (XO.done ?_)
    exact ih0 (hr + 1, vo2, ko2) _ _ ⟨by dsimp only; omega, O2, S2, L2⟩ (by first | omega | (dsimp only; omega)) (.c rfl (.base 85 rfl rfl)) inferInstance
   ·rintro _ ⟨k, vo2, ko2, st⟩ ⟨rfl, hst, O2, S2, L2⟩
    dsimp only [lcA, lnA]
    subst hst
    refine XK.exit rfl ?_
    refine XK.inBlock ?_
    refine XK.region rfl ?_
    refine XO.q (Q.add rfl rfl ⟨by omega, by omega⟩) ?_
    refine XO.q (Q.move rfl) (XO.done ?_)
    exact ih0 (hr + 1, vo2, ko2) _ _ ⟨by dsimp only; omega, O2, S2, L2⟩ (by first | omega | (dsimp only; omega)) (.c rfl (.base 85 rfl rfl)) inferInstance
  ·intro mtr6
   dsimp only [lcA, lnA] at mtr6
   refine XK.drawn [0, 1, 2, 3, 4, 5, 6, 7, 9, 10] [b1, b4, b5, b6] [] (.q 0 (.q 1 (.q 2 (.q 3 (.q 4 (.q 5 (.q 6 (.q 7 (.br 8 true (.q 9 (.q 10 (.br 11 true (.br 12 false .done .stop) .stop))) (.br 11 true (.br 8 true (.q 9 (.q 10 (.br 12 false .done .stop))) .stop) .stop)))))))))) Tryz.mixed rfl (by kernel_rfl) ?_
   refine XT.q rfl rfl (Q.ld rfl rfl) ?_
   refine XT.q rfl rfl (Q.nilCheck rfl) ?_
   refine XT.q rfl rfl (Q.fieldAddr rfl) ?_
   refine XT.q rfl rfl (Q.ld rfl rfl) ?_
   refine XT.q rfl rfl (Q.ld rfl rfl) ?_
   refine XT.q rfl rfl (Q.ld rfl rfl) ?_
   refine XT.q rfl rfl (Q.ld rfl rfl) ?_
   refine XT.q rfl rfl (Q.ld rfl rfl) ?_
   refine XT.call rfl rfl Tryz.call147 rfl rfl rfl (at_spec d vh vj vb vv ok b (hr : Int) (planTo d base (hr)).e (planTo d base (hr)).m (by omega) (by omega) (by omega)) (fun v34 s34 R34 => ?_) ?_
   ·skip
    obtain ⟨rfl, rfl⟩ := R34
    dsimp only [lcA, lnA]
    refine ⟨inferInstance, ?_⟩
    refine XT.ix rfl rfl rfl rfl (by omega) (by omega) fun i35 => ?_
    refine XT.q rfl rfl (Q.ldE rfl (by first | assumption | omega) rfl) ?_
    rw [ev]
    refine XT.alloc rfl rfl (fun b7 => ⟨inferInstance, ?_⟩) XT.stop
    refine XT.st rfl rfl rfl rfl rfl ⟨inferInstance, ?_⟩ XT.stop
    refine XT.done ?_
    exact mtr6 (b7) _ _ trivial (.c rfl (.base 12 rfl rfl)) inferInstance
   ·skip
    refine XT.alloc rfl rfl (fun b7 => ⟨inferInstance, ?_⟩) XT.stop
    refine XT.call rfl rfl Tryz.call147 rfl rfl rfl (at_spec d vh vj vb vv ok b (hr : Int) (planTo d base (hr)).e (planTo d base (hr)).m (by omega) (by omega) (by omega)) (fun v34 s34 R34 => ?_) XT.stop
    obtain ⟨rfl, rfl⟩ := R34
    dsimp only [lcA, lnA]
    refine ⟨inferInstance, ?_⟩
    refine XT.ix rfl rfl rfl rfl (by omega) (by omega) fun i35 => ?_
    refine XT.q rfl rfl (Q.ldE rfl (by first | assumption | omega) rfl) ?_
    rw [ev]
    refine XT.st rfl rfl rfl rfl rfl ⟨inferInstance, ?_⟩ XT.stop
    refine XT.done ?_
    exact mtr6 (b7) _ _ trivial (.c rfl (.base 12 rfl rfl)) inferInstance
 ·skip
  have hin : hr = d.hours.length := by omega
  subst hin
  refine XK.exit rfl ?_
  refine XK.seq (XK.region rfl ?_)
  refine XO.q (Q.ld rfl rfl) ?_
  refine XO.q (Q.assign rfl) (XO.done ?_)
  refine XK.rt [ko] Tryz.func148 Tryz.results148 (.t rfl .n) ?_
  exact ⟨ko, rfl, OO, so⟩
end Go.X.Ma

set_option linter.unusedSimpArgs false
set_option linter.unusedVariables false
set_option maxRecDepth 20000
namespace Go.X.Ma
open Go.Proofs
structure TabsOk (d : KDay) (tabs : List (List Int)) : Prop where
 len : tabs.length = (startsL d).length
 tab : ∀ j, j < (startsL d).length → TabOk d (needsL d ((startsL d).getD j default)) (tabs.getD j default)
theorem tabs_snoc {d : KDay} {tabs : List (List Int)} {x : List Int} {i : Nat} (hl : tabs.length = i) (h : ∀ j, j < i → TabOk d (needsL d ((startsL d).getD j default)) (tabs.getD j default)) (hx : TabOk d (needsL d ((startsL d).getD i default)) x) :
  ∀ j, j < i + 1 → TabOk d (needsL d ((startsL d).getD j default)) ((tabs ++ [x]).getD j default) := fun j hj => by
 rw [snocK_at, hl]
 by_cases h2 : j < i
 ·rw [if_pos h2]; exact h j h2
 ·obtain rfl : j = i := by omega
  rw [if_neg h2, if_pos rfl]; exact hx
theorem getD_memK {α : Type} [Inhabited α] {xs : List α} {i : Nat} (h : i < xs.length) : xs.getD i default ∈ xs := getD_mem h
set_option maxHeartbeats 2000000 in
theorem Best_spec (d : KDay) (vh vj : Value) (hh hj : PHeap) [ih : Arr vh encHour 6 hh d.hours] [ij : Arr vj encJob 4 hj d.jobs] : Spec Tryz.prog 82 #[.agg #[vh, .int .i64 d.store.energy, .int .i64 d.store.full, .int .i64 d.store.power, .int .i64 d.store.fin, vj, .int .i64 d.most, .int .i64 d.peak]] [] [hh, hj] (fun v hs => ∃ vs vc vp K kc kp pus KP tabs, v = .tuple #[.agg #[vs, vc, .int .i64 (bestG d).1.cost], vp, .int .i64 (bestG d).2] ∧ hs = [K, kc, kp, KP] ∧ One vs ∧ Arr vs encI 1 K (bestG d).1.starts ∧ OArr vc encI 1 3 kc (bestG d).1.charge ∧ OArr vp encV 1 29 kp pus ∧ RowsK pus KP tabs ∧ ((bestG d).2 = 0 → TabsOk d tabs) ∧ ((bestG d).2 ≠ 0 → tabs = [])) := by
 have lh := ih.le
 have nI : OArr (.slice none 0 0) encI 1 3 emp ([] : List Int) := OArr.nil (fun _ => rfl)
 have nV : OArr (.slice none 0 0) encV 1 29 emp ([] : List Value) := OArr.nil (fun _ => rfl)
 refine Spec.intro (fn := Tryz.f82) (N := 63) Tryz.func82 rfl Tryz.ntmps82 rfl fun B => ?_
 refine XK.seq (XK.region rfl ?_)
 refine XO.box rfl fun b1 => ?_
 refine XO.alloc fun b2 => ?_
 refine XO.q (Q.assign rfl) (XO.q (Q.assign rfl) (XO.done (XK.seq (XK.seq (XK.region rfl ?_)))))
 refine XO.q (Q.ldA [_, _, _, _, _, _, _, _] rfl rfl rfl) ?_
 refine XO.call Tryz.call144 rfl rfl rfl (Check_spec d vh vj hh hj) fun v13 s13 R13 => ?_
 obtain ⟨rfl, rfl⟩ := R13
 dsimp only [lcA, lnA]
 refine XO.q (Q.assign rfl) (XO.done (XK.seq (XK.region rfl (XO.q (Q.move rfl) ?_))))
 refine XO.q (Q.neq rfl rfl) ?_
 refine XO.done ?_
 refine XK.if rfl (fun c0 => ?_) (fun c0 => ?_)
 ·skip
  refine XK.seq (XK.region rfl ?_)
  refine XO.q (Q.build [_, _, _] (.n _)) ?_
  refine XO.q (Q.move rfl) ?_
  refine XO.st rfl rfl rfl ?_
  refine XO.q (Q.assign rfl) (XO.q (Q.assign rfl) (XO.done ?_))
  refine XK.rt [emp, emp, emp, emp] Tryz.func82 Tryz.results82 (.cell [_, _, _] rfl rfl rfl (.t rfl (.t rfl .n))) ?_
  have e : bestG d = (⟨[], [], 0⟩, kcheck d) := by rw [bestG, if_pos c0]
  rw [e]
  exact ⟨.slice none 0 0, .slice none 0 0, .slice none 0 0, emp, emp, emp, [], emp, [], rfl, rfl, inferInstance, OArr.arr (s := nI), nI, nV, RowsK.nil, fun h => absurd h (c0), fun _ => rfl⟩
 ·skip
  have e0 := Decidable.of_not_not c0
  have ok := kcheck_iff.1 e0
  have s5 := ok.store.e0
  have s6 := ok.store.e1
  have f1 := ok.store.f1
  have q0 := ok.m0
  have sr0 : StateOk d d.store.energy 0 := ⟨s5, s6, Int.le_refl _, q0⟩
  have pr := prod_rng ok.h2 ok.j2 ok.job d.jobs.length (Nat.le_refl _)
  have few := ok.few
  have sl := starts_len ok.job d.jobs.length (Nat.le_refl _)
  have sll : (startsL d).length ≤ 8 := by unfold startsL; omega
  refine XK.skip (XK.seq (XK.region rfl ?_))
  refine XO.q (Q.build [_, _, _] (.c 2 1 rfl rfl rfl (.n _))) ?_
  refine XO.alloc fun b6 => ?_
  refine XO.st rfl rfl rfl ?_
  refine XO.done (XK.seq (XK.region rfl (XO.q (Q.assign rfl) (XO.done (XK.seq ?_)))))
  refine XK.seq (XK.region rfl ?_)
  refine XO.q (Q.ldA [_, _, _, _, _, _, _, _] rfl rfl rfl) ?_
  refine XO.call Tryz.call145 rfl rfl rfl (starts_spec d vh vj hh hj ok) fun v20 s20 R20 => ?_
  obtain ⟨ho, us, K, rfl, OO, RO⟩ := R20
  dsimp only [lcA, lnA]
  refine XO.len rfl fun l21 => ?_
  refine XO.q (Q.move rfl) (XO.done (XK.block ?_))
  refine XK.while (X := Nat × Value × PHeap × List Value × PHeap × Value × Value × PHeap × List (List Int)) [7, 9, 10, 11, 22, 23, 24, 25, 26, 27, 28, 29, 30, 31, 32, 33, 34, 35, 36, 37, 38, 39, 40, 41, 42, 43, 44, 45, 46, 47, 48, 49, 50, 51, 52, 53, 54, 55, 56] (fun ⟨i, vpr, kpr, pus, KP, vs1, vc1, kc1, tabs⟩ => [(7, some (vpr)), (22, some (.int .i64 (i : Nat)))]) (fun ⟨i, vpr, kpr, pus, KP, vs1, vc1, kc1, tabs⟩ => [blk b6 [vs1, vc1, .int .i64 (bestTo d (i)).cost] 118, kpr, KP, kc1]) (fun ⟨i, vpr, kpr, pus, KP, vs1, vc1, kc1, tabs⟩ => i ≤ us.length ∧ OArr vpr encV 1 29 kpr pus ∧ RowsK pus KP tabs ∧ tabs.length = i ∧ (∀ j, j < i → TabOk d (needsL d ((startsL d).getD j default)) (tabs.getD j default)) ∧ One vs1 ∧ Arr vs1 encI 1 K (bestTo d (i)).starts ∧ OArr vc1 encI 1 3 kc1 (bestTo d (i)).charge) (fun ⟨i, vpr, kpr, pus, KP, vs1, vc1, kc1, tabs⟩ => us.length - i) (0, .slice none 0 0, emp, [], emp, .slice none 0 0, .slice none 0 0, emp, []) [blk b6 [.slice none 0 0, .slice none 0 0, .int .i64 1000000000000000] 118, emp, emp, emp] rfl ⟨by omega, nV, RowsK.nil, rfl, fun j hj => by omega, inferInstance, Arr.nil (fun _ => rfl), nI⟩ (.c rfl (.c rfl (.base 0 rfl rfl))) ?_
  rintro ⟨i, vpr, kpr, pus, KP, vs1, vc1, kc1, tabs⟩ ⟨hi, OPR, RP, tl, ht, ow, AS, OC⟩ ih0
  dsimp only [lcA, lnA] at ih0 ⊢
  have pl := RP.1
  refine XK.seq (XK.region rfl ?_)
  refine XO.q (Q.lss rfl rfl) ?_
  refine XO.done (XK.seq ?_)
  refine XK.if rfl (fun c1 => ?_) (fun c1 => ?_)
  ·skip
   have rl := RO.1
   have ar := RO.2 i (by omega)
   refine XK.skip (XK.seq (XK.block (XK.seq (XK.region rfl ?_))))
   refine XO.ix rfl rfl (by omega) (by omega) fun i24 => ?_
   refine XO.q (Q.ldE rfl (by first | assumption | omega) rfl) ?_
   refine XO.q (Q.assign rfl) (XO.done (XK.seq (XK.region rfl ?_)))
   refine XO.q (Q.ldA [_, _, _, _, _, _, _, _] rfl rfl rfl) ?_
   refine XO.q (Q.move rfl) ?_
   refine XO.call Tryz.call146 rfl rfl rfl (tables_spec d vh vj hh hj ((startsL d).getD i default) (us.getD i default) K ok (starts_ok (getD_memK (by omega)))) fun v28 s28 R28 => ?_
   obtain ⟨b, vb, vv, hb, hv, vals, rfl, rfl, OB, OV, TO⟩ := R28
   dsimp only [lcA, lnA]
   refine XO.q (Q.assign rfl) (XO.done (XK.seq (XK.region rfl (XO.q (Q.move rfl) (XO.q (Q.move rfl) ?_)))))
   refine XO.q (Q.nilCheck rfl) ?_
   refine XO.q (Q.fieldAddr rfl) ?_
   refine XO.q (Q.ld rfl rfl) ?_
   refine XO.lit [_] [_] [vv] encV (by rfl) (by rfl) rfl (by rfl) (by exact .c 0 1 rfl rfl rfl (.n _)) (fun _ => rfl) (by rfl) rfl (by infer_instance) rfl fun v34 h34 O34 => ?_
   refine XO.append rfl rfl rfl rfl (by simp only [List.length_cons, List.length_nil]; omega) fun v35 h35 O35 => ?_
   refine XO.q (Q.assign rfl) (XO.done (XK.seq ?_))
   refine XK.drawn [0, 1, 2, 3, 4, 5, 6, 7, 9, 10, 11] [b, b1] [hv] (.q 0 (.q 1 (.q 2 (.q 3 (.q 4 (.q 5 (.q 6 (.q 7 (.br 8 true (.q 9 (.q 10 (.q 11 .done))) .stop))))))))) Tryz.mixed rfl (by kernel_rfl) ?_
   refine XT.q rfl rfl (Q.move rfl) ?_
   refine XT.q rfl rfl (Q.nilCheck rfl) ?_
   refine XT.q rfl rfl (Q.fieldAddr rfl) ?_
   refine XT.q rfl rfl (Q.ld rfl rfl) ?_
   refine XT.q rfl rfl (Q.move rfl) ?_
   refine XT.q rfl rfl (Q.fieldAddr rfl) ?_
   refine XT.q rfl rfl (Q.fieldAddr rfl) ?_
   refine XT.q rfl rfl (Q.ld rfl rfl) ?_
   refine XT.call rfl rfl Tryz.call147 rfl rfl rfl (at_spec d vh vj vb vv ok b 0 d.store.energy 0 (by omega) (by omega) (by omega)) (fun v44 s44 R44 => ?_) XT.stop
   obtain ⟨rfl, rfl⟩ := R44
   dsimp only [lcA, lnA]
   refine ⟨inferInstance, ?_⟩
   have arn := at_rng sr0 (show (0 : Int) ≤ 0 by omega) (by omega)
   have vl := TO.len
   refine XT.ix rfl rfl rfl rfl (by omega) (by omega) fun i45 => ?_
   refine XT.q rfl rfl (Q.ldE rfl (by first | assumption | omega) rfl) ?_
   rw [show vals.getD (atK d 0 d.store.energy 0).toNat default = (valH d (needsL d ((startsL d).getD i default)) 0 d.store.energy 0) from TO.val 0 _ _ (Nat.zero_le _) sr0]
   refine XT.q rfl rfl (Q.assign rfl) ?_
   refine XT.done ?_
   refine XK.seq (XK.region rfl (XO.q (Q.move rfl) ?_))
   refine XO.q (Q.fieldAddr rfl) ?_
   refine XO.q (Q.ld rfl rfl) ?_
   refine XO.q (Q.lss rfl rfl) ?_
   refine XO.done ?_
   refine XK.if rfl (fun c2 => ?_) (fun c2 => ?_)
   ·skip
    refine XK.region rfl (XO.q (Q.move rfl) (XO.q (Q.move rfl) ?_))
    refine XO.call Tryz.call148 rfl rfl rfl (plan_spec d vh vj hh hj vb vv hb hv (needsL d ((startsL d).getD i default)) vals ok (needs_base ok _) TO b) fun v53 s53 R53 => ?_
    obtain ⟨k53, rfl, O53, S53⟩ := R53
    dsimp only [lcA, lnA]
    refine XO.q (Q.move rfl) ?_
    refine XO.q (Q.build [_, _, _] (.c 0 1 rfl rfl rfl (.c 1 1 rfl rfl rfl (.c 2 1 rfl rfl rfl (.n _))))) ?_
    refine XO.st rfl rfl rfl ?_
    refine XO.done ?_
    refine XK.inBlock ?_
    refine XK.region rfl ?_
    refine XO.q (Q.add rfl rfl ⟨by omega, by omega⟩) ?_
    refine XO.q (Q.move rfl) (XO.done ?_)
    refine XK.cat KP hv fun l1 l2 => ?_
    have be : (bestTo d (i + 1)) = ⟨((startsL d).getD i default), planL d (needsL d ((startsL d).getD i default)), (valH d (needsL d ((startsL d).getD i default)) 0 d.store.energy 0)⟩ := by rw [bestTo, if_pos c2]
    rw [show (valH d (needsL d ((startsL d).getD i default)) 0 d.store.energy 0) = (bestTo d (i + 1)).cost by rw [be]]
    exact ih0 (i + 1, v35, h35, pus ++ [vv], cat KP hv, us.getD i default, v53, k53, tabs ++ [vals]) _ _ ⟨by dsimp only; omega, O35, (RP.mono l1).snoc (Arr.le_heap (OArr.arr (s := OV)) l2), by rw [List.length_append, tl]; rfl, tabs_snoc tl ht TO, inferInstance, by dsimp only; rw [be]; exact ar, by dsimp only; rw [be]; exact O53⟩ (by first | omega | (dsimp only; omega)) (.c rfl (.c rfl (.base 80 rfl rfl))) inferInstance
   ·skip
    refine XK.skip ?_
    refine XK.inBlock ?_
    refine XK.region rfl ?_
    refine XO.q (Q.add rfl rfl ⟨by omega, by omega⟩) ?_
    refine XO.q (Q.move rfl) (XO.done ?_)
    refine XK.cat KP hv fun l1 l2 => ?_
    have be : (bestTo d (i + 1)) = (bestTo d (i)) := by rw [bestTo, if_neg c2]
    rw [show (bestTo d (i)).cost = (bestTo d (i + 1)).cost by rw [be]]
    exact ih0 (i + 1, v35, h35, pus ++ [vv], cat KP hv, vs1, vc1, kc1, tabs ++ [vals]) _ _ ⟨by dsimp only; omega, O35, (RP.mono l1).snoc (Arr.le_heap (OArr.arr (s := OV)) l2), by rw [List.length_append, tl]; rfl, tabs_snoc tl ht TO, ow, by dsimp only; rw [be]; exact AS, by dsimp only; rw [be]; exact OC⟩ (by first | omega | (dsimp only; omega)) (.c rfl (.c rfl (.base 75 rfl rfl))) inferInstance
  ·skip
   have rl := RO.1
   have hin : i = (startsL d).length := by omega
   subst hin
   refine XK.exit rfl ?_
   refine XK.seq (XK.seq (XK.region rfl ?_))
   refine XO.q (Q.fieldAddr rfl) ?_
   refine XO.q (Q.ld rfl rfl) ?_
   refine XO.q (Q.eql rfl rfl) ?_
   refine XO.done ?_
   refine XK.if rfl (fun c3 => ?_) (fun c3 => ?_)
   ·skip
    refine XK.seq (XK.region rfl ?_)
    refine XO.q (Q.build [_, _, _] (.n _)) ?_
    refine XO.st rfl rfl rfl ?_
    refine XO.q (Q.assign rfl) (XO.q (Q.assign rfl) (XO.done ?_))
    refine XK.rt [emp, emp, emp, emp] Tryz.func82 Tryz.results82 (.cell [_, _, _] rfl rfl rfl (.t rfl (.t rfl .n))) ?_
    have e : bestG d = (⟨[], [], 0⟩, 4) := by rw [bestG, if_neg c0, if_pos (show (bestP d).cost = never from c3)]
    rw [e]
    exact ⟨.slice none 0 0, .slice none 0 0, .slice none 0 0, emp, emp, emp, [], emp, [], rfl, rfl, inferInstance, OArr.arr (s := nI), nI, nV, RowsK.nil, fun h => absurd h (by decide), fun _ => rfl⟩
   ·skip
    refine XK.skip (XK.seq (XK.region rfl ?_))
    refine XO.q (Q.ldA [_, _, _] rfl rfl rfl) ?_
    refine XO.q (Q.move rfl) ?_
    refine XO.st rfl rfl rfl ?_
    refine XO.q (Q.assign rfl) (XO.q (Q.assign rfl) (XO.done ?_))
    refine XK.rt [K, kc1, kpr, KP] Tryz.func82 Tryz.results82 (.cell [_, _, _] rfl rfl rfl (.t rfl (.t rfl .n))) ?_
    have e : bestG d = (bestP d, 0) := by rw [bestG, if_neg c0, if_neg (show ¬ (bestP d).cost = never from c3)]
    rw [e]
    exact ⟨vs1, vc1, vpr, K, kc1, kpr, pus, KP, tabs, rfl, rfl, ow, AS, OC, OPR, RP, fun _ => ⟨tl, ht⟩, fun h => absurd rfl h⟩
end Go.X.Ma

set_option linter.unusedSimpArgs false
set_option linter.unusedVariables false
set_option maxRecDepth 20000
namespace Go.X.Ma
open Go.Proofs
theorem rows_len {f : Nat → KRow} {n : Nat} : ((List.range n).map f).length = n := by rw [List.length_map, List.length_range]
theorem add_spec (v : Value) (h : PHeap) (rows : List KRow) [s : Arr v encRow 7 h rows] (few : rows.length ≤ 30) (sm : ∀ i, i < rows.length → RowSmall 1000000 (rows.getD i default)) : Spec Tryz.prog 85 #[v] [] [h] (fun v hs => v = .agg #[.int .i64 (sumRow (fun i => rows.getD i default) rows.length).bought, .int .i64 (sumRow (fun i => rows.getD i default) rows.length).sold, .int .i64 (sumRow (fun i => rows.getD i default) rows.length).made, .int .i64 (sumRow (fun i => rows.getD i default) rows.length).used, .int .i64 (sumRow (fun i => rows.getD i default) rows.length).stored, .int .i64 (sumRow (fun i => rows.getD i default) rows.length).carbon, .int .i64 (sumRow (fun i => rows.getD i default) rows.length).water] ∧ hs = []) := by
 have le := s.le
 have sr := sumRow_rng (f := fun i => rows.getD i default) sm
 refine Spec.intro (fn := Tryz.f85) (N := 56) Tryz.func85 rfl Tryz.ntmps85 rfl fun B => ?_
 refine XK.seq (XK.region rfl ?_)
 refine XO.alloc fun b2 => ?_
 refine XO.done (XK.seq (XK.region rfl ?_))
 refine XO.alloc fun b3 => ?_
 refine XO.done (XK.seq (XK.seq (XK.region rfl (XO.q (Q.move rfl) ?_))))
 refine XO.len rfl fun l7 => ?_
 refine XO.q (Q.move rfl) (XO.done (XK.block ?_))
 refine XK.while (X := Nat) [5, 8, 9, 10, 11, 12, 13, 14, 15, 16, 17, 18, 19, 20, 21, 22, 23, 24, 25, 26, 27, 28, 29, 30, 31, 32, 33, 34, 35, 36, 37, 38, 39, 40, 41, 42, 43, 44, 45, 46, 47, 48, 49, 50, 51, 52, 53, 54] (fun i => [(8, some (.int .i64 (i : Nat)))]) (fun i => [blk b3 [.int .i64 (sumRow (fun i => rows.getD i default) i).bought, .int .i64 (sumRow (fun i => rows.getD i default) i).sold, .int .i64 (sumRow (fun i => rows.getD i default) i).made, .int .i64 (sumRow (fun i => rows.getD i default) i).used, .int .i64 (sumRow (fun i => rows.getD i default) i).stored, .int .i64 (sumRow (fun i => rows.getD i default) i).carbon, .int .i64 (sumRow (fun i => rows.getD i default) i).water] 123]) (fun i => i ≤ rows.length) (fun i => rows.length - i) (0) [blk b3 [.int .i64 (KRow.mk 0 0 0 0 0 0 0).bought, .int .i64 (KRow.mk 0 0 0 0 0 0 0).sold, .int .i64 (KRow.mk 0 0 0 0 0 0 0).made, .int .i64 (KRow.mk 0 0 0 0 0 0 0).used, .int .i64 (KRow.mk 0 0 0 0 0 0 0).stored, .int .i64 (KRow.mk 0 0 0 0 0 0 0).carbon, .int .i64 (KRow.mk 0 0 0 0 0 0 0).water] 123] rfl (by omega) (.c rfl (.base 0 rfl rfl)) ?_
 rintro i hi ih0
 dsimp only [lcA, lnA] at ih0 ⊢
 refine XK.seq (XK.region rfl ?_)
 refine XO.q (Q.lss rfl rfl) ?_
 refine XO.done (XK.seq ?_)
 refine XK.if rfl (fun c0 => ?_) (fun c0 => ?_)
 ·skip
  have q := sr i (by omega)
  have r := sm i (by omega)
  have qa := q.a
  have qb := q.b
  have qc := q.c
  have qd := q.d
  have qe := q.e
  have qf := q.f
  have qg := q.g
  have ra := r.a
  have rb := r.b
  have rc := r.c
  have rd := r.d
  have re := r.e
  have rf := r.f
  have rg := r.g
  refine XK.skip (XK.seq (XK.block (XK.seq (XK.region rfl ?_))))
  refine XO.ix rfl rfl (by omega) (by omega) fun i10 => ?_
  refine XO.q (Q.ldEA [_, _, _, _, _, _, _] rfl (by first | assumption | omega) rfl rfl) ?_
  refine XO.alloc fun b5 => ?_
  refine XO.st rfl rfl rfl ?_
  refine XO.done (XK.seq (XK.region rfl ?_))
  refine XO.q (Q.fieldAddr rfl) ?_
  refine XO.q (Q.ld rfl rfl) ?_
  refine XO.q (Q.fieldAddr rfl) ?_
  refine XO.q (Q.ld rfl rfl) ?_
  refine XO.q (Q.add rfl rfl ⟨by omega, by omega⟩) ?_
  refine XO.q (Q.fieldAddr rfl) ?_
  refine XO.st rfl rfl rfl ?_
  refine XO.done (XK.seq (XK.region rfl ?_))
  refine XO.q (Q.fieldAddr rfl) ?_
  refine XO.q (Q.ld rfl rfl) ?_
  refine XO.q (Q.fieldAddr rfl) ?_
  refine XO.q (Q.ld rfl rfl) ?_
  refine XO.q (Q.add rfl rfl ⟨by omega, by omega⟩) ?_
  refine XO.q (Q.fieldAddr rfl) ?_
  refine XO.st rfl rfl rfl ?_
  refine XO.done (XK.seq (XK.region rfl ?_))
  refine XO.q (Q.fieldAddr rfl) ?_
  refine XO.q (Q.ld rfl rfl) ?_
  refine XO.q (Q.fieldAddr rfl) ?_
  refine XO.q (Q.ld rfl rfl) ?_
  refine XO.q (Q.add rfl rfl ⟨by omega, by omega⟩) ?_
  refine XO.q (Q.fieldAddr rfl) ?_
  refine XO.st rfl rfl rfl ?_
  refine XO.done (XK.seq (XK.region rfl ?_))
  refine XO.q (Q.fieldAddr rfl) ?_
  refine XO.q (Q.ld rfl rfl) ?_
  refine XO.q (Q.fieldAddr rfl) ?_
  refine XO.q (Q.ld rfl rfl) ?_
  refine XO.q (Q.add rfl rfl ⟨by omega, by omega⟩) ?_
  refine XO.q (Q.fieldAddr rfl) ?_
  refine XO.st rfl rfl rfl ?_
  refine XO.done (XK.seq (XK.region rfl ?_))
  refine XO.q (Q.fieldAddr rfl) ?_
  refine XO.q (Q.ld rfl rfl) ?_
  refine XO.q (Q.fieldAddr rfl) ?_
  refine XO.q (Q.ld rfl rfl) ?_
  refine XO.q (Q.add rfl rfl ⟨by omega, by omega⟩) ?_
  refine XO.q (Q.fieldAddr rfl) ?_
  refine XO.st rfl rfl rfl ?_
  refine XO.done (XK.seq (XK.region rfl ?_))
  refine XO.q (Q.fieldAddr rfl) ?_
  refine XO.q (Q.ld rfl rfl) ?_
  refine XO.q (Q.fieldAddr rfl) ?_
  refine XO.q (Q.ld rfl rfl) ?_
  refine XO.q (Q.add rfl rfl ⟨by omega, by omega⟩) ?_
  refine XO.q (Q.fieldAddr rfl) ?_
  refine XO.st rfl rfl rfl ?_
  refine XO.done (XK.region rfl ?_)
  refine XO.q (Q.fieldAddr rfl) ?_
  refine XO.q (Q.ld rfl rfl) ?_
  refine XO.q (Q.fieldAddr rfl) ?_
  refine XO.q (Q.ld rfl rfl) ?_
  refine XO.q (Q.add rfl rfl ⟨by omega, by omega⟩) ?_
  refine XO.q (Q.fieldAddr rfl) ?_
  refine XO.st rfl rfl rfl ?_
  refine XO.done ?_
  refine XK.inBlock ?_
  refine XK.region rfl ?_
  refine XO.q (Q.add rfl rfl ⟨by omega, by omega⟩) ?_
  refine XO.q (Q.move rfl) (XO.done ?_)
  rw [show (sumRow (fun i => rows.getD i default) i).bought + (rows.getD i default).bought = (sumRow (fun i => rows.getD i default) (i + 1)).bought from rfl]
  rw [show (sumRow (fun i => rows.getD i default) i).sold + (rows.getD i default).sold = (sumRow (fun i => rows.getD i default) (i + 1)).sold from rfl]
  rw [show (sumRow (fun i => rows.getD i default) i).made + (rows.getD i default).made = (sumRow (fun i => rows.getD i default) (i + 1)).made from rfl]
  rw [show (sumRow (fun i => rows.getD i default) i).used + (rows.getD i default).used = (sumRow (fun i => rows.getD i default) (i + 1)).used from rfl]
  rw [show (sumRow (fun i => rows.getD i default) i).stored + (rows.getD i default).stored = (sumRow (fun i => rows.getD i default) (i + 1)).stored from rfl]
  rw [show (sumRow (fun i => rows.getD i default) i).carbon + (rows.getD i default).carbon = (sumRow (fun i => rows.getD i default) (i + 1)).carbon from rfl]
  rw [show (sumRow (fun i => rows.getD i default) i).water + (rows.getD i default).water = (sumRow (fun i => rows.getD i default) (i + 1)).water from rfl]
  exact ih0 (i + 1) _ _ (by omega) (by first | omega | (dsimp only; omega)) (.c rfl (.base 97 rfl rfl)) inferInstance
 ·skip
  have hin : i = rows.length := by omega
  subst hin
  refine XK.exit rfl ?_
  refine XK.seq (XK.region rfl ?_)
  refine XO.q (Q.ldA [_, _, _, _, _, _, _] rfl rfl rfl) ?_
  refine XO.st rfl rfl rfl ?_
  refine XO.done ?_
  refine XK.rt [] Tryz.func85 Tryz.results85 (.cell [_, _, _, _, _, _, _] rfl rfl rfl (.n)) ?_
  exact ⟨rfl, rfl⟩
set_option maxHeartbeats 1000000 in
theorem Ledger_spec (d : KDay) (vh vj : Value) (hh hj : PHeap) [ih : Arr vh encHour 6 hh d.hours] [ij : Arr vj encJob 4 hj d.jobs] (p : KPlan) (vs vc : Value) (hs_ hc : PHeap) [js : Arr vs encI 1 hs_ p.starts] [jc : Arr vc encI 1 hc p.charge] : Spec Tryz.prog 32 #[.agg #[vh, .int .i64 d.store.energy, .int .i64 d.store.full, .int .i64 d.store.power, .int .i64 d.store.fin, vj, .int .i64 d.most, .int .i64 d.peak], .agg #[vs, vc, .int .i64 p.cost]] [] [hh, hj, hs_, hc] (fun v hs => ∃ vo ho, v = .tuple #[vo, .agg #[.int .i64 (ledgerG d p).2.1.bought, .int .i64 (ledgerG d p).2.1.sold, .int .i64 (ledgerG d p).2.1.made, .int .i64 (ledgerG d p).2.1.used, .int .i64 (ledgerG d p).2.1.stored, .int .i64 (ledgerG d p).2.1.carbon, .int .i64 (ledgerG d p).2.1.water], .int .i64 (ledgerG d p).2.2] ∧ hs = [ho] ∧ OArr vo encRow 7 123 ho (ledgerG d p).1) := by
 have lh := ih.le
 have lc := jc.le
 have nR : OArr (.slice none 0 0) encRow 7 123 emp ([] : List KRow) := OArr.nil (fun _ => rfl)
 refine Spec.intro (fn := Tryz.f32) (N := 84) Tryz.func32 rfl Tryz.ntmps32 rfl fun B => ?_
 refine XK.seq (XK.region rfl ?_)
 refine XO.box rfl fun b2 => ?_
 refine XO.box rfl fun b3 => ?_
 refine XO.q (Q.assign rfl) ?_
 refine XO.alloc fun b5 => ?_
 refine XO.q (Q.assign rfl) (XO.done (XK.seq (XK.region rfl ?_)))
 refine XO.q (Q.ldA [_, _, _, _, _, _, _, _] rfl rfl rfl) ?_
 refine XO.q (Q.ldA [_, _, _] rfl rfl rfl) ?_
 refine XO.call Tryz.call83 rfl rfl rfl (form_spec d vh vj hh hj p vs vc hs_ hc) fun v18 s18 R18 => ?_
 obtain ⟨v1, k1, rfl, rfl, O1⟩ := R18
 dsimp only [lcA, lnA]
 refine XO.q (Q.move rfl) ?_
 refine XO.q (Q.extract rfl rfl) ?_
 refine XO.q (Q.extract rfl rfl) ?_
 refine XO.q (Q.assign rfl) (XO.q (Q.assign rfl) (XO.done (XK.seq (XK.seq (XK.region rfl ?_)))))
 refine XO.q (Q.move rfl) ?_
 refine XO.q (Q.neq rfl rfl) ?_
 refine XO.done ?_
 refine XK.if rfl (fun c0 => ?_) (fun c0 => ?_)
 ·skip
  refine XK.seq (XK.region rfl ?_)
  refine XO.q (Q.build [_, _, _, _, _, _, _] (.n _)) ?_
  refine XO.q (Q.move rfl) (XO.q (Q.assign rfl) ?_)
  refine XO.st rfl rfl rfl ?_
  refine XO.q (Q.assign rfl) (XO.done ?_)
  refine XK.rt [emp] Tryz.func32 Tryz.results32 (.t rfl (.cell [_, _, _, _, _, _, _] rfl rfl rfl (.t rfl .n))) ?_
  rw [ledgerG, if_pos c0]
  exact ⟨.slice none 0 0, emp, rfl, rfl, nR⟩
 ·skip
  have e0 := Decidable.of_not_not c0
  have ff := form_fine e0
  have h24 := ff.1.h2
  have cl := ff.2.2.2.1
  have bl : (formG d p).1.length = d.hours.length := by rw [ff.2.2.2.2.2.2]; exact needsL_len d _
  have ul : (usedL d p.starts).length = d.hours.length := range_len
  refine XK.skip (XK.seq (XK.region rfl ?_))
  refine XO.q (Q.ldA [_, _, _, _, _, _, _, _] rfl rfl rfl) ?_
  refine XO.q (Q.fieldAddr rfl) ?_
  refine XO.q (Q.ld rfl rfl) ?_
  refine XO.call Tryz.call84 rfl rfl rfl (used_spec d vh vj hh hj p.starts vs hs_ ff.1 ff.2.1) fun v28 s28 R28 => ?_
  obtain ⟨ku, rfl, OU⟩ := R28
  dsimp only [lcA, lnA]
  refine XO.q (Q.assign rfl) (XO.done (XK.seq (XK.region rfl (XO.q (Q.assign rfl) (XO.done ?_)))))
  refine XK.seq (XK.seq (XK.region rfl ?_))
  refine XO.q (Q.fieldAddr rfl) ?_
  refine XO.q (Q.ld rfl rfl) ?_
  refine XO.len rfl fun l31 => ?_
  refine XO.q (Q.move rfl) (XO.done (XK.block ?_))
  refine XK.while (X := Nat × Value × PHeap) [10, 11, 12, 13, 14, 32, 33, 34, 35, 36, 37, 38, 39, 40, 41, 42, 43, 44, 45, 46, 47, 48, 49, 50, 51, 52, 53, 54, 55, 56, 57, 58, 59, 60, 61, 62, 63, 64, 65, 66, 67, 68, 69, 70, 71, 72, 73, 74, 75, 76, 77, 78, 79, 80] (fun ⟨i, vo, ho⟩ => [(10, some (vo)), (32, some (.int .i64 (i : Nat)))]) (fun ⟨i, vo, ho⟩ => [ho]) (fun ⟨i, vo, ho⟩ => i ≤ d.hours.length ∧ OArr vo encRow 7 123 ho ((List.range i).map (rowAt d (formG d p).1 (usedL d p.starts) p.charge))) (fun ⟨i, vo, ho⟩ => d.hours.length - i) (0, .slice none 0 0, emp) [emp] rfl ⟨by omega, nR⟩ (.c rfl (.c rfl (.base 0 rfl rfl))) ?_
  rintro ⟨i, vo, ho⟩ ⟨hi, OL⟩ ih0
  dsimp only [lcA, lnA] at ih0 ⊢
  refine XK.seq (XK.region rfl ?_)
  refine XO.q (Q.lss rfl rfl) ?_
  refine XO.done (XK.seq ?_)
  refine XK.if rfl (fun c1 => ?_) (fun c1 => ?_)
  ·skip
   have rf := row_facts e0 (show i < d.hours.length by omega)
   obtain ⟨rn, ru, rs, rc, rw_⟩ := rf
   refine XK.skip (XK.seq (XK.block (XK.seq (XK.region rfl (XO.q (Q.move rfl) ?_)))))
   refine XO.ix rfl rfl (by omega) (by omega) fun i35 => ?_
   refine XO.q (Q.ldEA [_, _, _, _, _, _] rfl (by first | assumption | omega) rfl rfl) ?_
   refine XO.alloc fun b12 => ?_
   refine XO.q (Q.assign rfl) ?_
   refine XO.st rfl rfl rfl ?_
   refine XO.done (XK.seq ?_)
   refine XK.drawn [0, 1, 2, 3, 4, 5, 6, 7, 8, 9, 10] [b3] [k1] (.q 0 (.q 1 (.q 2 (.q 3 (.q 4 (.q 5 (.q 6 (.q 7 (.q 8 (.q 9 (.q 10 .done))))))))))) Tryz.mixed rfl (by kernel_rfl) ?_
   refine XT.q rfl rfl (Q.move rfl) ?_
   refine XT.q rfl rfl (Q.move rfl) ?_
   refine XT.ix rfl rfl rfl rfl (by omega) (by omega) fun i39 => ?_
   refine XT.q rfl rfl (Q.ldE rfl (by first | assumption | omega) rfl) ?_
   refine XT.q rfl rfl (Q.fieldAddr rfl) ?_
   refine XT.q rfl rfl (Q.ld rfl rfl) ?_
   refine XT.q rfl rfl (Q.move rfl) ?_
   refine XT.ix rfl rfl rfl rfl (by omega) (by omega) fun i44 => ?_
   refine XT.q rfl rfl (Q.ldE rfl (by first | assumption | omega) rfl) ?_
   refine XT.q rfl rfl (Q.add rfl rfl ⟨by omega, by omega⟩) ?_
   refine XT.q rfl rfl (Q.assign rfl) ?_
   refine XT.done ?_
   refine XK.seq ?_
   refine XK.drawn [0, 1, 2, 3, 4, 5, 6, 7, 8, 9, 10, 11, 12, 13, 14, 15, 16] [b12, b3] [ku] (.q 0 (.q 1 (.q 2 (.q 3 (.q 4 (.q 5 (.q 6 (.q 7 (.q 8 (.q 9 (.q 10 (.q 11 (.q 12 (.q 13 (.q 14 (.q 15 (.q 16 (.br 17 true (.br 18 false .done .stop) .stop)))))))))))))))))) Tryz.mixed rfl (by kernel_rfl) ?_
   refine XT.q rfl rfl (Q.move rfl) ?_
   refine XT.q rfl rfl (Q.max rfl rfl) ?_
   refine XT.q rfl rfl (Q.move rfl) ?_
   refine XT.q rfl rfl (Q.neg rfl ⟨by omega, by omega⟩) ?_
   rw [show (0 : Int) - ((formG d p).1.getD i default + p.charge.getD i default) = -((formG d p).1.getD i default + p.charge.getD i default) by omega]
   refine XT.q rfl rfl (Q.max rfl rfl) ?_
   refine XT.q rfl rfl (Q.fieldAddr rfl) ?_
   refine XT.q rfl rfl (Q.ld rfl rfl) ?_
   refine XT.q rfl rfl (Q.move rfl) ?_
   refine XT.q rfl rfl (Q.move rfl) ?_
   refine XT.ix rfl rfl rfl rfl (by omega) (by omega) fun i56 => ?_
   refine XT.q rfl rfl (Q.ldE rfl (by first | assumption | omega) rfl) ?_
   refine XT.q rfl rfl (Q.fieldAddr rfl) ?_
   refine XT.q rfl rfl (Q.ld rfl rfl) ?_
   refine XT.q rfl rfl (Q.move rfl) ?_
   refine XT.ix rfl rfl rfl rfl (by omega) (by omega) fun i61 => ?_
   refine XT.q rfl rfl (Q.ldE rfl (by first | assumption | omega) rfl) ?_
   refine XT.q rfl rfl (Q.build [_, _, _, _, _, _, _] (.c 0 1 rfl rfl rfl (.c 1 1 rfl rfl rfl (.c 2 1 rfl rfl rfl (.c 3 1 rfl rfl rfl (.c 4 1 rfl rfl rfl (.n _))))))) ?_
   refine XT.alloc rfl rfl (fun b14 => ⟨inferInstance, ?_⟩) XT.stop
   refine XT.st rfl rfl rfl rfl rfl ⟨inferInstance, ?_⟩ XT.stop
   refine XT.done ?_
   refine XK.seq ?_
   refine XK.meet (X := Unit) [64, 65, 66, 67, 68, 69, 70, 71, 72, 73, 74, 75] (fun _ => []) (fun _ => [blk b14 [.int .i64 (max ((formG d p).1.getD i default + p.charge.getD i default) 0), .int .i64 (max (-((formG d p).1.getD i default + p.charge.getD i default)) 0), .int .i64 (d.hours.getD i default).sun, .int .i64 ((usedL d p.starts).getD i default), .int .i64 (p.charge.getD i default), .int .i64 (max ((formG d p).1.getD i default + p.charge.getD i default) 0 * (d.hours.getD i default).carbon), .int .i64 (((usedL d p.starts).getD i default) * (d.hours.getD i default).water)] 123]) (fun _ => True) [blk b14 [.int .i64 (max ((formG d p).1.getD i default + p.charge.getD i default) 0), .int .i64 (max (-((formG d p).1.getD i default + p.charge.getD i default)) 0), .int .i64 (d.hours.getD i default).sun, .int .i64 ((usedL d p.starts).getD i default), .int .i64 (p.charge.getD i default), .int .i64 0, .int .i64 0] 123] ?_ ?_
   ·rintro _ _
    dsimp only [lcA, lnA]
    refine XK.region rfl (XO.q (Q.move rfl) ?_)
    refine XO.q (Q.ldA [_, _, _, _, _, _, _] rfl rfl rfl) ?_
    refine XO.lit [_, _, _, _, _, _, _] [_, _, _, _, _, _, _] [rowAt d (formG d p).1 (usedL d p.starts) p.charge i] encRow (by rfl) (by rfl) rfl (by rfl) (by exact .c 0 7 rfl rfl rfl (.n _)) (fun _ => rfl) (by rfl) rfl (by infer_instance) rfl fun v78 h78 O78 => ?_
    refine XO.append rfl rfl rfl rfl (by first | omega | (simp; omega)) fun v79 h79 O79 => ?_
    refine XO.q (Q.assign rfl) (XO.done ?_)
    refine XK.inBlock ?_
    refine XK.region rfl ?_
    refine XO.q (Q.add rfl rfl ⟨by omega, by omega⟩) ?_
    refine XO.q (Q.move rfl) (XO.done ?_)
    exact ih0 (i + 1, v79, h79) _ _ ⟨by dsimp only; omega, by dsimp only; rw [List.range_succ, List.map_append]; exact O79⟩ (by first | omega | (dsimp only; omega)) (.c rfl (.c rfl (.base 110 rfl rfl))) inferInstance
   ·intro mtr11
    dsimp only [lcA, lnA] at mtr11
    refine XK.drawn [0, 2, 3, 5, 7, 8, 4, 9, 10, 12] [b12] [] (.q 0 (.q 2 (.q 3 (.q 5 (.q 7 (.q 8 (.br 1 true (.q 4 (.br 6 true (.q 9 (.q 10 (.br 11 true (.q 12 (.br 13 false .done .stop)) .stop))) .stop)) (.br 6 true (.q 9 (.br 1 true (.q 4 (.q 10 (.br 11 true (.q 12 (.br 13 false .done .stop)) .stop))) .stop)) .stop)))))))) Tryz.mixed rfl (by kernel_rfl) ?_
    refine XT.q rfl rfl (Q.fieldAddr rfl) ?_
    refine XT.q rfl rfl (Q.fieldAddr rfl) ?_
    refine XT.q rfl rfl (Q.ld rfl rfl) ?_
    refine XT.q rfl rfl (Q.fieldAddr rfl) ?_
    refine XT.q rfl rfl (Q.fieldAddr rfl) ?_
    refine XT.q rfl rfl (Q.ld rfl rfl) ?_
    refine XT.qs rfl rfl (Q.ld rfl rfl) ⟨inferInstance, ?_⟩ ?_
    ·skip
     refine XT.q rfl rfl (Q.mul rfl rfl ⟨by omega, by omega⟩) ?_
     refine XT.qs rfl rfl (Q.ld rfl rfl) ⟨inferInstance, ?_⟩ XT.stop
     refine XT.q rfl rfl (Q.mul rfl rfl ⟨by omega, by omega⟩) ?_
     refine XT.q rfl rfl (Q.fieldAddr rfl) ?_
     refine XT.st rfl rfl rfl rfl rfl ⟨inferInstance, ?_⟩ XT.stop
     refine XT.q rfl rfl (Q.fieldAddr rfl) ?_
     refine XT.st rfl rfl rfl rfl rfl ⟨inferInstance, ?_⟩ XT.stop
     refine XT.done ?_
     exact mtr11 (()) _ _ trivial (.base 12 rfl rfl) inferInstance
    ·skip
     refine XT.qs rfl rfl (Q.ld rfl rfl) ⟨inferInstance, ?_⟩ XT.stop
     refine XT.q rfl rfl (Q.mul rfl rfl ⟨by omega, by omega⟩) ?_
     refine XT.qs rfl rfl (Q.ld rfl rfl) ⟨inferInstance, ?_⟩ XT.stop
     refine XT.q rfl rfl (Q.mul rfl rfl ⟨by omega, by omega⟩) ?_
     refine XT.q rfl rfl (Q.fieldAddr rfl) ?_
     refine XT.st rfl rfl rfl rfl rfl ⟨inferInstance, ?_⟩ XT.stop
     refine XT.q rfl rfl (Q.fieldAddr rfl) ?_
     refine XT.st rfl rfl rfl rfl rfl ⟨inferInstance, ?_⟩ XT.stop
     refine XT.done ?_
     exact mtr11 (()) _ _ trivial (.base 12 rfl rfl) inferInstance
  ·skip
   have hin : i = d.hours.length := by omega
   subst hin
   refine XK.exit rfl ?_
   refine XK.seq (XK.region rfl (XO.q (Q.move rfl) (XO.q (Q.move rfl) ?_)))
   refine XO.call Tryz.call85 rfl rfl rfl (add_spec vo ho ((List.range d.hours.length).map (rowAt d (formG d p).1 (usedL d p.starts) p.charge)) (by rw [rows_len]; have := ff.1.h2; omega) (fun i hi => by rw [rows_len] at hi; rw [range_getK hi]; exact row_small e0 hi)) fun v83 s83 R83 => ?_
   obtain ⟨rfl, rfl⟩ := R83
   dsimp only [lcA, lnA]
   refine XO.q (Q.assign rfl) ?_
   refine XO.st rfl rfl rfl ?_
   refine XO.q (Q.assign rfl) (XO.done ?_)
   refine XK.rt [ho] Tryz.func32 Tryz.results32 (.t rfl (.cell [_, _, _, _, _, _, _] rfl rfl rfl (.t rfl .n))) ?_
   rw [ledgerG, if_neg c0]
   have es : sumRow (fun i => ((List.range d.hours.length).map (rowAt d (formG d p).1 (usedL d p.starts) p.charge)).getD i default) ((List.range d.hours.length).map (rowAt d (formG d p).1 (usedL d p.starts) p.charge)).length = sumRow (rowAt d (formG d p).1 (usedL d p.starts) p.charge) d.hours.length := by rw [rows_len]; exact sumRow_ext _ fun i hi => range_getK hi
   rw [es]
   exact ⟨vo, ho, rfl, rfl, OL⟩
end Go.X.Ma

set_option linter.unusedSimpArgs false
set_option linter.unusedVariables false
set_option maxRecDepth 20000
namespace Go.X.Ma
open Go.Proofs
theorem byt_rngK (x : List UInt8) (i : Nat) : 0 ≤ (((x.getD i default).toNat : Nat) : Int) ∧ (((x.getD i default).toNat : Nat) : Int) ≤ 255 := by
 have := (x.getD i default).toNat_lt
 omega
theorem next_spec (vx : Value) (hx : PHeap) (x : List UInt8) [jx : Arr vx encU8 1 hx x] (b : Nat) (i : Nat) (i1 : i ≤ 1000000) (n : Int) (n0 : 0 < n) (n1 : n ≤ 1000000) : Spec Tryz.prog 143 #[ptr b 0, .int .i64 n] [blk b [vx, .int .i64 (((i : Nat) : Int))] 290] [hx] (fun v hs => v = .int .i64 (dg x i n) ∧ hs = [blk b [vx, .int .i64 (((i + 1 : Nat) : Int))] 290]) := by
 have lx := jx.le
 have br := byt_rngK x i
 refine Spec.intro (fn := Tryz.f143) (N := 36) Tryz.func143 rfl Tryz.ntmps143 rfl fun B => ?_
 refine XK.seq (XK.region rfl (XO.q (Q.assign rfl) (XO.done (XK.seq (XK.region rfl ?_)))))
 refine XO.q (Q.move rfl) ?_
 refine XO.q (Q.nilCheck rfl) ?_
 refine XO.q (Q.fieldAddr rfl) ?_
 refine XO.q (Q.ld rfl rfl) ?_
 refine XO.q (Q.add rfl rfl ⟨by omega, by omega⟩) ?_
 rw [show ((i : Nat) : Int) + 1 = ((i + 1 : Nat) : Int) from rfl]
 refine XO.q (Q.nilCheck rfl) ?_
 refine XO.q (Q.fieldAddr rfl) ?_
 refine XO.st rfl rfl rfl ?_
 refine XO.done (XK.seq (XK.seq ?_))
 refine XK.drawn [0, 1, 2, 3, 4, 5, 6, 7, 8, 9] [b] [] (.q 0 (.q 1 (.q 2 (.q 3 (.q 4 (.q 5 (.q 6 (.q 7 (.q 8 (.q 9 .done)))))))))) Tryz.mixed rfl (by kernel_rfl) ?_
 refine XT.q rfl rfl (Q.move rfl) ?_
 refine XT.q rfl rfl (Q.nilCheck rfl) ?_
 refine XT.q rfl rfl (Q.fieldAddr rfl) ?_
 refine XT.q rfl rfl (Q.ld rfl rfl) ?_
 refine XT.q rfl rfl (Q.move rfl) ?_
 refine XT.q rfl rfl (Q.nilCheck rfl) ?_
 refine XT.q rfl rfl (Q.fieldAddr rfl) ?_
 refine XT.q rfl rfl (Q.ld rfl rfl) ?_
 refine XT.q rfl rfl (Q.len rfl) ?_
 refine XT.q rfl rfl (Q.gtr rfl rfl) ?_
 refine XT.done ?_
 refine XK.if rfl (fun c0 => ?_) (fun c0 => ?_)
 ·skip
  refine XK.seq (XK.region rfl (XO.q (Q.assign rfl) (XO.done ?_)))
  refine XK.rt [blk b [vx, .int .i64 (((i + 1 : Nat) : Int))] 290] Tryz.func143 Tryz.results143 (.t rfl .n) ?_
  exact ⟨by rw [dg_off (by omega) n0], rfl⟩
 ·skip
  refine XK.skip (XK.seq ?_)
  refine XK.drawn [0, 1, 2, 3, 4, 5, 6, 7, 8, 9, 10, 11, 12, 13, 14] [b] [] (.q 0 (.q 1 (.q 2 (.q 3 (.q 4 (.q 5 (.q 6 (.q 7 (.q 8 (.q 9 (.q 10 (.q 11 (.q 12 (.q 13 (.q 14 .done))))))))))))))) Tryz.mixed rfl (by kernel_rfl) ?_
  refine XT.q rfl rfl (Q.move rfl) ?_
  refine XT.q rfl rfl (Q.nilCheck rfl) ?_
  refine XT.q rfl rfl (Q.fieldAddr rfl) ?_
  refine XT.q rfl rfl (Q.ld rfl rfl) ?_
  refine XT.q rfl rfl (Q.move rfl) ?_
  refine XT.q rfl rfl (Q.nilCheck rfl) ?_
  refine XT.q rfl rfl (Q.fieldAddr rfl) ?_
  refine XT.q rfl rfl (Q.ld rfl rfl) ?_
  refine XT.q rfl rfl (Q.sub rfl rfl ⟨by omega, by omega⟩) ?_
  rw [show ((i + 1 : Nat) : Int) - 1 = ((i : Nat) : Int) by omega]
  refine XT.ix rfl rfl rfl rfl (by omega) (by omega) fun i31 => ?_
  refine XT.q rfl rfl (Q.ldE rfl (by first | assumption | omega) rfl) ?_
  refine XT.q rfl rfl (Q.conv rfl) ?_
  rw [wrap64_of ⟨by omega, by omega⟩]
  refine XT.q rfl rfl (Q.move rfl) ?_
  refine XT.q rfl rfl (Q.rem rfl rfl (by omega) (by omega)) ?_
  refine XT.q rfl rfl (Q.assign rfl) ?_
  refine XT.done ?_
  refine XK.rt [blk b [vx, .int .i64 (((i + 1 : Nat) : Int))] 290] Tryz.func143 Tryz.results143 (.t rfl .n) ?_
  exact ⟨rfl, rfl⟩
end Go.X.Ma

set_option linter.unusedSimpArgs false
set_option linter.unusedVariables false
set_option maxRecDepth 20000
namespace Go.X.Ma
open Go.Proofs
set_option maxHeartbeats 8000000 in
theorem Made_spec (vx : Value) (hx : PHeap) (x : List UInt8) [jx : Arr vx encU8 1 hx x] : Spec Tryz.prog 81 #[vx] [] [hx] (fun v hs => ∃ vh vj kh kj, v = .agg #[vh, .int .i64 (madeD x).store.energy, .int .i64 (madeD x).store.full, .int .i64 (madeD x).store.power, .int .i64 (madeD x).store.fin, vj, .int .i64 (madeD x).most, .int .i64 (madeD x).peak] ∧ hs = [kh, kj] ∧ OArr vh encHour 6 146 kh (madeD x).hours ∧ OArr vj encJob 4 292 kj (madeD x).jobs) := by
 have nH : OArr (.slice none 0 0) encHour 6 146 emp ([] : List KHour) := OArr.nil (fun _ => rfl)
 have nJ : OArr (.slice none 0 0) encJob 4 292 emp ([] : List KJob) := OArr.nil (fun _ => rfl)
 have r0 := dg_rng x 0 (n := 14) (by omega)
 have r1 := dg_rng x (0 + 1) (n := 30) (by omega)
 have r2 := dg_rng x (0 + 1 + 1) (n := 7) (by omega)
 have r3 := dg_rng x (0 + 1 + 1 + 1) (n := (dg x (0 + 1 + 1) (7)) + 1) (by omega)
 have r4 := dg_rng x (0 + 1 + 1 + 1 + 1) (n := (dg x (0 + 1 + 1) (7)) + 1) (by omega)
 have r5 := dg_rng x (0 + 1 + 1 + 1 + 1 + 1) (n := 2) (by omega)
 have rm := bit_mul (m := 7) r4.1 (by omega) r5.1 r5.2
 have r7 := dg_rng x (0 + 1 + 1 + 1 + 1 + 1 + 1 + 1) (n := 8) (by omega)
 obtain ⟨mn0, mn1, mn2⟩ := madeN_rng x
 have f7 : 0 < (dg x (0 + 1 + 1) (7)) + 1 ∧ (dg x (0 + 1 + 1) (7)) + 1 ≤ 1000000 := by omega
 have fn : (0 : Int) < (madeN x : Int) ∧ (madeN x : Int) ≤ 1000000 := by omega
 have pz0 : 0 ≤ 1000000 := by omega
 have pz1 : 0 + 1 ≤ 1000000 := by omega
 have pz2 : 0 + 1 + 1 ≤ 1000000 := by omega
 have pz3 : 0 + 1 + 1 + 1 ≤ 1000000 := by omega
 have pz4 : 0 + 1 + 1 + 1 + 1 ≤ 1000000 := by omega
 have pz5 : 0 + 1 + 1 + 1 + 1 + 1 ≤ 1000000 := by omega
 have pz6 : 0 + 1 + 1 + 1 + 1 + 1 + 1 ≤ 1000000 := by omega
 have pz7 : 0 + 1 + 1 + 1 + 1 + 1 + 1 + 1 ≤ 1000000 := by omega
 have pz8 : 0 + 1 + 1 + 1 + 1 + 1 + 1 + 1 + 1 ≤ 1000000 := by omega
 have mn3 : ((madeN x : Nat) : Int) = 2 + dg x (0 + 1 + 1 + 1 + 1 + 1 + 1 + 1) 8 := mn2
 clear mn2
 refine Spec.intro (fn := Tryz.f81) (N := 120) Tryz.func81 rfl Tryz.ntmps81 rfl fun B => ?_
 refine XK.seq (XK.region rfl ?_)
 refine XO.alloc fun b2 => ?_
 refine XO.done (XK.seq (XK.region rfl (XO.q (Q.move rfl) ?_)))
 refine XO.q (Q.build [_, _] (.c 0 1 rfl rfl rfl (.n _))) ?_
 refine XO.box rfl fun b10 => ?_
 refine XO.q (Q.assign rfl) (XO.done (XK.seq (XK.region rfl (XO.q (Q.move rfl) ?_))))
 refine XO.call Tryz.call143 rfl rfl rfl (next_spec vx hx x b10 (0) pz0 (14) (by decide) (by decide)) fun v12 s12 R12 => ?_
 obtain ⟨rfl, rfl⟩ := R12
 dsimp only [lcA, lnA]
 refine XO.q (Q.add rfl rfl ⟨by omega, by omega⟩) ?_
 refine XO.q (Q.move rfl) ?_
 refine XO.call Tryz.call143 rfl rfl rfl (next_spec vx hx x b10 (0 + 1) pz1 (30) (by decide) (by decide)) fun v15 s15 R15 => ?_
 obtain ⟨rfl, rfl⟩ := R15
 dsimp only [lcA, lnA]
 refine XO.q (Q.build [_, _, _, _, _, _, _, _] (.c 6 1 rfl rfl rfl (.c 7 1 rfl rfl rfl (.n _)))) ?_
 refine XO.alloc fun b4 => ?_
 refine XO.st rfl rfl rfl ?_
 refine XO.done (XK.seq (XK.region rfl (XO.q (Q.move rfl) ?_)))
 refine XO.call Tryz.call143 rfl rfl rfl (next_spec vx hx x b10 (0 + 1 + 1) pz2 (7) (by decide) (by decide)) fun v18 s18 R18 => ?_
 obtain ⟨rfl, rfl⟩ := R18
 dsimp only [lcA, lnA]
 refine XO.q (Q.fieldAddr rfl) ?_
 refine XO.q (Q.fieldAddr rfl) ?_
 refine XO.st rfl rfl rfl ?_
 refine XO.done (XK.seq ?_)
 refine XK.meet (X := Unit) [21, 22, 23, 24, 25, 26, 27, 28, 29, 30, 31, 32, 33, 34, 35, 36, 37, 38, 39, 40, 41, 42, 43] (fun _ => []) (fun _ => [blk b4 [.slice none 0 0, .int .i64 (dg x (0 + 1 + 1 + 1) ((dg x (0 + 1 + 1) (7)) + 1)), .int .i64 (dg x (0 + 1 + 1) (7)), .int .i64 (dg x (0 + 1 + 1 + 1 + 1 + 1 + 1) (5)), .int .i64 ((dg x (0 + 1 + 1 + 1 + 1) ((dg x (0 + 1 + 1) (7)) + 1)) * (dg x (0 + 1 + 1 + 1 + 1 + 1) (2))), .slice none 0 0, .int .i64 (4 + dg x 0 14), .int .i64 (dg x (0 + 1) (30))] 116, blk b10 [vx, .int .i64 (((0 + 1 + 1 + 1 + 1 + 1 + 1 + 1 : Nat) : Int))] 290]) (fun _ => True) [blk b4 [.slice none 0 0, .int .i64 0, .int .i64 (dg x (0 + 1 + 1) (7)), .int .i64 0, .int .i64 0, .slice none 0 0, .int .i64 (4 + dg x 0 14), .int .i64 (dg x (0 + 1) (30))] 116, blk b10 [vx, .int .i64 (((0 + 1 + 1 + 1 : Nat) : Int))] 290] ?_ ?_
 ·rintro _ _
  dsimp only [lcA, lnA]
  refine XK.seq (XK.seq (XK.region rfl (XO.q (Q.move rfl) ?_)))
  refine XO.call Tryz.call143 rfl rfl rfl (next_spec vx hx x b10 (0 + 1 + 1 + 1 + 1 + 1 + 1 + 1) pz7 (8) (by decide) (by decide)) fun v45 s45 R45 => ?_
  obtain ⟨rfl, rfl⟩ := R45
  dsimp only [lcA, lnA]
  refine XO.q (Q.add rfl rfl ⟨by omega, by omega⟩) ?_
  refine XO.q (Q.move rfl) (XO.done (XK.block ?_))
  refine XK.while (X := Nat × Value × PHeap) [5, 47, 48, 49, 50, 51, 52, 53, 54, 55, 56, 57, 58, 59, 60, 61, 62, 63, 64, 65, 66, 67, 68, 69, 70, 71, 72, 73, 74, 75, 76] (fun ⟨k, vh, kh⟩ => [(47, some (.int .i64 (k : Nat)))]) (fun ⟨k, vh, kh⟩ => [blk b4 [vh, .int .i64 (dg x (0 + 1 + 1 + 1) ((dg x (0 + 1 + 1) (7)) + 1)), .int .i64 (dg x (0 + 1 + 1) (7)), .int .i64 (dg x (0 + 1 + 1 + 1 + 1 + 1 + 1) (5)), .int .i64 ((dg x (0 + 1 + 1 + 1 + 1) ((dg x (0 + 1 + 1) (7)) + 1)) * (dg x (0 + 1 + 1 + 1 + 1 + 1) (2))), .slice none 0 0, .int .i64 (4 + dg x 0 14), .int .i64 (dg x (0 + 1) (30))] 116, blk b10 [vx, .int .i64 (((8 + 8 * k : Nat) : Int))] 290, kh]) (fun ⟨k, vh, kh⟩ => k ≤ madeN x ∧ OArr vh encHour 6 146 kh (madeHours x k)) (fun ⟨k, vh, kh⟩ => madeN x - k) (0, .slice none 0 0, emp) [blk b4 [.slice none 0 0, .int .i64 (dg x (0 + 1 + 1 + 1) ((dg x (0 + 1 + 1) (7)) + 1)), .int .i64 (dg x (0 + 1 + 1) (7)), .int .i64 (dg x (0 + 1 + 1 + 1 + 1 + 1 + 1) (5)), .int .i64 ((dg x (0 + 1 + 1 + 1 + 1) ((dg x (0 + 1 + 1) (7)) + 1)) * (dg x (0 + 1 + 1 + 1 + 1 + 1) (2))), .slice none 0 0, .int .i64 (4 + dg x 0 14), .int .i64 (dg x (0 + 1) (30))] 116, blk b10 [vx, .int .i64 (((0 + 1 + 1 + 1 + 1 + 1 + 1 + 1 + 1 : Nat) : Int))] 290, emp] rfl ⟨by omega, nH⟩ (.c rfl (.base 0 rfl rfl)) ?_
  rintro ⟨k, vh, kh⟩ ⟨hk, OH⟩ ih0
  dsimp only [lcA, lnA] at ih0 ⊢
  have hl := madeHours_len x k
  refine XK.seq (XK.region rfl ?_)
  refine XO.q (Q.lss rfl rfl) ?_
  refine XO.done (XK.seq ?_)
  refine XK.if rfl (fun c0 => ?_) (fun c0 => ?_)
  ·skip
   have pk0 : 8 + 8 * k ≤ 1000000 := by omega
   have pk1 : 8 + 8 * k + 1 ≤ 1000000 := by omega
   have pk2 : 8 + 8 * k + 1 + 1 ≤ 1000000 := by omega
   have pk3 : 8 + 8 * k + 1 + 1 + 1 ≤ 1000000 := by omega
   have pk4 : 8 + 8 * k + 1 + 1 + 1 + 1 ≤ 1000000 := by omega
   have pk5 : 8 + 8 * k + 1 + 1 + 1 + 1 + 1 ≤ 1000000 := by omega
   have pk6 : 8 + 8 * k + 1 + 1 + 1 + 1 + 1 + 1 ≤ 1000000 := by omega
   have pk7 : 8 + 8 * k + 1 + 1 + 1 + 1 + 1 + 1 + 1 ≤ 1000000 := by omega
   have pk8 : 8 + 8 * k + 1 + 1 + 1 + 1 + 1 + 1 + 1 + 1 ≤ 1000000 := by omega
   clear pz0 pz1 pz2 pz3 pz4 pz5 pz6 pz7 pz8
   have q0 := dg_rng x (8 + 8 * k) (n := 50) (by omega)
   have fb : 0 < (dg x (8 + 8 * k) (50)) + 1 ∧ (dg x (8 + 8 * k) (50)) + 1 ≤ 1000000 := by omega
   have q1 := dg_rng x (8 + 8 * k + 1) (n := dg x (8 + 8 * k) 50 + 1) (by omega)
   have q2 := dg_rng x (8 + 8 * k + 1 + 1) (n := 2) (by omega)
   have q3 := dg_rng x (8 + 8 * k + 1 + 1 + 1) (n := 9) (by omega)
   have q4 := dg_rng x (8 + 8 * k + 1 + 1 + 1 + 1) (n := 2) (by omega)
   have mm1 := bit_mul (m := 50) q1.1 (by omega) q2.1 q2.2
   have mm2 := bit_mul (m := 9) q3.1 (by omega) q4.1 q4.2
   refine XK.skip (XK.seq (XK.block (XK.seq (XK.region rfl (XO.q (Q.move rfl) ?_)))))
   refine XO.call Tryz.call143 rfl rfl rfl (next_spec vx hx x b10 (8 + 8 * k) pk0 (50) (by decide) (by decide)) fun v50 s50 R50 => ?_
   obtain ⟨rfl, rfl⟩ := R50
   dsimp only [lcA, lnA]
   refine XO.q (Q.assign rfl) (XO.done ?_)
   refine XK.meet (X := Value × PHeap) [51, 52, 53, 54, 55, 56, 57, 58, 59, 60, 61, 62, 63, 64, 65, 66, 67, 68, 69, 70, 71, 72, 73, 74, 75] (fun ⟨v74, h74⟩ => []) (fun ⟨v74, h74⟩ => [blk b4 [v74, .int .i64 (dg x (0 + 1 + 1 + 1) ((dg x (0 + 1 + 1) (7)) + 1)), .int .i64 (dg x (0 + 1 + 1) (7)), .int .i64 (dg x (0 + 1 + 1 + 1 + 1 + 1 + 1) (5)), .int .i64 ((dg x (0 + 1 + 1 + 1 + 1) ((dg x (0 + 1 + 1) (7)) + 1)) * (dg x (0 + 1 + 1 + 1 + 1 + 1) (2))), .slice none 0 0, .int .i64 (4 + dg x 0 14), .int .i64 (dg x (0 + 1) (30))] 116, blk b10 [vx, .int .i64 (((8 + 8 * k + 1 + 1 + 1 + 1 + 1 + 1 + 1 + 1 : Nat) : Int))] 290, h74]) (fun ⟨v74, h74⟩ => OArr v74 encHour 6 146 h74 (madeHours x k ++ [madeHour x (8 + 8 * k)])) [blk b4 [vh, .int .i64 (dg x (0 + 1 + 1 + 1) ((dg x (0 + 1 + 1) (7)) + 1)), .int .i64 (dg x (0 + 1 + 1) (7)), .int .i64 (dg x (0 + 1 + 1 + 1 + 1 + 1 + 1) (5)), .int .i64 ((dg x (0 + 1 + 1 + 1 + 1) ((dg x (0 + 1 + 1) (7)) + 1)) * (dg x (0 + 1 + 1 + 1 + 1 + 1) (2))), .slice none 0 0, .int .i64 (4 + dg x 0 14), .int .i64 (dg x (0 + 1) (30))] 116, blk b10 [vx, .int .i64 (((8 + 8 * k + 1 : Nat) : Int))] 290, kh] ?_ ?_
   ·rintro ⟨v74, h74⟩ O74
    dsimp only [lcA, lnA]
    refine XK.inBlock ?_
    refine XK.region rfl ?_
    refine XO.q (Q.add rfl rfl ⟨by omega, by omega⟩) ?_
    refine XO.q (Q.move rfl) (XO.done ?_)
    exact ih0 (k + 1, v74, h74) _ _ ⟨by dsimp only; omega, by dsimp only; rw [madeHours_succ]; exact O74⟩ (by first | omega | (dsimp only; omega)) (.c rfl (.base 63 rfl rfl)) inferInstance
   ·intro mtr8
    dsimp only [lcA, lnA] at mtr8
    refine XK.drawn [0, 2, 3, 4, 5, 7, 10, 12, 15, 17, 19, 9, 14, 21, 24] [] [] (.q 0 (.q 2 (.q 3 (.q 4 (.q 5 (.q 7 (.q 10 (.q 12 (.q 15 (.q 17 (.q 19 (.br 1 true (.br 6 true (.br 8 true (.q 9 (.br 11 true (.br 13 true (.q 14 (.br 16 true (.br 18 true (.br 20 true (.q 21 (.br 22 true (.br 23 true (.q 24 (.br 25 false .done .stop)) .stop) .stop)) .stop) .stop) .stop)) .stop) .stop)) .stop) .stop) (.br 6 true (.br 1 true (.br 8 true (.q 9 (.br 11 true (.br 13 true (.q 14 (.br 16 true (.br 18 true (.br 20 true (.q 21 (.br 22 true (.br 23 true (.q 24 (.br 25 false .done .stop)) .stop) .stop)) .stop) .stop) .stop)) .stop) .stop)) .stop) (.br 8 true (.q 9 (.br 1 true (.br 11 true (.br 13 true (.q 14 (.br 16 true (.br 18 true (.br 20 true (.q 21 (.br 22 true (.br 23 true (.q 24 (.br 25 false .done .stop)) .stop) .stop)) .stop) .stop) .stop)) .stop) .stop) (.br 11 true (.br 1 true (.br 13 true (.q 14 (.br 16 true (.br 18 true (.br 20 true (.q 21 (.br 22 true (.br 23 true (.q 24 (.br 25 false .done .stop)) .stop) .stop)) .stop) .stop) .stop)) .stop) (.br 13 true (.q 14 (.br 1 true (.br 16 true (.br 18 true (.br 20 true (.q 21 (.br 22 true (.br 23 true (.q 24 (.br 25 false .done .stop)) .stop) .stop)) .stop) .stop) .stop) (.br 16 true (.br 1 true (.br 18 true (.br 20 true (.q 21 (.br 22 true (.br 23 true (.q 24 (.br 25 false .done .stop)) .stop) .stop)) .stop) .stop) (.br 18 true (.br 1 true (.br 20 true (.q 21 (.br 22 true (.br 23 true (.q 24 (.br 25 false .done .stop)) .stop) .stop)) .stop) (.br 20 true (.q 21 (.br 1 true (.br 22 true (.br 23 true (.q 24 (.br 25 false .done .stop)) .stop) .stop) (.br 22 true (.br 1 true (.br 23 true (.q 24 (.br 25 false .done .stop)) .stop) .stop) .stop))) .stop)) .stop)) .stop))) .stop)) .stop))) .stop)) .stop))))))))))))) Tryz.mixed rfl (by kernel_rfl) ?_
    refine XT.q rfl rfl (Q.fieldAddr rfl) ?_
    refine XT.q rfl rfl (Q.move rfl) ?_
    refine XT.q rfl rfl (Q.move rfl) ?_
    refine XT.q rfl rfl (Q.move rfl) ?_
    refine XT.q rfl rfl (Q.add rfl rfl ⟨by omega, by omega⟩) ?_
    refine XT.q rfl rfl (Q.move rfl) ?_
    refine XT.q rfl rfl (Q.move rfl) ?_
    refine XT.q rfl rfl (Q.move rfl) ?_
    refine XT.q rfl rfl (Q.move rfl) ?_
    refine XT.q rfl rfl (Q.move rfl) ?_
    refine XT.q rfl rfl (Q.move rfl) ?_
    refine XT.qs rfl rfl (Q.ld rfl rfl) ⟨inferInstance, ?_⟩ ?_
    ·skip
     refine XT.call rfl rfl Tryz.call143 rfl rfl rfl (next_spec vx hx x b10 (8 + 8 * k + 1) pk1 ((dg x (8 + 8 * k) (50)) + 1) fb.1 fb.2) (fun v57 s57 R57 => ?_) XT.stop
     obtain ⟨rfl, rfl⟩ := R57
     dsimp only [lcA, lnA]
     refine ⟨inferInstance, ?_⟩
     refine XT.call rfl rfl Tryz.call143 rfl rfl rfl (next_spec vx hx x b10 (8 + 8 * k + 1 + 1) pk2 (2) (by decide) (by decide)) (fun v59 s59 R59 => ?_) XT.stop
     obtain ⟨rfl, rfl⟩ := R59
     dsimp only [lcA, lnA]
     refine ⟨inferInstance, ?_⟩
     refine XT.q rfl rfl (Q.mul rfl rfl ⟨by omega, by omega⟩) ?_
     refine XT.call rfl rfl Tryz.call143 rfl rfl rfl (next_spec vx hx x b10 (8 + 8 * k + 1 + 1 + 1) pk3 (9) (by decide) (by decide)) (fun v62 s62 R62 => ?_) XT.stop
     obtain ⟨rfl, rfl⟩ := R62
     dsimp only [lcA, lnA]
     refine ⟨inferInstance, ?_⟩
     refine XT.call rfl rfl Tryz.call143 rfl rfl rfl (next_spec vx hx x b10 (8 + 8 * k + 1 + 1 + 1 + 1) pk4 (2) (by decide) (by decide)) (fun v64 s64 R64 => ?_) XT.stop
     obtain ⟨rfl, rfl⟩ := R64
     dsimp only [lcA, lnA]
     refine ⟨inferInstance, ?_⟩
     refine XT.q rfl rfl (Q.mul rfl rfl ⟨by omega, by omega⟩) ?_
     refine XT.call rfl rfl Tryz.call143 rfl rfl rfl (next_spec vx hx x b10 (8 + 8 * k + 1 + 1 + 1 + 1 + 1) pk5 (7) (by decide) (by decide)) (fun v67 s67 R67 => ?_) XT.stop
     obtain ⟨rfl, rfl⟩ := R67
     dsimp only [lcA, lnA]
     refine ⟨inferInstance, ?_⟩
     refine XT.call rfl rfl Tryz.call143 rfl rfl rfl (next_spec vx hx x b10 (8 + 8 * k + 1 + 1 + 1 + 1 + 1 + 1) pk6 (256) (by decide) (by decide)) (fun v69 s69 R69 => ?_) XT.stop
     obtain ⟨rfl, rfl⟩ := R69
     dsimp only [lcA, lnA]
     refine ⟨inferInstance, ?_⟩
     refine XT.call rfl rfl Tryz.call143 rfl rfl rfl (next_spec vx hx x b10 (8 + 8 * k + 1 + 1 + 1 + 1 + 1 + 1 + 1) pk7 (20) (by decide) (by decide)) (fun v71 s71 R71 => ?_) XT.stop
     obtain ⟨rfl, rfl⟩ := R71
     dsimp only [lcA, lnA]
     refine ⟨inferInstance, ?_⟩
     refine XT.q rfl rfl (Q.build [_, _, _, _, _, _] (.c 0 1 rfl rfl rfl (.c 1 1 rfl rfl rfl (.c 2 1 rfl rfl rfl (.c 3 1 rfl rfl rfl (.c 4 1 rfl rfl rfl (.c 5 1 rfl rfl rfl (.n _)))))))) ?_
     refine XT.lit [_, _, _, _, _, _] [_, _, _, _, _, _] [madeHour x (8 + 8 * k)] encHour rfl rfl (by rfl) (by rfl) rfl (by rfl) (by exact .c 0 6 rfl rfl rfl (.n _)) (fun _ => rfl) (by rfl) rfl (by infer_instance) rfl (fun v73 h73 O73 => ⟨inferInstance, ?_⟩) XT.stop
     refine XT.append rfl rfl rfl rfl rfl rfl (by simp only [List.length_cons, List.length_nil]; omega) (fun v74 h74 O74 => ⟨inferInstance, ?_⟩) XT.stop
     refine XT.q rfl rfl (Q.fieldAddr rfl) ?_
     refine XT.st rfl rfl rfl rfl rfl ⟨inferInstance, ?_⟩ XT.stop
     refine XT.done ?_
     exact mtr8 ((v74, h74)) _ _ O74 (.base 25 rfl rfl) inferInstance
    ·skip
     refine XT.call rfl rfl Tryz.call143 rfl rfl rfl (next_spec vx hx x b10 (8 + 8 * k + 1) pk1 ((dg x (8 + 8 * k) (50)) + 1) fb.1 fb.2) (fun v57 s57 R57 => ?_) XT.stop
     obtain ⟨rfl, rfl⟩ := R57
     dsimp only [lcA, lnA]
     refine ⟨inferInstance, ?_⟩
     refine XT.qs rfl rfl (Q.ld rfl rfl) ⟨inferInstance, ?_⟩ ?_
     ·skip
      refine XT.call rfl rfl Tryz.call143 rfl rfl rfl (next_spec vx hx x b10 (8 + 8 * k + 1 + 1) pk2 (2) (by decide) (by decide)) (fun v59 s59 R59 => ?_) XT.stop
      obtain ⟨rfl, rfl⟩ := R59
      dsimp only [lcA, lnA]
      refine ⟨inferInstance, ?_⟩
      refine XT.q rfl rfl (Q.mul rfl rfl ⟨by omega, by omega⟩) ?_
      refine XT.call rfl rfl Tryz.call143 rfl rfl rfl (next_spec vx hx x b10 (8 + 8 * k + 1 + 1 + 1) pk3 (9) (by decide) (by decide)) (fun v62 s62 R62 => ?_) XT.stop
      obtain ⟨rfl, rfl⟩ := R62
      dsimp only [lcA, lnA]
      refine ⟨inferInstance, ?_⟩
      refine XT.call rfl rfl Tryz.call143 rfl rfl rfl (next_spec vx hx x b10 (8 + 8 * k + 1 + 1 + 1 + 1) pk4 (2) (by decide) (by decide)) (fun v64 s64 R64 => ?_) XT.stop
      obtain ⟨rfl, rfl⟩ := R64
      dsimp only [lcA, lnA]
      refine ⟨inferInstance, ?_⟩
      refine XT.q rfl rfl (Q.mul rfl rfl ⟨by omega, by omega⟩) ?_
      refine XT.call rfl rfl Tryz.call143 rfl rfl rfl (next_spec vx hx x b10 (8 + 8 * k + 1 + 1 + 1 + 1 + 1) pk5 (7) (by decide) (by decide)) (fun v67 s67 R67 => ?_) XT.stop
      obtain ⟨rfl, rfl⟩ := R67
      dsimp only [lcA, lnA]
      refine ⟨inferInstance, ?_⟩
      refine XT.call rfl rfl Tryz.call143 rfl rfl rfl (next_spec vx hx x b10 (8 + 8 * k + 1 + 1 + 1 + 1 + 1 + 1) pk6 (256) (by decide) (by decide)) (fun v69 s69 R69 => ?_) XT.stop
      obtain ⟨rfl, rfl⟩ := R69
      dsimp only [lcA, lnA]
      refine ⟨inferInstance, ?_⟩
      refine XT.call rfl rfl Tryz.call143 rfl rfl rfl (next_spec vx hx x b10 (8 + 8 * k + 1 + 1 + 1 + 1 + 1 + 1 + 1) pk7 (20) (by decide) (by decide)) (fun v71 s71 R71 => ?_) XT.stop
      obtain ⟨rfl, rfl⟩ := R71
      dsimp only [lcA, lnA]
      refine ⟨inferInstance, ?_⟩
      refine XT.q rfl rfl (Q.build [_, _, _, _, _, _] (.c 0 1 rfl rfl rfl (.c 1 1 rfl rfl rfl (.c 2 1 rfl rfl rfl (.c 3 1 rfl rfl rfl (.c 4 1 rfl rfl rfl (.c 5 1 rfl rfl rfl (.n _)))))))) ?_
      refine XT.lit [_, _, _, _, _, _] [_, _, _, _, _, _] [madeHour x (8 + 8 * k)] encHour rfl rfl (by rfl) (by rfl) rfl (by rfl) (by exact .c 0 6 rfl rfl rfl (.n _)) (fun _ => rfl) (by rfl) rfl (by infer_instance) rfl (fun v73 h73 O73 => ⟨inferInstance, ?_⟩) XT.stop
      refine XT.append rfl rfl rfl rfl rfl rfl (by simp only [List.length_cons, List.length_nil]; omega) (fun v74 h74 O74 => ⟨inferInstance, ?_⟩) XT.stop
      refine XT.q rfl rfl (Q.fieldAddr rfl) ?_
      refine XT.st rfl rfl rfl rfl rfl ⟨inferInstance, ?_⟩ XT.stop
      refine XT.done ?_
      exact mtr8 ((v74, h74)) _ _ O74 (.base 25 rfl rfl) inferInstance
     ·skip
      refine XT.call rfl rfl Tryz.call143 rfl rfl rfl (next_spec vx hx x b10 (8 + 8 * k + 1 + 1) pk2 (2) (by decide) (by decide)) (fun v59 s59 R59 => ?_) XT.stop
      obtain ⟨rfl, rfl⟩ := R59
      dsimp only [lcA, lnA]
      refine ⟨inferInstance, ?_⟩
      refine XT.q rfl rfl (Q.mul rfl rfl ⟨by omega, by omega⟩) ?_
      refine XT.qs rfl rfl (Q.ld rfl rfl) ⟨inferInstance, ?_⟩ ?_
      ·skip
       refine XT.call rfl rfl Tryz.call143 rfl rfl rfl (next_spec vx hx x b10 (8 + 8 * k + 1 + 1 + 1) pk3 (9) (by decide) (by decide)) (fun v62 s62 R62 => ?_) XT.stop
       obtain ⟨rfl, rfl⟩ := R62
       dsimp only [lcA, lnA]
       refine ⟨inferInstance, ?_⟩
       refine XT.call rfl rfl Tryz.call143 rfl rfl rfl (next_spec vx hx x b10 (8 + 8 * k + 1 + 1 + 1 + 1) pk4 (2) (by decide) (by decide)) (fun v64 s64 R64 => ?_) XT.stop
       obtain ⟨rfl, rfl⟩ := R64
       dsimp only [lcA, lnA]
       refine ⟨inferInstance, ?_⟩
       refine XT.q rfl rfl (Q.mul rfl rfl ⟨by omega, by omega⟩) ?_
       refine XT.call rfl rfl Tryz.call143 rfl rfl rfl (next_spec vx hx x b10 (8 + 8 * k + 1 + 1 + 1 + 1 + 1) pk5 (7) (by decide) (by decide)) (fun v67 s67 R67 => ?_) XT.stop
       obtain ⟨rfl, rfl⟩ := R67
       dsimp only [lcA, lnA]
       refine ⟨inferInstance, ?_⟩
       refine XT.call rfl rfl Tryz.call143 rfl rfl rfl (next_spec vx hx x b10 (8 + 8 * k + 1 + 1 + 1 + 1 + 1 + 1) pk6 (256) (by decide) (by decide)) (fun v69 s69 R69 => ?_) XT.stop
       obtain ⟨rfl, rfl⟩ := R69
       dsimp only [lcA, lnA]
       refine ⟨inferInstance, ?_⟩
       refine XT.call rfl rfl Tryz.call143 rfl rfl rfl (next_spec vx hx x b10 (8 + 8 * k + 1 + 1 + 1 + 1 + 1 + 1 + 1) pk7 (20) (by decide) (by decide)) (fun v71 s71 R71 => ?_) XT.stop
       obtain ⟨rfl, rfl⟩ := R71
       dsimp only [lcA, lnA]
       refine ⟨inferInstance, ?_⟩
       refine XT.q rfl rfl (Q.build [_, _, _, _, _, _] (.c 0 1 rfl rfl rfl (.c 1 1 rfl rfl rfl (.c 2 1 rfl rfl rfl (.c 3 1 rfl rfl rfl (.c 4 1 rfl rfl rfl (.c 5 1 rfl rfl rfl (.n _)))))))) ?_
       refine XT.lit [_, _, _, _, _, _] [_, _, _, _, _, _] [madeHour x (8 + 8 * k)] encHour rfl rfl (by rfl) (by rfl) rfl (by rfl) (by exact .c 0 6 rfl rfl rfl (.n _)) (fun _ => rfl) (by rfl) rfl (by infer_instance) rfl (fun v73 h73 O73 => ⟨inferInstance, ?_⟩) XT.stop
       refine XT.append rfl rfl rfl rfl rfl rfl (by simp only [List.length_cons, List.length_nil]; omega) (fun v74 h74 O74 => ⟨inferInstance, ?_⟩) XT.stop
       refine XT.q rfl rfl (Q.fieldAddr rfl) ?_
       refine XT.st rfl rfl rfl rfl rfl ⟨inferInstance, ?_⟩ XT.stop
       refine XT.done ?_
       exact mtr8 ((v74, h74)) _ _ O74 (.base 25 rfl rfl) inferInstance
      ·skip
       refine XT.call rfl rfl Tryz.call143 rfl rfl rfl (next_spec vx hx x b10 (8 + 8 * k + 1 + 1 + 1) pk3 (9) (by decide) (by decide)) (fun v62 s62 R62 => ?_) XT.stop
       obtain ⟨rfl, rfl⟩ := R62
       dsimp only [lcA, lnA]
       refine ⟨inferInstance, ?_⟩
       refine XT.qs rfl rfl (Q.ld rfl rfl) ⟨inferInstance, ?_⟩ ?_
       ·skip
        refine XT.call rfl rfl Tryz.call143 rfl rfl rfl (next_spec vx hx x b10 (8 + 8 * k + 1 + 1 + 1 + 1) pk4 (2) (by decide) (by decide)) (fun v64 s64 R64 => ?_) XT.stop
        obtain ⟨rfl, rfl⟩ := R64
        dsimp only [lcA, lnA]
        refine ⟨inferInstance, ?_⟩
        refine XT.q rfl rfl (Q.mul rfl rfl ⟨by omega, by omega⟩) ?_
        refine XT.call rfl rfl Tryz.call143 rfl rfl rfl (next_spec vx hx x b10 (8 + 8 * k + 1 + 1 + 1 + 1 + 1) pk5 (7) (by decide) (by decide)) (fun v67 s67 R67 => ?_) XT.stop
        obtain ⟨rfl, rfl⟩ := R67
        dsimp only [lcA, lnA]
        refine ⟨inferInstance, ?_⟩
        refine XT.call rfl rfl Tryz.call143 rfl rfl rfl (next_spec vx hx x b10 (8 + 8 * k + 1 + 1 + 1 + 1 + 1 + 1) pk6 (256) (by decide) (by decide)) (fun v69 s69 R69 => ?_) XT.stop
        obtain ⟨rfl, rfl⟩ := R69
        dsimp only [lcA, lnA]
        refine ⟨inferInstance, ?_⟩
        refine XT.call rfl rfl Tryz.call143 rfl rfl rfl (next_spec vx hx x b10 (8 + 8 * k + 1 + 1 + 1 + 1 + 1 + 1 + 1) pk7 (20) (by decide) (by decide)) (fun v71 s71 R71 => ?_) XT.stop
        obtain ⟨rfl, rfl⟩ := R71
        dsimp only [lcA, lnA]
        refine ⟨inferInstance, ?_⟩
        refine XT.q rfl rfl (Q.build [_, _, _, _, _, _] (.c 0 1 rfl rfl rfl (.c 1 1 rfl rfl rfl (.c 2 1 rfl rfl rfl (.c 3 1 rfl rfl rfl (.c 4 1 rfl rfl rfl (.c 5 1 rfl rfl rfl (.n _)))))))) ?_
        refine XT.lit [_, _, _, _, _, _] [_, _, _, _, _, _] [madeHour x (8 + 8 * k)] encHour rfl rfl (by rfl) (by rfl) rfl (by rfl) (by exact .c 0 6 rfl rfl rfl (.n _)) (fun _ => rfl) (by rfl) rfl (by infer_instance) rfl (fun v73 h73 O73 => ⟨inferInstance, ?_⟩) XT.stop
        refine XT.append rfl rfl rfl rfl rfl rfl (by simp only [List.length_cons, List.length_nil]; omega) (fun v74 h74 O74 => ⟨inferInstance, ?_⟩) XT.stop
        refine XT.q rfl rfl (Q.fieldAddr rfl) ?_
        refine XT.st rfl rfl rfl rfl rfl ⟨inferInstance, ?_⟩ XT.stop
        refine XT.done ?_
        exact mtr8 ((v74, h74)) _ _ O74 (.base 25 rfl rfl) inferInstance
       ·skip
        refine XT.call rfl rfl Tryz.call143 rfl rfl rfl (next_spec vx hx x b10 (8 + 8 * k + 1 + 1 + 1 + 1) pk4 (2) (by decide) (by decide)) (fun v64 s64 R64 => ?_) XT.stop
        obtain ⟨rfl, rfl⟩ := R64
        dsimp only [lcA, lnA]
        refine ⟨inferInstance, ?_⟩
        refine XT.q rfl rfl (Q.mul rfl rfl ⟨by omega, by omega⟩) ?_
        refine XT.qs rfl rfl (Q.ld rfl rfl) ⟨inferInstance, ?_⟩ ?_
        ·skip
         refine XT.call rfl rfl Tryz.call143 rfl rfl rfl (next_spec vx hx x b10 (8 + 8 * k + 1 + 1 + 1 + 1 + 1) pk5 (7) (by decide) (by decide)) (fun v67 s67 R67 => ?_) XT.stop
         obtain ⟨rfl, rfl⟩ := R67
         dsimp only [lcA, lnA]
         refine ⟨inferInstance, ?_⟩
         refine XT.call rfl rfl Tryz.call143 rfl rfl rfl (next_spec vx hx x b10 (8 + 8 * k + 1 + 1 + 1 + 1 + 1 + 1) pk6 (256) (by decide) (by decide)) (fun v69 s69 R69 => ?_) XT.stop
         obtain ⟨rfl, rfl⟩ := R69
         dsimp only [lcA, lnA]
         refine ⟨inferInstance, ?_⟩
         refine XT.call rfl rfl Tryz.call143 rfl rfl rfl (next_spec vx hx x b10 (8 + 8 * k + 1 + 1 + 1 + 1 + 1 + 1 + 1) pk7 (20) (by decide) (by decide)) (fun v71 s71 R71 => ?_) XT.stop
         obtain ⟨rfl, rfl⟩ := R71
         dsimp only [lcA, lnA]
         refine ⟨inferInstance, ?_⟩
         refine XT.q rfl rfl (Q.build [_, _, _, _, _, _] (.c 0 1 rfl rfl rfl (.c 1 1 rfl rfl rfl (.c 2 1 rfl rfl rfl (.c 3 1 rfl rfl rfl (.c 4 1 rfl rfl rfl (.c 5 1 rfl rfl rfl (.n _)))))))) ?_
         refine XT.lit [_, _, _, _, _, _] [_, _, _, _, _, _] [madeHour x (8 + 8 * k)] encHour rfl rfl (by rfl) (by rfl) rfl (by rfl) (by exact .c 0 6 rfl rfl rfl (.n _)) (fun _ => rfl) (by rfl) rfl (by infer_instance) rfl (fun v73 h73 O73 => ⟨inferInstance, ?_⟩) XT.stop
         refine XT.append rfl rfl rfl rfl rfl rfl (by simp only [List.length_cons, List.length_nil]; omega) (fun v74 h74 O74 => ⟨inferInstance, ?_⟩) XT.stop
         refine XT.q rfl rfl (Q.fieldAddr rfl) ?_
         refine XT.st rfl rfl rfl rfl rfl ⟨inferInstance, ?_⟩ XT.stop
         refine XT.done ?_
         exact mtr8 ((v74, h74)) _ _ O74 (.base 25 rfl rfl) inferInstance
        ·skip
         refine XT.call rfl rfl Tryz.call143 rfl rfl rfl (next_spec vx hx x b10 (8 + 8 * k + 1 + 1 + 1 + 1 + 1) pk5 (7) (by decide) (by decide)) (fun v67 s67 R67 => ?_) XT.stop
         obtain ⟨rfl, rfl⟩ := R67
         dsimp only [lcA, lnA]
         refine ⟨inferInstance, ?_⟩
         refine XT.qs rfl rfl (Q.ld rfl rfl) ⟨inferInstance, ?_⟩ ?_
         ·skip
          refine XT.call rfl rfl Tryz.call143 rfl rfl rfl (next_spec vx hx x b10 (8 + 8 * k + 1 + 1 + 1 + 1 + 1 + 1) pk6 (256) (by decide) (by decide)) (fun v69 s69 R69 => ?_) XT.stop
          obtain ⟨rfl, rfl⟩ := R69
          dsimp only [lcA, lnA]
          refine ⟨inferInstance, ?_⟩
          refine XT.call rfl rfl Tryz.call143 rfl rfl rfl (next_spec vx hx x b10 (8 + 8 * k + 1 + 1 + 1 + 1 + 1 + 1 + 1) pk7 (20) (by decide) (by decide)) (fun v71 s71 R71 => ?_) XT.stop
          obtain ⟨rfl, rfl⟩ := R71
          dsimp only [lcA, lnA]
          refine ⟨inferInstance, ?_⟩
          refine XT.q rfl rfl (Q.build [_, _, _, _, _, _] (.c 0 1 rfl rfl rfl (.c 1 1 rfl rfl rfl (.c 2 1 rfl rfl rfl (.c 3 1 rfl rfl rfl (.c 4 1 rfl rfl rfl (.c 5 1 rfl rfl rfl (.n _)))))))) ?_
          refine XT.lit [_, _, _, _, _, _] [_, _, _, _, _, _] [madeHour x (8 + 8 * k)] encHour rfl rfl (by rfl) (by rfl) rfl (by rfl) (by exact .c 0 6 rfl rfl rfl (.n _)) (fun _ => rfl) (by rfl) rfl (by infer_instance) rfl (fun v73 h73 O73 => ⟨inferInstance, ?_⟩) XT.stop
          refine XT.append rfl rfl rfl rfl rfl rfl (by simp only [List.length_cons, List.length_nil]; omega) (fun v74 h74 O74 => ⟨inferInstance, ?_⟩) XT.stop
          refine XT.q rfl rfl (Q.fieldAddr rfl) ?_
          refine XT.st rfl rfl rfl rfl rfl ⟨inferInstance, ?_⟩ XT.stop
          refine XT.done ?_
          exact mtr8 ((v74, h74)) _ _ O74 (.base 25 rfl rfl) inferInstance
         ·skip
          refine XT.call rfl rfl Tryz.call143 rfl rfl rfl (next_spec vx hx x b10 (8 + 8 * k + 1 + 1 + 1 + 1 + 1 + 1) pk6 (256) (by decide) (by decide)) (fun v69 s69 R69 => ?_) XT.stop
          obtain ⟨rfl, rfl⟩ := R69
          dsimp only [lcA, lnA]
          refine ⟨inferInstance, ?_⟩
          refine XT.qs rfl rfl (Q.ld rfl rfl) ⟨inferInstance, ?_⟩ ?_
          ·skip
           refine XT.call rfl rfl Tryz.call143 rfl rfl rfl (next_spec vx hx x b10 (8 + 8 * k + 1 + 1 + 1 + 1 + 1 + 1 + 1) pk7 (20) (by decide) (by decide)) (fun v71 s71 R71 => ?_) XT.stop
           obtain ⟨rfl, rfl⟩ := R71
           dsimp only [lcA, lnA]
           refine ⟨inferInstance, ?_⟩
           refine XT.q rfl rfl (Q.build [_, _, _, _, _, _] (.c 0 1 rfl rfl rfl (.c 1 1 rfl rfl rfl (.c 2 1 rfl rfl rfl (.c 3 1 rfl rfl rfl (.c 4 1 rfl rfl rfl (.c 5 1 rfl rfl rfl (.n _)))))))) ?_
           refine XT.lit [_, _, _, _, _, _] [_, _, _, _, _, _] [madeHour x (8 + 8 * k)] encHour rfl rfl (by rfl) (by rfl) rfl (by rfl) (by exact .c 0 6 rfl rfl rfl (.n _)) (fun _ => rfl) (by rfl) rfl (by infer_instance) rfl (fun v73 h73 O73 => ⟨inferInstance, ?_⟩) XT.stop
           refine XT.append rfl rfl rfl rfl rfl rfl (by simp only [List.length_cons, List.length_nil]; omega) (fun v74 h74 O74 => ⟨inferInstance, ?_⟩) XT.stop
           refine XT.q rfl rfl (Q.fieldAddr rfl) ?_
           refine XT.st rfl rfl rfl rfl rfl ⟨inferInstance, ?_⟩ XT.stop
           refine XT.done ?_
           exact mtr8 ((v74, h74)) _ _ O74 (.base 25 rfl rfl) inferInstance
          ·skip
           refine XT.call rfl rfl Tryz.call143 rfl rfl rfl (next_spec vx hx x b10 (8 + 8 * k + 1 + 1 + 1 + 1 + 1 + 1 + 1) pk7 (20) (by decide) (by decide)) (fun v71 s71 R71 => ?_) XT.stop
           obtain ⟨rfl, rfl⟩ := R71
           dsimp only [lcA, lnA]
           refine ⟨inferInstance, ?_⟩
           refine XT.q rfl rfl (Q.build [_, _, _, _, _, _] (.c 0 1 rfl rfl rfl (.c 1 1 rfl rfl rfl (.c 2 1 rfl rfl rfl (.c 3 1 rfl rfl rfl (.c 4 1 rfl rfl rfl (.c 5 1 rfl rfl rfl (.n _)))))))) ?_
           refine XT.qs rfl rfl (Q.ld rfl rfl) ⟨inferInstance, ?_⟩ ?_
           ·skip
            refine XT.lit [_, _, _, _, _, _] [_, _, _, _, _, _] [madeHour x (8 + 8 * k)] encHour rfl rfl (by rfl) (by rfl) rfl (by rfl) (by exact .c 0 6 rfl rfl rfl (.n _)) (fun _ => rfl) (by rfl) rfl (by infer_instance) rfl (fun v73 h73 O73 => ⟨inferInstance, ?_⟩) XT.stop
            refine XT.append rfl rfl rfl rfl rfl rfl (by simp only [List.length_cons, List.length_nil]; omega) (fun v74 h74 O74 => ⟨inferInstance, ?_⟩) XT.stop
            refine XT.q rfl rfl (Q.fieldAddr rfl) ?_
            refine XT.st rfl rfl rfl rfl rfl ⟨inferInstance, ?_⟩ XT.stop
            refine XT.done ?_
            exact mtr8 ((v74, h74)) _ _ O74 (.base 25 rfl rfl) inferInstance
           ·skip
            refine XT.lit [_, _, _, _, _, _] [_, _, _, _, _, _] [madeHour x (8 + 8 * k)] encHour rfl rfl (by rfl) (by rfl) rfl (by rfl) (by exact .c 0 6 rfl rfl rfl (.n _)) (fun _ => rfl) (by rfl) rfl (by infer_instance) rfl (fun v73 h73 O73 => ⟨inferInstance, ?_⟩) XT.stop
            refine XT.qs rfl rfl (Q.ld rfl rfl) ⟨inferInstance, ?_⟩ XT.stop
            refine XT.append rfl rfl rfl rfl rfl rfl (by simp only [List.length_cons, List.length_nil]; omega) (fun v74 h74 O74 => ⟨inferInstance, ?_⟩) XT.stop
            refine XT.q rfl rfl (Q.fieldAddr rfl) ?_
            refine XT.st rfl rfl rfl rfl rfl ⟨inferInstance, ?_⟩ XT.stop
            refine XT.done ?_
            exact mtr8 ((v74, h74)) _ _ O74 (.base 25 rfl rfl) inferInstance
  ·skip
   have hkn : k = madeN x := by omega
   subst hkn
   have pm0 : 8 + 8 * madeN x ≤ 1000000 := by omega
   have pm1 : 8 + 8 * madeN x + 1 ≤ 1000000 := by omega
   have pm2 : 8 + 8 * madeN x + 1 + 1 ≤ 1000000 := by omega
   have pm3 : 8 + 8 * madeN x + 1 + 1 + 1 ≤ 1000000 := by omega
   have pm4 : 8 + 8 * madeN x + 1 + 1 + 1 + 1 ≤ 1000000 := by omega
   have pm5 : 8 + 8 * madeN x + 1 + 1 + 1 + 1 + 1 ≤ 1000000 := by omega
   clear pz0 pz1 pz2 pz3 pz4 pz5 pz6 pz7 pz8
   refine XK.exit rfl ?_
   refine XK.seq (XK.seq (XK.region rfl (XO.q (Q.move rfl) ?_)))
   refine XO.call Tryz.call143 rfl rfl rfl (next_spec vx hx x b10 (8 + 8 * madeN x) pm0 (2) (by decide) (by decide)) fun v78 s78 R78 => ?_
   obtain ⟨rfl, rfl⟩ := R78
   dsimp only [lcA, lnA]
   refine XO.q (Q.eql rfl rfl) ?_
   refine XO.done ?_
   refine XK.if rfl (fun c1 => ?_) (fun c1 => ?_)
   ·skip
    have j0 := dg_rng x (8 + 8 * madeN x + 1) (n := (madeN x : Int)) (by omega)
    have fj : 0 < min ((madeN x : Int) - (dg x (8 + 8 * madeN x + 1) ((madeN x : Int)))) 3 ∧ min ((madeN x : Int) - (dg x (8 + 8 * madeN x + 1) ((madeN x : Int)))) 3 ≤ 1000000 := by omega
    have j2 := dg_rng x (8 + 8 * madeN x + 1 + 1 + 1) (n := min ((madeN x : Int) - (dg x (8 + 8 * madeN x + 1) ((madeN x : Int)))) 3) (by omega)
    have fl : 0 < min ((madeN x : Int) - (dg x (8 + 8 * madeN x + 1) ((madeN x : Int))) - (1 + (dg x (8 + 8 * madeN x + 1 + 1 + 1) (min ((madeN x : Int) - (dg x (8 + 8 * madeN x + 1) ((madeN x : Int)))) 3))) + 1) 4 ∧ min ((madeN x : Int) - (dg x (8 + 8 * madeN x + 1) ((madeN x : Int))) - (1 + (dg x (8 + 8 * madeN x + 1 + 1 + 1) (min ((madeN x : Int) - (dg x (8 + 8 * madeN x + 1) ((madeN x : Int)))) 3))) + 1) 4 ≤ 1000000 := by omega
    have j3 := dg_rng x (8 + 8 * madeN x + 1 + 1 + 1 + 1) (n := min ((madeN x : Int) - (dg x (8 + 8 * madeN x + 1) ((madeN x : Int))) - (1 + (dg x (8 + 8 * madeN x + 1 + 1 + 1) (min ((madeN x : Int) - (dg x (8 + 8 * madeN x + 1) ((madeN x : Int)))) 3))) + 1) 4) (by omega)
    refine XK.seq (XK.region rfl ?_)
    refine XO.q (Q.fieldAddr rfl) ?_
    refine XO.q (Q.ld rfl rfl) ?_
    refine XO.len rfl fun l82 => ?_
    rw [madeHours_len]
    refine XO.q (Q.assign rfl) (XO.done (XK.seq (XK.region rfl (XO.q (Q.move rfl) (XO.q (Q.move rfl) ?_)))))
    refine XO.call Tryz.call143 rfl rfl rfl (next_spec vx hx x b10 (8 + 8 * madeN x + 1) pm1 ((madeN x : Int)) fn.1 fn.2) fun v85 s85 R85 => ?_
    obtain ⟨rfl, rfl⟩ := R85
    dsimp only [lcA, lnA]
    refine XO.q (Q.move rfl) ?_
    refine XO.call Tryz.call143 rfl rfl rfl (next_spec vx hx x b10 (8 + 8 * madeN x + 1 + 1) pm2 (6) (by decide) (by decide)) fun v87 s87 R87 => ?_
    obtain ⟨rfl, rfl⟩ := R87
    dsimp only [lcA, lnA]
    refine XO.q (Q.build [_, _, _, _] (.c 0 1 rfl rfl rfl (.c 3 1 rfl rfl rfl (.n _)))) ?_
    refine XO.alloc fun b7 => ?_
    refine XO.st rfl rfl rfl ?_
    refine XO.done (XK.seq (XK.region rfl (XO.q (Q.move rfl) (XO.q (Q.move rfl) ?_))))
    refine XO.q (Q.fieldAddr rfl) ?_
    refine XO.q (Q.ld rfl rfl) ?_
    refine XO.q (Q.sub rfl rfl ⟨by omega, by omega⟩) ?_
    refine XO.q (Q.min rfl rfl) ?_
    refine XO.call Tryz.call143 rfl rfl rfl (next_spec vx hx x b10 (8 + 8 * madeN x + 1 + 1 + 1) pm3 (min ((madeN x : Int) - (dg x (8 + 8 * madeN x + 1) ((madeN x : Int)))) 3) fj.1 fj.2) fun v95 s95 R95 => ?_
    obtain ⟨rfl, rfl⟩ := R95
    dsimp only [lcA, lnA]
    refine XO.q (Q.add rfl rfl ⟨by omega, by omega⟩) ?_
    refine XO.q (Q.fieldAddr rfl) ?_
    refine XO.st rfl rfl rfl ?_
    refine XO.done (XK.seq ?_)
    refine XK.meet (X := Unit) [98, 99, 100, 101, 102, 103, 104, 105, 106, 107, 108, 109, 110, 111, 112, 113, 114, 115] (fun _ => []) (fun _ => [blk b7 [.int .i64 ((dg x (8 + 8 * madeN x + 1) ((madeN x : Int)))), .int .i64 (((dg x (8 + 8 * madeN x + 1) ((madeN x : Int))) + (1 + (dg x (8 + 8 * madeN x + 1 + 1 + 1) (min ((madeN x : Int) - (dg x (8 + 8 * madeN x + 1) ((madeN x : Int)))) 3))) + (dg x (8 + 8 * madeN x + 1 + 1 + 1 + 1) (min ((madeN x : Int) - (dg x (8 + 8 * madeN x + 1) ((madeN x : Int))) - (1 + (dg x (8 + 8 * madeN x + 1 + 1 + 1) (min ((madeN x : Int) - (dg x (8 + 8 * madeN x + 1) ((madeN x : Int)))) 3))) + 1) 4)))), .int .i64 (1 + (dg x (8 + 8 * madeN x + 1 + 1 + 1) (min ((madeN x : Int) - (dg x (8 + 8 * madeN x + 1) ((madeN x : Int)))) 3))), .int .i64 (dg x (8 + 8 * madeN x + 1 + 1) (6))] 292, blk b10 [vx, .int .i64 (((8 + 8 * madeN x + 1 + 1 + 1 + 1 + 1 : Nat) : Int))] 290]) (fun _ => True) [blk b7 [.int .i64 ((dg x (8 + 8 * madeN x + 1) ((madeN x : Int)))), .int .i64 (0), .int .i64 (1 + (dg x (8 + 8 * madeN x + 1 + 1 + 1) (min ((madeN x : Int) - (dg x (8 + 8 * madeN x + 1) ((madeN x : Int)))) 3))), .int .i64 (dg x (8 + 8 * madeN x + 1 + 1) (6))] 292, blk b10 [vx, .int .i64 (((8 + 8 * madeN x + 1 + 1 + 1 + 1 : Nat) : Int))] 290] ?_ ?_
    ·rintro _ _
     dsimp only [lcA, lnA]
     refine XK.region rfl ?_
     refine XO.q (Q.ldA [_, _, _, _] rfl rfl rfl) ?_
     refine XO.lit [_, _, _, _] [_, _, _, _] [madeJob x (madeN x) (8 + 8 * madeN x + 1)] encJob (by rfl) (by rfl) rfl (by rfl) (by exact .c 0 4 rfl rfl rfl (.n _)) (fun _ => rfl) (by rfl) rfl (by infer_instance) rfl fun v117 h117 O117 => ?_
     refine XO.q (Q.fieldAddr rfl) ?_
     refine XO.st rfl rfl rfl ?_
     refine XO.done (XK.seq (XK.region rfl ?_))
     refine XO.q (Q.ldA [_, _, _, _, _, _, _, _] rfl rfl rfl) ?_
     refine XO.st rfl rfl rfl ?_
     refine XO.done ?_
     refine XK.rt [kh, h117] Tryz.func81 Tryz.results81 (.cell [_, _, _, _, _, _, _, _] rfl rfl rfl (.n)) ?_
     exact ⟨vh, v117, kh, h117, rfl, rfl, OH, by rw [show (madeD x).jobs = [madeJob x (madeN x) (8 + 8 * madeN x + 1)] from if_pos c1]; exact O117⟩
    ·intro mtr14
     dsimp only [lcA, lnA] at mtr14
     refine XK.drawn [0, 2, 5, 6, 7, 10, 4, 9, 12, 13, 14, 16, 17] [] [] (.q 0 (.q 2 (.q 5 (.q 6 (.q 7 (.q 10 (.br 1 true (.br 3 true (.q 4 (.br 8 true (.q 9 (.br 11 true (.q 12 (.q 13 (.q 14 (.br 15 true (.q 16 (.q 17 (.br 18 false .done .stop))) .stop)))) .stop)) (.br 11 true (.br 8 true (.q 9 (.q 12 (.q 13 (.q 14 (.br 15 true (.q 16 (.q 17 (.br 18 false .done .stop))) .stop))))) .stop) .stop))) (.br 8 true (.q 9 (.br 3 true (.q 4 (.br 11 true (.q 12 (.q 13 (.q 14 (.br 15 true (.q 16 (.q 17 (.br 18 false .done .stop))) .stop)))) .stop)) (.br 11 true (.q 12 (.q 13 (.q 14 (.br 3 true (.q 4 (.br 15 true (.q 16 (.q 17 (.br 18 false .done .stop))) .stop)) (.br 15 true (.br 3 true (.q 4 (.q 16 (.q 17 (.br 18 false .done .stop)))) .stop) .stop))))) .stop))) (.br 11 true (.br 3 true (.q 4 (.br 8 true (.q 9 (.q 12 (.q 13 (.q 14 (.br 15 true (.q 16 (.q 17 (.br 18 false .done .stop))) .stop))))) .stop)) (.br 8 true (.q 9 (.q 12 (.q 13 (.q 14 (.br 3 true (.q 4 (.br 15 true (.q 16 (.q 17 (.br 18 false .done .stop))) .stop)) (.br 15 true (.br 3 true (.q 4 (.q 16 (.q 17 (.br 18 false .done .stop)))) .stop) .stop)))))) .stop)) .stop))) (.br 3 true (.br 1 true (.q 4 (.br 8 true (.q 9 (.br 11 true (.q 12 (.q 13 (.q 14 (.br 15 true (.q 16 (.q 17 (.br 18 false .done .stop))) .stop)))) .stop)) (.br 11 true (.br 8 true (.q 9 (.q 12 (.q 13 (.q 14 (.br 15 true (.q 16 (.q 17 (.br 18 false .done .stop))) .stop))))) .stop) .stop))) (.br 8 true (.q 9 (.br 1 true (.q 4 (.br 11 true (.q 12 (.q 13 (.q 14 (.br 15 true (.q 16 (.q 17 (.br 18 false .done .stop))) .stop)))) .stop)) (.br 11 true (.q 12 (.q 13 (.q 14 (.br 1 true (.q 4 (.br 15 true (.q 16 (.q 17 (.br 18 false .done .stop))) .stop)) (.br 15 true (.br 1 true (.q 4 (.q 16 (.q 17 (.br 18 false .done .stop)))) .stop) .stop))))) .stop))) (.br 11 true (.br 1 true (.q 4 (.br 8 true (.q 9 (.q 12 (.q 13 (.q 14 (.br 15 true (.q 16 (.q 17 (.br 18 false .done .stop))) .stop))))) .stop)) (.br 8 true (.q 9 (.q 12 (.q 13 (.q 14 (.br 1 true (.q 4 (.br 15 true (.q 16 (.q 17 (.br 18 false .done .stop))) .stop)) (.br 15 true (.br 1 true (.q 4 (.q 16 (.q 17 (.br 18 false .done .stop)))) .stop) .stop)))))) .stop)) .stop))) (.br 8 true (.q 9 (.br 1 true (.br 3 true (.q 4 (.br 11 true (.q 12 (.q 13 (.q 14 (.br 15 true (.q 16 (.q 17 (.br 18 false .done .stop))) .stop)))) .stop)) (.br 11 true (.q 12 (.q 13 (.q 14 (.br 3 true (.q 4 (.br 15 true (.q 16 (.q 17 (.br 18 false .done .stop))) .stop)) (.br 15 true (.br 3 true (.q 4 (.q 16 (.q 17 (.br 18 false .done .stop)))) .stop) .stop))))) .stop)) (.br 3 true (.br 1 true (.q 4 (.br 11 true (.q 12 (.q 13 (.q 14 (.br 15 true (.q 16 (.q 17 (.br 18 false .done .stop))) .stop)))) .stop)) (.br 11 true (.q 12 (.q 13 (.q 14 (.br 1 true (.q 4 (.br 15 true (.q 16 (.q 17 (.br 18 false .done .stop))) .stop)) (.br 15 true (.br 1 true (.q 4 (.q 16 (.q 17 (.br 18 false .done .stop)))) .stop) .stop))))) .stop)) (.br 11 true (.q 12 (.q 13 (.q 14 (.br 1 true (.br 3 true (.q 4 (.br 15 true (.q 16 (.q 17 (.br 18 false .done .stop))) .stop)) (.br 15 true (.br 3 true (.q 4 (.q 16 (.q 17 (.br 18 false .done .stop)))) .stop) .stop)) (.br 3 true (.br 1 true (.q 4 (.br 15 true (.q 16 (.q 17 (.br 18 false .done .stop))) .stop)) (.br 15 true (.br 1 true (.q 4 (.q 16 (.q 17 (.br 18 false .done .stop)))) .stop) .stop)) (.br 15 true (.br 1 true (.br 3 true (.q 4 (.q 16 (.q 17 (.br 18 false .done .stop)))) .stop) (.br 3 true (.br 1 true (.q 4 (.q 16 (.q 17 (.br 18 false .done .stop)))) .stop) .stop)) .stop)))))) .stop)))) (.br 11 true (.br 1 true (.br 3 true (.q 4 (.br 8 true (.q 9 (.q 12 (.q 13 (.q 14 (.br 15 true (.q 16 (.q 17 (.br 18 false .done .stop))) .stop))))) .stop)) (.br 8 true (.q 9 (.q 12 (.q 13 (.q 14 (.br 3 true (.q 4 (.br 15 true (.q 16 (.q 17 (.br 18 false .done .stop))) .stop)) (.br 15 true (.br 3 true (.q 4 (.q 16 (.q 17 (.br 18 false .done .stop)))) .stop) .stop)))))) .stop)) (.br 3 true (.br 1 true (.q 4 (.br 8 true (.q 9 (.q 12 (.q 13 (.q 14 (.br 15 true (.q 16 (.q 17 (.br 18 false .done .stop))) .stop))))) .stop)) (.br 8 true (.q 9 (.q 12 (.q 13 (.q 14 (.br 1 true (.q 4 (.br 15 true (.q 16 (.q 17 (.br 18 false .done .stop))) .stop)) (.br 15 true (.br 1 true (.q 4 (.q 16 (.q 17 (.br 18 false .done .stop)))) .stop) .stop)))))) .stop)) (.br 8 true (.q 9 (.q 12 (.q 13 (.q 14 (.br 1 true (.br 3 true (.q 4 (.br 15 true (.q 16 (.q 17 (.br 18 false .done .stop))) .stop)) (.br 15 true (.br 3 true (.q 4 (.q 16 (.q 17 (.br 18 false .done .stop)))) .stop) .stop)) (.br 3 true (.br 1 true (.q 4 (.br 15 true (.q 16 (.q 17 (.br 18 false .done .stop))) .stop)) (.br 15 true (.br 1 true (.q 4 (.q 16 (.q 17 (.br 18 false .done .stop)))) .stop) .stop)) (.br 15 true (.br 1 true (.br 3 true (.q 4 (.q 16 (.q 17 (.br 18 false .done .stop)))) .stop) (.br 3 true (.br 1 true (.q 4 (.q 16 (.q 17 (.br 18 false .done .stop)))) .stop) .stop)) .stop))))))) .stop))) .stop)))))))))) Tryz.mixed rfl (by kernel_rfl) ?_
     refine XT.q rfl rfl (Q.fieldAddr rfl) ?_
     refine XT.q rfl rfl (Q.fieldAddr rfl) ?_
     refine XT.q rfl rfl (Q.move rfl) ?_
     refine XT.q rfl rfl (Q.move rfl) ?_
     refine XT.q rfl rfl (Q.fieldAddr rfl) ?_
     refine XT.q rfl rfl (Q.fieldAddr rfl) ?_
     refine XT.qs rfl rfl (Q.ld rfl rfl) ⟨inferInstance, ?_⟩ ?_
     ·skip
      refine XT.qs rfl rfl (Q.ld rfl rfl) ⟨inferInstance, ?_⟩ ?_
      ·skip
       refine XT.q rfl rfl (Q.add rfl rfl ⟨by omega, by omega⟩) ?_
       refine XT.qs rfl rfl (Q.ld rfl rfl) ⟨inferInstance, ?_⟩ ?_
       ·skip
        refine XT.q rfl rfl (Q.sub rfl rfl ⟨by omega, by omega⟩) ?_
        refine XT.qs rfl rfl (Q.ld rfl rfl) ⟨inferInstance, ?_⟩ XT.stop
        refine XT.q rfl rfl (Q.sub rfl rfl ⟨by omega, by omega⟩) ?_
        refine XT.q rfl rfl (Q.add rfl rfl ⟨by omega, by omega⟩) ?_
        refine XT.q rfl rfl (Q.min rfl rfl) ?_
        refine XT.call rfl rfl Tryz.call143 rfl rfl rfl (next_spec vx hx x b10 (8 + 8 * madeN x + 1 + 1 + 1 + 1) pm4 (min ((madeN x : Int) - (dg x (8 + 8 * madeN x + 1) ((madeN x : Int))) - (1 + (dg x (8 + 8 * madeN x + 1 + 1 + 1) (min ((madeN x : Int) - (dg x (8 + 8 * madeN x + 1) ((madeN x : Int)))) 3))) + 1) 4) fl.1 fl.2) (fun v113 s113 R113 => ?_) XT.stop
        obtain ⟨rfl, rfl⟩ := R113
        dsimp only [lcA, lnA]
        refine ⟨inferInstance, ?_⟩
        refine XT.q rfl rfl (Q.add rfl rfl ⟨by omega, by omega⟩) ?_
        refine XT.q rfl rfl (Q.fieldAddr rfl) ?_
        refine XT.st rfl rfl rfl rfl rfl ⟨inferInstance, ?_⟩ XT.stop
        refine XT.done ?_
        exact mtr14 (()) _ _ trivial (.base 18 rfl rfl) inferInstance
       ·skip
        refine XT.qs rfl rfl (Q.ld rfl rfl) ⟨inferInstance, ?_⟩ XT.stop
        refine XT.qs rfl rfl (Q.ld rfl rfl) ⟨inferInstance, ?_⟩ XT.stop
        refine XT.q rfl rfl (Q.sub rfl rfl ⟨by omega, by omega⟩) ?_
        refine XT.q rfl rfl (Q.sub rfl rfl ⟨by omega, by omega⟩) ?_
        refine XT.q rfl rfl (Q.add rfl rfl ⟨by omega, by omega⟩) ?_
        refine XT.q rfl rfl (Q.min rfl rfl) ?_
        refine XT.call rfl rfl Tryz.call143 rfl rfl rfl (next_spec vx hx x b10 (8 + 8 * madeN x + 1 + 1 + 1 + 1) pm4 (min ((madeN x : Int) - (dg x (8 + 8 * madeN x + 1) ((madeN x : Int))) - (1 + (dg x (8 + 8 * madeN x + 1 + 1 + 1) (min ((madeN x : Int) - (dg x (8 + 8 * madeN x + 1) ((madeN x : Int)))) 3))) + 1) 4) fl.1 fl.2) (fun v113 s113 R113 => ?_) XT.stop
        obtain ⟨rfl, rfl⟩ := R113
        dsimp only [lcA, lnA]
        refine ⟨inferInstance, ?_⟩
        refine XT.q rfl rfl (Q.add rfl rfl ⟨by omega, by omega⟩) ?_
        refine XT.q rfl rfl (Q.fieldAddr rfl) ?_
        refine XT.st rfl rfl rfl rfl rfl ⟨inferInstance, ?_⟩ XT.stop
        refine XT.done ?_
        exact mtr14 (()) _ _ trivial (.base 18 rfl rfl) inferInstance
      ·skip
       refine XT.qs rfl rfl (Q.ld rfl rfl) ⟨inferInstance, ?_⟩ ?_
       ·skip
        refine XT.q rfl rfl (Q.sub rfl rfl ⟨by omega, by omega⟩) ?_
        refine XT.qs rfl rfl (Q.ld rfl rfl) ⟨inferInstance, ?_⟩ ?_
        ·skip
         refine XT.q rfl rfl (Q.add rfl rfl ⟨by omega, by omega⟩) ?_
         refine XT.qs rfl rfl (Q.ld rfl rfl) ⟨inferInstance, ?_⟩ XT.stop
         refine XT.q rfl rfl (Q.sub rfl rfl ⟨by omega, by omega⟩) ?_
         refine XT.q rfl rfl (Q.add rfl rfl ⟨by omega, by omega⟩) ?_
         refine XT.q rfl rfl (Q.min rfl rfl) ?_
         refine XT.call rfl rfl Tryz.call143 rfl rfl rfl (next_spec vx hx x b10 (8 + 8 * madeN x + 1 + 1 + 1 + 1) pm4 (min ((madeN x : Int) - (dg x (8 + 8 * madeN x + 1) ((madeN x : Int))) - (1 + (dg x (8 + 8 * madeN x + 1 + 1 + 1) (min ((madeN x : Int) - (dg x (8 + 8 * madeN x + 1) ((madeN x : Int)))) 3))) + 1) 4) fl.1 fl.2) (fun v113 s113 R113 => ?_) XT.stop
         obtain ⟨rfl, rfl⟩ := R113
         dsimp only [lcA, lnA]
         refine ⟨inferInstance, ?_⟩
         refine XT.q rfl rfl (Q.add rfl rfl ⟨by omega, by omega⟩) ?_
         refine XT.q rfl rfl (Q.fieldAddr rfl) ?_
         refine XT.st rfl rfl rfl rfl rfl ⟨inferInstance, ?_⟩ XT.stop
         refine XT.done ?_
         exact mtr14 (()) _ _ trivial (.base 18 rfl rfl) inferInstance
        ·skip
         refine XT.qs rfl rfl (Q.ld rfl rfl) ⟨inferInstance, ?_⟩ XT.stop
         refine XT.q rfl rfl (Q.sub rfl rfl ⟨by omega, by omega⟩) ?_
         refine XT.q rfl rfl (Q.add rfl rfl ⟨by omega, by omega⟩) ?_
         refine XT.q rfl rfl (Q.min rfl rfl) ?_
         refine XT.qs rfl rfl (Q.ld rfl rfl) ⟨inferInstance, ?_⟩ ?_
         ·skip
          refine XT.q rfl rfl (Q.add rfl rfl ⟨by omega, by omega⟩) ?_
          refine XT.call rfl rfl Tryz.call143 rfl rfl rfl (next_spec vx hx x b10 (8 + 8 * madeN x + 1 + 1 + 1 + 1) pm4 (min ((madeN x : Int) - (dg x (8 + 8 * madeN x + 1) ((madeN x : Int))) - (1 + (dg x (8 + 8 * madeN x + 1 + 1 + 1) (min ((madeN x : Int) - (dg x (8 + 8 * madeN x + 1) ((madeN x : Int)))) 3))) + 1) 4) fl.1 fl.2) (fun v113 s113 R113 => ?_) XT.stop
          obtain ⟨rfl, rfl⟩ := R113
          dsimp only [lcA, lnA]
          refine ⟨inferInstance, ?_⟩
          refine XT.q rfl rfl (Q.add rfl rfl ⟨by omega, by omega⟩) ?_
          refine XT.q rfl rfl (Q.fieldAddr rfl) ?_
          refine XT.st rfl rfl rfl rfl rfl ⟨inferInstance, ?_⟩ XT.stop
          refine XT.done ?_
          exact mtr14 (()) _ _ trivial (.base 18 rfl rfl) inferInstance
         ·skip
          refine XT.call rfl rfl Tryz.call143 rfl rfl rfl (next_spec vx hx x b10 (8 + 8 * madeN x + 1 + 1 + 1 + 1) pm4 (min ((madeN x : Int) - (dg x (8 + 8 * madeN x + 1) ((madeN x : Int))) - (1 + (dg x (8 + 8 * madeN x + 1 + 1 + 1) (min ((madeN x : Int) - (dg x (8 + 8 * madeN x + 1) ((madeN x : Int)))) 3))) + 1) 4) fl.1 fl.2) (fun v113 s113 R113 => ?_) XT.stop
          obtain ⟨rfl, rfl⟩ := R113
          dsimp only [lcA, lnA]
          refine ⟨inferInstance, ?_⟩
          refine XT.qs rfl rfl (Q.ld rfl rfl) ⟨inferInstance, ?_⟩ XT.stop
          refine XT.q rfl rfl (Q.add rfl rfl ⟨by omega, by omega⟩) ?_
          refine XT.q rfl rfl (Q.add rfl rfl ⟨by omega, by omega⟩) ?_
          refine XT.q rfl rfl (Q.fieldAddr rfl) ?_
          refine XT.st rfl rfl rfl rfl rfl ⟨inferInstance, ?_⟩ XT.stop
          refine XT.done ?_
          exact mtr14 (()) _ _ trivial (.base 18 rfl rfl) inferInstance
       ·skip
        refine XT.qs rfl rfl (Q.ld rfl rfl) ⟨inferInstance, ?_⟩ XT.stop
        refine XT.qs rfl rfl (Q.ld rfl rfl) ⟨inferInstance, ?_⟩ ?_
        ·skip
         refine XT.q rfl rfl (Q.add rfl rfl ⟨by omega, by omega⟩) ?_
         refine XT.qs rfl rfl (Q.ld rfl rfl) ⟨inferInstance, ?_⟩ XT.stop
         refine XT.q rfl rfl (Q.sub rfl rfl ⟨by omega, by omega⟩) ?_
         refine XT.q rfl rfl (Q.sub rfl rfl ⟨by omega, by omega⟩) ?_
         refine XT.q rfl rfl (Q.add rfl rfl ⟨by omega, by omega⟩) ?_
         refine XT.q rfl rfl (Q.min rfl rfl) ?_
         refine XT.call rfl rfl Tryz.call143 rfl rfl rfl (next_spec vx hx x b10 (8 + 8 * madeN x + 1 + 1 + 1 + 1) pm4 (min ((madeN x : Int) - (dg x (8 + 8 * madeN x + 1) ((madeN x : Int))) - (1 + (dg x (8 + 8 * madeN x + 1 + 1 + 1) (min ((madeN x : Int) - (dg x (8 + 8 * madeN x + 1) ((madeN x : Int)))) 3))) + 1) 4) fl.1 fl.2) (fun v113 s113 R113 => ?_) XT.stop
         obtain ⟨rfl, rfl⟩ := R113
         dsimp only [lcA, lnA]
         refine ⟨inferInstance, ?_⟩
         refine XT.q rfl rfl (Q.add rfl rfl ⟨by omega, by omega⟩) ?_
         refine XT.q rfl rfl (Q.fieldAddr rfl) ?_
         refine XT.st rfl rfl rfl rfl rfl ⟨inferInstance, ?_⟩ XT.stop
         refine XT.done ?_
         exact mtr14 (()) _ _ trivial (.base 18 rfl rfl) inferInstance
        ·skip
         refine XT.qs rfl rfl (Q.ld rfl rfl) ⟨inferInstance, ?_⟩ XT.stop
         refine XT.q rfl rfl (Q.sub rfl rfl ⟨by omega, by omega⟩) ?_
         refine XT.q rfl rfl (Q.sub rfl rfl ⟨by omega, by omega⟩) ?_
         refine XT.q rfl rfl (Q.add rfl rfl ⟨by omega, by omega⟩) ?_
         refine XT.q rfl rfl (Q.min rfl rfl) ?_
         refine XT.qs rfl rfl (Q.ld rfl rfl) ⟨inferInstance, ?_⟩ ?_
         ·skip
          refine XT.q rfl rfl (Q.add rfl rfl ⟨by omega, by omega⟩) ?_
          refine XT.call rfl rfl Tryz.call143 rfl rfl rfl (next_spec vx hx x b10 (8 + 8 * madeN x + 1 + 1 + 1 + 1) pm4 (min ((madeN x : Int) - (dg x (8 + 8 * madeN x + 1) ((madeN x : Int))) - (1 + (dg x (8 + 8 * madeN x + 1 + 1 + 1) (min ((madeN x : Int) - (dg x (8 + 8 * madeN x + 1) ((madeN x : Int)))) 3))) + 1) 4) fl.1 fl.2) (fun v113 s113 R113 => ?_) XT.stop
          obtain ⟨rfl, rfl⟩ := R113
          dsimp only [lcA, lnA]
          refine ⟨inferInstance, ?_⟩
          refine XT.q rfl rfl (Q.add rfl rfl ⟨by omega, by omega⟩) ?_
          refine XT.q rfl rfl (Q.fieldAddr rfl) ?_
          refine XT.st rfl rfl rfl rfl rfl ⟨inferInstance, ?_⟩ XT.stop
          refine XT.done ?_
          exact mtr14 (()) _ _ trivial (.base 18 rfl rfl) inferInstance
         ·skip
          refine XT.call rfl rfl Tryz.call143 rfl rfl rfl (next_spec vx hx x b10 (8 + 8 * madeN x + 1 + 1 + 1 + 1) pm4 (min ((madeN x : Int) - (dg x (8 + 8 * madeN x + 1) ((madeN x : Int))) - (1 + (dg x (8 + 8 * madeN x + 1 + 1 + 1) (min ((madeN x : Int) - (dg x (8 + 8 * madeN x + 1) ((madeN x : Int)))) 3))) + 1) 4) fl.1 fl.2) (fun v113 s113 R113 => ?_) XT.stop
          obtain ⟨rfl, rfl⟩ := R113
          dsimp only [lcA, lnA]
          refine ⟨inferInstance, ?_⟩
          refine XT.qs rfl rfl (Q.ld rfl rfl) ⟨inferInstance, ?_⟩ XT.stop
          refine XT.q rfl rfl (Q.add rfl rfl ⟨by omega, by omega⟩) ?_
          refine XT.q rfl rfl (Q.add rfl rfl ⟨by omega, by omega⟩) ?_
          refine XT.q rfl rfl (Q.fieldAddr rfl) ?_
          refine XT.st rfl rfl rfl rfl rfl ⟨inferInstance, ?_⟩ XT.stop
          refine XT.done ?_
          exact mtr14 (()) _ _ trivial (.base 18 rfl rfl) inferInstance
     ·skip
      refine XT.qs rfl rfl (Q.ld rfl rfl) ⟨inferInstance, ?_⟩ ?_
      ·skip
       refine XT.qs rfl rfl (Q.ld rfl rfl) ⟨inferInstance, ?_⟩ ?_
       ·skip
        refine XT.q rfl rfl (Q.add rfl rfl ⟨by omega, by omega⟩) ?_
        refine XT.qs rfl rfl (Q.ld rfl rfl) ⟨inferInstance, ?_⟩ ?_
        ·skip
         refine XT.q rfl rfl (Q.sub rfl rfl ⟨by omega, by omega⟩) ?_
         refine XT.qs rfl rfl (Q.ld rfl rfl) ⟨inferInstance, ?_⟩ XT.stop
         refine XT.q rfl rfl (Q.sub rfl rfl ⟨by omega, by omega⟩) ?_
         refine XT.q rfl rfl (Q.add rfl rfl ⟨by omega, by omega⟩) ?_
         refine XT.q rfl rfl (Q.min rfl rfl) ?_
         refine XT.call rfl rfl Tryz.call143 rfl rfl rfl (next_spec vx hx x b10 (8 + 8 * madeN x + 1 + 1 + 1 + 1) pm4 (min ((madeN x : Int) - (dg x (8 + 8 * madeN x + 1) ((madeN x : Int))) - (1 + (dg x (8 + 8 * madeN x + 1 + 1 + 1) (min ((madeN x : Int) - (dg x (8 + 8 * madeN x + 1) ((madeN x : Int)))) 3))) + 1) 4) fl.1 fl.2) (fun v113 s113 R113 => ?_) XT.stop
         obtain ⟨rfl, rfl⟩ := R113
         dsimp only [lcA, lnA]
         refine ⟨inferInstance, ?_⟩
         refine XT.q rfl rfl (Q.add rfl rfl ⟨by omega, by omega⟩) ?_
         refine XT.q rfl rfl (Q.fieldAddr rfl) ?_
         refine XT.st rfl rfl rfl rfl rfl ⟨inferInstance, ?_⟩ XT.stop
         refine XT.done ?_
         exact mtr14 (()) _ _ trivial (.base 18 rfl rfl) inferInstance
        ·skip
         refine XT.qs rfl rfl (Q.ld rfl rfl) ⟨inferInstance, ?_⟩ XT.stop
         refine XT.qs rfl rfl (Q.ld rfl rfl) ⟨inferInstance, ?_⟩ XT.stop
         refine XT.q rfl rfl (Q.sub rfl rfl ⟨by omega, by omega⟩) ?_
         refine XT.q rfl rfl (Q.sub rfl rfl ⟨by omega, by omega⟩) ?_
         refine XT.q rfl rfl (Q.add rfl rfl ⟨by omega, by omega⟩) ?_
         refine XT.q rfl rfl (Q.min rfl rfl) ?_
         refine XT.call rfl rfl Tryz.call143 rfl rfl rfl (next_spec vx hx x b10 (8 + 8 * madeN x + 1 + 1 + 1 + 1) pm4 (min ((madeN x : Int) - (dg x (8 + 8 * madeN x + 1) ((madeN x : Int))) - (1 + (dg x (8 + 8 * madeN x + 1 + 1 + 1) (min ((madeN x : Int) - (dg x (8 + 8 * madeN x + 1) ((madeN x : Int)))) 3))) + 1) 4) fl.1 fl.2) (fun v113 s113 R113 => ?_) XT.stop
         obtain ⟨rfl, rfl⟩ := R113
         dsimp only [lcA, lnA]
         refine ⟨inferInstance, ?_⟩
         refine XT.q rfl rfl (Q.add rfl rfl ⟨by omega, by omega⟩) ?_
         refine XT.q rfl rfl (Q.fieldAddr rfl) ?_
         refine XT.st rfl rfl rfl rfl rfl ⟨inferInstance, ?_⟩ XT.stop
         refine XT.done ?_
         exact mtr14 (()) _ _ trivial (.base 18 rfl rfl) inferInstance
       ·skip
        refine XT.qs rfl rfl (Q.ld rfl rfl) ⟨inferInstance, ?_⟩ ?_
        ·skip
         refine XT.q rfl rfl (Q.sub rfl rfl ⟨by omega, by omega⟩) ?_
         refine XT.qs rfl rfl (Q.ld rfl rfl) ⟨inferInstance, ?_⟩ ?_
         ·skip
          refine XT.q rfl rfl (Q.add rfl rfl ⟨by omega, by omega⟩) ?_
          refine XT.qs rfl rfl (Q.ld rfl rfl) ⟨inferInstance, ?_⟩ XT.stop
          refine XT.q rfl rfl (Q.sub rfl rfl ⟨by omega, by omega⟩) ?_
          refine XT.q rfl rfl (Q.add rfl rfl ⟨by omega, by omega⟩) ?_
          refine XT.q rfl rfl (Q.min rfl rfl) ?_
          refine XT.call rfl rfl Tryz.call143 rfl rfl rfl (next_spec vx hx x b10 (8 + 8 * madeN x + 1 + 1 + 1 + 1) pm4 (min ((madeN x : Int) - (dg x (8 + 8 * madeN x + 1) ((madeN x : Int))) - (1 + (dg x (8 + 8 * madeN x + 1 + 1 + 1) (min ((madeN x : Int) - (dg x (8 + 8 * madeN x + 1) ((madeN x : Int)))) 3))) + 1) 4) fl.1 fl.2) (fun v113 s113 R113 => ?_) XT.stop
          obtain ⟨rfl, rfl⟩ := R113
          dsimp only [lcA, lnA]
          refine ⟨inferInstance, ?_⟩
          refine XT.q rfl rfl (Q.add rfl rfl ⟨by omega, by omega⟩) ?_
          refine XT.q rfl rfl (Q.fieldAddr rfl) ?_
          refine XT.st rfl rfl rfl rfl rfl ⟨inferInstance, ?_⟩ XT.stop
          refine XT.done ?_
          exact mtr14 (()) _ _ trivial (.base 18 rfl rfl) inferInstance
         ·skip
          refine XT.qs rfl rfl (Q.ld rfl rfl) ⟨inferInstance, ?_⟩ XT.stop
          refine XT.q rfl rfl (Q.sub rfl rfl ⟨by omega, by omega⟩) ?_
          refine XT.q rfl rfl (Q.add rfl rfl ⟨by omega, by omega⟩) ?_
          refine XT.q rfl rfl (Q.min rfl rfl) ?_
          refine XT.qs rfl rfl (Q.ld rfl rfl) ⟨inferInstance, ?_⟩ ?_
          ·skip
           refine XT.q rfl rfl (Q.add rfl rfl ⟨by omega, by omega⟩) ?_
           refine XT.call rfl rfl Tryz.call143 rfl rfl rfl (next_spec vx hx x b10 (8 + 8 * madeN x + 1 + 1 + 1 + 1) pm4 (min ((madeN x : Int) - (dg x (8 + 8 * madeN x + 1) ((madeN x : Int))) - (1 + (dg x (8 + 8 * madeN x + 1 + 1 + 1) (min ((madeN x : Int) - (dg x (8 + 8 * madeN x + 1) ((madeN x : Int)))) 3))) + 1) 4) fl.1 fl.2) (fun v113 s113 R113 => ?_) XT.stop
           obtain ⟨rfl, rfl⟩ := R113
           dsimp only [lcA, lnA]
           refine ⟨inferInstance, ?_⟩
           refine XT.q rfl rfl (Q.add rfl rfl ⟨by omega, by omega⟩) ?_
           refine XT.q rfl rfl (Q.fieldAddr rfl) ?_
           refine XT.st rfl rfl rfl rfl rfl ⟨inferInstance, ?_⟩ XT.stop
           refine XT.done ?_
           exact mtr14 (()) _ _ trivial (.base 18 rfl rfl) inferInstance
          ·skip
           refine XT.call rfl rfl Tryz.call143 rfl rfl rfl (next_spec vx hx x b10 (8 + 8 * madeN x + 1 + 1 + 1 + 1) pm4 (min ((madeN x : Int) - (dg x (8 + 8 * madeN x + 1) ((madeN x : Int))) - (1 + (dg x (8 + 8 * madeN x + 1 + 1 + 1) (min ((madeN x : Int) - (dg x (8 + 8 * madeN x + 1) ((madeN x : Int)))) 3))) + 1) 4) fl.1 fl.2) (fun v113 s113 R113 => ?_) XT.stop
           obtain ⟨rfl, rfl⟩ := R113
           dsimp only [lcA, lnA]
           refine ⟨inferInstance, ?_⟩
           refine XT.qs rfl rfl (Q.ld rfl rfl) ⟨inferInstance, ?_⟩ XT.stop
           refine XT.q rfl rfl (Q.add rfl rfl ⟨by omega, by omega⟩) ?_
           refine XT.q rfl rfl (Q.add rfl rfl ⟨by omega, by omega⟩) ?_
           refine XT.q rfl rfl (Q.fieldAddr rfl) ?_
           refine XT.st rfl rfl rfl rfl rfl ⟨inferInstance, ?_⟩ XT.stop
           refine XT.done ?_
           exact mtr14 (()) _ _ trivial (.base 18 rfl rfl) inferInstance
        ·skip
         refine XT.qs rfl rfl (Q.ld rfl rfl) ⟨inferInstance, ?_⟩ XT.stop
         refine XT.qs rfl rfl (Q.ld rfl rfl) ⟨inferInstance, ?_⟩ ?_
         ·skip
          refine XT.q rfl rfl (Q.add rfl rfl ⟨by omega, by omega⟩) ?_
          refine XT.qs rfl rfl (Q.ld rfl rfl) ⟨inferInstance, ?_⟩ XT.stop
          refine XT.q rfl rfl (Q.sub rfl rfl ⟨by omega, by omega⟩) ?_
          refine XT.q rfl rfl (Q.sub rfl rfl ⟨by omega, by omega⟩) ?_
          refine XT.q rfl rfl (Q.add rfl rfl ⟨by omega, by omega⟩) ?_
          refine XT.q rfl rfl (Q.min rfl rfl) ?_
          refine XT.call rfl rfl Tryz.call143 rfl rfl rfl (next_spec vx hx x b10 (8 + 8 * madeN x + 1 + 1 + 1 + 1) pm4 (min ((madeN x : Int) - (dg x (8 + 8 * madeN x + 1) ((madeN x : Int))) - (1 + (dg x (8 + 8 * madeN x + 1 + 1 + 1) (min ((madeN x : Int) - (dg x (8 + 8 * madeN x + 1) ((madeN x : Int)))) 3))) + 1) 4) fl.1 fl.2) (fun v113 s113 R113 => ?_) XT.stop
          obtain ⟨rfl, rfl⟩ := R113
          dsimp only [lcA, lnA]
          refine ⟨inferInstance, ?_⟩
          refine XT.q rfl rfl (Q.add rfl rfl ⟨by omega, by omega⟩) ?_
          refine XT.q rfl rfl (Q.fieldAddr rfl) ?_
          refine XT.st rfl rfl rfl rfl rfl ⟨inferInstance, ?_⟩ XT.stop
          refine XT.done ?_
          exact mtr14 (()) _ _ trivial (.base 18 rfl rfl) inferInstance
         ·skip
          refine XT.qs rfl rfl (Q.ld rfl rfl) ⟨inferInstance, ?_⟩ XT.stop
          refine XT.q rfl rfl (Q.sub rfl rfl ⟨by omega, by omega⟩) ?_
          refine XT.q rfl rfl (Q.sub rfl rfl ⟨by omega, by omega⟩) ?_
          refine XT.q rfl rfl (Q.add rfl rfl ⟨by omega, by omega⟩) ?_
          refine XT.q rfl rfl (Q.min rfl rfl) ?_
          refine XT.qs rfl rfl (Q.ld rfl rfl) ⟨inferInstance, ?_⟩ ?_
          ·skip
           refine XT.q rfl rfl (Q.add rfl rfl ⟨by omega, by omega⟩) ?_
           refine XT.call rfl rfl Tryz.call143 rfl rfl rfl (next_spec vx hx x b10 (8 + 8 * madeN x + 1 + 1 + 1 + 1) pm4 (min ((madeN x : Int) - (dg x (8 + 8 * madeN x + 1) ((madeN x : Int))) - (1 + (dg x (8 + 8 * madeN x + 1 + 1 + 1) (min ((madeN x : Int) - (dg x (8 + 8 * madeN x + 1) ((madeN x : Int)))) 3))) + 1) 4) fl.1 fl.2) (fun v113 s113 R113 => ?_) XT.stop
           obtain ⟨rfl, rfl⟩ := R113
           dsimp only [lcA, lnA]
           refine ⟨inferInstance, ?_⟩
           refine XT.q rfl rfl (Q.add rfl rfl ⟨by omega, by omega⟩) ?_
           refine XT.q rfl rfl (Q.fieldAddr rfl) ?_
           refine XT.st rfl rfl rfl rfl rfl ⟨inferInstance, ?_⟩ XT.stop
           refine XT.done ?_
           exact mtr14 (()) _ _ trivial (.base 18 rfl rfl) inferInstance
          ·skip
           refine XT.call rfl rfl Tryz.call143 rfl rfl rfl (next_spec vx hx x b10 (8 + 8 * madeN x + 1 + 1 + 1 + 1) pm4 (min ((madeN x : Int) - (dg x (8 + 8 * madeN x + 1) ((madeN x : Int))) - (1 + (dg x (8 + 8 * madeN x + 1 + 1 + 1) (min ((madeN x : Int) - (dg x (8 + 8 * madeN x + 1) ((madeN x : Int)))) 3))) + 1) 4) fl.1 fl.2) (fun v113 s113 R113 => ?_) XT.stop
           obtain ⟨rfl, rfl⟩ := R113
           dsimp only [lcA, lnA]
           refine ⟨inferInstance, ?_⟩
           refine XT.qs rfl rfl (Q.ld rfl rfl) ⟨inferInstance, ?_⟩ XT.stop
           refine XT.q rfl rfl (Q.add rfl rfl ⟨by omega, by omega⟩) ?_
           refine XT.q rfl rfl (Q.add rfl rfl ⟨by omega, by omega⟩) ?_
           refine XT.q rfl rfl (Q.fieldAddr rfl) ?_
           refine XT.st rfl rfl rfl rfl rfl ⟨inferInstance, ?_⟩ XT.stop
           refine XT.done ?_
           exact mtr14 (()) _ _ trivial (.base 18 rfl rfl) inferInstance
      ·skip
       refine XT.qs rfl rfl (Q.ld rfl rfl) ⟨inferInstance, ?_⟩ ?_
       ·skip
        refine XT.q rfl rfl (Q.sub rfl rfl ⟨by omega, by omega⟩) ?_
        refine XT.qs rfl rfl (Q.ld rfl rfl) ⟨inferInstance, ?_⟩ ?_
        ·skip
         refine XT.qs rfl rfl (Q.ld rfl rfl) ⟨inferInstance, ?_⟩ ?_
         ·skip
          refine XT.q rfl rfl (Q.add rfl rfl ⟨by omega, by omega⟩) ?_
          refine XT.qs rfl rfl (Q.ld rfl rfl) ⟨inferInstance, ?_⟩ XT.stop
          refine XT.q rfl rfl (Q.sub rfl rfl ⟨by omega, by omega⟩) ?_
          refine XT.q rfl rfl (Q.add rfl rfl ⟨by omega, by omega⟩) ?_
          refine XT.q rfl rfl (Q.min rfl rfl) ?_
          refine XT.call rfl rfl Tryz.call143 rfl rfl rfl (next_spec vx hx x b10 (8 + 8 * madeN x + 1 + 1 + 1 + 1) pm4 (min ((madeN x : Int) - (dg x (8 + 8 * madeN x + 1) ((madeN x : Int))) - (1 + (dg x (8 + 8 * madeN x + 1 + 1 + 1) (min ((madeN x : Int) - (dg x (8 + 8 * madeN x + 1) ((madeN x : Int)))) 3))) + 1) 4) fl.1 fl.2) (fun v113 s113 R113 => ?_) XT.stop
          obtain ⟨rfl, rfl⟩ := R113
          dsimp only [lcA, lnA]
          refine ⟨inferInstance, ?_⟩
          refine XT.q rfl rfl (Q.add rfl rfl ⟨by omega, by omega⟩) ?_
          refine XT.q rfl rfl (Q.fieldAddr rfl) ?_
          refine XT.st rfl rfl rfl rfl rfl ⟨inferInstance, ?_⟩ XT.stop
          refine XT.done ?_
          exact mtr14 (()) _ _ trivial (.base 18 rfl rfl) inferInstance
         ·skip
          refine XT.qs rfl rfl (Q.ld rfl rfl) ⟨inferInstance, ?_⟩ XT.stop
          refine XT.q rfl rfl (Q.sub rfl rfl ⟨by omega, by omega⟩) ?_
          refine XT.q rfl rfl (Q.add rfl rfl ⟨by omega, by omega⟩) ?_
          refine XT.q rfl rfl (Q.min rfl rfl) ?_
          refine XT.qs rfl rfl (Q.ld rfl rfl) ⟨inferInstance, ?_⟩ ?_
          ·skip
           refine XT.q rfl rfl (Q.add rfl rfl ⟨by omega, by omega⟩) ?_
           refine XT.call rfl rfl Tryz.call143 rfl rfl rfl (next_spec vx hx x b10 (8 + 8 * madeN x + 1 + 1 + 1 + 1) pm4 (min ((madeN x : Int) - (dg x (8 + 8 * madeN x + 1) ((madeN x : Int))) - (1 + (dg x (8 + 8 * madeN x + 1 + 1 + 1) (min ((madeN x : Int) - (dg x (8 + 8 * madeN x + 1) ((madeN x : Int)))) 3))) + 1) 4) fl.1 fl.2) (fun v113 s113 R113 => ?_) XT.stop
           obtain ⟨rfl, rfl⟩ := R113
           dsimp only [lcA, lnA]
           refine ⟨inferInstance, ?_⟩
           refine XT.q rfl rfl (Q.add rfl rfl ⟨by omega, by omega⟩) ?_
           refine XT.q rfl rfl (Q.fieldAddr rfl) ?_
           refine XT.st rfl rfl rfl rfl rfl ⟨inferInstance, ?_⟩ XT.stop
           refine XT.done ?_
           exact mtr14 (()) _ _ trivial (.base 18 rfl rfl) inferInstance
          ·skip
           refine XT.call rfl rfl Tryz.call143 rfl rfl rfl (next_spec vx hx x b10 (8 + 8 * madeN x + 1 + 1 + 1 + 1) pm4 (min ((madeN x : Int) - (dg x (8 + 8 * madeN x + 1) ((madeN x : Int))) - (1 + (dg x (8 + 8 * madeN x + 1 + 1 + 1) (min ((madeN x : Int) - (dg x (8 + 8 * madeN x + 1) ((madeN x : Int)))) 3))) + 1) 4) fl.1 fl.2) (fun v113 s113 R113 => ?_) XT.stop
           obtain ⟨rfl, rfl⟩ := R113
           dsimp only [lcA, lnA]
           refine ⟨inferInstance, ?_⟩
           refine XT.qs rfl rfl (Q.ld rfl rfl) ⟨inferInstance, ?_⟩ XT.stop
           refine XT.q rfl rfl (Q.add rfl rfl ⟨by omega, by omega⟩) ?_
           refine XT.q rfl rfl (Q.add rfl rfl ⟨by omega, by omega⟩) ?_
           refine XT.q rfl rfl (Q.fieldAddr rfl) ?_
           refine XT.st rfl rfl rfl rfl rfl ⟨inferInstance, ?_⟩ XT.stop
           refine XT.done ?_
           exact mtr14 (()) _ _ trivial (.base 18 rfl rfl) inferInstance
        ·skip
         refine XT.qs rfl rfl (Q.ld rfl rfl) ⟨inferInstance, ?_⟩ ?_
         ·skip
          refine XT.qs rfl rfl (Q.ld rfl rfl) ⟨inferInstance, ?_⟩ ?_
          ·skip
           refine XT.q rfl rfl (Q.add rfl rfl ⟨by omega, by omega⟩) ?_
           refine XT.qs rfl rfl (Q.ld rfl rfl) ⟨inferInstance, ?_⟩ XT.stop
           refine XT.q rfl rfl (Q.sub rfl rfl ⟨by omega, by omega⟩) ?_
           refine XT.q rfl rfl (Q.add rfl rfl ⟨by omega, by omega⟩) ?_
           refine XT.q rfl rfl (Q.min rfl rfl) ?_
           refine XT.call rfl rfl Tryz.call143 rfl rfl rfl (next_spec vx hx x b10 (8 + 8 * madeN x + 1 + 1 + 1 + 1) pm4 (min ((madeN x : Int) - (dg x (8 + 8 * madeN x + 1) ((madeN x : Int))) - (1 + (dg x (8 + 8 * madeN x + 1 + 1 + 1) (min ((madeN x : Int) - (dg x (8 + 8 * madeN x + 1) ((madeN x : Int)))) 3))) + 1) 4) fl.1 fl.2) (fun v113 s113 R113 => ?_) XT.stop
           obtain ⟨rfl, rfl⟩ := R113
           dsimp only [lcA, lnA]
           refine ⟨inferInstance, ?_⟩
           refine XT.q rfl rfl (Q.add rfl rfl ⟨by omega, by omega⟩) ?_
           refine XT.q rfl rfl (Q.fieldAddr rfl) ?_
           refine XT.st rfl rfl rfl rfl rfl ⟨inferInstance, ?_⟩ XT.stop
           refine XT.done ?_
           exact mtr14 (()) _ _ trivial (.base 18 rfl rfl) inferInstance
          ·skip
           refine XT.qs rfl rfl (Q.ld rfl rfl) ⟨inferInstance, ?_⟩ XT.stop
           refine XT.q rfl rfl (Q.sub rfl rfl ⟨by omega, by omega⟩) ?_
           refine XT.q rfl rfl (Q.add rfl rfl ⟨by omega, by omega⟩) ?_
           refine XT.q rfl rfl (Q.min rfl rfl) ?_
           refine XT.qs rfl rfl (Q.ld rfl rfl) ⟨inferInstance, ?_⟩ ?_
           ·skip
            refine XT.q rfl rfl (Q.add rfl rfl ⟨by omega, by omega⟩) ?_
            refine XT.call rfl rfl Tryz.call143 rfl rfl rfl (next_spec vx hx x b10 (8 + 8 * madeN x + 1 + 1 + 1 + 1) pm4 (min ((madeN x : Int) - (dg x (8 + 8 * madeN x + 1) ((madeN x : Int))) - (1 + (dg x (8 + 8 * madeN x + 1 + 1 + 1) (min ((madeN x : Int) - (dg x (8 + 8 * madeN x + 1) ((madeN x : Int)))) 3))) + 1) 4) fl.1 fl.2) (fun v113 s113 R113 => ?_) XT.stop
            obtain ⟨rfl, rfl⟩ := R113
            dsimp only [lcA, lnA]
            refine ⟨inferInstance, ?_⟩
            refine XT.q rfl rfl (Q.add rfl rfl ⟨by omega, by omega⟩) ?_
            refine XT.q rfl rfl (Q.fieldAddr rfl) ?_
            refine XT.st rfl rfl rfl rfl rfl ⟨inferInstance, ?_⟩ XT.stop
            refine XT.done ?_
            exact mtr14 (()) _ _ trivial (.base 18 rfl rfl) inferInstance
           ·skip
            refine XT.call rfl rfl Tryz.call143 rfl rfl rfl (next_spec vx hx x b10 (8 + 8 * madeN x + 1 + 1 + 1 + 1) pm4 (min ((madeN x : Int) - (dg x (8 + 8 * madeN x + 1) ((madeN x : Int))) - (1 + (dg x (8 + 8 * madeN x + 1 + 1 + 1) (min ((madeN x : Int) - (dg x (8 + 8 * madeN x + 1) ((madeN x : Int)))) 3))) + 1) 4) fl.1 fl.2) (fun v113 s113 R113 => ?_) XT.stop
            obtain ⟨rfl, rfl⟩ := R113
            dsimp only [lcA, lnA]
            refine ⟨inferInstance, ?_⟩
            refine XT.qs rfl rfl (Q.ld rfl rfl) ⟨inferInstance, ?_⟩ XT.stop
            refine XT.q rfl rfl (Q.add rfl rfl ⟨by omega, by omega⟩) ?_
            refine XT.q rfl rfl (Q.add rfl rfl ⟨by omega, by omega⟩) ?_
            refine XT.q rfl rfl (Q.fieldAddr rfl) ?_
            refine XT.st rfl rfl rfl rfl rfl ⟨inferInstance, ?_⟩ XT.stop
            refine XT.done ?_
            exact mtr14 (()) _ _ trivial (.base 18 rfl rfl) inferInstance
         ·skip
          refine XT.qs rfl rfl (Q.ld rfl rfl) ⟨inferInstance, ?_⟩ XT.stop
          refine XT.q rfl rfl (Q.sub rfl rfl ⟨by omega, by omega⟩) ?_
          refine XT.q rfl rfl (Q.add rfl rfl ⟨by omega, by omega⟩) ?_
          refine XT.q rfl rfl (Q.min rfl rfl) ?_
          refine XT.qs rfl rfl (Q.ld rfl rfl) ⟨inferInstance, ?_⟩ ?_
          ·skip
           refine XT.qs rfl rfl (Q.ld rfl rfl) ⟨inferInstance, ?_⟩ ?_
           ·skip
            refine XT.q rfl rfl (Q.add rfl rfl ⟨by omega, by omega⟩) ?_
            refine XT.call rfl rfl Tryz.call143 rfl rfl rfl (next_spec vx hx x b10 (8 + 8 * madeN x + 1 + 1 + 1 + 1) pm4 (min ((madeN x : Int) - (dg x (8 + 8 * madeN x + 1) ((madeN x : Int))) - (1 + (dg x (8 + 8 * madeN x + 1 + 1 + 1) (min ((madeN x : Int) - (dg x (8 + 8 * madeN x + 1) ((madeN x : Int)))) 3))) + 1) 4) fl.1 fl.2) (fun v113 s113 R113 => ?_) XT.stop
            obtain ⟨rfl, rfl⟩ := R113
            dsimp only [lcA, lnA]
            refine ⟨inferInstance, ?_⟩
            refine XT.q rfl rfl (Q.add rfl rfl ⟨by omega, by omega⟩) ?_
            refine XT.q rfl rfl (Q.fieldAddr rfl) ?_
            refine XT.st rfl rfl rfl rfl rfl ⟨inferInstance, ?_⟩ XT.stop
            refine XT.done ?_
            exact mtr14 (()) _ _ trivial (.base 18 rfl rfl) inferInstance
           ·skip
            refine XT.call rfl rfl Tryz.call143 rfl rfl rfl (next_spec vx hx x b10 (8 + 8 * madeN x + 1 + 1 + 1 + 1) pm4 (min ((madeN x : Int) - (dg x (8 + 8 * madeN x + 1) ((madeN x : Int))) - (1 + (dg x (8 + 8 * madeN x + 1 + 1 + 1) (min ((madeN x : Int) - (dg x (8 + 8 * madeN x + 1) ((madeN x : Int)))) 3))) + 1) 4) fl.1 fl.2) (fun v113 s113 R113 => ?_) XT.stop
            obtain ⟨rfl, rfl⟩ := R113
            dsimp only [lcA, lnA]
            refine ⟨inferInstance, ?_⟩
            refine XT.qs rfl rfl (Q.ld rfl rfl) ⟨inferInstance, ?_⟩ XT.stop
            refine XT.q rfl rfl (Q.add rfl rfl ⟨by omega, by omega⟩) ?_
            refine XT.q rfl rfl (Q.add rfl rfl ⟨by omega, by omega⟩) ?_
            refine XT.q rfl rfl (Q.fieldAddr rfl) ?_
            refine XT.st rfl rfl rfl rfl rfl ⟨inferInstance, ?_⟩ XT.stop
            refine XT.done ?_
            exact mtr14 (()) _ _ trivial (.base 18 rfl rfl) inferInstance
          ·skip
           refine XT.qs rfl rfl (Q.ld rfl rfl) ⟨inferInstance, ?_⟩ ?_
           ·skip
            refine XT.qs rfl rfl (Q.ld rfl rfl) ⟨inferInstance, ?_⟩ ?_
            ·skip
             refine XT.q rfl rfl (Q.add rfl rfl ⟨by omega, by omega⟩) ?_
             refine XT.call rfl rfl Tryz.call143 rfl rfl rfl (next_spec vx hx x b10 (8 + 8 * madeN x + 1 + 1 + 1 + 1) pm4 (min ((madeN x : Int) - (dg x (8 + 8 * madeN x + 1) ((madeN x : Int))) - (1 + (dg x (8 + 8 * madeN x + 1 + 1 + 1) (min ((madeN x : Int) - (dg x (8 + 8 * madeN x + 1) ((madeN x : Int)))) 3))) + 1) 4) fl.1 fl.2) (fun v113 s113 R113 => ?_) XT.stop
             obtain ⟨rfl, rfl⟩ := R113
             dsimp only [lcA, lnA]
             refine ⟨inferInstance, ?_⟩
             refine XT.q rfl rfl (Q.add rfl rfl ⟨by omega, by omega⟩) ?_
             refine XT.q rfl rfl (Q.fieldAddr rfl) ?_
             refine XT.st rfl rfl rfl rfl rfl ⟨inferInstance, ?_⟩ XT.stop
             refine XT.done ?_
             exact mtr14 (()) _ _ trivial (.base 18 rfl rfl) inferInstance
            ·skip
             refine XT.call rfl rfl Tryz.call143 rfl rfl rfl (next_spec vx hx x b10 (8 + 8 * madeN x + 1 + 1 + 1 + 1) pm4 (min ((madeN x : Int) - (dg x (8 + 8 * madeN x + 1) ((madeN x : Int))) - (1 + (dg x (8 + 8 * madeN x + 1 + 1 + 1) (min ((madeN x : Int) - (dg x (8 + 8 * madeN x + 1) ((madeN x : Int)))) 3))) + 1) 4) fl.1 fl.2) (fun v113 s113 R113 => ?_) XT.stop
             obtain ⟨rfl, rfl⟩ := R113
             dsimp only [lcA, lnA]
             refine ⟨inferInstance, ?_⟩
             refine XT.qs rfl rfl (Q.ld rfl rfl) ⟨inferInstance, ?_⟩ XT.stop
             refine XT.q rfl rfl (Q.add rfl rfl ⟨by omega, by omega⟩) ?_
             refine XT.q rfl rfl (Q.add rfl rfl ⟨by omega, by omega⟩) ?_
             refine XT.q rfl rfl (Q.fieldAddr rfl) ?_
             refine XT.st rfl rfl rfl rfl rfl ⟨inferInstance, ?_⟩ XT.stop
             refine XT.done ?_
             exact mtr14 (()) _ _ trivial (.base 18 rfl rfl) inferInstance
           ·skip
            refine XT.call rfl rfl Tryz.call143 rfl rfl rfl (next_spec vx hx x b10 (8 + 8 * madeN x + 1 + 1 + 1 + 1) pm4 (min ((madeN x : Int) - (dg x (8 + 8 * madeN x + 1) ((madeN x : Int))) - (1 + (dg x (8 + 8 * madeN x + 1 + 1 + 1) (min ((madeN x : Int) - (dg x (8 + 8 * madeN x + 1) ((madeN x : Int)))) 3))) + 1) 4) fl.1 fl.2) (fun v113 s113 R113 => ?_) XT.stop
            obtain ⟨rfl, rfl⟩ := R113
            dsimp only [lcA, lnA]
            refine ⟨inferInstance, ?_⟩
            refine XT.qs rfl rfl (Q.ld rfl rfl) ⟨inferInstance, ?_⟩ ?_
            ·skip
             refine XT.qs rfl rfl (Q.ld rfl rfl) ⟨inferInstance, ?_⟩ XT.stop
             refine XT.q rfl rfl (Q.add rfl rfl ⟨by omega, by omega⟩) ?_
             refine XT.q rfl rfl (Q.add rfl rfl ⟨by omega, by omega⟩) ?_
             refine XT.q rfl rfl (Q.fieldAddr rfl) ?_
             refine XT.st rfl rfl rfl rfl rfl ⟨inferInstance, ?_⟩ XT.stop
             refine XT.done ?_
             exact mtr14 (()) _ _ trivial (.base 18 rfl rfl) inferInstance
            ·skip
             refine XT.qs rfl rfl (Q.ld rfl rfl) ⟨inferInstance, ?_⟩ XT.stop
             refine XT.qs rfl rfl (Q.ld rfl rfl) ⟨inferInstance, ?_⟩ XT.stop
             refine XT.q rfl rfl (Q.add rfl rfl ⟨by omega, by omega⟩) ?_
             refine XT.q rfl rfl (Q.add rfl rfl ⟨by omega, by omega⟩) ?_
             refine XT.q rfl rfl (Q.fieldAddr rfl) ?_
             refine XT.st rfl rfl rfl rfl rfl ⟨inferInstance, ?_⟩ XT.stop
             refine XT.done ?_
             exact mtr14 (()) _ _ trivial (.base 18 rfl rfl) inferInstance
       ·skip
        refine XT.qs rfl rfl (Q.ld rfl rfl) ⟨inferInstance, ?_⟩ XT.stop
        refine XT.qs rfl rfl (Q.ld rfl rfl) ⟨inferInstance, ?_⟩ ?_
        ·skip
         refine XT.qs rfl rfl (Q.ld rfl rfl) ⟨inferInstance, ?_⟩ ?_
         ·skip
          refine XT.q rfl rfl (Q.add rfl rfl ⟨by omega, by omega⟩) ?_
          refine XT.qs rfl rfl (Q.ld rfl rfl) ⟨inferInstance, ?_⟩ XT.stop
          refine XT.q rfl rfl (Q.sub rfl rfl ⟨by omega, by omega⟩) ?_
          refine XT.q rfl rfl (Q.sub rfl rfl ⟨by omega, by omega⟩) ?_
          refine XT.q rfl rfl (Q.add rfl rfl ⟨by omega, by omega⟩) ?_
          refine XT.q rfl rfl (Q.min rfl rfl) ?_
          refine XT.call rfl rfl Tryz.call143 rfl rfl rfl (next_spec vx hx x b10 (8 + 8 * madeN x + 1 + 1 + 1 + 1) pm4 (min ((madeN x : Int) - (dg x (8 + 8 * madeN x + 1) ((madeN x : Int))) - (1 + (dg x (8 + 8 * madeN x + 1 + 1 + 1) (min ((madeN x : Int) - (dg x (8 + 8 * madeN x + 1) ((madeN x : Int)))) 3))) + 1) 4) fl.1 fl.2) (fun v113 s113 R113 => ?_) XT.stop
          obtain ⟨rfl, rfl⟩ := R113
          dsimp only [lcA, lnA]
          refine ⟨inferInstance, ?_⟩
          refine XT.q rfl rfl (Q.add rfl rfl ⟨by omega, by omega⟩) ?_
          refine XT.q rfl rfl (Q.fieldAddr rfl) ?_
          refine XT.st rfl rfl rfl rfl rfl ⟨inferInstance, ?_⟩ XT.stop
          refine XT.done ?_
          exact mtr14 (()) _ _ trivial (.base 18 rfl rfl) inferInstance
         ·skip
          refine XT.qs rfl rfl (Q.ld rfl rfl) ⟨inferInstance, ?_⟩ XT.stop
          refine XT.q rfl rfl (Q.sub rfl rfl ⟨by omega, by omega⟩) ?_
          refine XT.q rfl rfl (Q.sub rfl rfl ⟨by omega, by omega⟩) ?_
          refine XT.q rfl rfl (Q.add rfl rfl ⟨by omega, by omega⟩) ?_
          refine XT.q rfl rfl (Q.min rfl rfl) ?_
          refine XT.qs rfl rfl (Q.ld rfl rfl) ⟨inferInstance, ?_⟩ ?_
          ·skip
           refine XT.q rfl rfl (Q.add rfl rfl ⟨by omega, by omega⟩) ?_
           refine XT.call rfl rfl Tryz.call143 rfl rfl rfl (next_spec vx hx x b10 (8 + 8 * madeN x + 1 + 1 + 1 + 1) pm4 (min ((madeN x : Int) - (dg x (8 + 8 * madeN x + 1) ((madeN x : Int))) - (1 + (dg x (8 + 8 * madeN x + 1 + 1 + 1) (min ((madeN x : Int) - (dg x (8 + 8 * madeN x + 1) ((madeN x : Int)))) 3))) + 1) 4) fl.1 fl.2) (fun v113 s113 R113 => ?_) XT.stop
           obtain ⟨rfl, rfl⟩ := R113
           dsimp only [lcA, lnA]
           refine ⟨inferInstance, ?_⟩
           refine XT.q rfl rfl (Q.add rfl rfl ⟨by omega, by omega⟩) ?_
           refine XT.q rfl rfl (Q.fieldAddr rfl) ?_
           refine XT.st rfl rfl rfl rfl rfl ⟨inferInstance, ?_⟩ XT.stop
           refine XT.done ?_
           exact mtr14 (()) _ _ trivial (.base 18 rfl rfl) inferInstance
          ·skip
           refine XT.call rfl rfl Tryz.call143 rfl rfl rfl (next_spec vx hx x b10 (8 + 8 * madeN x + 1 + 1 + 1 + 1) pm4 (min ((madeN x : Int) - (dg x (8 + 8 * madeN x + 1) ((madeN x : Int))) - (1 + (dg x (8 + 8 * madeN x + 1 + 1 + 1) (min ((madeN x : Int) - (dg x (8 + 8 * madeN x + 1) ((madeN x : Int)))) 3))) + 1) 4) fl.1 fl.2) (fun v113 s113 R113 => ?_) XT.stop
           obtain ⟨rfl, rfl⟩ := R113
           dsimp only [lcA, lnA]
           refine ⟨inferInstance, ?_⟩
           refine XT.qs rfl rfl (Q.ld rfl rfl) ⟨inferInstance, ?_⟩ XT.stop
           refine XT.q rfl rfl (Q.add rfl rfl ⟨by omega, by omega⟩) ?_
           refine XT.q rfl rfl (Q.add rfl rfl ⟨by omega, by omega⟩) ?_
           refine XT.q rfl rfl (Q.fieldAddr rfl) ?_
           refine XT.st rfl rfl rfl rfl rfl ⟨inferInstance, ?_⟩ XT.stop
           refine XT.done ?_
           exact mtr14 (()) _ _ trivial (.base 18 rfl rfl) inferInstance
        ·skip
         refine XT.qs rfl rfl (Q.ld rfl rfl) ⟨inferInstance, ?_⟩ ?_
         ·skip
          refine XT.qs rfl rfl (Q.ld rfl rfl) ⟨inferInstance, ?_⟩ ?_
          ·skip
           refine XT.q rfl rfl (Q.add rfl rfl ⟨by omega, by omega⟩) ?_
           refine XT.qs rfl rfl (Q.ld rfl rfl) ⟨inferInstance, ?_⟩ XT.stop
           refine XT.q rfl rfl (Q.sub rfl rfl ⟨by omega, by omega⟩) ?_
           refine XT.q rfl rfl (Q.sub rfl rfl ⟨by omega, by omega⟩) ?_
           refine XT.q rfl rfl (Q.add rfl rfl ⟨by omega, by omega⟩) ?_
           refine XT.q rfl rfl (Q.min rfl rfl) ?_
           refine XT.call rfl rfl Tryz.call143 rfl rfl rfl (next_spec vx hx x b10 (8 + 8 * madeN x + 1 + 1 + 1 + 1) pm4 (min ((madeN x : Int) - (dg x (8 + 8 * madeN x + 1) ((madeN x : Int))) - (1 + (dg x (8 + 8 * madeN x + 1 + 1 + 1) (min ((madeN x : Int) - (dg x (8 + 8 * madeN x + 1) ((madeN x : Int)))) 3))) + 1) 4) fl.1 fl.2) (fun v113 s113 R113 => ?_) XT.stop
           obtain ⟨rfl, rfl⟩ := R113
           dsimp only [lcA, lnA]
           refine ⟨inferInstance, ?_⟩
           refine XT.q rfl rfl (Q.add rfl rfl ⟨by omega, by omega⟩) ?_
           refine XT.q rfl rfl (Q.fieldAddr rfl) ?_
           refine XT.st rfl rfl rfl rfl rfl ⟨inferInstance, ?_⟩ XT.stop
           refine XT.done ?_
           exact mtr14 (()) _ _ trivial (.base 18 rfl rfl) inferInstance
          ·skip
           refine XT.qs rfl rfl (Q.ld rfl rfl) ⟨inferInstance, ?_⟩ XT.stop
           refine XT.q rfl rfl (Q.sub rfl rfl ⟨by omega, by omega⟩) ?_
           refine XT.q rfl rfl (Q.sub rfl rfl ⟨by omega, by omega⟩) ?_
           refine XT.q rfl rfl (Q.add rfl rfl ⟨by omega, by omega⟩) ?_
           refine XT.q rfl rfl (Q.min rfl rfl) ?_
           refine XT.qs rfl rfl (Q.ld rfl rfl) ⟨inferInstance, ?_⟩ ?_
           ·skip
            refine XT.q rfl rfl (Q.add rfl rfl ⟨by omega, by omega⟩) ?_
            refine XT.call rfl rfl Tryz.call143 rfl rfl rfl (next_spec vx hx x b10 (8 + 8 * madeN x + 1 + 1 + 1 + 1) pm4 (min ((madeN x : Int) - (dg x (8 + 8 * madeN x + 1) ((madeN x : Int))) - (1 + (dg x (8 + 8 * madeN x + 1 + 1 + 1) (min ((madeN x : Int) - (dg x (8 + 8 * madeN x + 1) ((madeN x : Int)))) 3))) + 1) 4) fl.1 fl.2) (fun v113 s113 R113 => ?_) XT.stop
            obtain ⟨rfl, rfl⟩ := R113
            dsimp only [lcA, lnA]
            refine ⟨inferInstance, ?_⟩
            refine XT.q rfl rfl (Q.add rfl rfl ⟨by omega, by omega⟩) ?_
            refine XT.q rfl rfl (Q.fieldAddr rfl) ?_
            refine XT.st rfl rfl rfl rfl rfl ⟨inferInstance, ?_⟩ XT.stop
            refine XT.done ?_
            exact mtr14 (()) _ _ trivial (.base 18 rfl rfl) inferInstance
           ·skip
            refine XT.call rfl rfl Tryz.call143 rfl rfl rfl (next_spec vx hx x b10 (8 + 8 * madeN x + 1 + 1 + 1 + 1) pm4 (min ((madeN x : Int) - (dg x (8 + 8 * madeN x + 1) ((madeN x : Int))) - (1 + (dg x (8 + 8 * madeN x + 1 + 1 + 1) (min ((madeN x : Int) - (dg x (8 + 8 * madeN x + 1) ((madeN x : Int)))) 3))) + 1) 4) fl.1 fl.2) (fun v113 s113 R113 => ?_) XT.stop
            obtain ⟨rfl, rfl⟩ := R113
            dsimp only [lcA, lnA]
            refine ⟨inferInstance, ?_⟩
            refine XT.qs rfl rfl (Q.ld rfl rfl) ⟨inferInstance, ?_⟩ XT.stop
            refine XT.q rfl rfl (Q.add rfl rfl ⟨by omega, by omega⟩) ?_
            refine XT.q rfl rfl (Q.add rfl rfl ⟨by omega, by omega⟩) ?_
            refine XT.q rfl rfl (Q.fieldAddr rfl) ?_
            refine XT.st rfl rfl rfl rfl rfl ⟨inferInstance, ?_⟩ XT.stop
            refine XT.done ?_
            exact mtr14 (()) _ _ trivial (.base 18 rfl rfl) inferInstance
         ·skip
          refine XT.qs rfl rfl (Q.ld rfl rfl) ⟨inferInstance, ?_⟩ XT.stop
          refine XT.q rfl rfl (Q.sub rfl rfl ⟨by omega, by omega⟩) ?_
          refine XT.q rfl rfl (Q.sub rfl rfl ⟨by omega, by omega⟩) ?_
          refine XT.q rfl rfl (Q.add rfl rfl ⟨by omega, by omega⟩) ?_
          refine XT.q rfl rfl (Q.min rfl rfl) ?_
          refine XT.qs rfl rfl (Q.ld rfl rfl) ⟨inferInstance, ?_⟩ ?_
          ·skip
           refine XT.qs rfl rfl (Q.ld rfl rfl) ⟨inferInstance, ?_⟩ ?_
           ·skip
            refine XT.q rfl rfl (Q.add rfl rfl ⟨by omega, by omega⟩) ?_
            refine XT.call rfl rfl Tryz.call143 rfl rfl rfl (next_spec vx hx x b10 (8 + 8 * madeN x + 1 + 1 + 1 + 1) pm4 (min ((madeN x : Int) - (dg x (8 + 8 * madeN x + 1) ((madeN x : Int))) - (1 + (dg x (8 + 8 * madeN x + 1 + 1 + 1) (min ((madeN x : Int) - (dg x (8 + 8 * madeN x + 1) ((madeN x : Int)))) 3))) + 1) 4) fl.1 fl.2) (fun v113 s113 R113 => ?_) XT.stop
            obtain ⟨rfl, rfl⟩ := R113
            dsimp only [lcA, lnA]
            refine ⟨inferInstance, ?_⟩
            refine XT.q rfl rfl (Q.add rfl rfl ⟨by omega, by omega⟩) ?_
            refine XT.q rfl rfl (Q.fieldAddr rfl) ?_
            refine XT.st rfl rfl rfl rfl rfl ⟨inferInstance, ?_⟩ XT.stop
            refine XT.done ?_
            exact mtr14 (()) _ _ trivial (.base 18 rfl rfl) inferInstance
           ·skip
            refine XT.call rfl rfl Tryz.call143 rfl rfl rfl (next_spec vx hx x b10 (8 + 8 * madeN x + 1 + 1 + 1 + 1) pm4 (min ((madeN x : Int) - (dg x (8 + 8 * madeN x + 1) ((madeN x : Int))) - (1 + (dg x (8 + 8 * madeN x + 1 + 1 + 1) (min ((madeN x : Int) - (dg x (8 + 8 * madeN x + 1) ((madeN x : Int)))) 3))) + 1) 4) fl.1 fl.2) (fun v113 s113 R113 => ?_) XT.stop
            obtain ⟨rfl, rfl⟩ := R113
            dsimp only [lcA, lnA]
            refine ⟨inferInstance, ?_⟩
            refine XT.qs rfl rfl (Q.ld rfl rfl) ⟨inferInstance, ?_⟩ XT.stop
            refine XT.q rfl rfl (Q.add rfl rfl ⟨by omega, by omega⟩) ?_
            refine XT.q rfl rfl (Q.add rfl rfl ⟨by omega, by omega⟩) ?_
            refine XT.q rfl rfl (Q.fieldAddr rfl) ?_
            refine XT.st rfl rfl rfl rfl rfl ⟨inferInstance, ?_⟩ XT.stop
            refine XT.done ?_
            exact mtr14 (()) _ _ trivial (.base 18 rfl rfl) inferInstance
          ·skip
           refine XT.qs rfl rfl (Q.ld rfl rfl) ⟨inferInstance, ?_⟩ ?_
           ·skip
            refine XT.qs rfl rfl (Q.ld rfl rfl) ⟨inferInstance, ?_⟩ ?_
            ·skip
             refine XT.q rfl rfl (Q.add rfl rfl ⟨by omega, by omega⟩) ?_
             refine XT.call rfl rfl Tryz.call143 rfl rfl rfl (next_spec vx hx x b10 (8 + 8 * madeN x + 1 + 1 + 1 + 1) pm4 (min ((madeN x : Int) - (dg x (8 + 8 * madeN x + 1) ((madeN x : Int))) - (1 + (dg x (8 + 8 * madeN x + 1 + 1 + 1) (min ((madeN x : Int) - (dg x (8 + 8 * madeN x + 1) ((madeN x : Int)))) 3))) + 1) 4) fl.1 fl.2) (fun v113 s113 R113 => ?_) XT.stop
             obtain ⟨rfl, rfl⟩ := R113
             dsimp only [lcA, lnA]
             refine ⟨inferInstance, ?_⟩
             refine XT.q rfl rfl (Q.add rfl rfl ⟨by omega, by omega⟩) ?_
             refine XT.q rfl rfl (Q.fieldAddr rfl) ?_
             refine XT.st rfl rfl rfl rfl rfl ⟨inferInstance, ?_⟩ XT.stop
             refine XT.done ?_
             exact mtr14 (()) _ _ trivial (.base 18 rfl rfl) inferInstance
            ·skip
             refine XT.call rfl rfl Tryz.call143 rfl rfl rfl (next_spec vx hx x b10 (8 + 8 * madeN x + 1 + 1 + 1 + 1) pm4 (min ((madeN x : Int) - (dg x (8 + 8 * madeN x + 1) ((madeN x : Int))) - (1 + (dg x (8 + 8 * madeN x + 1 + 1 + 1) (min ((madeN x : Int) - (dg x (8 + 8 * madeN x + 1) ((madeN x : Int)))) 3))) + 1) 4) fl.1 fl.2) (fun v113 s113 R113 => ?_) XT.stop
             obtain ⟨rfl, rfl⟩ := R113
             dsimp only [lcA, lnA]
             refine ⟨inferInstance, ?_⟩
             refine XT.qs rfl rfl (Q.ld rfl rfl) ⟨inferInstance, ?_⟩ XT.stop
             refine XT.q rfl rfl (Q.add rfl rfl ⟨by omega, by omega⟩) ?_
             refine XT.q rfl rfl (Q.add rfl rfl ⟨by omega, by omega⟩) ?_
             refine XT.q rfl rfl (Q.fieldAddr rfl) ?_
             refine XT.st rfl rfl rfl rfl rfl ⟨inferInstance, ?_⟩ XT.stop
             refine XT.done ?_
             exact mtr14 (()) _ _ trivial (.base 18 rfl rfl) inferInstance
           ·skip
            refine XT.call rfl rfl Tryz.call143 rfl rfl rfl (next_spec vx hx x b10 (8 + 8 * madeN x + 1 + 1 + 1 + 1) pm4 (min ((madeN x : Int) - (dg x (8 + 8 * madeN x + 1) ((madeN x : Int))) - (1 + (dg x (8 + 8 * madeN x + 1 + 1 + 1) (min ((madeN x : Int) - (dg x (8 + 8 * madeN x + 1) ((madeN x : Int)))) 3))) + 1) 4) fl.1 fl.2) (fun v113 s113 R113 => ?_) XT.stop
            obtain ⟨rfl, rfl⟩ := R113
            dsimp only [lcA, lnA]
            refine ⟨inferInstance, ?_⟩
            refine XT.qs rfl rfl (Q.ld rfl rfl) ⟨inferInstance, ?_⟩ ?_
            ·skip
             refine XT.qs rfl rfl (Q.ld rfl rfl) ⟨inferInstance, ?_⟩ XT.stop
             refine XT.q rfl rfl (Q.add rfl rfl ⟨by omega, by omega⟩) ?_
             refine XT.q rfl rfl (Q.add rfl rfl ⟨by omega, by omega⟩) ?_
             refine XT.q rfl rfl (Q.fieldAddr rfl) ?_
             refine XT.st rfl rfl rfl rfl rfl ⟨inferInstance, ?_⟩ XT.stop
             refine XT.done ?_
             exact mtr14 (()) _ _ trivial (.base 18 rfl rfl) inferInstance
            ·skip
             refine XT.qs rfl rfl (Q.ld rfl rfl) ⟨inferInstance, ?_⟩ XT.stop
             refine XT.qs rfl rfl (Q.ld rfl rfl) ⟨inferInstance, ?_⟩ XT.stop
             refine XT.q rfl rfl (Q.add rfl rfl ⟨by omega, by omega⟩) ?_
             refine XT.q rfl rfl (Q.add rfl rfl ⟨by omega, by omega⟩) ?_
             refine XT.q rfl rfl (Q.fieldAddr rfl) ?_
             refine XT.st rfl rfl rfl rfl rfl ⟨inferInstance, ?_⟩ XT.stop
             refine XT.done ?_
             exact mtr14 (()) _ _ trivial (.base 18 rfl rfl) inferInstance
   ·skip
    refine XK.skip (XK.seq (XK.region rfl ?_))
    refine XO.q (Q.ldA [_, _, _, _, _, _, _, _] rfl rfl rfl) ?_
    refine XO.st rfl rfl rfl ?_
    refine XO.done ?_
    refine XK.rt [kh, emp] Tryz.func81 Tryz.results81 (.cell [_, _, _, _, _, _, _, _] rfl rfl rfl (.n)) ?_
    exact ⟨vh, _, kh, emp, rfl, rfl, OH, by rw [show (madeD x).jobs = [] from if_neg c1]; exact nJ⟩
 ·intro mtr4
  dsimp only [lcA, lnA] at mtr4
  refine XK.drawn [0, 1, 2, 6, 7, 8, 12, 15, 4, 10, 17, 18, 14, 20, 21, 23, 24] [] [] (.q 0 (.q 1 (.q 2 (.q 6 (.q 7 (.q 8 (.q 12 (.q 15 (.br 3 true (.q 4 (.br 5 true (.br 9 true (.q 10 (.q 17 (.q 18 (.br 11 true (.br 13 true (.q 14 (.br 16 true (.br 19 true (.q 20 (.q 21 (.br 22 true (.q 23 (.q 24 (.br 25 true .done .stop))) .stop))) .stop) .stop)) .stop) .stop)))) .stop) (.br 9 true (.q 10 (.br 5 true (.q 17 (.q 18 (.br 11 true (.br 13 true (.q 14 (.br 16 true (.br 19 true (.q 20 (.q 21 (.br 22 true (.q 23 (.q 24 (.br 25 true .done .stop))) .stop))) .stop) .stop)) .stop) .stop))) .stop)) .stop))) (.br 9 true (.q 10 (.br 3 true (.q 4 (.br 5 true (.q 17 (.q 18 (.br 11 true (.br 13 true (.q 14 (.br 16 true (.br 19 true (.q 20 (.q 21 (.br 22 true (.q 23 (.q 24 (.br 25 true .done .stop))) .stop))) .stop) .stop)) .stop) .stop))) .stop)) .stop)) .stop)))))))))) Tryz.mixed rfl (by kernel_rfl) ?_
  refine XT.q rfl rfl (Q.move rfl) ?_
  refine XT.q rfl rfl (Q.fieldAddr rfl) ?_
  refine XT.q rfl rfl (Q.fieldAddr rfl) ?_
  refine XT.q rfl rfl (Q.move rfl) ?_
  refine XT.q rfl rfl (Q.fieldAddr rfl) ?_
  refine XT.q rfl rfl (Q.fieldAddr rfl) ?_
  refine XT.q rfl rfl (Q.move rfl) ?_
  refine XT.q rfl rfl (Q.move rfl) ?_
  refine XT.qs rfl rfl (Q.ld rfl rfl) ⟨inferInstance, ?_⟩ ?_
  ·skip
   refine XT.q rfl rfl (Q.add rfl rfl ⟨by omega, by omega⟩) ?_
   refine XT.call rfl rfl Tryz.call143 rfl rfl rfl (next_spec vx hx x b10 (0 + 1 + 1 + 1) pz3 ((dg x (0 + 1 + 1) (7)) + 1) f7.1 f7.2) (fun v26 s26 R26 => ?_) ?_
   ·skip
    obtain ⟨rfl, rfl⟩ := R26
    dsimp only [lcA, lnA]
    refine ⟨inferInstance, ?_⟩
    refine XT.qs rfl rfl (Q.ld rfl rfl) ⟨inferInstance, ?_⟩ XT.stop
    refine XT.q rfl rfl (Q.add rfl rfl ⟨by omega, by omega⟩) ?_
    refine XT.q rfl rfl (Q.fieldAddr rfl) ?_
    refine XT.q rfl rfl (Q.fieldAddr rfl) ?_
    refine XT.call rfl rfl Tryz.call143 rfl rfl rfl (next_spec vx hx x b10 (0 + 1 + 1 + 1 + 1) pz4 ((dg x (0 + 1 + 1) (7)) + 1) f7.1 f7.2) (fun v32 s32 R32 => ?_) XT.stop
    obtain ⟨rfl, rfl⟩ := R32
    dsimp only [lcA, lnA]
    refine ⟨inferInstance, ?_⟩
    refine XT.call rfl rfl Tryz.call143 rfl rfl rfl (next_spec vx hx x b10 (0 + 1 + 1 + 1 + 1 + 1) pz5 (2) (by decide) (by decide)) (fun v34 s34 R34 => ?_) XT.stop
    obtain ⟨rfl, rfl⟩ := R34
    dsimp only [lcA, lnA]
    refine ⟨inferInstance, ?_⟩
    refine XT.q rfl rfl (Q.mul rfl rfl ⟨by omega, by omega⟩) ?_
    refine XT.call rfl rfl Tryz.call143 rfl rfl rfl (next_spec vx hx x b10 (0 + 1 + 1 + 1 + 1 + 1 + 1) pz6 (5) (by decide) (by decide)) (fun v37 s37 R37 => ?_) XT.stop
    obtain ⟨rfl, rfl⟩ := R37
    dsimp only [lcA, lnA]
    refine ⟨inferInstance, ?_⟩
    refine XT.st rfl rfl rfl rfl rfl ⟨inferInstance, ?_⟩ XT.stop
    refine XT.q rfl rfl (Q.fieldAddr rfl) ?_
    refine XT.q rfl rfl (Q.fieldAddr rfl) ?_
    refine XT.st rfl rfl rfl rfl rfl ⟨inferInstance, ?_⟩ XT.stop
    refine XT.q rfl rfl (Q.fieldAddr rfl) ?_
    refine XT.q rfl rfl (Q.fieldAddr rfl) ?_
    refine XT.st rfl rfl rfl rfl rfl ⟨inferInstance, ?_⟩ XT.stop
    refine XT.done ?_
    exact mtr4 (()) _ _ trivial (.base 23 rfl rfl) inferInstance
   ·skip
    refine XT.qs rfl rfl (Q.ld rfl rfl) ⟨inferInstance, ?_⟩ XT.stop
    refine XT.q rfl rfl (Q.add rfl rfl ⟨by omega, by omega⟩) ?_
    refine XT.call rfl rfl Tryz.call143 rfl rfl rfl (next_spec vx hx x b10 (0 + 1 + 1 + 1) pz3 ((dg x (0 + 1 + 1) (7)) + 1) f7.1 f7.2) (fun v26 s26 R26 => ?_) XT.stop
    obtain ⟨rfl, rfl⟩ := R26
    dsimp only [lcA, lnA]
    refine ⟨inferInstance, ?_⟩
    refine XT.q rfl rfl (Q.fieldAddr rfl) ?_
    refine XT.q rfl rfl (Q.fieldAddr rfl) ?_
    refine XT.call rfl rfl Tryz.call143 rfl rfl rfl (next_spec vx hx x b10 (0 + 1 + 1 + 1 + 1) pz4 ((dg x (0 + 1 + 1) (7)) + 1) f7.1 f7.2) (fun v32 s32 R32 => ?_) XT.stop
    obtain ⟨rfl, rfl⟩ := R32
    dsimp only [lcA, lnA]
    refine ⟨inferInstance, ?_⟩
    refine XT.call rfl rfl Tryz.call143 rfl rfl rfl (next_spec vx hx x b10 (0 + 1 + 1 + 1 + 1 + 1) pz5 (2) (by decide) (by decide)) (fun v34 s34 R34 => ?_) XT.stop
    obtain ⟨rfl, rfl⟩ := R34
    dsimp only [lcA, lnA]
    refine ⟨inferInstance, ?_⟩
    refine XT.q rfl rfl (Q.mul rfl rfl ⟨by omega, by omega⟩) ?_
    refine XT.call rfl rfl Tryz.call143 rfl rfl rfl (next_spec vx hx x b10 (0 + 1 + 1 + 1 + 1 + 1 + 1) pz6 (5) (by decide) (by decide)) (fun v37 s37 R37 => ?_) XT.stop
    obtain ⟨rfl, rfl⟩ := R37
    dsimp only [lcA, lnA]
    refine ⟨inferInstance, ?_⟩
    refine XT.st rfl rfl rfl rfl rfl ⟨inferInstance, ?_⟩ XT.stop
    refine XT.q rfl rfl (Q.fieldAddr rfl) ?_
    refine XT.q rfl rfl (Q.fieldAddr rfl) ?_
    refine XT.st rfl rfl rfl rfl rfl ⟨inferInstance, ?_⟩ XT.stop
    refine XT.q rfl rfl (Q.fieldAddr rfl) ?_
    refine XT.q rfl rfl (Q.fieldAddr rfl) ?_
    refine XT.st rfl rfl rfl rfl rfl ⟨inferInstance, ?_⟩ XT.stop
    refine XT.done ?_
    exact mtr4 (()) _ _ trivial (.base 23 rfl rfl) inferInstance
  ·skip
   refine XT.qs rfl rfl (Q.ld rfl rfl) ⟨inferInstance, ?_⟩ XT.stop
   refine XT.q rfl rfl (Q.add rfl rfl ⟨by omega, by omega⟩) ?_
   refine XT.qs rfl rfl (Q.ld rfl rfl) ⟨inferInstance, ?_⟩ XT.stop
   refine XT.q rfl rfl (Q.add rfl rfl ⟨by omega, by omega⟩) ?_
   refine XT.call rfl rfl Tryz.call143 rfl rfl rfl (next_spec vx hx x b10 (0 + 1 + 1 + 1) pz3 ((dg x (0 + 1 + 1) (7)) + 1) f7.1 f7.2) (fun v26 s26 R26 => ?_) XT.stop
   obtain ⟨rfl, rfl⟩ := R26
   dsimp only [lcA, lnA]
   refine ⟨inferInstance, ?_⟩
   refine XT.q rfl rfl (Q.fieldAddr rfl) ?_
   refine XT.q rfl rfl (Q.fieldAddr rfl) ?_
   refine XT.call rfl rfl Tryz.call143 rfl rfl rfl (next_spec vx hx x b10 (0 + 1 + 1 + 1 + 1) pz4 ((dg x (0 + 1 + 1) (7)) + 1) f7.1 f7.2) (fun v32 s32 R32 => ?_) XT.stop
   obtain ⟨rfl, rfl⟩ := R32
   dsimp only [lcA, lnA]
   refine ⟨inferInstance, ?_⟩
   refine XT.call rfl rfl Tryz.call143 rfl rfl rfl (next_spec vx hx x b10 (0 + 1 + 1 + 1 + 1 + 1) pz5 (2) (by decide) (by decide)) (fun v34 s34 R34 => ?_) XT.stop
   obtain ⟨rfl, rfl⟩ := R34
   dsimp only [lcA, lnA]
   refine ⟨inferInstance, ?_⟩
   refine XT.q rfl rfl (Q.mul rfl rfl ⟨by omega, by omega⟩) ?_
   refine XT.call rfl rfl Tryz.call143 rfl rfl rfl (next_spec vx hx x b10 (0 + 1 + 1 + 1 + 1 + 1 + 1) pz6 (5) (by decide) (by decide)) (fun v37 s37 R37 => ?_) XT.stop
   obtain ⟨rfl, rfl⟩ := R37
   dsimp only [lcA, lnA]
   refine ⟨inferInstance, ?_⟩
   refine XT.st rfl rfl rfl rfl rfl ⟨inferInstance, ?_⟩ XT.stop
   refine XT.q rfl rfl (Q.fieldAddr rfl) ?_
   refine XT.q rfl rfl (Q.fieldAddr rfl) ?_
   refine XT.st rfl rfl rfl rfl rfl ⟨inferInstance, ?_⟩ XT.stop
   refine XT.q rfl rfl (Q.fieldAddr rfl) ?_
   refine XT.q rfl rfl (Q.fieldAddr rfl) ?_
   refine XT.st rfl rfl rfl rfl rfl ⟨inferInstance, ?_⟩ XT.stop
   refine XT.done ?_
   exact mtr4 (()) _ _ trivial (.base 23 rfl rfl) inferInstance
end Go.X.Ma

set_option linter.unusedSimpArgs false
set_option linter.unusedVariables false
set_option maxRecDepth 20000
namespace Go.X
open Go.Proofs
theorem planned_spec (vx : Value) (hx : PHeap) (x : List UInt8) [jx : Arr vx encU8 1 hx x] : Spec Tryz.prog 31 #[vx] [] [hx] (fun v hs => ∃ vh vj vs vc kh kj K kc, v = .tuple #[.agg #[vh, .int .i64 (Ma.madeD x).store.energy, .int .i64 (Ma.madeD x).store.full, .int .i64 (Ma.madeD x).store.power, .int .i64 (Ma.madeD x).store.fin, vj, .int .i64 (Ma.madeD x).most, .int .i64 (Ma.madeD x).peak], .agg #[vs, vc, .int .i64 (Ma.bestG (Ma.madeD x)).1.cost], .bool (decide ((Ma.bestG (Ma.madeD x)).2 = 0))] ∧ hs = [kh, kj, K, kc] ∧ OArr vh Ma.encHour 6 146 kh (Ma.madeD x).hours ∧ OArr vj Ma.encJob 4 292 kj (Ma.madeD x).jobs ∧ One vs ∧ Arr vs encI 1 K (Ma.bestG (Ma.madeD x)).1.starts ∧ OArr vc encI 1 3 kc (Ma.bestG (Ma.madeD x)).1.charge) := by
 refine Spec.intro (fn := Tryz.f31) (N := 21) Tryz.func31 rfl Tryz.ntmps31 rfl fun B => ?_
 refine XK.seq (XK.region rfl ?_)
 refine XO.alloc fun b2 => ?_
 refine XO.alloc fun b3 => ?_
 refine XO.q (Q.assign rfl) (XO.done (XK.seq (XK.region rfl (XO.q (Q.move rfl) ?_))))
 refine XO.call Tryz.call81 rfl rfl rfl (Ma.Made_spec vx hx x) fun v10 s10 R10 => ?_
 obtain ⟨vh, vj, kh, kj, rfl, rfl, OH, OJ⟩ := R10
 dsimp only [lcA, lnA]
 refine XO.alloc fun b5 => ?_
 refine XO.st rfl rfl rfl ?_
 refine XO.done (XK.seq (XK.region rfl ?_))
 refine XO.q (Q.ldA [_, _, _, _, _, _, _, _] rfl rfl rfl) ?_
 refine XO.call Tryz.call82 rfl rfl rfl (Ma.Best_spec (Ma.madeD x) vh vj kh kj) fun v13 s13 R13 => ?_
 obtain ⟨vs, vc, vp, K, kc, kp, pus, KP, tabs, rfl, rfl, ov, AS, OC, OP, RK, t1, t2⟩ := R13
 dsimp only [lcA, lnA]
 refine XO.q (Q.move rfl) ?_
 refine XO.q (Q.extract rfl rfl) ?_
 refine XO.q (Q.extract rfl rfl) ?_
 refine XO.q (Q.extract rfl rfl) ?_
 refine XO.alloc fun b6 => ?_
 refine XO.st rfl rfl rfl ?_
 refine XO.q (Q.assign rfl) (XO.q (Q.assign rfl) (XO.done (XK.seq ?_)))
 refine XK.drawn [0, 1, 2, 3, 6] [b5, b6] [kh, kj, K, kc] (.q 0 (.q 1 (.q 2 (.q 3 (.br 4 true (.br 5 true (.q 6 .done) .stop) .stop))))) Tryz.mixed rfl (by kernel_rfl) ?_
 refine XT.q rfl rfl (Q.ldA [_, _, _, _, _, _, _, _] rfl rfl rfl) ?_
 refine XT.q rfl rfl (Q.ldA [_, _, _] rfl rfl rfl) ?_
 refine XT.q rfl rfl (Q.move rfl) ?_
 refine XT.q rfl rfl (Q.eql rfl rfl) ?_
 refine XT.st rfl rfl rfl rfl rfl ⟨inferInstance, ?_⟩ XT.stop
 refine XT.st rfl rfl rfl rfl rfl ⟨inferInstance, ?_⟩ XT.stop
 refine XT.q rfl rfl (Q.assign rfl) ?_
 refine XT.done ?_
 refine XK.rt [kh, kj, K, kc] Tryz.func31 Tryz.results31 (.cell [_, _, _, _, _, _, _, _] rfl rfl rfl (.cell [_, _, _] rfl rfl rfl (.t rfl .n))) ?_
 exact ⟨vh, vj, vs, vc, kh, kj, K, kc, rfl, rfl, OH, OJ, ov, AS, OC⟩
theorem named1 (b : Nat) (n : Int) (u : Value) (K : PHeap) (r : List Int) [ar : Arr u encI 1 K r] : Spec Tryz.prog 37 #[u, ptr b 0] [] [K, blk b [.int .i64 n] 3] (fun v hs => v = .bool (decide (r = [n])) ∧ hs = []) := by
 refine Spec.intro (fn := Tryz.f37) (N := 8) Tryz.func37 rfl Tryz.ntmps37 rfl fun B => ?_
 refine XK.seq (XK.region rfl (XO.q (Q.assign rfl) (XO.done (XK.seq (XK.region rfl ?_)))))
 refine XO.q (Q.move rfl) ?_
 refine XO.q (Q.ld rfl rfl) ?_
 refine XO.lit [_] [_] [n] encI (by rfl) (by rfl) rfl (by rfl) (by exact .c 0 1 rfl rfl rfl (.n _)) (fun _ => rfl) (by rfl) rfl (by infer_instance) rfl fun v6 h6 O6 => ?_
 refine XO.call Tryz.call35 rfl rfl rfl (Bk.equalI u v6 K h6 r [n]) fun v7 s7 R7 => ?_
 obtain ⟨rfl, rfl⟩ := R7
 dsimp only [lcA, lnA]
 refine XO.q (Q.assign rfl) (XO.done ?_)
 refine XK.rt [] Tryz.func37 Tryz.results37 (.t rfl .n) ?_
 exact ⟨rfl, rfl⟩
theorem named2 (u : Value) (K : PHeap) (r : List Int) [ar : Arr u encI 1 K r] : Spec Tryz.prog 38 #[u] [] [K] (fun v hs => v = .bool (decide (¬ (r.length : Int) = 1)) ∧ hs = []) := by
 refine Spec.intro (fn := Tryz.f38) (N := 6) Tryz.func38 rfl Tryz.ntmps38 rfl fun B => ?_
 refine XK.seq (XK.region rfl (XO.q (Q.assign rfl) (XO.done (XK.seq (XK.region rfl ?_)))))
 refine XO.q (Q.move rfl) ?_
 refine XO.len rfl fun l4 => ?_
 refine XO.q (Q.neq rfl rfl) ?_
 refine XO.q (Q.assign rfl) (XO.done ?_)
 refine XK.rt [] Tryz.func38 Tryz.results38 (.t rfl .n) ?_
 exact ⟨rfl, rfl⟩
end Go.X

set_option linter.unusedSimpArgs false
set_option linter.unusedVariables false
set_option maxRecDepth 20000
namespace Go.X
open Go.Proofs
set_option maxHeartbeats 4000000 in
theorem TopNamed_spec (v0 : Value) (h0 : PHeap) (x0 : List UInt8) [i0 : Arr v0 encU8 1 h0 x0] (n1 : Nat) (hn1 : n1 < 256) (n2 : Nat) (hn2 : n2 < 65536) : Spec Tryz.prog 7 #[v0, .int .u8 (n1 : Nat), .int .u16 (n2 : Nat)] [] [h0] (fun v hs => v = .bool true ∧ hs = []) := by
 have hn4 : n1 % 4 < 4 := Nat.mod_lt _ (by decide)
 refine Spec.intro (fn := Tryz.f7) (N := 141) Tryz.func7 rfl Tryz.ntmps7 rfl fun B => ?_
 refine XK.seq (XK.region rfl (XO.q (Q.assign rfl) (XO.done (XK.seq (XK.region rfl ?_)))))
 refine XO.q (Q.move rfl) ?_
 refine XO.call Tryz.call31 rfl rfl rfl (planned_spec v0 h0 x0) fun v26 s26 R26 => ?_
 obtain ⟨vh, vj, vs, vc, kh, kj, K, kc, rfl, rfl, OH, OJ, ov, AS, OC⟩ := R26
 dsimp only [lcA, lnA]
 refine XO.q (Q.move rfl) ?_
 refine XO.q (Q.extract rfl rfl) ?_
 refine XO.q (Q.extract rfl rfl) ?_
 refine XO.q (Q.extract rfl rfl) ?_
 refine XO.alloc fun b7 => ?_
 refine XO.alloc fun b8 => ?_
 refine XO.st rfl rfl rfl ?_
 refine XO.st rfl rfl rfl ?_
 refine XO.q (Q.assign rfl) (XO.done (XK.seq (XK.seq (XK.region rfl (XO.q (Q.move rfl) ?_)))))
 refine XO.q (Q.not rfl) ?_
 refine XO.done ?_
 refine XK.if rfl (fun c0 => ?_) (fun c0 => ?_)
 ·skip
  refine XK.seq (XK.region rfl ?_)
  refine XO.call Tryz.call14 rfl rfl rfl (there_spec) fun v32 s32 R32 => ?_
  obtain ⟨rfl, rfl⟩ := R32
  dsimp only [lcA, lnA]
  refine XO.q (Q.assign rfl) (XO.done ?_)
  refine XK.rt [] Tryz.func7 Tryz.results7 (.t rfl .n) ?_
  exact ⟨rfl, rfl⟩
 ·skip
  have b0 : (Ma.bestG (Ma.madeD x0)).2 = 0 := by simpa using c0
  obtain ⟨R, eR, l24, si, st, sc⟩ := best_sums b0
  refine XK.skip (XK.seq (XK.region rfl ?_))
  refine XO.q (Q.ldA [_, _, _, _, _, _, _, _] rfl rfl rfl) ?_
  refine XO.q (Q.ldA [_, _, _] rfl rfl rfl) ?_
  refine XO.call Tryz.call32 rfl rfl rfl (Ma.Ledger_spec (Ma.madeD x0) vh vj kh kj (Ma.bestG (Ma.madeD x0)).1 vs vc K kc) fun v36 s36 R36 => ?_
  obtain ⟨vo, ho, rfl, rfl, OO⟩ := R36
  dsimp only [lcA, lnA]
  rw [eR]
  dsimp only
  refine XO.q (Q.move rfl) ?_
  refine XO.q (Q.extract rfl rfl) ?_
  refine XO.q (Q.extract rfl rfl) ?_
  refine XO.q (Q.extract rfl rfl) ?_
  refine XO.alloc fun b11 => ?_
  refine XO.q (Q.assign rfl) ?_
  refine XO.st rfl rfl rfl ?_
  refine XO.q (Q.assign rfl) (XO.done (XK.seq (XK.seq (XK.region rfl (XO.q (Q.move rfl) ?_)))))
  refine XO.q (Q.neq rfl rfl) ?_
  refine XO.done ?_
  refine XK.if rfl (fun c1 => ?_) (fun c1 => ?_)
  ·skip
   simp at c1
  ·skip
   refine XK.skip (XK.seq (XK.region rfl (XO.q (Q.assign rfl) (XO.q (Q.assign rfl) (XO.done ?_)))))
   refine XK.seq (XK.seq (XK.region rfl ?_))
   refine XO.q (Q.fieldAddr rfl) ?_
   refine XO.q (Q.ld rfl rfl) ?_
   refine XO.len rfl fun l44 => ?_
   refine XO.q (Q.move rfl) (XO.done (XK.block ?_))
   refine XK.while (X := Nat) [13, 14, 16, 45, 46, 47, 48, 49, 50, 51, 52, 53, 54, 55, 56, 57, 58] (fun i => [(45, some (.int .i64 (i : Nat))), (13, some (.int .i64 (takenTo (Ma.bestG (Ma.madeD x0)).1.charge i))), (14, some (.int .i64 (givenTo (Ma.bestG (Ma.madeD x0)).1.charge i)))]) (fun i => []) (fun i => i ≤ (Ma.bestG (Ma.madeD x0)).1.charge.length) (fun i => (Ma.bestG (Ma.madeD x0)).1.charge.length - i) (0) [] rfl (by omega) (.c rfl (.c rfl (.c rfl (.base 0 rfl rfl)))) ?_
   rintro i hi ih0
   dsimp only [lcA, lnA] at ih0 ⊢
   refine XK.seq (XK.region rfl ?_)
   refine XO.q (Q.lss rfl rfl) ?_
   refine XO.done (XK.seq ?_)
   refine XK.if rfl (fun c2 => ?_) (fun c2 => ?_)
   ·skip
    have a1 := st i (by omega)
    have a2 := st (i + 1) (by omega)
    have a3 := sc i (by omega)
    have e1 : takenTo (Ma.bestG (Ma.madeD x0)).1.charge (i + 1) = takenTo (Ma.bestG (Ma.madeD x0)).1.charge i + max ((Ma.bestG (Ma.madeD x0)).1.charge.getD i default) 0 := rfl
    have e2 : givenTo (Ma.bestG (Ma.madeD x0)).1.charge (i + 1) = givenTo (Ma.bestG (Ma.madeD x0)).1.charge i + max (0 - (Ma.bestG (Ma.madeD x0)).1.charge.getD i default) 0 := by rw [givenTo]; omega
    refine XK.skip (XK.seq (XK.block (XK.seq (XK.region rfl ?_))))
    refine XO.ix rfl rfl (by omega) (by omega) fun i47 => ?_
    refine XO.q (Q.ldE rfl (by first | assumption | omega) rfl) ?_
    refine XO.q (Q.assign rfl) (XO.done (XK.seq (XK.region rfl (XO.q (Q.move rfl) (XO.q (Q.move rfl) ?_)))))
    refine XO.q (Q.max rfl rfl) ?_
    refine XO.q (Q.add rfl rfl ⟨by omega, by omega⟩) ?_
    refine XO.q (Q.assign rfl) (XO.done (XK.region rfl (XO.q (Q.move rfl) (XO.q (Q.move rfl) ?_))))
    refine XO.q (Q.neg rfl ⟨by omega, by omega⟩) ?_
    refine XO.q (Q.max rfl rfl) ?_
    refine XO.q (Q.add rfl rfl ⟨by omega, by omega⟩) ?_
    refine XO.q (Q.assign rfl) (XO.done ?_)
    refine XK.inBlock ?_
    refine XK.region rfl ?_
    refine XO.q (Q.add rfl rfl ⟨by omega, by omega⟩) ?_
    refine XO.q (Q.move rfl) (XO.done ?_)
    rw [← e1, ← e2]
    exact ih0 (i + 1) _ _ (by omega) (by first | omega | (dsimp only; omega)) (.c rfl (.c rfl (.c rfl (.base 37 rfl rfl)))) inferInstance
   ·skip
    have hin : i = (Ma.bestG (Ma.madeD x0)).1.charge.length := by omega
    subst hin
    obtain ⟨z1, z2, z3, z4, z5, z6, z7⟩ := id si
    have bl : (busV R (takenTo (Ma.bestG (Ma.madeD x0)).1.charge (Ma.bestG (Ma.madeD x0)).1.charge.length) (givenTo (Ma.bestG (Ma.madeD x0)).1.charge (Ma.bestG (Ma.madeD x0)).1.charge.length)).length = 4 := rfl
    refine XK.exit rfl ?_
    refine XK.seq (XK.region rfl ?_)
    refine XO.q (Q.build [_, _, _] (.c 0 1 rfl rfl rfl (.n _))) ?_
    refine XO.q (Q.build [_, _, _] (.n _)) ?_
    refine XO.q (Q.build [_, _, _] (.n _)) ?_
    refine XO.q (Q.build [_, _, _] (.n _)) ?_
    refine XO.lit [_, _, _, _, _, _, _, _, _, _, _, _] [_, _, _, _, _, _, _, _, _, _, _, _] [⟨-1, 0, 0⟩, ⟨0, 0, 0⟩, ⟨0, 0, 0⟩, ⟨0, 0, 0⟩] Me.encNode (by rfl) (by rfl) rfl (by rfl) (by exact .c 0 3 rfl rfl rfl (.c 3 3 rfl rfl rfl (.c 6 3 rfl rfl rfl (.c 9 3 rfl rfl rfl (.n _))))) (fun _ => rfl) (by rfl) rfl (by infer_instance) rfl fun v63 h63 O63 => ?_
    refine XO.q (Q.fieldAddr rfl) ?_
    refine XO.q (Q.ld rfl rfl) ?_
    refine XO.q (Q.fieldAddr rfl) ?_
    refine XO.q (Q.ld rfl rfl) ?_
    refine XO.q (Q.add rfl rfl ⟨by omega, by omega⟩) ?_
    refine XO.q (Q.move rfl) ?_
    refine XO.q (Q.add rfl rfl ⟨by omega, by omega⟩) ?_
    refine XO.q (Q.fieldAddr rfl) ?_
    refine XO.q (Q.ld rfl rfl) ?_
    refine XO.q (Q.fieldAddr rfl) ?_
    refine XO.q (Q.ld rfl rfl) ?_
    refine XO.q (Q.move rfl) ?_
    refine XO.lit [_, _, _, _] [_, _, _, _] (busV R (takenTo (Ma.bestG (Ma.madeD x0)).1.charge (Ma.bestG (Ma.madeD x0)).1.charge.length) (givenTo (Ma.bestG (Ma.madeD x0)).1.charge (Ma.bestG (Ma.madeD x0)).1.charge.length)) encI (by rfl) (by rfl) rfl (by rfl) (by exact .c 0 1 rfl rfl rfl (.c 1 1 rfl rfl rfl (.c 2 1 rfl rfl rfl (.c 3 1 rfl rfl rfl (.n _))))) (fun _ => rfl) (by rfl) rfl (by infer_instance) rfl fun v76 h76 O76 => ?_
    refine XO.q (Q.build [_, _] (.c 0 1 rfl rfl rfl (.c 1 1 rfl rfl rfl (.n _)))) ?_
    refine XO.alloc fun b17 => ?_
    refine XO.st rfl rfl rfl ?_
    refine XO.done (XK.seq (XK.seq (XK.region rfl ?_)))
    refine XO.q (Q.ldA [_, _] rfl rfl rfl) ?_
    refine XO.call Tryz.call33 rfl rfl rfl (Me.Broken_spec (⟨thN, (busV R (takenTo (Ma.bestG (Ma.madeD x0)).1.charge (Ma.bestG (Ma.madeD x0)).1.charge.length) (givenTo (Ma.bestG (Ma.madeD x0)).1.charge (Ma.bestG (Ma.madeD x0)).1.charge.length))⟩ : Me.MCase) v63 v76 h63 h76 (jn := O63.arr) (jv := O76.arr)) fun v80 s80 R80 => ?_
    obtain ⟨w1, kw1, rfl, rfl, OW1⟩ := R80
    dsimp only [lcA, lnA]
    rw [star_fine rfl (bus_rng si) (bus_bal si)] at OW1 ⊢
    dsimp only at OW1 ⊢
    refine XO.q (Q.move rfl) ?_
    refine XO.q (Q.extract rfl rfl) ?_
    refine XO.q (Q.extract rfl rfl) ?_
    refine XO.q (Q.assign rfl) (XO.q (Q.assign rfl) (XO.done (XK.seq (XK.region rfl (XO.q (Q.move rfl) ?_)))))
    refine XO.q (Q.neq rfl rfl) ?_
    refine XO.q (Q.move rfl) ?_
    refine XO.q (Quiet.guardF rfl rfl fun g86 p86 => Q.move rfl) ?_
    refine XO.q (Quiet.guardF rfl rfl fun g87 p87 => Q.len (lzv rfl rfl)) ?_
    refine XO.q (Quiet.guardF rfl rfl fun g88 p88 => Q.neq (lzv rfl rfl) rfl) ?_
    refine XO.q (Q.or rfl (fun hp => lzv hp rfl)) ?_
    refine XO.done ?_
    refine XK.if rfl (fun c3 => ?_) (fun c3 => ?_)
    ·skip
     simp at c3
    ·skip
     refine XK.skip (XK.seq (XK.region rfl (XO.q (Q.move rfl) ?_)))
     refine XO.q (Q.conv rfl) ?_
     rw [wrap64_of ⟨by omega, by omega⟩]
     refine XO.q (Q.rem rfl rfl (by omega) (by omega)) ?_
     rw [show (((n1 : Nat) : Int) % 4) = (((n1 % 4) : Nat) : Int) by omega]
     refine XO.alloc fun b20 => ?_
     refine XO.st rfl rfl rfl ?_
     refine XO.done (XK.seq (XK.seq (XK.region rfl ?_)))
     refine XO.q (Q.fieldAddr rfl) ?_
     refine XO.q (Q.ld rfl rfl) ?_
     refine XO.q (Q.ld rfl rfl) ?_
     refine XO.ix rfl rfl (by omega) (by omega) fun i96 => ?_
     refine XO.q (Q.ldE rfl (by first | assumption | omega) rfl) ?_
     refine XO.q (Q.move rfl) ?_
     refine XO.q (Q.conv rfl) ?_
     rw [wrap64_of ⟨by omega, by omega⟩]
     refine XO.q (Q.eql rfl rfl) ?_
     refine XO.done ?_
     refine XK.if rfl (fun c4 => ?_) (fun c4 => ?_)
     ·skip
      refine XK.seq (XK.region rfl ?_)
      refine XO.call Tryz.call14 rfl rfl rfl (there_spec) fun v101 s101 R101 => ?_
      obtain ⟨rfl, rfl⟩ := R101
      dsimp only [lcA, lnA]
      refine XO.q (Q.assign rfl) (XO.done ?_)
      refine XK.rt [] Tryz.func7 Tryz.results7 (.t rfl .n) ?_
      exact ⟨rfl, rfl⟩
     ·skip
      have hx : (busV R (takenTo (Ma.bestG (Ma.madeD x0)).1.charge (Ma.bestG (Ma.madeD x0)).1.charge.length) (givenTo (Ma.bestG (Ma.madeD x0)).1.charge (Ma.bestG (Ma.madeD x0)).1.charge.length)).getD (n1 % 4) 0 ≠ (n2 : Int) := c4
      have x0r : (0 : Int) ≤ (n2 : Int) ∧ (n2 : Int) ≤ 1000000000 := by omega
      have sf := star_false (v := ((busV R (takenTo (Ma.bestG (Ma.madeD x0)).1.charge (Ma.bestG (Ma.madeD x0)).1.charge.length) (givenTo (Ma.bestG (Ma.madeD x0)).1.charge (Ma.bestG (Ma.madeD x0)).1.charge.length)).set (n1 % 4) (n2 : Int))) (by rw [List.length_set]; rfl) (fun i hi => by rw [set_getDd' rfl hn4]; split; exact x0r; exact bus_rng si i hi) (star_set rfl (bus_bal si) hn4 hx)
      obtain ⟨L, eL, mL, oL⟩ := star_least rfl (bus_rng si) (bus_bal si) hn4 hx x0r
      refine XK.skip (XK.seq (XK.region rfl ?_))
      refine XO.q (Q.fieldAddr rfl) ?_
      refine XO.q (Q.ld rfl rfl) ?_
      refine XO.q (Q.ld rfl rfl) ?_
      refine XO.q (Q.move rfl) ?_
      refine XO.q (Q.conv rfl) ?_
      rw [wrap64_of ⟨by omega, by omega⟩]
      refine XO.ix rfl rfl (by omega) (by omega) fun i107 => ?_
      refine XO.stE _ rfl rfl rfl (by assumption) rfl rfl fun h21_6 O21_6 => ?_
      refine XO.done (XK.seq (XK.region rfl ?_))
      refine XO.q (Q.ldA [_, _] rfl rfl rfl) ?_
      refine XO.call Tryz.call33 rfl rfl rfl (Me.Broken_spec (⟨thN, ((busV R (takenTo (Ma.bestG (Ma.madeD x0)).1.charge (Ma.bestG (Ma.madeD x0)).1.charge.length) (givenTo (Ma.bestG (Ma.madeD x0)).1.charge (Ma.bestG (Ma.madeD x0)).1.charge.length)).set (n1 % 4) (n2 : Int))⟩ : Me.MCase) v63 v76 h63 h21_6 (jn := O63.arr) (jv := O21_6.arr)) fun v110 s110 R110 => ?_
      obtain ⟨w2, kw2, rfl, rfl, OW2⟩ := R110
      dsimp only [lcA, lnA]
      rw [sf] at OW2 ⊢
      dsimp only at OW2 ⊢
      refine XO.q (Q.move rfl) ?_
      refine XO.q (Q.extract rfl rfl) ?_
      refine XO.q (Q.extract rfl rfl) ?_
      refine XO.q (Q.assign rfl) (XO.q (Q.assign rfl) (XO.done (XK.seq (XK.region rfl ?_))))
      refine XO.q (Q.ldA [_, _] rfl rfl rfl) ?_
      refine XO.call Tryz.call34 rfl rfl rfl (Me.Least_spec (⟨thN, ((busV R (takenTo (Ma.bestG (Ma.madeD x0)).1.charge (Ma.bestG (Ma.madeD x0)).1.charge.length) (givenTo (Ma.bestG (Ma.madeD x0)).1.charge (Ma.bestG (Ma.madeD x0)).1.charge.length)).set (n1 % 4) (n2 : Int))⟩ : Me.MCase) v63 v76 h63 h21_6 (jn := O63.arr) (jv := O21_6.arr) (fun _ s hs => Me.combos_steps hs)) fun v115 s115 R115 => ?_
      obtain ⟨xL, yL, KL, us, rfl, rfl, OL, RL⟩ := R115
      dsimp only [lcA, lnA]
      rw [eL] at RL ⊢
      dsimp only at RL ⊢
      refine XO.q (Q.move rfl) ?_
      refine XO.q (Q.extract rfl rfl) ?_
      refine XO.q (Q.extract rfl rfl) ?_
      refine XO.q (Q.assign rfl) (XO.q (Q.assign rfl) (XO.done (XK.seq (XK.seq (XK.region rfl ?_)))))
      refine XO.q (Q.move rfl) ?_
      refine XO.q (Q.neq rfl rfl) ?_
      refine XO.q (Q.move rfl) ?_
      refine XO.q (Quiet.guardF rfl rfl fun g121 p121 => Q.move rfl) ?_
      refine XO.q (Quiet.guardF rfl rfl fun g122 p122 => Q.neq (lzv rfl rfl) rfl) ?_
      refine XO.q (Q.or rfl (fun hp => lzv hp rfl)) ?_
      refine XO.q (Q.move rfl) ?_
      refine XO.q (Quiet.guardF rfl rfl fun g125 p125 => Q.move rfl) ?_
      refine XO.litG [_] [_] [0] encI rfl rfl rfl (by rfl) (by rfl) rfl (by rfl) (by exact .c 0 1 rfl rfl rfl (.n _)) (fun _ => rfl) (by rfl) rfl (by infer_instance) rfl fun v126 h126 O126 => ?_
      refine XO.callS rfl rfl rfl Tryz.call35 rfl (.c (lzv rfl rfl) (.c rfl .n)) rfl (Bk.equalI w2 v126 kw2 h126 [0] [0]) fun v127 s127 R127 => ?_
      obtain ⟨rfl, rfl⟩ := R127
      dsimp only [lcA, lnA]
      refine XO.q (Quiet.guardF rfl rfl fun g128 p128 => Q.not rfl) ?_
      refine XO.q (Q.or rfl (fun hp => lzv hp rfl)) ?_
      refine XO.done ?_
      refine XK.if rfl (fun c5 => ?_) (fun c5 => ?_)
      ·skip
       simp at c5
      ·skip
       refine XK.skip (XK.seq (XK.region rfl (XO.q (Q.move rfl) ?_)))
       refine XO.q (Q.func (fun _ he => rfl) (fun _ he => evs_rel he rfl)) ?_
       refine XO.call Tryz.call36 rfl rfl rfl (Ma.containsRows xL yL us KL (L.map Me.ints) RL 37 [ptr b20 0] [blk b20 [.int .i64 ((n1 % 4) : Nat)] 3] (fun r => decide (r = [(((n1 % 4) : Nat) : Int)])) Tryz.call37 (fun i hi => by haveI := RL.2 i hi; exact named1 b20 _ _ KL _)) fun v132 s132 R132 => ?_
       obtain ⟨rfl, rfl⟩ := R132
       dsimp only [lcA, lnA]
       refine XO.q (Q.move rfl) ?_
       refine XO.q (Quiet.guardT rfl rfl fun g134 p134 => Q.move rfl) ?_
       refine XO.gcallT rfl rfl Tryz.call36 rfl (fun g135 => .c (lzv g135 rfl) (.c rfl .n)) rfl (fun g135 p135 => Ma.containsRows xL yL us KL (L.map Me.ints) RL 38 [] [] (fun r => decide (¬ (r.length : Int) = 1)) Tryz.call38 (fun i hi => by haveI := RL.2 i hi; exact named2 _ KL _)) ?_
       refine XO.q (Quiet.guardT rfl rfl fun g136 p136 => Q.not (lzv g136 rfl)) ?_
       refine XO.q (Q.and rfl (fun hp => lzv hp rfl)) ?_
       refine XO.q (Q.move rfl) ?_
       refine XO.gcallT rfl rfl Tryz.call14 rfl (fun g139 => .n) rfl (fun g139 p139 => there_spec) ?_
       refine XO.q (Q.and rfl (fun hp => lzv hp rfl)) ?_
       refine XO.q (Q.assign rfl) (XO.done ?_)
       refine XK.rt [] Tryz.func7 Tryz.results7 (.t rfl .n) ?_
       have q1 : (L.map Me.ints).any (fun r => decide (r = [(((n1 % 4) : Nat) : Int)])) = true := List.any_eq_true.2 ⟨[(((n1 % 4) : Nat) : Int)], List.mem_map.2 ⟨[(n1 % 4)], mL, rfl⟩, by simp⟩
       have q2 : (L.map Me.ints).any (fun r => decide (¬ (r.length : Int) = 1)) = false := by
        rw [← Bool.not_eq_true, List.any_eq_true]
        rintro ⟨r, hr, hd⟩
        obtain ⟨y, hy, rfl⟩ := List.mem_map.1 hr
        rw [decide_eq_true_eq, Me.ints_len, oL y hy] at hd
        exact hd rfl
       exact ⟨by rw [q1, q2]; rfl, rfl⟩
end Go.X
