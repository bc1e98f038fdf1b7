/- A part of the proof: a small program logic, plain laws and contracts of functions, each proved by a walk through its operations. No condition but those that stand in each theorem. -/
import Derived.Test.YtbeieafhcephmaaA5
set_option linter.unusedSimpArgs false
set_option linter.unusedVariables false
set_option maxRecDepth 20000
namespace Go.X
open Go.Proofs
theorem cloneH (v : Value) (h : PHeap) (xs : List KHour) [s : Arr v encHour 6 h xs] (hl : xs.length ≤ 68719476736) :
    Spec Try.prog 11 #[v] [] [h] (fun v' hs => ∃ h', hs = [h'] ∧ OArr v' encHour 6 39 h' xs) := by
  refine Spec.intro (fn := Try.f11) (N := 8) Try.func11 rfl Try.ntmps11 rfl fun B => ?_
  refine XK.seq ?_
  refine XK.region rfl ?_
  refine XO.q (Q.assign rfl) ?_
  refine XO.done ?_
  refine XK.seq ?_
  refine XK.seq ?_
  refine XK.region rfl ?_
  refine XO.q (Q.move rfl) ?_
  refine XO.eqNil rfl fun z4 hz4 => ?_
  refine XO.done ?_
  refine XK.if rfl (fun c0 => ?_) (fun c0 => ?_)
  · have _t0 := True.intro
    refine XK.seq ?_
    refine XK.region rfl ?_
    refine XO.q (Q.assign rfl) ?_
    refine XO.done ?_
    refine XK.rt [emp] Try.func11 Try.results11 (.t rfl .n) ?_
    exact ⟨emp, rfl, by rw [(hz4 c0).1]; exact OArr.nil (fun _ => rfl)⟩
  · have _t0 := True.intro
    refine XK.skip ?_
    refine XK.seq ?_
    refine XK.region rfl ?_
    refine XO.lit [] [] [] encHour (by rfl) (by rfl) rfl (by rfl) (by exact .n _) (fun _ => rfl) (by rfl) rfl (by infer_instance) rfl fun v5 h5 O5 => ?_
    refine XO.q (Q.move rfl) ?_
    refine XO.append rfl rfl rfl rfl (by first | omega | (simp; omega)) fun v7 h7 O7 => ?_
    refine XO.q (Q.assign rfl) ?_
    refine XO.done ?_
    refine XK.rt [h7] Try.func11 Try.results11 (.t rfl .n) ?_
    exact ⟨h7, rfl, O7⟩
theorem quo8 (y : UInt8) : IntKind.u8.wrap (((y.toNat : Nat) : Int).tdiv 128) = (y.toNat : Int) / 128 := by
  have := y.toNat_lt
  rw [Int.tdiv_eq_ediv_of_nonneg (by omega)]
  simp [IntKind.wrap, IntKind.bits]
  omega
theorem step_grow {v : Value} {h : PHeap} {L0 L1 : List KHour} {i : Nat} {y : UInt8} {e : KHour} (e1 : L1 = L0.set i e) (g1 : L1.getD i default = e) (he : e = ⟨(L0.getD i default).buy, (L0.getD i default).sell, (L0.getD i default).sun, (L0.getD i default).load - (y.toNat : Int) % ((L0.getD i default).load + 1), (L0.getD i default).carbon, (L0.getD i default).water⟩)
    (o : OArr v encHour 6 39 h (L1.set i ⟨(L1.getD i default).buy, (L1.getD i default).sell, (L1.getD i default).sun + (y.toNat : Int) / 128, (L1.getD i default).load, (L1.getD i default).carbon, (L1.getD i default).water⟩)) : OArr v encHour 6 39 h (L0.set i (growH (L0.getD i default) y)) := by
  rw [g1, e1, List.set_set, he] at o
  exact o
set_option maxHeartbeats 4000000 in
set_option synthInstance.maxSize 1000 in
theorem MarketGrows_spec (v0 : Value) (h0 : PHeap) (x0 : List UInt8) [i0 : Arr v0 encU8 1 h0 x0] (n1 : Nat) (hn1 : n1 < 256) (n2 : Nat) (hn2 : n2 < 256) (v3 : Value) (h3 : PHeap) (x3 : List UInt8) [i3 : Arr v3 encU8 1 h3 x3] : Spec Try.prog 3 #[v0, .int .u8 (n1 : Nat), .int .u8 (n2 : Nat), v3] [] [h0, h3] (fun v hs => v = .bool true ∧ hs = []) := by
  have l3 := i3.le
  refine Spec.intro (fn := Try.f3) (N := 130) Try.func3 rfl Try.ntmps3 rfl fun B => ?_
  refine XK.seq ?_
  refine XK.region rfl ?_
  refine XO.q (Q.assign rfl) ?_
  refine XO.done ?_
  refine XK.seq ?_
  refine XK.region rfl ?_
  refine XO.q (Q.move rfl) ?_
  refine XO.call Try.call9 rfl rfl rfl (Made_spec v0 h0 x0) fun v20 s20 R20 => ?_
  obtain ⟨vh, vj, kh, kj, rfl, rfl, OH, OJ⟩ := R20
  dsimp only [List.cons_append, List.nil_append]
  have ok := made_ok x0
  have ml := made_len x0
  have mm := made_most x0
  have mh := fun i hi => made_hour x0 (i := i) hi
  have gk := grow_ok x0 (m := ((n1 : Nat) : Int)) (p := ((n2 : Nat) : Int)) (by omega) (by omega) x3
  obtain ⟨d, ed⟩ : ∃ d, d = madeD x0 := ⟨_, rfl⟩
  rw [← ed] at OH OJ ok ml mm mh gk ⊢
  clear ed
  have sn := starts_one ok
  have h24 := ok.h2
  have pk0 := ok.p0
  have pk1 := ok.p1
  have nm := Int.emod_nonneg ((n2 : Nat) : Int) (show d.peak + 1 ≠ 0 by omega)
  have nm2 := Int.emod_lt_of_pos ((n2 : Nat) : Int) (show 0 < d.peak + 1 by omega)
  refine XO.alloc fun b9 => ?_
  refine XO.st rfl rfl rfl ?_
  refine XO.done ?_
  refine XK.seq ?_
  refine XK.region rfl ?_
  refine XO.q (Q.ldA [_, _, _, _, _, _, _, _] rfl rfl rfl) ?_
  refine XO.call Try.call10 rfl rfl rfl (Best_spec d vh vj kh kj) fun v23 s23 R23 => ?_
  obtain ⟨vs, vc, vp, K, kc2, kp, pus, KP, tabs, rfl, rfl, ow, AS, OC, OP, RP, _, _⟩ := R23
  dsimp only [List.cons_append, List.nil_append]
  refine XO.q (Q.move rfl) ?_
  refine XO.q (Q.extract rfl rfl) ?_
  refine XO.q (Q.extract rfl rfl) ?_
  refine XO.q (Q.extract rfl rfl) ?_
  refine XO.alloc fun b10 => ?_
  refine XO.st rfl rfl rfl ?_
  refine XO.q (Q.assign rfl) ?_
  refine XO.q (Q.assign rfl) ?_
  refine XO.done ?_
  refine XK.seq ?_
  refine XK.meet (X := Nat × Value × PHeap) [13, 27, 28, 29, 30, 31, 32, 33, 34, 35, 36, 37, 38, 39, 40, 41, 42, 43, 44, 45, 46, 47, 48, 49, 50] (fun ⟨b13, v29, k29⟩ => [(13, some (ptr b13 0))]) (fun ⟨b13, v29, k29⟩ => [blk b13 [v29, .int .i64 d.store.energy, .int .i64 d.store.full, .int .i64 d.store.power, .int .i64 d.store.fin, vj, .int .i64 (min (d.most + ((n1 : Nat) : Int) % 9) 40), .int .i64 (d.peak - ((n2 : Nat) : Int) % (d.peak + 1))] 28, k29]) (fun ⟨b13, v29, k29⟩ => OArr v29 encHour 6 39 k29 d.hours) [] ?_ ?_
  · rintro ⟨b13, v29, k29⟩ O29
    dsimp only [List.cons_append, List.nil_append]
    refine XK.seq ?_
    refine XK.seq ?_
    refine XK.region rfl ?_
    refine XO.q (Q.fieldAddr rfl) ?_
    refine XO.q (Q.ld rfl rfl) ?_
    refine XO.len rfl fun l53 => ?_
    refine XO.q (Q.move rfl) ?_
    refine XO.done ?_
    refine XK.block ?_
    refine XK.while (X := Nat × PHeap) [14, 15, 54, 55, 56, 57, 58, 59, 60, 61, 62, 63, 64, 65, 66, 67, 68, 69, 70, 71, 72, 73, 74, 75, 76, 77, 78, 79, 80, 81, 82, 83, 84, 85, 86, 87, 88, 89, 90, 91, 92, 93, 94, 95, 96] (fun ⟨i, kq⟩ => [(54, some (.int .i64 (i : Nat)))]) (fun ⟨i, kq⟩ => [kq]) (fun ⟨i, kq⟩ => i ≤ d.hours.length ∧ OArr v29 encHour 6 39 kq (growTo d.hours x3 i)) (fun ⟨i, kq⟩ => d.hours.length - i) (0, k29) [k29] rfl ⟨by omega, by rw [growTo_zero]; exact O29⟩ (.c rfl (.base 0 rfl rfl)) ?_
    rintro ⟨i, kq⟩ ⟨hi, OQ⟩ ih0
    dsimp only [List.cons_append, List.nil_append] at ih0 ⊢
    refine XK.seq ?_
    refine XK.region rfl ?_
    refine XO.q (Q.lss rfl rfl) ?_
    refine XO.done ?_
    refine XK.seq ?_
    refine XK.if rfl (fun c0 => ?_) (fun c0 => ?_)
    · have _t0 := True.intro
      have gl0 : (growTo d.hours x3 i).length = d.hours.length := growTo_len _ _ _
      have g0 : ((growTo d.hours x3 i).getD i default) = d.hours.getD i default := by rw [growTo_at (by omega), if_neg (by omega)]
      have hk := mh i (by omega)
      have hk1 := hk.u0
      have hk2 := hk.u1
      have hk3 := hk.l0
      have hk4 := hk.l1
      rw [← g0] at hk1 hk2 hk3 hk4
      have yr := byt_rngK x3 i
      have ym := Int.emod_nonneg ((x3.getD i default).toNat : Int) (show ((growTo d.hours x3 i).getD i default).load + 1 ≠ 0 by omega)
      have ym2 := Int.emod_lt_of_pos ((x3.getD i default).toNat : Int) (show 0 < ((growTo d.hours x3 i).getD i default).load + 1 by omega)
      refine XK.skip ?_
      refine XK.seq ?_
      refine XK.block ?_
      refine XK.seq ?_
      refine XK.region rfl ?_
      refine XO.q (Q.move rfl) ?_
      refine XO.q (Q.assign rfl) ?_
      refine XO.done ?_
      refine XK.seq ?_
      refine XK.region rfl ?_
      refine XO.q (Q.move rfl) ?_
      refine XO.q (Q.move rfl) ?_
      refine XO.len rfl fun l59 => ?_
      refine XO.q (Q.lss rfl rfl) ?_
      refine XO.done ?_
      refine XK.if rfl (fun c1 => ?_) (fun c1 => ?_)
      · have _t1 := True.intro
        refine XK.seq ?_
        refine XK.region rfl ?_
        refine XO.q (Q.fieldAddr rfl) ?_
        refine XO.q (Q.ld rfl rfl) ?_
        refine XO.q (Q.move rfl) ?_
        refine XO.ix rfl rfl (by omega) (by omega) fun i64 => ?_
        refine XO.q (Q.assign rfl) ?_
        refine XO.done ?_
        refine XK.seq ?_
        refine XK.drawn [0, 1, 2, 3, 4, 5, 6, 7, 8, 9, 10, 11, 12, 13, 14, 15, 17] [] [kq] (.q 0 (.q 1 (.q 2 (.q 3 (.q 4 (.q 5 (.q 6 (.q 7 (.q 8 (.q 9 (.q 10 (.q 11 (.q 12 (.q 13 (.q 14 (.q 15 (.br 16 true (.q 17 (.br 18 false .done .stop)) .stop))))))))))))))))) Try.mixed rfl (by kernel_rfl) ?_
        refine XT.q rfl rfl (Q.move rfl) ?_
        refine XT.q rfl rfl (Q.nilCheckE rfl (by first | assumption | omega)) ?_
        refine XT.q rfl rfl (Q.fieldQ rfl (by first | assumption | omega)) ?_
        refine XT.q rfl rfl (Q.ldE rfl (by first | assumption | omega) rfl) ?_
        refine XT.q rfl rfl (Q.move rfl) ?_
        refine XT.q rfl rfl (Q.move rfl) ?_
        refine XT.ix rfl rfl rfl rfl (by omega) (by omega) fun i71 => ?_
        refine XT.q rfl rfl (Q.ldE rfl (by first | assumption | omega) rfl) ?_
        refine XT.q rfl rfl (Q.conv rfl) ?_
        rw [wrap64_of ⟨by omega, by omega⟩]
        refine XT.q rfl rfl (Q.move rfl) ?_
        refine XT.q rfl rfl (Q.nilCheckE rfl (by first | assumption | omega)) ?_
        refine XT.q rfl rfl (Q.fieldQ rfl (by first | assumption | omega)) ?_
        refine XT.q rfl rfl (Q.ldE rfl (by first | assumption | omega) rfl) ?_
        refine XT.q rfl rfl (Q.add rfl rfl ⟨by omega, by omega⟩) ?_
        refine XT.q rfl rfl (Q.rem rfl rfl (by omega) (by omega)) ?_
        refine XT.q rfl rfl (Q.sub rfl rfl ⟨by omega, by omega⟩) ?_
        refine XT.qs rfl rfl (Q.nilCheckE rfl (by first | assumption | omega)) ⟨inferInstance, ?_⟩ XT.stop
        refine XT.q rfl rfl (Q.fieldQ rfl (by first | assumption | omega)) ?_
        refine XT.stE (⟨((growTo d.hours x3 i).getD i default).buy, ((growTo d.hours x3 i).getD i default).sell, ((growTo d.hours x3 i).getD i default).sun, ((growTo d.hours x3 i).getD i default).load - ((x3.getD i default).toNat : Int) % (((growTo d.hours x3 i).getD i default).load + 1), ((growTo d.hours x3 i).getD i default).carbon, ((growTo d.hours x3 i).getD i default).water⟩ : KHour) rfl rfl rfl rfl rfl (by assumption) rfl rfl (fun h9_18 O9_18 => ⟨inferInstance, ?_⟩) XT.stop
        obtain ⟨L1, eL1⟩ : ∃ L, L = (growTo d.hours x3 i).set i (⟨((growTo d.hours x3 i).getD i default).buy, ((growTo d.hours x3 i).getD i default).sell, ((growTo d.hours x3 i).getD i default).sun, ((growTo d.hours x3 i).getD i default).load - ((x3.getD i default).toNat : Int) % (((growTo d.hours x3 i).getD i default).load + 1), ((growTo d.hours x3 i).getD i default).carbon, ((growTo d.hours x3 i).getD i default).water⟩ : KHour) := ⟨_, rfl⟩
        rw [← eL1] at O9_18
        have l1 : L1.length = d.hours.length := by rw [eL1, List.length_set]; exact growTo_len _ _ _
        have g1 : L1.getD i default = (⟨((growTo d.hours x3 i).getD i default).buy, ((growTo d.hours x3 i).getD i default).sell, ((growTo d.hours x3 i).getD i default).sun, ((growTo d.hours x3 i).getD i default).load - ((x3.getD i default).toNat : Int) % (((growTo d.hours x3 i).getD i default).load + 1), ((growTo d.hours x3 i).getD i default).carbon, ((growTo d.hours x3 i).getD i default).water⟩ : KHour) := by rw [eL1, List.getD_eq_getElem?_getD, List.getElem?_set_self (by omega)]; rfl
        have il1 : i < L1.length := by omega
        have gs1 : (L1.getD i default).sun = ((growTo d.hours x3 i).getD i default).sun := by rw [g1]
        refine XT.done ?_
        refine XK.drawn [0, 1, 2, 3, 4, 5, 6, 7, 8, 9, 10, 12] [] [h9_18] (.q 0 (.q 1 (.q 2 (.q 3 (.q 4 (.q 5 (.q 6 (.q 7 (.q 8 (.q 9 (.q 10 (.br 11 true (.q 12 (.br 13 false .done .stop)) .stop)))))))))))) Try.mixed rfl (by kernel_rfl) ?_
        refine XT.q rfl rfl (Q.move rfl) ?_
        refine XT.q rfl rfl (Q.nilCheckE rfl (by first | assumption | omega)) ?_
        refine XT.q rfl rfl (Q.fieldQ rfl (by first | assumption | omega)) ?_
        refine XT.q rfl rfl (Q.ldE rfl (by first | assumption | omega) rfl) ?_
        refine XT.q rfl rfl (Q.move rfl) ?_
        refine XT.q rfl rfl (Q.move rfl) ?_
        refine XT.ix rfl rfl rfl rfl (by omega) (by omega) fun i89 => ?_
        refine XT.q rfl rfl (Q.ldE rfl (by first | assumption | omega) rfl) ?_
        refine XT.q rfl rfl (Q.quoT rfl rfl (by decide)) ?_
        rw [quo8 (x3.getD i default)]
        refine XT.q rfl rfl (Q.conv rfl) ?_
        rw [wrap64_of ⟨by omega, by omega⟩]
        refine XT.q rfl rfl (Q.add rfl rfl ⟨by omega, by omega⟩) ?_
        refine XT.qs rfl rfl (Q.nilCheckE rfl (by first | assumption | omega)) ⟨inferInstance, ?_⟩ XT.stop
        refine XT.q rfl rfl (Q.fieldQ rfl (by first | assumption | omega)) ?_
        refine XT.stE (⟨(L1.getD i default).buy, (L1.getD i default).sell, (L1.getD i default).sun + ((x3.getD i default).toNat : Int) / 128, (L1.getD i default).load, (L1.getD i default).carbon, (L1.getD i default).water⟩ : KHour) rfl rfl rfl rfl rfl (by assumption) rfl rfl (fun h10_13 O10_13 => ⟨inferInstance, ?_⟩) XT.stop
        refine XT.done ?_
        refine XK.inBlock ?_
        refine XK.region rfl ?_
        refine XO.q (Q.add rfl rfl ⟨by omega, by omega⟩) ?_
        refine XO.q (Q.move rfl) ?_
        refine XO.done ?_
        exact ih0 (i + 1, h10_13) _ _ ⟨by dsimp only; omega, by dsimp only; rw [growTo_step (by omega) (by omega), ← g0]; exact step_grow eL1 g1 rfl O10_13⟩ (by first | omega | (dsimp only; omega)) (.c rfl (.base 91 rfl rfl)) inferInstance
      · have _t1 := True.intro
        have ge : growTo d.hours x3 (i + 1) = growTo d.hours x3 i := growTo_off (by omega)
        refine XK.skip ?_
        refine XK.inBlock ?_
        refine XK.region rfl ?_
        refine XO.q (Q.add rfl rfl ⟨by omega, by omega⟩) ?_
        refine XO.q (Q.move rfl) ?_
        refine XO.done ?_
        exact ih0 (i + 1, kq) _ _ ⟨by dsimp only; omega, by dsimp only; rw [ge]; exact OQ⟩ (by first | omega | (dsimp only; omega)) (.c rfl (.base 55 rfl rfl)) inferInstance
    · have _t0 := True.intro
      have hin : i = d.hours.length := by omega
      subst hin
      have aq : OArr v29 encHour 6 39 kq (growD d (n1 : Nat) (n2 : Nat) x3).hours := OQ
      have aj : OArr vj encJob 4 77 kj (growD d (n1 : Nat) (n2 : Nat) x3).jobs := OJ
      refine XK.exit rfl ?_
      refine XK.seq ?_
      refine XK.region rfl ?_
      refine XO.q (Q.ldA [_, _, _, _, _, _, _, _] rfl rfl rfl) ?_
      refine XO.call Try.call10 rfl rfl rfl (Best_spec (growD d (n1 : Nat) (n2 : Nat) x3) v29 vj kq kj) fun v99 s99 R99 => ?_
      obtain ⟨vs2, vc2, vp2, K2, kc3, kp2, pus2, KP2, tabs2, rfl, rfl, ow2, AS2, OC2, OP2, RP2, _, _⟩ := R99
      dsimp only [List.cons_append, List.nil_append]
      refine XO.q (Q.move rfl) ?_
      refine XO.q (Q.extract rfl rfl) ?_
      refine XO.q (Q.extract rfl rfl) ?_
      refine XO.q (Q.extract rfl rfl) ?_
      refine XO.alloc fun b16 => ?_
      refine XO.st rfl rfl rfl ?_
      refine XO.q (Q.assign rfl) ?_
      refine XO.q (Q.assign rfl) ?_
      refine XO.done ?_
      refine XK.seq ?_
      refine XK.seq ?_
      refine XK.region rfl ?_
      refine XO.q (Q.move rfl) ?_
      refine XO.q (Q.eql rfl rfl) ?_
      refine XO.done ?_
      refine XK.if rfl (fun c2 => ?_) (fun c2 => ?_)
      · have _t2 := True.intro
        refine XK.seq ?_
        refine XK.region rfl ?_
        refine XO.q (Q.move rfl) ?_
        refine XO.q (Q.eql rfl rfl) ?_
        refine XO.q (Q.move rfl) ?_
        refine XO.q (Quiet.guardF rfl rfl fun g108 p108 => Q.move rfl) ?_
        refine XO.q (Quiet.guardF rfl rfl fun g109 p109 => Q.eql (lzv g109 rfl) rfl) ?_
        refine XO.q (Q.or rfl (fun hp => lzv hp rfl)) ?_
        refine XO.q (Q.move rfl) ?_
        refine XO.gcallT rfl rfl Try.call12 rfl (fun g112 => .n) rfl (fun g112 p112 => awake10) ?_
        refine XO.q (Q.and rfl (fun hp => lzv hp rfl)) ?_
        refine XO.q (Q.assign rfl) ?_
        refine XO.done ?_
        refine XK.rt [] Try.func3 Try.results3 (.t rfl .n) ?_
        refine ⟨?_, rfl⟩
        rcases best_errs gk.ok with h | h <;> rw [h] <;> rfl
      · have _t2 := True.intro
        have b0 : (bestG d).2 = 0 := (best_errs ok).resolve_right c2
        refine XK.skip ?_
        refine XK.seq ?_
        refine XK.region rfl ?_
        refine XO.q (Q.move rfl) ?_
        refine XO.q (Q.eql rfl rfl) ?_
        refine XO.q (Q.move rfl) ?_
        refine XO.q (Quiet.guardT rfl rfl fun g117 p117 => Q.move rfl) ?_
        refine XO.q (Quiet.guardT rfl rfl fun g118 p118 => Q.eql (lzv g118 rfl) rfl) ?_
        refine XO.q (Q.and rfl (fun hp => lzv hp rfl)) ?_
        refine XO.q (Q.move rfl) ?_
        refine XO.q (Quiet.guardT rfl rfl fun g121 p121 => Q.fieldAddr rfl) ?_
        refine XO.q (Quiet.guardT rfl rfl fun g122 p122 => Q.ld (lzv g122 rfl) rfl) ?_
        refine XO.q (Quiet.guardT rfl rfl fun g123 p123 => Q.fieldAddr rfl) ?_
        refine XO.q (Quiet.guardT rfl rfl fun g124 p124 => Q.ld (lzv g124 rfl) rfl) ?_
        refine XO.q (Quiet.guardT rfl rfl fun g125 p125 => Q.leq (lzv g125 rfl) (lzv g125 rfl)) ?_
        refine XO.q (Q.and rfl (fun hp => lzv hp rfl)) ?_
        refine XO.q (Q.move rfl) ?_
        refine XO.gcallT rfl rfl Try.call12 rfl (fun g128 => .n) rfl (fun g128 p128 => awake10) ?_
        refine XO.q (Q.and rfl (fun hp => lzv hp rfl)) ?_
        refine XO.q (Q.assign rfl) ?_
        refine XO.done ?_
        refine XK.rt [] Try.func3 Try.results3 (.t rfl .n) ?_
        obtain ⟨a, b⟩ := grow_law ok gk b0
        refine ⟨?_, rfl⟩
        rw [b0, a]; simp [b]
  · intro mtr3
    dsimp only [List.cons_append, List.nil_append] at mtr3
    refine XK.drawn [0, 1, 3, 4, 5, 6, 7, 8, 9, 10, 11, 12, 13, 14, 15, 16, 17, 18, 19, 20, 21, 22, 23] [b9] [kh, kj] (.q 0 (.q 1 (.q 3 (.q 4 (.q 5 (.q 6 (.q 7 (.q 8 (.q 9 (.q 10 (.q 11 (.q 12 (.q 13 (.q 14 (.q 15 (.q 16 (.q 17 (.q 18 (.q 19 (.q 20 (.q 21 (.q 22 (.br 2 true (.q 23 (.br 24 true (.br 25 false .done .stop) .stop)) (.br 24 true (.br 2 true (.q 23 (.br 25 false .done .stop)) .stop) .stop)))))))))))))))))))))))) Try.mixed rfl (by kernel_rfl) ?_
    refine XT.q rfl rfl (Q.fieldAddr rfl) ?_
    refine XT.q rfl rfl (Q.ld rfl rfl) ?_
    refine XT.q rfl rfl (Q.fieldAddr rfl) ?_
    refine XT.q rfl rfl (Q.ldA [_, _, _, _] rfl rfl rfl) ?_
    refine XT.q rfl rfl (Q.fieldAddr rfl) ?_
    refine XT.q rfl rfl (Q.ld rfl rfl) ?_
    refine XT.q rfl rfl (Q.fieldAddr rfl) ?_
    refine XT.q rfl rfl (Q.ld rfl rfl) ?_
    refine XT.q rfl rfl (Q.move rfl) ?_
    refine XT.q rfl rfl (Q.rem rfl rfl (by omega) (by omega)) ?_
    refine XT.q rfl rfl (Q.conv rfl) ?_
    rw [wrap64_of ⟨by omega, by omega⟩]
    refine XT.q rfl rfl (Q.add rfl rfl ⟨by omega, by omega⟩) ?_
    refine XT.q rfl rfl (Q.min rfl rfl) ?_
    refine XT.q rfl rfl (Q.fieldAddr rfl) ?_
    refine XT.q rfl rfl (Q.ld rfl rfl) ?_
    refine XT.q rfl rfl (Q.move rfl) ?_
    refine XT.q rfl rfl (Q.conv rfl) ?_
    rw [wrap64_of ⟨by omega, by omega⟩]
    refine XT.q rfl rfl (Q.fieldAddr rfl) ?_
    refine XT.q rfl rfl (Q.ld rfl rfl) ?_
    refine XT.q rfl rfl (Q.add rfl rfl ⟨by omega, by omega⟩) ?_
    refine XT.q rfl rfl (Q.rem rfl rfl (by omega) (by omega)) ?_
    refine XT.q rfl rfl (Q.sub rfl rfl ⟨by omega, by omega⟩) ?_
    refine XT.call rfl rfl Try.call11 rfl rfl rfl (cloneH vh kh d.hours (by omega)) (fun v29 s29 R29 => ?_) ?_
    · skip
      obtain ⟨k29, rfl, O29⟩ := R29
      dsimp only [List.cons_append, List.nil_append]
      refine ⟨inferInstance, ?_⟩
      refine XT.q rfl rfl (Q.build [_, _, _, _, _, _, _, _] (.c 0 1 rfl rfl rfl (.c 1 4 rfl rfl rfl (.c 5 1 rfl rfl rfl (.c 6 1 rfl rfl rfl (.c 7 1 rfl rfl rfl (.n _))))))) ?_
      refine XT.alloc rfl rfl (fun b13 => ⟨inferInstance, ?_⟩) XT.stop
      refine XT.st rfl rfl rfl rfl rfl ⟨inferInstance, ?_⟩ XT.stop
      refine XT.done ?_
      exact mtr3 ((b13, v29, k29)) _ _ O29 (.c rfl (.base 25 rfl rfl)) inferInstance
    · skip
      refine XT.alloc rfl rfl (fun b13 => ⟨inferInstance, ?_⟩) XT.stop
      refine XT.call rfl rfl Try.call11 rfl rfl rfl (cloneH vh kh d.hours (by omega)) (fun v29 s29 R29 => ?_) XT.stop
      obtain ⟨k29, rfl, O29⟩ := R29
      dsimp only [List.cons_append, List.nil_append]
      refine ⟨inferInstance, ?_⟩
      refine XT.q rfl rfl (Q.build [_, _, _, _, _, _, _, _] (.c 0 1 rfl rfl rfl (.c 1 4 rfl rfl rfl (.c 5 1 rfl rfl rfl (.c 6 1 rfl rfl rfl (.c 7 1 rfl rfl rfl (.n _))))))) ?_
      refine XT.st rfl rfl rfl rfl rfl ⟨inferInstance, ?_⟩ XT.stop
      refine XT.done ?_
      exact mtr3 ((b13, v29, k29)) _ _ O29 (.c rfl (.base 25 rfl rfl)) inferInstance
end Go.X
