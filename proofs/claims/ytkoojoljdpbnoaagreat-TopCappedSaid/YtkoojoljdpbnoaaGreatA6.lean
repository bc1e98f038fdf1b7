/- A part of the proof: a small program logic, plain laws and contracts of functions, each proved by a walk through its operations. No condition but those that stand in each theorem. -/
import Derived.Test.YtkoojoljdpbnoaaGreatA5
set_option linter.unusedSimpArgs false
set_option linter.unusedVariables false
set_option maxRecDepth 20000
namespace Go.X.Pl
open Go.Proofs
theorem rackR_spec (r : PRack) : Spec Tryz.prog 170 #[.agg #[.int .i64 r.r0, .int .i64 r.r1, .int .i64 r.r2, .int .i64 r.cap, .int .i64 r.domain]] [] [] (fun v hs => v = .bool (rackR r) ∧ hs = []) := by
 refine Spec.intro (fn := Tryz.f170) (N := 18) Tryz.func170 rfl Tryz.ntmps170 rfl fun B => ?_
 refine XK.seq (XK.region rfl ?_)
 refine XO.box rfl fun b1 => ?_
 refine XO.q (Q.assign rfl) (XO.done (XK.seq (XK.region rfl ?_)))
 refine XO.q (Q.fieldAddr rfl) ?_
 refine XO.q (Q.sliceA rfl) ?_
 refine XO.call Tryz.call174 rfl rfl rfl (by haveI := arr3 (b := b1) (a0 := r.r0) (a1 := r.r1) (a2 := r.r2) (rest := [.int .i64 r.cap, .int .i64 r.domain]) (T := 85); exact pin_spec 1000000 (.slice (some ⟨b1, 0, none⟩) 3 3) (blk b1 (.int .i64 r.r0 :: .int .i64 r.r1 :: .int .i64 r.r2 :: [.int .i64 r.cap, .int .i64 r.domain]) 85) [r.r0, r.r1, r.r2]) fun v5 s5 R5 => ?_
 obtain ⟨rfl, rfl⟩ := R5
 dsimp only [lcA, lnA]
 refine XO.q (Q.move rfl) ?_
 refine XO.q (Quiet.guardT rfl rfl fun g7 p7 => Q.fieldAddr rfl) ?_
 refine XO.q (Quiet.guardT rfl rfl fun g8 p8 => Q.ld (lzv g8 rfl) rfl) ?_
 refine XO.lit1 [_] [_] [r.cap] encI rfl rfl (by rfl) (by rfl) rfl (by rfl) (fun g9 => by exact .c 0 1 (lzv g9 rfl) rfl rfl (.n _)) (fun _ => rfl) (by rfl) rfl (fun _ => by infer_instance) rfl (fun v9 h9 O9 => ?_)
 refine XO.gcallT rfl rfl Tryz.call174 rfl (fun g10 => .c rfl (.c (lzv g10 rfl) .n)) rfl (fun g10 p10 => by haveI := O9 g10; exact pin_spec 10000 v9 h9 [r.cap]) ?_
 refine XO.q (Q.and rfl (fun hp => lzv hp rfl)) ?_
 refine XO.q (Q.move rfl) ?_
 refine XO.q (Quiet.guardT rfl rfl fun g13 p13 => Q.fieldAddr rfl) ?_
 refine XO.q (Quiet.guardT rfl rfl fun g14 p14 => Q.ld (lzv g14 rfl) rfl) ?_
 refine XO.lit1 [_] [_] [r.domain] encI rfl rfl (by rfl) (by rfl) rfl (by rfl) (fun g15 => by exact .c 0 1 (lzv g15 rfl) rfl rfl (.n _)) (fun _ => rfl) (by rfl) rfl (fun _ => by infer_instance) rfl (fun v15 h15 O15 => ?_)
 refine XO.gcallT rfl rfl Tryz.call174 rfl (fun g16 => .c rfl (.c (lzv g16 rfl) .n)) rfl (fun g16 p16 => by haveI := O15 g16; exact pin_spec 100 v15 h15 [r.domain]) ?_
 refine XO.q (Q.and rfl (fun hp => lzv hp rfl)) ?_
 refine XO.q (Q.assign rfl) (XO.done ?_)
 refine XK.rt [] Tryz.func170 Tryz.results170 (.t rfl .n) ?_
 exact ⟨rfl, rfl⟩
theorem draws_next {j : PJob} {i : Nat} (h : ∀ k, k < i → DrawOk j.draws k) (hi : DrawOk j.draws i) : ∀ k, k < i + 1 → DrawOk j.draws k := fun k hk => by
 by_cases e : k = i
 ·subst e; exact hi
 ·exact h k (by omega)
theorem jobR_no {j : PJob} (h : (((¬pin 1000000 [j.n0, j.n1, j.n2] = true ∨ ¬pin 100 [j.group] = true) ∨ ¬pin 1000000 [j.worth] = true) ∨ (j.draws.length : Int) < 1) ∨ 8 < (j.draws.length : Int)) : jobR j = false := by
 refine Bool.eq_false_iff.2 fun hc => ?_
 have k := jobR_iff.1 hc
 have := k.few
 rcases h with (((h | h) | h) | h) | h
 ·exact h k.need
 ·exact h (pin_one.2 k.grp)
 ·exact h (pin_one.2 k.wor)
 ·omega
 ·omega
theorem jobR_yes {j : PJob} (h : ¬ ((((¬pin 1000000 [j.n0, j.n1, j.n2] = true ∨ ¬pin 100 [j.group] = true) ∨ ¬pin 1000000 [j.worth] = true) ∨ (j.draws.length : Int) < 1) ∨ 8 < (j.draws.length : Int))) (hg : ∀ k, k < j.draws.length → DrawOk j.draws k) : jobR j = true := by
 simp only [not_or, Decidable.not_not, pin_one] at h
 obtain ⟨⟨⟨⟨a, b⟩, c⟩, d⟩, e⟩ := h
 exact jobR_iff.2 ⟨a, b, c, ⟨by omega, by omega⟩, hg⟩
theorem drawOk_no {l : List PDraw} {i : Nat} (h : ((¬pin 1000 [(l.getD i default).power] = true ∨ (l.getD i default).count < 1) ∨ 64 < (l.getD i default).count) ∨ 0 < (i : Int) ∧ (l.getD i default).power ≤ (l.getD ((i : Int) - 1).toNat default).power) : ¬ DrawOk l i := fun hd => by
 unfold DrawOk at hd
 rw [pin_one] at h
 rw [show ((i : Int) - 1).toNat = i - 1 by omega] at h
 omega
theorem drawOk_yes {l : List PDraw} {i : Nat} (h : ¬ (((¬pin 1000 [(l.getD i default).power] = true ∨ (l.getD i default).count < 1) ∨ 64 < (l.getD i default).count) ∨ 0 < (i : Int) ∧ (l.getD i default).power ≤ (l.getD ((i : Int) - 1).toNat default).power)) : DrawOk l i := by
 unfold DrawOk
 rw [pin_one] at h
 rw [show ((i : Int) - 1).toNat = i - 1 by omega] at h
 omega
set_option maxHeartbeats 2000000 in
theorem jobR_spec (j : PJob) (vd : Value) (hd : PHeap) [id_ : Arr vd encDraw 2 hd j.draws] : Spec Tryz.prog 126 #[.agg #[.int .i64 j.n0, .int .i64 j.n1, .int .i64 j.n2, vd, .int .i64 j.group, .int .i64 j.worth]] [] [hd] (fun v hs => v = .bool (jobR j) ∧ hs = []) := by
 have ld := id_.le
 refine Spec.intro (fn := Tryz.f126) (N := 75) Tryz.func126 rfl Tryz.ntmps126 rfl fun B => ?_
 refine XK.seq (XK.region rfl ?_)
 refine XO.box rfl fun b1 => ?_
 refine XO.q (Q.assign rfl) (XO.done (XK.seq (XK.seq (XK.region rfl ?_))))
 refine XO.q (Q.fieldAddr rfl) ?_
 refine XO.q (Q.sliceA rfl) ?_
 refine XO.call Tryz.call174 rfl rfl rfl (by haveI := arr3 (b := b1) (a0 := j.n0) (a1 := j.n1) (a2 := j.n2) (rest := [vd, .int .i64 j.group, .int .i64 j.worth]) (T := 88); exact pin_spec 1000000 (.slice (some ⟨b1, 0, none⟩) 3 3) (blk b1 (.int .i64 j.n0 :: .int .i64 j.n1 :: .int .i64 j.n2 :: [vd, .int .i64 j.group, .int .i64 j.worth]) 88) [j.n0, j.n1, j.n2]) fun v7 s7 R7 => ?_
 obtain ⟨rfl, rfl⟩ := R7
 dsimp only [lcA, lnA]
 refine XO.q (Q.not rfl) ?_
 refine XO.q (Q.move rfl) ?_
 refine XO.q (Quiet.guardF rfl rfl fun g10 p10 => Q.fieldAddr rfl) ?_
 refine XO.q (Quiet.guardF rfl rfl fun g11 p11 => Q.ld (lzv g11 rfl) rfl) ?_
 refine XO.lit1 [_] [_] [j.group] encI rfl rfl (by rfl) (by rfl) rfl (by rfl) (fun g12 => by exact .c 0 1 (lzv g12 rfl) rfl rfl (.n _)) (fun _ => rfl) (by rfl) rfl (fun _ => by infer_instance) rfl (fun v12 h12 O12 => ?_)
 refine XO.gcallF rfl rfl Tryz.call174 rfl (fun g13 => .c rfl (.c (lzv g13 rfl) .n)) rfl (fun g13 p13 => by haveI := O12 g13; exact pin_spec 100 v12 h12 [j.group]) ?_
 refine XO.q (Quiet.guardF rfl rfl fun g14 p14 => Q.not (lzv g14 rfl)) ?_
 refine XO.q (Q.or rfl (fun hp => lzv hp rfl)) ?_
 refine XO.q (Q.move rfl) ?_
 refine XO.q (Quiet.guardF rfl rfl fun g17 p17 => Q.fieldAddr rfl) ?_
 refine XO.q (Quiet.guardF rfl rfl fun g18 p18 => Q.ld (lzv g18 rfl) rfl) ?_
 refine XO.lit1 [_] [_] [j.worth] encI rfl rfl (by rfl) (by rfl) rfl (by rfl) (fun g19 => by exact .c 0 1 (lzv g19 rfl) rfl rfl (.n _)) (fun _ => rfl) (by rfl) rfl (fun _ => by infer_instance) rfl (fun v19 h19 O19 => ?_)
 refine XO.gcallF rfl rfl Tryz.call174 rfl (fun g20 => .c rfl (.c (lzv g20 rfl) .n)) rfl (fun g20 p20 => by haveI := O19 g20; exact pin_spec 1000000 v19 h19 [j.worth]) ?_
 refine XO.q (Quiet.guardF rfl rfl fun g21 p21 => Q.not (lzv g21 rfl)) ?_
 refine XO.q (Q.or rfl (fun hp => lzv hp rfl)) ?_
 refine XO.q (Q.move rfl) ?_
 refine XO.q (Quiet.guardF rfl rfl fun g24 p24 => Q.fieldAddr rfl) ?_
 refine XO.q (Quiet.guardF rfl rfl fun g25 p25 => Q.ld (lzv g25 rfl) rfl) ?_
 refine XO.q (Quiet.guardF rfl rfl fun g26 p26 => Q.len (lzv g26 rfl)) ?_
 refine XO.q (Quiet.guardF rfl rfl fun g27 p27 => Q.lss (lzv g27 rfl) rfl) ?_
 refine XO.q (Q.or rfl (fun hp => lzv hp rfl)) ?_
 refine XO.q (Q.move rfl) ?_
 refine XO.q (Quiet.guardF rfl rfl fun g30 p30 => Q.fieldAddr rfl) ?_
 refine XO.q (Quiet.guardF rfl rfl fun g31 p31 => Q.ld (lzv g31 rfl) rfl) ?_
 refine XO.q (Quiet.guardF rfl rfl fun g32 p32 => Q.len (lzv g32 rfl)) ?_
 refine XO.q (Quiet.guardF rfl rfl fun g33 p33 => Q.gtr (lzv g33 rfl) rfl) ?_
 refine XO.q (Q.or rfl (fun hp => lzv hp rfl)) ?_
 refine XO.done ?_
 refine XK.if rfl (fun c0 => ?_) (fun c0 => ?_)
 ·skip
  refine XK.seq (XK.region rfl (XO.q (Q.assign rfl) (XO.done ?_)))
  refine XK.rt [] Tryz.func126 Tryz.results126 (.t rfl .n) ?_
  exact ⟨by rw [jobR_no c0], rfl⟩
 ·skip
  refine XK.skip (XK.seq (XK.seq (XK.region rfl ?_)))
  refine XO.q (Q.fieldAddr rfl) ?_
  refine XO.q (Q.ld rfl rfl) ?_
  refine XO.len rfl fun l37 => ?_
  refine XO.q (Q.move rfl) (XO.done (XK.block ?_))
  refine XK.while (X := Nat) [2, 3, 4, 38, 39, 40, 41, 42, 43, 44, 45, 46, 47, 48, 49, 50, 51, 52, 53, 54, 55, 56, 57, 58, 59, 60, 61, 62, 63, 64, 65, 66, 67, 68, 69, 70, 71, 72, 73, 74] (fun i => [(38, some (.int .i64 (i : Nat)))]) (fun i => []) (fun i => i ≤ j.draws.length ∧ ∀ k, k < i → DrawOk j.draws k) (fun i => j.draws.length - i) (0) [] rfl ⟨by omega, fun k hk => by omega⟩ (.c rfl (.base 0 rfl rfl)) ?_
  rintro i ⟨hi, hg⟩ ih0
  dsimp only [lcA, lnA] at ih0 ⊢
  refine XK.seq (XK.region rfl ?_)
  refine XO.q (Q.lss rfl rfl) ?_
  refine XO.done (XK.seq ?_)
  refine XK.if rfl (fun c1 => ?_) (fun c1 => ?_)
  ·skip
   refine XK.skip (XK.seq (XK.block (XK.seq (XK.region rfl (XO.q (Q.move rfl) ?_)))))
   refine XO.ix rfl rfl (by omega) (by omega) fun i41 => ?_
   refine XO.q (Q.ldEA [_, _] rfl (by first | assumption | omega) rfl rfl) ?_
   refine XO.alloc fun b4 => ?_
   refine XO.q (Q.assign rfl) ?_
   refine XO.st rfl rfl rfl ?_
   refine XO.done (XK.seq ?_)
   refine XK.drawn [0, 1, 4, 5, 6, 7, 8, 9, 10, 11, 12, 13, 14, 15, 16, 17, 18, 19, 20, 21, 22, 23, 24, 25, 26, 27, 28, 29, 30] [b4, b1] [] (.q 0 (.q 1 (.br 2 true (.br 3 true (.q 4 (.q 5 (.q 6 (.q 7 (.q 8 (.q 9 (.q 10 (.q 11 (.q 12 (.q 13 (.q 14 (.q 15 (.q 16 (.q 17 (.q 18 (.q 19 (.q 20 (.q 21 (.q 22 (.q 23 (.q 24 (.q 25 (.q 26 (.q 27 (.q 28 (.q 29 (.q 30 .done))))))))))))))))))))))))))) .stop) .stop))) Tryz.mixed rfl (by kernel_rfl) ?_
   refine XT.q rfl rfl (Q.fieldAddr rfl) ?_
   refine XT.q rfl rfl (Q.ld rfl rfl) ?_
   refine XT.lit [_] [_] [(j.draws.getD i default).power] encI rfl rfl (by rfl) (by rfl) rfl (by rfl) (by exact .c 0 1 rfl rfl rfl (.n _)) (fun _ => rfl) (by rfl) rfl (by infer_instance) rfl (fun v45 h45 O45 => ⟨inferInstance, ?_⟩) XT.stop
   refine XT.call rfl rfl Tryz.call174 rfl rfl rfl (pin_spec 1000 v45 h45 [(j.draws.getD i default).power]) (fun v46 s46 R46 => ?_) XT.stop
   obtain ⟨rfl, rfl⟩ := R46
   dsimp only [lcA, lnA]
   refine ⟨inferInstance, ?_⟩
   refine XT.q rfl rfl (Q.not rfl) ?_
   refine XT.q rfl rfl (Q.move rfl) ?_
   refine XT.q rfl rfl (Quiet.guardF rfl rfl fun g49 p49 => Q.fieldAddr rfl) ?_
   refine XT.q rfl rfl (Quiet.guardF rfl rfl fun g50 p50 => Q.ld (lzv g50 rfl) rfl) ?_
   refine XT.q rfl rfl (Quiet.guardF rfl rfl fun g51 p51 => Q.lss (lzv g51 rfl) rfl) ?_
   refine XT.q rfl rfl (Q.or rfl (fun hp => lzv hp rfl)) ?_
   refine XT.q rfl rfl (Q.move rfl) ?_
   refine XT.q rfl rfl (Quiet.guardF rfl rfl fun g54 p54 => Q.fieldAddr rfl) ?_
   refine XT.q rfl rfl (Quiet.guardF rfl rfl fun g55 p55 => Q.ld (lzv g55 rfl) rfl) ?_
   refine XT.q rfl rfl (Quiet.guardF rfl rfl fun g56 p56 => Q.gtr (lzv g56 rfl) rfl) ?_
   refine XT.q rfl rfl (Q.or rfl (fun hp => lzv hp rfl)) ?_
   refine XT.q rfl rfl (Q.move rfl) ?_
   refine XT.q rfl rfl (Quiet.guardF rfl rfl fun g59 p59 => Q.move rfl) ?_
   refine XT.q rfl rfl (Quiet.guardF rfl rfl fun g60 p60 => Q.gtr (lzv g60 rfl) rfl) ?_
   refine XT.q rfl rfl (Quiet.guardF rfl rfl fun g61 p61 => Q.move (lzv g61 rfl)) ?_
   refine XT.q rfl rfl (Quiet.guard2 rfl rfl fun g62a g62b => have p62a := bpF g62a; have p62b := bpT g62b; Q.fieldAddr rfl) ?_
   refine XT.q rfl rfl (Quiet.guard2 rfl rfl fun g63a g63b => have p63a := bpF g63a; have p63b := bpT g63b; Q.ld (lzv g63b (lzv g63a rfl)) rfl) ?_
   refine XT.q rfl rfl (Quiet.guard2 rfl rfl fun g64a g64b => have p64a := bpF g64a; have p64b := bpT g64b; Q.fieldAddr rfl) ?_
   refine XT.q rfl rfl (Quiet.guard2 rfl rfl fun g65a g65b => have p65a := bpF g65a; have p65b := bpT g65b; Q.ld (lzv g65b (lzv g65a rfl)) rfl) ?_
   refine XT.q rfl rfl (Quiet.guard2 rfl rfl fun g66a g66b => have p66a := bpF g66a; have p66b := bpT g66b; Q.move rfl) ?_
   refine XT.q rfl rfl (Quiet.guard2 rfl rfl fun g67a g67b => have p67a := bpF g67a; have p67b := bpT g67b; Q.sub (lzv g67b (lzv g67a rfl)) rfl ⟨by omega, by omega⟩) ?_
   refine XT.q rfl rfl (Quiet.guard2 rfl rfl fun g68a g68b => have p68a := bpF g68a; have p68b := bpT g68b; Q.ix (lzv g68b (lzv g68a rfl)) (lzv g68b (lzv g68a rfl)) (by omega) (by omega)) ?_
   refine XT.q rfl rfl (Quiet.guard2 rfl rfl fun g69a g69b => have p69a := bpF g69a; have p69b := bpT g69b; Q.fieldQ (lzv g69b (lzv g69a rfl)) (by first | assumption | omega)) ?_
   refine XT.q rfl rfl (Quiet.guard2 rfl rfl fun g70a g70b => have p70a := bpF g70a; have p70b := bpT g70b; Q.ldE (lzv g70b (lzv g70a rfl)) (by first | assumption | omega) rfl) ?_
   refine XT.q rfl rfl (Quiet.guard2 rfl rfl fun g71a g71b => have p71a := bpF g71a; have p71b := bpT g71b; Q.leq (lzv g71b (lzv g71a rfl)) (lzv g71b (lzv g71a rfl))) ?_
   refine XT.q rfl rfl (Quiet.guardF rfl rfl fun g72 p72 => Q.and (lzv g72 rfl) (fun hp => (lzv hp (lzv g72 rfl)))) ?_
   refine XT.q rfl rfl (Q.or rfl (fun hp => lzv hp rfl)) ?_
   refine XT.done ?_
   refine XK.if rfl (fun c2 => ?_) (fun c2 => ?_)
   ·skip
    refine XK.seq (XK.region rfl (XO.q (Q.assign rfl) (XO.done ?_)))
    refine XK.rt [] Tryz.func126 Tryz.results126 (.t rfl .n) ?_
    exact ⟨by rw [Bool.eq_false_iff.2 (fun h => drawOk_no c2 ((jobR_iff.1 h).draw i (by omega)))], rfl⟩
   ·skip
    refine XK.skip ?_
    refine XK.inBlock ?_
    refine XK.region rfl ?_
    refine XO.q (Q.add rfl rfl ⟨by omega, by omega⟩) ?_
    refine XO.q (Q.move rfl) (XO.done ?_)
    exact ih0 (i + 1) _ _ ⟨by omega, draws_next hg (drawOk_yes c2)⟩ (by first | omega | (dsimp only; omega)) (.c rfl (.base 80 rfl rfl)) inferInstance
  ·skip
   refine XK.exit rfl ?_
   refine XK.seq (XK.region rfl (XO.q (Q.assign rfl) (XO.done ?_)))
   refine XK.rt [] Tryz.func126 Tryz.results126 (.t rfl .n) ?_
   exact ⟨by rw [jobR_yes c0 (fun k hk => hg k (by omega))], rfl⟩
theorem JobsK.mem {l : List (Value × PJob)} {K : PHeap} (h : JobsK l K) {x : Value × PJob} (hx : x ∈ l) : Arr x.1 encDraw 2 K x.2.draws := by
 obtain ⟨i, hi, rfl⟩ := List.getElem_of_mem hx
 have := h i hi
 rwa [List.getD_eq_getElem?_getD, List.getElem?_eq_getElem hi] at this
theorem check1 (j : PJob) (vd : Value) (hd : PHeap) [id_ : Arr vd encDraw 2 hd j.draws] : Spec Tryz.prog 167 #[.agg #[.int .i64 j.n0, .int .i64 j.n1, .int .i64 j.n2, vd, .int .i64 j.group, .int .i64 j.worth]] [] [hd] (fun v hs => v = .bool (!jobR j) ∧ hs = []) := by
 refine Spec.intro (fn := Tryz.f167) (N := 6) Tryz.func167 rfl Tryz.ntmps167 rfl fun B => ?_
 refine XK.seq (XK.region rfl ?_)
 refine XO.box rfl fun b1 => ?_
 refine XO.q (Q.assign rfl) (XO.done (XK.seq (XK.region rfl ?_)))
 refine XO.q (Q.ldA [_, _, _, _, _, _] rfl rfl rfl) ?_
 refine XO.call Tryz.call126 rfl rfl rfl (jobR_spec j vd hd) fun v4 s4 R4 => ?_
 obtain ⟨rfl, rfl⟩ := R4
 dsimp only [lcA, lnA]
 refine XO.q (Q.not rfl) ?_
 refine XO.q (Q.assign rfl) (XO.done ?_)
 refine XK.rt [] Tryz.func167 Tryz.results167 (.t rfl .n) ?_
 exact ⟨rfl, rfl⟩
theorem listed1 (j : PJob) (vd : Value) (hd : PHeap) [id_ : Arr vd encDraw 2 hd j.draws] : Spec Tryz.prog 125 #[.agg #[.int .i64 j.n0, .int .i64 j.n1, .int .i64 j.n2, vd, .int .i64 j.group, .int .i64 j.worth]] [] [hd] (fun v hs => v = .bool (!jobR j) ∧ hs = []) := by
 refine Spec.intro (fn := Tryz.f125) (N := 6) Tryz.func125 rfl Tryz.ntmps125 rfl fun B => ?_
 refine XK.seq (XK.region rfl ?_)
 refine XO.box rfl fun b1 => ?_
 refine XO.q (Q.assign rfl) (XO.done (XK.seq (XK.region rfl ?_)))
 refine XO.q (Q.ldA [_, _, _, _, _, _] rfl rfl rfl) ?_
 refine XO.call Tryz.call126 rfl rfl rfl (jobR_spec j vd hd) fun v4 s4 R4 => ?_
 obtain ⟨rfl, rfl⟩ := R4
 dsimp only [lcA, lnA]
 refine XO.q (Q.not rfl) ?_
 refine XO.q (Q.assign rfl) (XO.done ?_)
 refine XK.rt [] Tryz.func125 Tryz.results125 (.t rfl .n) ?_
 exact ⟨rfl, rfl⟩
theorem check2 (r : PRack) : Spec Tryz.prog 169 #[.agg #[.int .i64 r.r0, .int .i64 r.r1, .int .i64 r.r2, .int .i64 r.cap, .int .i64 r.domain]] [] [] (fun v hs => v = .bool (!rackR r) ∧ hs = []) := by
 refine Spec.intro (fn := Tryz.f169) (N := 6) Tryz.func169 rfl Tryz.ntmps169 rfl fun B => ?_
 refine XK.seq (XK.region rfl ?_)
 refine XO.box rfl fun b1 => ?_
 refine XO.q (Q.assign rfl) (XO.done (XK.seq (XK.region rfl ?_)))
 refine XO.q (Q.ldA [_, _, _, _, _] rfl rfl rfl) ?_
 refine XO.call Tryz.call170 rfl rfl rfl (rackR_spec r) fun v4 s4 R4 => ?_
 obtain ⟨rfl, rfl⟩ := R4
 dsimp only [lcA, lnA]
 refine XO.q (Q.not rfl) ?_
 refine XO.q (Q.assign rfl) (XO.done ?_)
 refine XK.rt [] Tryz.func169 Tryz.results169 (.t rfl .n) ?_
 exact ⟨rfl, rfl⟩
theorem any_jobs {l : List (Value × PJob)} : (l.any fun x => !jobR x.2) = ((l.map Prod.snd).any fun j => !jobR j) := by rw [List.any_map]; rfl
theorem Check_spec (l : List (Value × PJob)) (vl : Value) (hl K : PHeap) [jl : Arr vl encPJ 6 hl l] (aL : JobsK l K) (rs : List PRack) (vr : Value) (hr : PHeap) [jr : Arr vr encRack 5 hr rs] (m : PRat) : Spec Tryz.prog 119 #[.agg #[vl, vr, .int .i64 m.n, .int .i64 m.d]] [] [hl, K, hr] (fun v hs => v = .int .i64 (pcheck ⟨(l.map Prod.snd), rs, m⟩) ∧ hs = []) := by
 refine Spec.intro (fn := Tryz.f119) (N := 34) Tryz.func119 rfl Tryz.ntmps119 rfl fun B => ?_
 refine XK.seq (XK.region rfl ?_)
 refine XO.box rfl fun b1 => ?_
 refine XO.q (Q.assign rfl) (XO.done (XK.seq (XK.block (XK.seq (XK.region rfl ?_)))))
 refine XO.q (Q.fieldAddr rfl) ?_
 refine XO.q (Q.ld rfl rfl) ?_
 refine XO.len rfl fun l6 => ?_
 refine XO.q (Q.gtr rfl rfl) ?_
 refine XO.q (Q.move rfl) ?_
 refine XO.q (Quiet.guardF rfl rfl fun g9 p9 => Q.fieldAddr rfl) ?_
 refine XO.q (Quiet.guardF rfl rfl fun g10 p10 => Q.ld (lzv g10 rfl) rfl) ?_
 refine XO.q (Quiet.guardF rfl rfl fun g11 p11 => Q.len (lzv g11 rfl)) ?_
 refine XO.q (Quiet.guardF rfl rfl fun g12 p12 => Q.lss (lzv g12 rfl) rfl) ?_
 refine XO.q (Q.or rfl (fun hp => lzv hp rfl)) ?_
 refine XO.q (Q.move rfl) ?_
 refine XO.q (Quiet.guardF rfl rfl fun g15 p15 => Q.fieldAddr rfl) ?_
 refine XO.q (Quiet.guardF rfl rfl fun g16 p16 => Q.ld (lzv g16 rfl) rfl) ?_
 refine XO.q (Quiet.guardF rfl rfl fun g17 p17 => Q.len (lzv g17 rfl)) ?_
 refine XO.q (Quiet.guardF rfl rfl fun g18 p18 => Q.gtr (lzv g18 rfl) rfl) ?_
 refine XO.q (Q.or rfl (fun hp => lzv hp rfl)) ?_
 refine XO.q (Q.assign rfl) (XO.done ?_)
 refine XK.if rfl (fun c0 => ?_) (fun c0 => ?_)
 ·skip
  refine XK.seq (XK.region rfl (XO.q (Q.assign rfl) (XO.done ?_)))
  refine XK.rt [] Tryz.func119 Tryz.results119 (.t rfl .n) ?_
  exact ⟨by rw [pcheck, if_pos (by dsimp only; rw [List.length_map]; omega)], rfl⟩
 ·skip
  refine XK.seq (XK.region rfl ?_)
  refine XO.q (Q.fieldAddr rfl) ?_
  refine XO.q (Q.ld rfl rfl) ?_
  refine XO.call Tryz.call124 rfl rfl rfl (containsFuncPJ vl hl l 167 [] [K] (fun x => !jobR x.2) Tryz.call167 (fun x hx => by haveI := aL.mem hx; exact check1 x.2 x.1 K)) fun v23 s23 R23 => ?_
  obtain ⟨rfl, rfl⟩ := R23
  dsimp only [lcA, lnA]
  rw [any_jobs]
  refine XO.q (Q.move rfl) ?_
  refine XO.q (Quiet.guardF rfl rfl fun g25 p25 => Q.fieldAddr rfl) ?_
  refine XO.q (Quiet.guardF rfl rfl fun g26 p26 => Q.ld (lzv g26 rfl) rfl) ?_
  refine XO.gcallF rfl rfl Tryz.call168 rfl (fun g27 => .c (lzv g27 rfl) (.c rfl .n)) rfl (fun g27 p27 => containsFuncPR vr hr rs 169 [] [] (fun x => !rackR x) Tryz.call169 (fun x hx => check2 x)) ?_
  refine XO.q (Q.or rfl (fun hp => lzv hp rfl)) ?_
  refine XO.q (Q.assign rfl) (XO.done ?_)
  refine XK.if rfl (fun c1 => ?_) (fun c1 => ?_)
  ·skip
   refine XK.seq (XK.region rfl (XO.q (Q.assign rfl) (XO.done ?_)))
   refine XK.rt [] Tryz.func119 Tryz.results119 (.t rfl .n) ?_
   exact ⟨by rw [pcheck, if_neg (by dsimp only; rw [List.length_map]; omega), if_pos (by dsimp only; rw [Bool.or_eq_true]; exact c1)], rfl⟩
  ·skip
   refine XK.seq (XK.region rfl ?_)
   refine XO.q (Q.fieldAddr rfl) ?_
   refine XO.q (Q.ldA [_, _] rfl rfl rfl) ?_
   refine XO.call Tryz.call171 rfl rfl rfl (chance_spec m) fun v32 s32 R32 => ?_
   obtain ⟨rfl, rfl⟩ := R32
   dsimp only [lcA, lnA]
   refine XO.q (Q.not rfl) ?_
   refine XO.q (Q.assign rfl) (XO.done ?_)
   refine XK.if rfl (fun c2 => ?_) (fun c2 => ?_)
   ·skip
    refine XK.seq (XK.region rfl (XO.q (Q.assign rfl) (XO.done ?_)))
    refine XK.rt [] Tryz.func119 Tryz.results119 (.t rfl .n) ?_
    exact ⟨by rw [pcheck, if_neg (by dsimp only; rw [List.length_map]; omega), if_neg (by dsimp only; rw [Bool.or_eq_true]; exact c1), if_pos c2], rfl⟩
   ·skip
    refine XK.skip ?_
    refine XK.inBlock ?_
    refine XK.seq (XK.region rfl (XO.q (Q.assign rfl) (XO.done ?_)))
    refine XK.rt [] Tryz.func119 Tryz.results119 (.t rfl .n) ?_
    exact ⟨by rw [pcheck, if_neg (by dsimp only; rw [List.length_map]; omega), if_neg (by dsimp only; rw [Bool.or_eq_true]; exact c1), if_neg c2], rfl⟩
end Go.X.Pl

set_option linter.unusedSimpArgs false
set_option linter.unusedVariables false
set_option maxRecDepth 20000
namespace Go.X.Pl
open Go.Proofs
theorem listed_spec (l : List (Value × PJob)) (vl : Value) (hl K : PHeap) [jl : Arr vl encPJ 6 hl l] (aL : JobsK l K) : Spec Tryz.prog 73 #[vl] [] [hl, K] (fun v hs => v = .tuple #[.int .i64 (listedG (l.map Prod.snd)).1, .int .i64 (listedG (l.map Prod.snd)).2] ∧ hs = []) := by
 have ll := jl.le
 have lm : (l.map Prod.snd).length = l.length := List.length_map ..
 refine Spec.intro (fn := Tryz.f73) (N := 40) Tryz.func73 rfl Tryz.ntmps73 rfl fun B => ?_
 refine XK.seq (XK.region rfl (XO.q (Q.assign rfl) (XO.q (Q.assign rfl) (XO.done (XK.seq ?_)))))
 refine XK.seq (XK.region rfl (XO.q (Q.move rfl) ?_))
 refine XO.len rfl fun l11 => ?_
 refine XO.q (Q.gtr rfl rfl) ?_
 refine XO.done ?_
 refine XK.if rfl (fun c0 => ?_) (fun c0 => ?_)
 ·skip
  refine XK.seq (XK.region rfl (XO.q (Q.assign rfl) (XO.q (Q.assign rfl) (XO.done ?_))))
  refine XK.rt [] Tryz.func73 Tryz.results73 (.t rfl (.t rfl .n)) ?_
  exact ⟨by rw [listedG, if_pos (by omega)], rfl⟩
 ·skip
  refine XK.skip (XK.seq (XK.seq (XK.region rfl (XO.q (Q.move rfl) ?_))))
  refine XO.call Tryz.call124 rfl rfl rfl (containsFuncPJ vl hl l 125 [] [K] (fun x => !jobR x.2) Tryz.call125 (fun x hx => by haveI := aL.mem hx; exact listed1 x.2 x.1 K)) fun v14 s14 R14 => ?_
  obtain ⟨rfl, rfl⟩ := R14
  dsimp only [lcA, lnA]
  rw [any_jobs]
  refine XO.done ?_
  refine XK.if rfl (fun c1 => ?_) (fun c1 => ?_)
  ·skip
   refine XK.seq (XK.region rfl (XO.q (Q.assign rfl) (XO.q (Q.assign rfl) (XO.done ?_))))
   refine XK.rt [] Tryz.func73 Tryz.results73 (.t rfl (.t rfl .n)) ?_
   exact ⟨by rw [listedG, if_neg (by omega), if_pos c1], rfl⟩
  ·skip
   have hJ : ∀ k, k < l.length → PJobOk (l.getD k default).2 := fun k hk => jobR_iff.1 (by
    have := any_false_at (Bool.eq_false_iff.2 c1) (i := k) (by rw [lm]; exact hk)
    rw [map_snd_atP] at this
    simpa using this)
   refine XK.skip (XK.seq (XK.region rfl (XO.q (Q.assign rfl) (XO.done (XK.seq ?_)))))
   refine XK.seq (XK.region rfl (XO.q (Q.move rfl) ?_))
   refine XO.len rfl fun l16 => ?_
   refine XO.q (Q.move rfl) (XO.done (XK.block ?_))
   refine XK.while (X := Nat) [2, 3, 4, 6, 7, 9, 17, 18, 19, 20, 21, 22, 23, 24, 25, 26, 27, 28, 29, 30, 31, 32, 33, 34, 35, 36, 37, 38] (fun i => [(17, some (.int .i64 (i : Nat))), (4, some (.int .i64 (prodJ (l.map Prod.snd) i)))]) (fun i => []) (fun i => (i ≤ l.length ∧ (1 ≤ prodJ (l.map Prod.snd) i ∧ prodJ (l.map Prod.snd) i ≤ 1099511627776)) ∧ ∀ k, k < i → prodJ (l.map Prod.snd) (k + 1) ≤ 1099511627776) (fun i => l.length - i) (0) [] rfl ⟨⟨by omega, by (try unfold prodJ); omega⟩, fun k hk => by omega⟩ (.c rfl (.c rfl (.base 0 rfl rfl))) ?_
   rintro i ⟨⟨hi, pp⟩, hp⟩ ih0
   dsimp only [lcA, lnA] at ih0 ⊢
   refine XK.seq (XK.region rfl ?_)
   refine XO.q (Q.lss rfl rfl) ?_
   refine XO.done (XK.seq ?_)
   refine XK.if rfl (fun c2 => ?_) (fun c2 => ?_)
   ·skip
    have ji := map_snd_atP l i
    have ai := aL i (by omega)
    have jok := hJ i (by omega)
    have pn := prod_next (l := l.map Prod.snd) (i := i) (by omega) (by rw [ji]; exact jok) pp
    rw [ji] at pn
    have jf := jok.few
    refine XK.skip (XK.seq (XK.block (XK.seq (XK.region rfl ?_))))
    refine XO.ix rfl rfl (by omega) (by omega) fun i19 => ?_
    refine XO.q (Q.ldEA [_, _, _, _, _, _] rfl (by first | assumption | omega) rfl rfl) ?_
    refine XO.alloc fun b6 => ?_
    refine XO.st rfl rfl rfl ?_
    refine XO.done (XK.seq (XK.region rfl (XO.q (Q.assign rfl) (XO.done (XK.seq ?_)))))
    refine XK.seq (XK.region rfl ?_)
    refine XO.q (Q.fieldAddr rfl) ?_
    refine XO.q (Q.ld rfl rfl) ?_
    refine XO.len rfl fun l23 => ?_
    refine XO.q (Q.move rfl) (XO.done (XK.block ?_))
    refine XK.while (X := Nat) [7, 9, 24, 25, 26, 27, 28, 29, 30, 31, 32] (fun k => [(24, some (.int .i64 (k : Nat))), (7, some (.int .i64 (cntTo (l.getD i default).2 k)))]) (fun k => []) (fun k => k ≤ (l.getD i default).2.draws.length) (fun k => (l.getD i default).2.draws.length - k) (0) [] rfl (by omega) (.c rfl (.c rfl (.base 0 rfl rfl))) ?_
    rintro k hk ih1
    dsimp only [lcA, lnA] at ih1 ⊢
    refine XK.seq (XK.region rfl ?_)
    refine XO.q (Q.lss rfl rfl) ?_
    refine XO.done (XK.seq ?_)
    refine XK.if rfl (fun c3 => ?_) (fun c3 => ?_)
    ·skip
     have ct := cntTo_rng jok k (by omega)
     have dk := jok.draw k (by omega)
     unfold DrawOk at dk
     refine XK.skip (XK.seq (XK.block (XK.seq (XK.region rfl ?_))))
     refine XO.ix rfl rfl (by omega) (by omega) fun i26 => ?_
     refine XO.q (Q.ldEA [_, _] rfl (by first | assumption | omega) rfl rfl) ?_
     refine XO.alloc fun b9 => ?_
     refine XO.st rfl rfl rfl ?_
     refine XO.done (XK.region rfl (XO.q (Q.move rfl) ?_))
     refine XO.q (Q.fieldAddr rfl) ?_
     refine XO.q (Q.ld rfl rfl) ?_
     refine XO.q (Q.add rfl rfl ⟨by omega, by omega⟩) ?_
     refine XO.q (Q.assign rfl) (XO.done ?_)
     refine XK.inBlock ?_
     refine XK.region rfl ?_
     refine XO.q (Q.add rfl rfl ⟨by omega, by omega⟩) ?_
     refine XO.q (Q.move rfl) (XO.done ?_)
     rw [← cntTo_succ (by omega)]
     exact ih1 (k + 1) _ _ (by omega) (by first | omega | (dsimp only; omega)) (.c rfl (.c rfl (.base 24 rfl rfl))) inferInstance
    ·skip
     have hkl : k = (l.getD i default).2.draws.length := by omega
     subst hkl
     rw [cntTo_all]
     have tr := total_rng jok
     refine XK.exit rfl ?_
     refine XK.seq (XK.region rfl (XO.q (Q.move rfl) (XO.q (Q.move rfl) ?_)))
     refine XO.q (Q.mul rfl rfl ⟨by omega, by omega⟩) ?_
     refine XO.q (Q.assign rfl) (XO.done (XK.seq (XK.region rfl (XO.q (Q.move rfl) ?_))))
     refine XO.q (Q.gtr rfl rfl) ?_
     refine XO.done ?_
     refine XK.if rfl (fun c4 => ?_) (fun c4 => ?_)
     ·skip
      have mt := manyTo_true (l := l.map Prod.snd) (n := (l.map Prod.snd).length) (i := i) (by omega) (by rw [pn.1]; omega)
      refine XK.seq (XK.region rfl (XO.q (Q.assign rfl) (XO.q (Q.assign rfl) (XO.done ?_))))
      refine XK.rt [] Tryz.func73 Tryz.results73 (.t rfl (.t rfl .n)) ?_
      exact ⟨by rw [listedG, if_neg (by omega), if_neg c1, if_pos mt], rfl⟩
     ·skip
      refine XK.skip ?_
      refine XK.inBlock ?_
      refine XK.region rfl ?_
      refine XO.q (Q.add rfl rfl ⟨by omega, by omega⟩) ?_
      refine XO.q (Q.move rfl) (XO.done ?_)
      rw [← pn.1]
      exact ih0 (i + 1) _ _ ⟨⟨by omega, by rw [pn.1]; omega⟩, fun k hk => by
       by_cases h : k = i
       ·subst h; rw [pn.1]; omega
       ·exact hp k (by omega)⟩ (by first | omega | (dsimp only; omega)) (.c rfl (.c rfl (.base 61 rfl rfl))) inferInstance
   ·skip
    refine XK.exit rfl ?_
    refine XK.seq (XK.region rfl (XO.q (Q.move rfl) (XO.q (Q.assign rfl) (XO.q (Q.assign rfl) (XO.done ?_)))))
    refine XK.rt [] Tryz.func73 Tryz.results73 (.t rfl (.t rfl .n)) ?_
    have hil : i = (l.map Prod.snd).length := by omega
    exact ⟨by rw [listedG, if_neg (by omega), if_neg c1, if_neg (by rw [manyTo_false.2 fun k hk => hp k (by omega)]; decide), ← hil], rfl⟩
theorem keyI : KeyT Tryz.prog 3 encK1 := KeyT.int (by kernel_rfl)
set_option maxHeartbeats 2000000 in
theorem sums_spec (l : List (Value × PJob)) (vl : Value) (hl K : PHeap) [jl : Arr vl encPJ 6 hl l] (aL : JobsK l K) (ok : ListOk (l.map Prod.snd)) : Spec Tryz.prog 127 #[vl] [] [hl, K] (fun v hs => ∃ b es, v = .map (some b) ∧ hs = [mapH b encK1 es] ∧ MapIs es (combos (l.map Prod.snd))) := by
 haveI := keyI
 have ll := jl.le
 have lm : (l.map Prod.snd).length = l.length := List.length_map ..
 have few := ok.few
 refine Spec.intro (fn := Tryz.f127) (N := 49) Tryz.func127 rfl Tryz.ntmps127 rfl fun B => ?_
 refine XK.seq (XK.region rfl (XO.q (Q.assign rfl) (XO.done (XK.seq (XK.region rfl ?_)))))
 refine XO.map encK1 fun b11 => ?_
 refine XO.insert (enc := encK1) (0) rfl rfl rfl ?_
 refine XO.q (Q.move rfl) (XO.q (Q.assign rfl) (XO.done (XK.seq (XK.seq (XK.region rfl ?_)))))
 refine XO.q (Q.move rfl) ?_
 refine XO.len rfl fun l14 => ?_
 refine XO.q (Q.move rfl) (XO.done (XK.block ?_))
 refine XK.while (X := Nat × Nat × List (Int × Value)) [3, 5, 6, 7, 8, 10, 15, 16, 17, 18, 19, 20, 21, 22, 23, 24, 25, 26, 27, 28, 29, 30, 31, 32, 33, 34, 35, 36, 37, 38, 39, 40, 41, 42, 43, 44, 45, 46, 47] (fun ⟨i, b, es⟩ => [(15, some (.int .i64 (i : Nat))), (3, some (.map (some b)))]) (fun ⟨i, b, es⟩ => [mapH b encK1 es]) (fun ⟨i, b, es⟩ => i ≤ l.length ∧ MapIs es (combos ((l.map Prod.snd).take i))) (fun ⟨i, b, es⟩ => l.length - i) (0, b11, putM 0 (.int .i64 1) []) [mapH b11 encK1 (putM 0 (.int .i64 1) [])] rfl ⟨by omega, MapIs.one⟩ (.c rfl (.c rfl (.base 0 rfl rfl))) ?_
 rintro ⟨i, b, es⟩ ⟨hi, mi⟩ ih0
 dsimp only [lcA, lnA] at ih0 ⊢
 refine XK.seq (XK.region rfl ?_)
 refine XO.q (Q.lss rfl rfl) ?_
 refine XO.done (XK.seq ?_)
 refine XK.if rfl (fun c0 => ?_) (fun c0 => ?_)
 ·skip
  have ji := map_snd_atP l i
  have ai := aL i (by omega)
  have sb := step_bound ok (i := i) (by omega)
  rw [ji] at sb
  have jok := ok.job i (by omega)
  rw [ji] at jok
  have jf := jok.few
  refine XK.skip (XK.seq (XK.block (XK.seq (XK.region rfl ?_))))
  refine XO.ix rfl rfl (by omega) (by omega) fun i17 => ?_
  refine XO.q (Q.ldEA [_, _, _, _, _, _] rfl (by first | assumption | omega) rfl rfl) ?_
  refine XO.alloc fun b5 => ?_
  refine XO.st rfl rfl rfl ?_
  refine XO.done (XK.seq (XK.region rfl ?_))
  refine XO.map encK1 fun b19 => ?_
  refine XO.q (Q.assign rfl) (XO.done (XK.seq (XK.seq (XK.region rfl (XO.q (Q.move rfl) ?_)))))
  refine XO.range rfl fun q21 => ?_
  refine XO.done (XK.block ?_)
  refine XK.while (X := List Nat × List (Int × Value)) [7, 8, 10, 22, 23, 24, 25, 26, 27, 28, 29, 30, 31, 32, 33, 34, 35, 36, 37, 38, 39, 40, 41, 42, 43, 44, 45] (fun ⟨seen, es2⟩ => []) (fun ⟨seen, es2⟩ => [itH q21 b es.length seen, mapH b19 encK1 es2]) (fun ⟨seen, es2⟩ => seen.Nodup ∧ (∀ i ∈ seen, i < es.length) ∧ MapIs es2 (given es (l.getD i default).2 seen)) (fun ⟨seen, es2⟩ => es.length - seen.length) ([], []) [itH q21 b es.length [], mapH b19 encK1 []] rfl ⟨List.nodup_nil, fun i h => (by cases h), MapIs.nil⟩ (.base 0 rfl rfl) ?_
  rintro ⟨seen, es2⟩ ⟨hnd, hlt, h2⟩ ih1
  dsimp only [lcA, lnA] at ih1 ⊢
  refine XK.seq (XK.region rfl ?_)
  refine XO.next rfl rfl fun more22 nl22 seen22 out22 => ?_
  refine XO.q (Q.extract0 rfl) ?_
  refine XO.done (XK.seq ?_)
  refine XK.if rfl (fun c1 => ?_) (fun c1 => ?_)
  ·skip
   obtain ⟨q, hq, hqs, rfl⟩ := (Out.next out22) c1
   have kr := combos_rng ok i (by omega) _ (mi.at hq).2.2
   refine XK.skip (XK.block (XK.seq (XK.region rfl ?_)))
   refine XO.q (Q.entry (i := q) rfl rfl hq) ?_
   refine XO.q (Q.extract rfl rfl) ?_
   refine XO.q (Q.extract rfl rfl) ?_
   rw [(mi.at hq).1]
   refine XO.q (Q.assign rfl) (XO.q (Q.assign rfl) (XO.done (XK.seq (XK.region rfl ?_))))
   refine XO.q (Q.fieldAddr rfl) ?_
   refine XO.q (Q.ld rfl rfl) ?_
   refine XO.len rfl fun l29 => ?_
   refine XO.q (Q.move rfl) (XO.done (XK.block ?_))
   refine XK.while (X := Nat × List (Int × Value)) [10, 30, 31, 32, 33, 34, 35, 36, 37, 38, 39, 40, 41, 42, 43, 44, 45] (fun ⟨k, es3⟩ => [(30, some (.int .i64 (k : Nat)))]) (fun ⟨k, es3⟩ => [mapH b19 encK1 es3]) (fun ⟨k, es3⟩ => k ≤ (l.getD i default).2.draws.length ∧ MapIs es3 (given es (l.getD i default).2 seen ++ give (l.getD i default).2 k (es.getD q default))) (fun ⟨k, es3⟩ => (l.getD i default).2.draws.length - k) (0, es2) [mapH b19 encK1 es2] rfl ⟨by omega, by (try dsimp only); rw [count_nil_give]; exact h2⟩ (.c rfl (.base 0 rfl rfl)) ?_
   rintro ⟨k, es3⟩ ⟨hk, h4⟩ ih2
   dsimp only [lcA, lnA] at ih2 ⊢
   refine XK.seq (XK.region rfl ?_)
   refine XO.q (Q.lss rfl rfl) ?_
   refine XO.done (XK.seq ?_)
   refine XK.if rfl (fun c2 => ?_) (fun c2 => ?_)
   ·skip
    have dk := jok.draw k (by omega)
    unfold DrawOk at dk
    refine XK.skip (XK.seq (XK.block (XK.seq (XK.region rfl ?_))))
    refine XO.ix rfl rfl (by omega) (by omega) fun i32 => ?_
    refine XO.q (Q.ldEA [_, _] rfl (by first | assumption | omega) rfl rfl) ?_
    refine XO.alloc fun b10 => ?_
    refine XO.st rfl rfl rfl ?_
    refine XO.done (XK.region rfl (XO.q (Q.move rfl) (XO.q (Q.move rfl) ?_)))
    refine XO.q (Q.fieldAddr rfl) ?_
    refine XO.q (Q.ld rfl rfl) ?_
    refine XO.q (Q.add rfl rfl ⟨by omega, by omega⟩) ?_
    refine XO.q (Q.lookup (enc := encK1) _ Tryz.zeroValue3 ((es.getD q default).1 + ((l.getD i default).2.draws.getD k default).power) rfl rfl) ?_
    rw [h4.get]
    refine XO.q (Q.move rfl) ?_
    refine XO.q (Q.fieldAddr rfl) ?_
    refine XO.q (Q.ld rfl rfl) ?_
    obtain ⟨gv1, gv2, gv3⟩ := mi.give jok h4 hq (by omega) hnd hlt hqs sb.1 sb.2 rfl rfl rfl
    refine XO.q (Q.mul rfl rfl ⟨by omega, by omega⟩) ?_
    refine XO.q (Q.add rfl rfl ⟨by omega, by omega⟩) ?_
    refine XO.mapUpdate (enc := encK1) ((es.getD q default).1 + ((l.getD i default).2.draws.getD k default).power) rfl rfl rfl ?_
    refine XO.done ?_
    refine XK.inBlock ?_
    refine XK.region rfl ?_
    refine XO.q (Q.add rfl rfl ⟨by omega, by omega⟩) ?_
    refine XO.q (Q.move rfl) (XO.done ?_)
    exact ih2 (k + 1, _) _ _ ⟨by dsimp only; omega, gv3⟩ (by first | omega | (dsimp only; omega)) (.c rfl (.base 35 rfl rfl)) inferInstance
   ·skip
    have hkl : k = (l.getD i default).2.draws.length := by omega
    subst hkl
    refine XK.exit rfl ?_
    refine XK.inBlock ?_
    exact ih1 (seen ++ [q], es3) _ _ ⟨nodup_snoc hnd hqs, mem_snoc hlt hq, by dsimp only; rw [given_snoc]; exact h4⟩ (by have := seen_few (nodup_snoc hnd hqs) (mem_snoc hlt hq); rw [List.length_append, List.length_singleton] at this; dsimp only; rw [List.length_append, List.length_singleton]; omega) (.base 57 rfl rfl) inferInstance
  ·skip
   obtain ⟨rfl, hall⟩ := Out.done out22 (by simpa using c1)
   have h3 := h2.perm (given_all mi hnd hlt hall)
   refine XK.exit rfl ?_
   refine XK.region rfl (XO.q (Q.move rfl) (XO.q (Q.assign rfl) (XO.done ?_)))
   refine XK.inBlock ?_
   refine XK.region rfl ?_
   refine XO.q (Q.add rfl rfl ⟨by omega, by omega⟩) ?_
   refine XO.q (Q.move rfl) (XO.done ?_)
   exact ih0 (i + 1, b19, es2) _ _ ⟨by dsimp only; omega, by dsimp only; rw [combos_succ (by omega), ji]; exact h3⟩ (by first | omega | (dsimp only; omega)) (.c rfl (.c rfl (.base 82 rfl rfl))) inferInstance
 ·skip
  refine XK.exit rfl ?_
  refine XK.seq (XK.region rfl (XO.q (Q.move rfl) (XO.q (Q.assign rfl) (XO.done ?_))))
  refine XK.rt [mapH b encK1 es] Tryz.func127 Tryz.results127 (.t rfl .n) ?_
  have hil : i = l.length := by omega
  rw [← lm] at hil
  rw [hil, List.take_length] at mi
  exact ⟨b, es, rfl, rfl, mi⟩
end Go.X.Pl

set_option linter.unusedSimpArgs false
set_option linter.unusedVariables false
set_option maxRecDepth 20000
namespace Go.X.Pl
open Go.Proofs
set_option maxHeartbeats 2000000 in
theorem over_spec (l : List (Value × PJob)) (vl : Value) (hl K : PHeap) [jl : Arr vl encPJ 6 hl l] (aL : JobsK l K) (ok : ListOk (l.map Prod.snd)) (limit all : Int) (ha : 1 ≤ all ∧ all ≤ 1099511627776) : Spec Tryz.prog 74 #[vl, .int .i64 limit, .int .i64 all] [] [hl, K] (fun v hs => v = .agg #[.int .i64 (overG (l.map Prod.snd) limit all).n, .int .i64 (overG (l.map Prod.snd) limit all).d] ∧ hs = []) := by
 have cl := combos_len ok (l.map Prod.snd).length (Nat.le_refl _)
 rw [List.take_length] at cl
 have pr := ok.prod (l.map Prod.snd).length (Nat.le_refl _)
 have ol := over_len (combos (l.map Prod.snd)) limit
 have gp := gcd_pos (n := ((overN (combos (l.map Prod.snd)) limit : Nat) : Int)) ha.1
 refine Spec.intro (fn := Tryz.f74) (N := 35) Tryz.func74 rfl Tryz.ntmps74 rfl fun B => ?_
 refine XK.seq (XK.region rfl ?_)
 refine XO.alloc fun b6 => ?_
 refine XO.done (XK.seq (XK.region rfl (XO.q (Q.assign rfl) (XO.done (XK.seq ?_)))))
 refine XK.seq (XK.region rfl (XO.q (Q.move rfl) ?_))
 refine XO.call Tryz.call127 rfl rfl rfl (sums_spec l vl hl K aL ok) fun v12 s12 R12 => ?_
 obtain ⟨b, es, rfl, rfl, mi⟩ := R12
 dsimp only [lcA, lnA]
 refine XO.range rfl fun q13 => ?_
 refine XO.done (XK.block ?_)
 refine XK.while (X := List Nat) [7, 8, 9, 14, 15, 16, 17, 18, 19, 20, 21, 22, 23, 24] (fun seen => [(7, some (.int .i64 (overS es limit seen)))]) (fun seen => [itH q13 b es.length seen]) (fun seen => seen.Nodup ∧ (∀ i ∈ seen, i < es.length)) (fun seen => es.length - seen.length) ([]) [itH q13 b es.length []] rfl ⟨List.nodup_nil, fun i h => (by cases h)⟩ (.c rfl (.base 0 rfl rfl)) ?_
 rintro seen ⟨hnd, hlt⟩ ih0
 dsimp only [lcA, lnA] at ih0 ⊢
 refine XK.seq (XK.region rfl ?_)
 refine XO.next rfl rfl fun more14 nl14 seen14 out14 => ?_
 refine XO.q (Q.extract0 rfl) ?_
 refine XO.done (XK.seq ?_)
 refine XK.if rfl (fun c0 => ?_) (fun c0 => ?_)
 ·skip
  obtain ⟨q, hq, hqs, rfl⟩ := Out.next out14 c0
  refine XK.skip (XK.block (XK.seq (XK.region rfl ?_)))
  refine XO.q (Q.entry (i := q) rfl rfl hq) ?_
  refine XO.q (Q.extract rfl rfl) ?_
  refine XO.q (Q.extract rfl rfl) ?_
  rw [(mi.at hq).1]
  have os := overS_snoc es limit seen q
  rw [(mi.at hq).2.1] at os
  have orr := overS_rng (limit := limit) mi hnd hlt
  have cle : List.count (es.getD q default).1 (combos (l.map Prod.snd)) ≤ (combos (l.map Prod.snd)).length := List.count_le_length
  refine XO.q (Q.assign rfl) (XO.q (Q.assign rfl) (XO.done (XK.seq (XK.region rfl (XO.q (Q.move rfl) ?_)))))
  refine XO.q (Q.move rfl) ?_
  refine XO.q (Q.gtr rfl rfl) ?_
  refine XO.done ?_
  refine XK.if rfl (fun c1 => ?_) (fun c1 => ?_)
  ·skip
   rw [if_pos c1] at os
   refine XK.region rfl (XO.q (Q.move rfl) (XO.q (Q.move rfl) ?_))
   refine XO.q (Q.add rfl rfl ⟨by omega, by omega⟩) ?_
   refine XO.q (Q.assign rfl) (XO.done ?_)
   refine XK.inBlock ?_
   rw [← os]
   exact ih0 (seen ++ [q]) _ _ ⟨nodup_snoc hnd hqs, mem_snoc hlt hq⟩ (by have := seen_few (nodup_snoc hnd hqs) (mem_snoc hlt hq); rw [List.length_append, List.length_singleton] at this; (try dsimp only); rw [List.length_append, List.length_singleton]; omega) (.c rfl (.base 29 rfl rfl)) inferInstance
  ·skip
   rw [if_neg c1, Int.add_zero] at os
   refine XK.skip ?_
   refine XK.inBlock ?_
   rw [← os]
   exact ih0 (seen ++ [q]) _ _ ⟨nodup_snoc hnd hqs, mem_snoc hlt hq⟩ (by have := seen_few (nodup_snoc hnd hqs) (mem_snoc hlt hq); rw [List.length_append, List.length_singleton] at this; (try dsimp only); rw [List.length_append, List.length_singleton]; omega) (.c rfl (.base 25 rfl rfl)) inferInstance
 ·skip
  obtain ⟨rfl, hall⟩ := Out.done out14 (by simpa using c0)
  rw [overS_all mi hnd hlt hall]
  refine XK.exit rfl ?_
  refine XK.seq (XK.region rfl (XO.q (Q.move rfl) (XO.q (Q.move rfl) ?_)))
  refine XO.call Tryz.call128 rfl rfl rfl ((by
   have q := divisor_spec (overN (combos (l.map Prod.snd)) limit) all.toNat (by omega) (by omega)
   rw [show ((all.toNat : Nat) : Int) = all by omega] at q
   exact q)) fun v27 s27 R27 => ?_
  obtain ⟨rfl, rfl⟩ := R27
  dsimp only [lcA, lnA]
  rw [show (Nat.gcd (overN (combos (l.map Prod.snd)) limit) all.toNat : Nat) = Int.gcd ((overN (combos (l.map Prod.snd)) limit : Nat) : Int) all by unfold Int.gcd; rw [Int.natAbs_natCast, show all.natAbs = all.toNat by omega]]
  refine XO.q (Q.assign rfl) (XO.done (XK.seq ?_))
  refine XK.drawn [0, 1, 2, 3, 4, 5, 6] [] [] (.q 0 (.q 1 (.q 2 (.q 3 (.q 4 (.q 5 (.q 6 (.br 7 false .done .stop)))))))) Tryz.mixed rfl (by kernel_rfl) ?_
  refine XT.q rfl rfl (Q.move rfl) ?_
  refine XT.q rfl rfl (Q.move rfl) ?_
  refine XT.q rfl rfl (Q.quo rfl rfl (by omega) (by omega) (by omega)) ?_
  refine XT.q rfl rfl (Q.move rfl) ?_
  refine XT.q rfl rfl (Q.move rfl) ?_
  refine XT.q rfl rfl (Q.quo rfl rfl (by omega) (by omega) (by omega)) ?_
  refine XT.q rfl rfl (Q.build [_, _] (.c 0 1 rfl rfl rfl (.c 1 1 rfl rfl rfl (.n _)))) ?_
  refine XT.st rfl rfl rfl rfl rfl ⟨inferInstance, ?_⟩ XT.stop
  refine XT.done ?_
  refine XK.rt [] Tryz.func74 Tryz.results74 (.cell [_, _] rfl rfl rfl (.n)) ?_
  exact ⟨rfl, rfl⟩
theorem listed_rng {l : List PJob} (ok : ListOk l) : listedG l = (prodJ l l.length, 0) ∧ 1 ≤ prodJ l l.length ∧ prodJ l l.length ≤ 1099511627776 := ⟨listed_prod ok, prod_pos ok _ (Nat.le_refl _), ok.prod _ (Nat.le_refl _)⟩
theorem Chance_spec (l : List (Value × PJob)) (vl : Value) (hl K : PHeap) [jl : Arr vl encPJ 6 hl l] (aL : JobsK l K) (limit : Int) : Spec Tryz.prog 26 #[vl, .int .i64 limit] [] [hl, K] (fun v hs => v = .tuple #[.agg #[.int .i64 (chanceG (l.map Prod.snd) limit).1.n, .int .i64 (chanceG (l.map Prod.snd) limit).1.d], .int .i64 (chanceG (l.map Prod.snd) limit).2] ∧ hs = []) := by
 refine Spec.intro (fn := Tryz.f26) (N := 21) Tryz.func26 rfl Tryz.ntmps26 rfl fun B => ?_
 refine XK.seq (XK.region rfl ?_)
 refine XO.alloc fun b4 => ?_
 refine XO.q (Q.assign rfl) (XO.done (XK.seq (XK.region rfl (XO.q (Q.move rfl) ?_))))
 refine XO.call Tryz.call73 rfl rfl rfl (listed_spec l vl hl K aL) fun v10 s10 R10 => ?_
 obtain ⟨rfl, rfl⟩ := R10
 dsimp only [lcA, lnA]
 refine XO.q (Q.move rfl) ?_
 refine XO.q (Q.extract rfl rfl) ?_
 refine XO.q (Q.extract rfl rfl) ?_
 refine XO.q (Q.assign rfl) (XO.q (Q.assign rfl) (XO.done (XK.seq (XK.seq (XK.region rfl ?_)))))
 refine XO.q (Q.move rfl) ?_
 refine XO.q (Q.neq rfl rfl) ?_
 refine XO.done ?_
 refine XK.if rfl (fun c0 => ?_) (fun c0 => ?_)
 ·skip
  refine XK.seq (XK.region rfl ?_)
  refine XO.q (Q.build [_, _] (.n _)) ?_
  refine XO.q (Q.move rfl) ?_
  refine XO.st rfl rfl rfl ?_
  refine XO.q (Q.assign rfl) (XO.done ?_)
  refine XK.rt [] Tryz.func26 Tryz.results26 (.cell [_, _] rfl rfl rfl (.t rfl .n)) ?_
  exact ⟨by rw [chanceG, if_pos c0], rfl⟩
 ·skip
  have ok := listed_ok.1 (Decidable.of_not_not c0)
  have lr := listed_rng ok
  refine XK.skip (XK.seq (XK.region rfl (XO.q (Q.move rfl) (XO.q (Q.move rfl) (XO.q (Q.move rfl) ?_)))))
  refine XO.call Tryz.call74 rfl rfl rfl (over_spec l vl hl K aL ok limit (listedG (l.map Prod.snd)).1 (by rw [lr.1]; exact lr.2)) fun v20 s20 R20 => ?_
  obtain ⟨rfl, rfl⟩ := R20
  dsimp only [lcA, lnA]
  refine XO.st rfl rfl rfl ?_
  refine XO.q (Q.assign rfl) (XO.done ?_)
  refine XK.rt [] Tryz.func26 Tryz.results26 (.cell [_, _] rfl rfl rfl (.t rfl .n)) ?_
  exact ⟨by rw [chanceG, if_neg c0], rfl⟩
theorem atMost_spec (a b : PRat) (ha : (0 ≤ a.n ∧ a.n ≤ 1099511627776) ∧ (0 ≤ a.d ∧ a.d ≤ 1099511627776)) (hb : (0 ≤ b.n ∧ b.n ≤ 1000000) ∧ (0 ≤ b.d ∧ b.d ≤ 1000000)) : Spec Tryz.prog 172 #[.agg #[.int .i64 a.n, .int .i64 a.d], .agg #[.int .i64 b.n, .int .i64 b.d]] [] [] (fun v hs => v = .bool (atMostB a b) ∧ hs = []) := by
 have m1 := mulP ha.1 hb.2
 have m2 := mulP ha.2 hb.1
 rw [Int.mul_comm a.d] at m2
 refine Spec.intro (fn := Tryz.f172) (N := 16) Tryz.func172 rfl Tryz.ntmps172 rfl fun B => ?_
 refine XK.seq (XK.region rfl ?_)
 refine XO.box rfl fun b2 => ?_
 refine XO.box rfl fun b3 => ?_
 refine XO.q (Q.assign rfl) (XO.done (XK.seq (XK.region rfl ?_)))
 refine XO.q (Q.fieldAddr rfl) ?_
 refine XO.q (Q.ld rfl rfl) ?_
 refine XO.q (Q.fieldAddr rfl) ?_
 refine XO.q (Q.ld rfl rfl) ?_
 refine XO.q (Q.mul rfl rfl ⟨by omega, by omega⟩) ?_
 refine XO.q (Q.fieldAddr rfl) ?_
 refine XO.q (Q.ld rfl rfl) ?_
 refine XO.q (Q.fieldAddr rfl) ?_
 refine XO.q (Q.ld rfl rfl) ?_
 refine XO.q (Q.mul rfl rfl ⟨by omega, by omega⟩) ?_
 refine XO.q (Q.leq rfl rfl) ?_
 refine XO.q (Q.assign rfl) (XO.done ?_)
 refine XK.rt [] Tryz.func172 Tryz.results172 (.t rfl .n) ?_
 exact ⟨rfl, rfl⟩
set_option maxHeartbeats 4000000 in
theorem fits_spec (l : List (Value × PJob)) (vl : Value) (hl K : PHeap) [jl : Arr vl encPJ 6 hl l] (aL : JobsK l K) (ok : ListOk (l.map Prod.snd)) (r : PRack) (m : PRat) (hm : chanceR m = true) (all : Int) (ha : all = prodJ (l.map Prod.snd) (l.map Prod.snd).length) : Spec Tryz.prog 122 #[vl, .agg #[.int .i64 r.r0, .int .i64 r.r1, .int .i64 r.r2, .int .i64 r.cap, .int .i64 r.domain], .agg #[.int .i64 m.n, .int .i64 m.d], .int .i64 all] [] [hl, K] (fun v hs => v = .bool (fitsG (l.map Prod.snd) r m) ∧ hs = []) := by
 have ll := jl.le
 have lm : (l.map Prod.snd).length = l.length := List.length_map ..
 have few := ok.few
 have lr := listed_rng ok
 have mr := chanceR_rng hm
 refine Spec.intro (fn := Tryz.f122) (N := 55) Tryz.func122 rfl Tryz.ntmps122 rfl fun B => ?_
 refine XK.seq (XK.region rfl ?_)
 refine XO.box rfl fun b5 => ?_
 refine XO.box rfl fun b6 => ?_
 refine XO.q (Q.assign rfl) (XO.done (XK.seq (XK.region rfl ?_)))
 refine XO.alloc fun b9 => ?_
 refine XO.done (XK.seq (XK.seq (XK.region rfl (XO.q (Q.move rfl) ?_))))
 refine XO.len rfl fun l17 => ?_
 refine XO.q (Q.move rfl) (XO.done (XK.block ?_))
 refine XK.while (X := Nat) [11, 12, 13, 18, 19, 20, 21, 22, 23, 24, 25, 26, 27, 28, 29, 30, 31, 32, 33, 34, 35] (fun i => [(18, some (.int .i64 (i : Nat)))]) (fun i => [blk b9 [.int .i64 (needK (l.map Prod.snd) 0 i), .int .i64 (needK (l.map Prod.snd) 1 i), .int .i64 (needK (l.map Prod.snd) 2 i)] 83]) (fun i => i ≤ l.length) (fun i => l.length - i) (0) [blk b9 [.int .i64 0, .int .i64 0, .int .i64 0] 83] rfl (by omega) (.c rfl (.base 0 rfl rfl)) ?_
 rintro i hi ih0
 dsimp only [lcA, lnA] at ih0 ⊢
 refine XK.seq (XK.region rfl ?_)
 refine XO.q (Q.lss rfl rfl) ?_
 refine XO.done (XK.seq ?_)
 refine XK.if rfl (fun c0 => ?_) (fun c0 => ?_)
 ·skip
  have ji := map_snd_atP l i
  have ai := aL i (by omega)
  have jok := ok.job i (by omega)
  rw [ji] at jok
  have nr := pin_three.1 jok.need
  have na := need_succ (l := l.map Prod.snd) (i := i) (by omega)
  rw [ji] at na
  have nb := need_rng ok i (by omega)
  obtain ⟨na0, na1, na2⟩ := na
  refine XK.skip (XK.seq (XK.block (XK.seq (XK.region rfl ?_))))
  refine XO.ix rfl rfl (by omega) (by omega) fun i20 => ?_
  refine XO.q (Q.ldEA [_, _, _, _, _, _] rfl (by first | assumption | omega) rfl rfl) ?_
  refine XO.alloc fun b11 => ?_
  refine XO.st rfl rfl rfl ?_
  refine XO.done (XK.seq (XK.region rfl ?_))
  refine XO.q (Q.fieldAddr rfl) ?_
  refine XO.q (Q.ldA [_, _, _] rfl rfl rfl) ?_
  refine XO.q (Q.move rfl) (XO.done (XK.block ?_))
  refine XK.loop' ?_
  refine XK.seq (XK.region rfl ?_)
  refine XO.q (Q.lss rfl rfl) ?_
  refine XO.done (XK.seq ?_)
  refine XK.if rfl (fun c1 => ?_) (fun c1 => ?_)
  ·skip
   refine XK.skip (XK.seq (XK.block (XK.seq (XK.region rfl (XO.q (Q.move rfl) ?_)))))
   refine XO.q (Q.index rfl rfl (by decide) (Nat.le_of_ble_eq_true rfl)) ?_
   refine XO.q (Q.assign rfl) (XO.q (Q.assign rfl) (XO.done (XK.region rfl (XO.q (Q.move rfl) ?_))))
   refine XO.q (Q.ixA rfl rfl (by omega) (by omega)) ?_
   (try rw [show (0 + Int.toNat 0 * 1 : Nat) = 0 from rfl])
   (try rw [show (0 + Int.toNat 1 * 1 : Nat) = 1 from rfl])
   (try rw [show (0 + Int.toNat 2 * 1 : Nat) = 2 from rfl])
   refine XO.q (Q.ld rfl rfl) ?_
   refine XO.q (Q.move rfl) ?_
   refine XO.q (Q.add rfl rfl ⟨by omega, by omega⟩) ?_
   refine XO.q (Q.ixA rfl rfl (by omega) (by omega)) ?_
   (try rw [show (0 + Int.toNat 0 * 1 : Nat) = 0 from rfl])
   (try rw [show (0 + Int.toNat 1 * 1 : Nat) = 1 from rfl])
   (try rw [show (0 + Int.toNat 2 * 1 : Nat) = 2 from rfl])
   refine XO.st rfl rfl rfl ?_
   refine XO.done ?_
   refine XK.inBlock ?_
   refine XK.region rfl ?_
   refine XO.q (Q.add rfl rfl ⟨by omega, by omega⟩) ?_
   (try rw [show ((0 : Int) + 1) = 1 from rfl])
   (try rw [show ((1 : Int) + 1) = 2 from rfl])
   (try rw [show ((2 : Int) + 1) = 3 from rfl])
   refine XO.q (Q.move rfl) (XO.done ?_)
   refine XK.inLoop' ?_
   refine XK.seq (XK.region rfl ?_)
   refine XO.q (Q.lss rfl rfl) ?_
   refine XO.done (XK.seq ?_)
   refine XK.if rfl (fun c2 => ?_) (fun c2 => ?_)
   ·skip
    refine XK.skip (XK.seq (XK.block (XK.seq (XK.region rfl (XO.q (Q.move rfl) ?_)))))
    refine XO.q (Q.index rfl rfl (by decide) (Nat.le_of_ble_eq_true rfl)) ?_
    refine XO.q (Q.assign rfl) (XO.q (Q.assign rfl) (XO.done (XK.region rfl (XO.q (Q.move rfl) ?_))))
    refine XO.q (Q.ixA rfl rfl (by omega) (by omega)) ?_
    (try rw [show (0 + Int.toNat 0 * 1 : Nat) = 0 from rfl])
    (try rw [show (0 + Int.toNat 1 * 1 : Nat) = 1 from rfl])
    (try rw [show (0 + Int.toNat 2 * 1 : Nat) = 2 from rfl])
    refine XO.q (Q.ld rfl rfl) ?_
    refine XO.q (Q.move rfl) ?_
    refine XO.q (Q.add rfl rfl ⟨by omega, by omega⟩) ?_
    refine XO.q (Q.ixA rfl rfl (by omega) (by omega)) ?_
    (try rw [show (0 + Int.toNat 0 * 1 : Nat) = 0 from rfl])
    (try rw [show (0 + Int.toNat 1 * 1 : Nat) = 1 from rfl])
    (try rw [show (0 + Int.toNat 2 * 1 : Nat) = 2 from rfl])
    refine XO.st rfl rfl rfl ?_
    refine XO.done ?_
    refine XK.inBlock ?_
    refine XK.region rfl ?_
    refine XO.q (Q.add rfl rfl ⟨by omega, by omega⟩) ?_
    (try rw [show ((0 : Int) + 1) = 1 from rfl])
    (try rw [show ((1 : Int) + 1) = 2 from rfl])
    (try rw [show ((2 : Int) + 1) = 3 from rfl])
    refine XO.q (Q.move rfl) (XO.done ?_)
    refine XK.inLoop' ?_
    refine XK.seq (XK.region rfl ?_)
    refine XO.q (Q.lss rfl rfl) ?_
    refine XO.done (XK.seq ?_)
    refine XK.if rfl (fun c3 => ?_) (fun c3 => ?_)
    ·skip
     refine XK.skip (XK.seq (XK.block (XK.seq (XK.region rfl (XO.q (Q.move rfl) ?_)))))
     refine XO.q (Q.index rfl rfl (by decide) (Nat.le_of_ble_eq_true rfl)) ?_
     refine XO.q (Q.assign rfl) (XO.q (Q.assign rfl) (XO.done (XK.region rfl (XO.q (Q.move rfl) ?_))))
     refine XO.q (Q.ixA rfl rfl (by omega) (by omega)) ?_
     (try rw [show (0 + Int.toNat 0 * 1 : Nat) = 0 from rfl])
     (try rw [show (0 + Int.toNat 1 * 1 : Nat) = 1 from rfl])
     (try rw [show (0 + Int.toNat 2 * 1 : Nat) = 2 from rfl])
     refine XO.q (Q.ld rfl rfl) ?_
     refine XO.q (Q.move rfl) ?_
     refine XO.q (Q.add rfl rfl ⟨by omega, by omega⟩) ?_
     refine XO.q (Q.ixA rfl rfl (by omega) (by omega)) ?_
     (try rw [show (0 + Int.toNat 0 * 1 : Nat) = 0 from rfl])
     (try rw [show (0 + Int.toNat 1 * 1 : Nat) = 1 from rfl])
     (try rw [show (0 + Int.toNat 2 * 1 : Nat) = 2 from rfl])
     refine XO.st rfl rfl rfl ?_
     refine XO.done ?_
     refine XK.inBlock ?_
     refine XK.region rfl ?_
     refine XO.q (Q.add rfl rfl ⟨by omega, by omega⟩) ?_
     (try rw [show ((0 : Int) + 1) = 1 from rfl])
     (try rw [show ((1 : Int) + 1) = 2 from rfl])
     (try rw [show ((2 : Int) + 1) = 3 from rfl])
     refine XO.q (Q.move rfl) (XO.done ?_)
     refine XK.inLoop' ?_
     refine XK.seq (XK.region rfl ?_)
     refine XO.q (Q.lss rfl rfl) ?_
     refine XO.done (XK.seq ?_)
     refine XK.if rfl (fun c4 => ?_) (fun c4 => ?_)
     ·skip
      exact absurd c4 (by first | decide | simp)
     ·skip
      refine XK.exit rfl ?_
      refine XK.inBlock ?_
      refine XK.region rfl ?_
      refine XO.q (Q.add rfl rfl ⟨by omega, by omega⟩) ?_
      refine XO.q (Q.move rfl) (XO.done ?_)
      rw [← na0, ← na1, ← na2]
      exact ih0 (i + 1) _ _ (by omega) (by first | omega | (dsimp only; omega)) (.c rfl (.base 71 rfl rfl)) inferInstance
    ·skip
     exact absurd (by first | decide | simp) c3
   ·skip
    exact absurd (by first | decide | simp) c2
  ·skip
   exact absurd (by first | decide | simp) c1
 ·skip
  have hil : i = (l.map Prod.snd).length := by omega
  refine XK.exit rfl ?_
  refine XK.seq (XK.seq (XK.region rfl ?_))
  refine XO.q (Q.ldA [_, _, _] rfl rfl rfl) ?_
  refine XO.q (Q.move rfl) (XO.done (XK.block ?_))
  refine XK.loop' ?_
  refine XK.seq (XK.region rfl ?_)
  refine XO.q (Q.lss rfl rfl) ?_
  refine XO.done (XK.seq ?_)
  refine XK.if rfl (fun c5 => ?_) (fun c5 => ?_)
  ·skip
   refine XK.skip (XK.seq (XK.block (XK.seq (XK.region rfl (XO.q (Q.move rfl) ?_)))))
   refine XO.q (Q.index rfl rfl (by decide) (Nat.le_of_ble_eq_true rfl)) ?_
   refine XO.q (Q.assign rfl) (XO.q (Q.assign rfl) (XO.done (XK.seq (XK.region rfl (XO.q (Q.move rfl) ?_)))))
   refine XO.q (Q.move rfl) ?_
   refine XO.q (Q.fieldAddr rfl) ?_
   refine XO.q (Q.ixA rfl rfl (by omega) (by omega)) ?_
   (try rw [show (0 + Int.toNat 0 * 1 : Nat) = 0 from rfl])
   (try rw [show (0 + Int.toNat 1 * 1 : Nat) = 1 from rfl])
   (try rw [show (0 + Int.toNat 2 * 1 : Nat) = 2 from rfl])
   refine XO.q (Q.ld rfl rfl) ?_
   refine XO.q (Q.gtr rfl rfl) ?_
   refine XO.done ?_
   refine XK.if rfl (fun c6 => ?_) (fun c6 => ?_)
   ·skip
    refine XK.seq (XK.region rfl (XO.q (Q.assign rfl) (XO.done ?_)))
    refine XK.rt [] Tryz.func122 Tryz.results122 (.t rfl .n) ?_
    refine ⟨?_, rfl⟩
    rw [fitsG, ← hil, decide_eq_false (show ¬ needK (l.map Prod.snd) 0 i ≤ r.r0 by omega)]
    simp
   ·skip
    refine XK.skip ?_
    refine XK.inBlock ?_
    refine XK.region rfl ?_
    refine XO.q (Q.add rfl rfl ⟨by omega, by omega⟩) ?_
    (try rw [show ((0 : Int) + 1) = 1 from rfl])
    (try rw [show ((1 : Int) + 1) = 2 from rfl])
    (try rw [show ((2 : Int) + 1) = 3 from rfl])
    refine XO.q (Q.move rfl) (XO.done ?_)
    refine XK.inLoop' ?_
    refine XK.seq (XK.region rfl ?_)
    refine XO.q (Q.lss rfl rfl) ?_
    refine XO.done (XK.seq ?_)
    refine XK.if rfl (fun c7 => ?_) (fun c7 => ?_)
    ·skip
     refine XK.skip (XK.seq (XK.block (XK.seq (XK.region rfl (XO.q (Q.move rfl) ?_)))))
     refine XO.q (Q.index rfl rfl (by decide) (Nat.le_of_ble_eq_true rfl)) ?_
     refine XO.q (Q.assign rfl) (XO.q (Q.assign rfl) (XO.done (XK.seq (XK.region rfl (XO.q (Q.move rfl) ?_)))))
     refine XO.q (Q.move rfl) ?_
     refine XO.q (Q.fieldAddr rfl) ?_
     refine XO.q (Q.ixA rfl rfl (by omega) (by omega)) ?_
     (try rw [show (0 + Int.toNat 0 * 1 : Nat) = 0 from rfl])
     (try rw [show (0 + Int.toNat 1 * 1 : Nat) = 1 from rfl])
     (try rw [show (0 + Int.toNat 2 * 1 : Nat) = 2 from rfl])
     refine XO.q (Q.ld rfl rfl) ?_
     refine XO.q (Q.gtr rfl rfl) ?_
     refine XO.done ?_
     refine XK.if rfl (fun c8 => ?_) (fun c8 => ?_)
     ·skip
      refine XK.seq (XK.region rfl (XO.q (Q.assign rfl) (XO.done ?_)))
      refine XK.rt [] Tryz.func122 Tryz.results122 (.t rfl .n) ?_
      refine ⟨?_, rfl⟩
      rw [fitsG, ← hil, decide_eq_false (show ¬ needK (l.map Prod.snd) 1 i ≤ r.r1 by omega)]
      simp
     ·skip
      refine XK.skip ?_
      refine XK.inBlock ?_
      refine XK.region rfl ?_
      refine XO.q (Q.add rfl rfl ⟨by omega, by omega⟩) ?_
      (try rw [show ((0 : Int) + 1) = 1 from rfl])
      (try rw [show ((1 : Int) + 1) = 2 from rfl])
      (try rw [show ((2 : Int) + 1) = 3 from rfl])
      refine XO.q (Q.move rfl) (XO.done ?_)
      refine XK.inLoop' ?_
      refine XK.seq (XK.region rfl ?_)
      refine XO.q (Q.lss rfl rfl) ?_
      refine XO.done (XK.seq ?_)
      refine XK.if rfl (fun c9 => ?_) (fun c9 => ?_)
      ·skip
       refine XK.skip (XK.seq (XK.block (XK.seq (XK.region rfl (XO.q (Q.move rfl) ?_)))))
       refine XO.q (Q.index rfl rfl (by decide) (Nat.le_of_ble_eq_true rfl)) ?_
       refine XO.q (Q.assign rfl) (XO.q (Q.assign rfl) (XO.done (XK.seq (XK.region rfl (XO.q (Q.move rfl) ?_)))))
       refine XO.q (Q.move rfl) ?_
       refine XO.q (Q.fieldAddr rfl) ?_
       refine XO.q (Q.ixA rfl rfl (by omega) (by omega)) ?_
       (try rw [show (0 + Int.toNat 0 * 1 : Nat) = 0 from rfl])
       (try rw [show (0 + Int.toNat 1 * 1 : Nat) = 1 from rfl])
       (try rw [show (0 + Int.toNat 2 * 1 : Nat) = 2 from rfl])
       refine XO.q (Q.ld rfl rfl) ?_
       refine XO.q (Q.gtr rfl rfl) ?_
       refine XO.done ?_
       refine XK.if rfl (fun c10 => ?_) (fun c10 => ?_)
       ·skip
        refine XK.seq (XK.region rfl (XO.q (Q.assign rfl) (XO.done ?_)))
        refine XK.rt [] Tryz.func122 Tryz.results122 (.t rfl .n) ?_
        refine ⟨?_, rfl⟩
        rw [fitsG, ← hil, decide_eq_false (show ¬ needK (l.map Prod.snd) 2 i ≤ r.r2 by omega)]
        simp
       ·skip
        refine XK.skip ?_
        refine XK.inBlock ?_
        refine XK.region rfl ?_
        refine XO.q (Q.add rfl rfl ⟨by omega, by omega⟩) ?_
        (try rw [show ((0 : Int) + 1) = 1 from rfl])
        (try rw [show ((1 : Int) + 1) = 2 from rfl])
        (try rw [show ((2 : Int) + 1) = 3 from rfl])
        refine XO.q (Q.move rfl) (XO.done ?_)
        refine XK.inLoop' ?_
        refine XK.seq (XK.region rfl ?_)
        refine XO.q (Q.lss rfl rfl) ?_
        refine XO.done (XK.seq ?_)
        refine XK.if rfl (fun c11 => ?_) (fun c11 => ?_)
        ·skip
         exact absurd c11 (by first | decide | simp)
        ·skip
         refine XK.exit rfl ?_
         refine XK.seq ?_
         refine XK.drawn [0, 1, 2, 3, 5, 7] [b5, b6] [] (.q 0 (.q 1 (.q 2 (.q 3 (.q 5 (.br 4 true (.br 6 true (.q 7 .done) .stop) .stop)))))) Tryz.mixed rfl (by kernel_rfl) ?_
         refine XT.q rfl rfl (Q.move rfl) ?_
         refine XT.q rfl rfl (Q.fieldAddr rfl) ?_
         refine XT.q rfl rfl (Q.ld rfl rfl) ?_
         refine XT.q rfl rfl (Q.move rfl) ?_
         refine XT.q rfl rfl (Q.ldA [_, _] rfl rfl rfl) ?_
         refine XT.call rfl rfl Tryz.call74 rfl rfl rfl (over_spec l vl hl K aL ok r.cap all (by rw [ha]; exact lr.2)) (fun v52 s52 R52 => ?_) XT.stop
         obtain ⟨rfl, rfl⟩ := R52
         dsimp only [lcA, lnA]
         refine ⟨inferInstance, ?_⟩
         have orr := over_rng (l.map Prod.snd) r.cap (all := all) (by rw [ha]; exact lr.2) (by have := combos_len ok (l.map Prod.snd).length (Nat.le_refl _); rw [List.take_length] at this; rw [ha]; exact this)
         refine XT.call rfl rfl Tryz.call172 rfl rfl rfl (atMost_spec (overG (l.map Prod.snd) r.cap all) m orr mr) (fun v54 s54 R54 => ?_) XT.stop
         obtain ⟨rfl, rfl⟩ := R54
         dsimp only [lcA, lnA]
         refine ⟨inferInstance, ?_⟩
         refine XT.q rfl rfl (Q.assign rfl) ?_
         refine XT.done ?_
         refine XK.rt [] Tryz.func122 Tryz.results122 (.t rfl .n) ?_
         refine ⟨?_, rfl⟩
         rw [fitsG, ← hil, decide_eq_true (show needK (l.map Prod.snd) 0 i ≤ r.r0 by omega), decide_eq_true (show needK (l.map Prod.snd) 1 i ≤ r.r1 by omega), decide_eq_true (show needK (l.map Prod.snd) 2 i ≤ r.r2 by omega), ha, hil]
         simp
      ·skip
       exact absurd (by first | decide | simp) c9
    ·skip
     exact absurd (by first | decide | simp) c7
  ·skip
   exact absurd (by first | decide | simp) c5
end Go.X.Pl

set_option linter.unusedSimpArgs false
set_option linter.unusedVariables false
set_option maxRecDepth 20000
namespace Go.X.Ma
open Go.Proofs
def encHour (x : KHour) : List Value := [.int .i64 x.buy, .int .i64 x.sell, .int .i64 x.sun, .int .i64 x.load, .int .i64 x.carbon, .int .i64 x.water]
def encJob (x : KJob) : List Value := [.int .i64 x.beg, .int .i64 x.fin, .int .i64 x.hours, .int .i64 x.power]
theorem cloneI (v : Value) (h : PHeap) (xs : List Int) [s : Arr v encI 1 h xs] (hl : xs.length ≤ 68719476736) :
  Spec Tryz.prog 59 #[v] [] [h] (fun v' hs => ∃ h', hs = [h'] ∧ OArr v' encI 1 3 h' xs) := by apply Go.X.Bk.cloneI <;> assumption
theorem equalI (v1 v2 : Value) (h1 h2 : PHeap) (xs ys : List Int) [s1 : Arr v1 encI 1 h1 xs] [s2 : Arr v2 encI 1 h2 ys] :
  Spec Tryz.prog 35 #[v1, v2] [] [h1, h2] (fun v hs => v = .bool (decide (xs = ys)) ∧ hs = []) := by apply Go.X.Bk.equalI <;> assumption
theorem indexFuncI (v : Value) (h : PHeap) (xs : List Int) [s : Arr v encI 1 h xs] (gid : FuncId) (cap : List Value) (Hr : List PHeap) (p : Int → Bool)
  (hc : ∀ args w, (callFunc gid args).run Tryz.prog w = .ok (.enter gid args) w) (hS : ∀ x ∈ xs, Spec Tryz.prog gid (.int .i64 x :: cap).toArray [] Hr (fun v hs => v = .bool (p x) ∧ hs = [])) :
  Spec Tryz.prog 159 #[v, .func (.func gid) #[] cap.toArray] [] (h :: Hr) (fun v hs => v = .int .i64 (findFirst p xs) ∧ hs = []) := by apply Go.X.Bk.indexFuncI <;> assumption
theorem containsFuncI (v : Value) (h : PHeap) (xs : List Int) [s : Arr v encI 1 h xs] (gid : FuncId) (cap : List Value) (Hr : List PHeap) (p : Int → Bool)
  (hc : ∀ args w, (callFunc gid args).run Tryz.prog w = .ok (.enter gid args) w) (hS : ∀ x ∈ xs, Spec Tryz.prog gid (.int .i64 x :: cap).toArray [] Hr (fun v hs => v = .bool (p x) ∧ hs = [])) :
  Spec Tryz.prog 97 #[v, .func (.func gid) #[] cap.toArray] [] (h :: Hr) (fun v hs => v = .bool (xs.any p) ∧ hs = []) := by apply Go.X.Bk.containsFuncI <;> assumption
theorem indexFuncH (v : Value) (h : PHeap) (xs : List KHour) [s : Arr v encHour 6 h xs] (gid : FuncId) (cap : List Value) (Hr : List PHeap) (p : KHour → Bool)
  (hc : ∀ args w, (callFunc gid args).run Tryz.prog w = .ok (.enter gid args) w) (hS : ∀ x ∈ xs, Spec Tryz.prog gid (.agg #[.int .i64 x.buy, .int .i64 x.sell, .int .i64 x.sun, .int .i64 x.load, .int .i64 x.carbon, .int .i64 x.water] :: cap).toArray [] Hr (fun v hs => v = .bool (p x) ∧ hs = [])) :
  Spec Tryz.prog 203 #[v, .func (.func gid) #[] cap.toArray] [] (h :: Hr) (fun v hs => v = .int .i64 (findFirst p xs) ∧ hs = []) := by
 refine Spec.intro (fn := Tryz.f203) (N := 19) Tryz.func203 rfl Tryz.ntmps203 rfl fun B => ?_
 refine XK.seq (XK.region rfl (XO.q (Q.assign rfl) (XO.done (XK.seq (XK.seq ?_)))))
 refine XK.region rfl (XO.q (Q.move rfl) ?_)
 refine XO.len rfl fun l7 => ?_
 refine XO.q (Q.move rfl) (XO.done (XK.block ?_))
 refine XK.while (X := Nat) [4, 5, 8, 9, 10, 11, 12, 13, 14, 15, 16, 17, 18] (fun i => [(8, some (.int .i64 (i : Nat)))]) (fun i => []) (fun i => i ≤ xs.length ∧ (xs.take i).any p = false) (fun i => xs.length - i) (0) [] rfl ⟨by omega, rfl⟩ (.c rfl (.base 0 rfl rfl)) ?_
 rintro i ⟨hi, ht⟩ ih0
 dsimp only [lcA, lnA] at ih0 ⊢
 refine XK.seq (XK.region rfl ?_)
 refine XO.q (Q.lss rfl rfl) ?_
 refine XO.done (XK.seq ?_)
 refine XK.if rfl (fun c0 => ?_) (fun c0 => ?_)
 ·skip
  refine XK.skip (XK.seq (XK.block (XK.seq (XK.region rfl (XO.q (Q.move rfl) ?_)))))
  refine XO.q (Q.assign rfl) (XO.done (XK.seq (XK.region rfl (XO.q (Q.move rfl) (XO.q (Q.move rfl) ?_)))))
  refine XO.q (Q.move rfl) ?_
  refine XO.ix rfl rfl (by omega) (by omega) fun i14 => ?_
  refine XO.q (Q.ldEA [_, _, _, _, _, _] rfl (by first | assumption | omega) rfl rfl) ?_
  refine XO.call hc rfl rfl rfl (hS _ (getD_mem (by omega))) fun v16 s16 R16 => ?_
  obtain ⟨rfl, rfl⟩ := R16
  dsimp only [lcA, lnA]
  refine XO.done ?_
  refine XK.if rfl (fun c1 => ?_) (fun c1 => ?_)
  ·skip
   refine XK.seq (XK.region rfl (XO.q (Q.move rfl) (XO.q (Q.assign rfl) (XO.done ?_))))
   refine XK.rt [] Tryz.func203 Tryz.results203 (.t rfl .n) ?_
   exact ⟨by rw [findFirst_here ht (by omega) c1], rfl⟩
  ·skip
   refine XK.skip ?_
   refine XK.inBlock ?_
   refine XK.region rfl ?_
   refine XO.q (Q.add rfl rfl ⟨by omega, by omega⟩) ?_
   refine XO.q (Q.move rfl) (XO.done ?_)
   exact ih0 (i + 1) _ _ ⟨by omega, any_step ht (by omega) (Bool.eq_false_iff.2 c1)⟩ (by first | omega | (dsimp only; omega)) (.c rfl (.base 25 rfl rfl)) inferInstance
 ·skip
  refine XK.exit rfl ?_
  refine XK.seq (XK.region rfl (XO.q (Q.assign rfl) (XO.done ?_)))
  refine XK.rt [] Tryz.func203 Tryz.results203 (.t rfl .n) ?_
  exact ⟨by rw [findFirst_none ht c0], rfl⟩
theorem containsFuncH (v : Value) (h : PHeap) (xs : List KHour) [s : Arr v encHour 6 h xs] (gid : FuncId) (cap : List Value) (Hr : List PHeap) (p : KHour → Bool)
  (hc : ∀ args w, (callFunc gid args).run Tryz.prog w = .ok (.enter gid args) w) (hS : ∀ x ∈ xs, Spec Tryz.prog gid (.agg #[.int .i64 x.buy, .int .i64 x.sell, .int .i64 x.sun, .int .i64 x.load, .int .i64 x.carbon, .int .i64 x.water] :: cap).toArray [] Hr (fun v hs => v = .bool (p x) ∧ hs = [])) :
  Spec Tryz.prog 185 #[v, .func (.func gid) #[] cap.toArray] [] (h :: Hr) (fun v hs => v = .bool (xs.any p) ∧ hs = []) := by
 refine Spec.intro (fn := Tryz.f185) (N := 9) Tryz.func185 rfl Tryz.ntmps185 rfl fun B => ?_
 refine XK.seq (XK.region rfl (XO.q (Q.assign rfl) (XO.done (XK.seq (XK.region rfl ?_)))))
 refine XO.q (Q.move rfl) (XO.q (Q.move rfl) ?_)
 refine XO.call Tryz.call203 rfl rfl rfl (indexFuncH v h xs gid cap Hr p hc hS) fun v7 s7 R7 => ?_
 obtain ⟨rfl, rfl⟩ := R7
 dsimp only [lcA, lnA]
 refine XO.q (Q.geq rfl rfl) ?_
 refine XO.q (Q.assign rfl) (XO.done ?_)
 refine XK.rt [] Tryz.func185 Tryz.results185 (.t rfl .n) ?_
 exact ⟨by rw [← findFirst_any], rfl⟩
theorem indexFuncJ (v : Value) (h : PHeap) (xs : List KJob) [s : Arr v encJob 4 h xs] (gid : FuncId) (cap : List Value) (Hr : List PHeap) (p : KJob → Bool)
  (hc : ∀ args w, (callFunc gid args).run Tryz.prog w = .ok (.enter gid args) w) (hS : ∀ x ∈ xs, Spec Tryz.prog gid (.agg #[.int .i64 x.beg, .int .i64 x.fin, .int .i64 x.hours, .int .i64 x.power] :: cap).toArray [] Hr (fun v hs => v = .bool (p x) ∧ hs = [])) :
  Spec Tryz.prog 204 #[v, .func (.func gid) #[] cap.toArray] [] (h :: Hr) (fun v hs => v = .int .i64 (findFirst p xs) ∧ hs = []) := by
 refine Spec.intro (fn := Tryz.f204) (N := 19) Tryz.func204 rfl Tryz.ntmps204 rfl fun B => ?_
 refine XK.seq (XK.region rfl (XO.q (Q.assign rfl) (XO.done (XK.seq (XK.seq ?_)))))
 refine XK.region rfl (XO.q (Q.move rfl) ?_)
 refine XO.len rfl fun l7 => ?_
 refine XO.q (Q.move rfl) (XO.done (XK.block ?_))
 refine XK.while (X := Nat) [4, 5, 8, 9, 10, 11, 12, 13, 14, 15, 16, 17, 18] (fun i => [(8, some (.int .i64 (i : Nat)))]) (fun i => []) (fun i => i ≤ xs.length ∧ (xs.take i).any p = false) (fun i => xs.length - i) (0) [] rfl ⟨by omega, rfl⟩ (.c rfl (.base 0 rfl rfl)) ?_
 rintro i ⟨hi, ht⟩ ih0
 dsimp only [lcA, lnA] at ih0 ⊢
 refine XK.seq (XK.region rfl ?_)
 refine XO.q (Q.lss rfl rfl) ?_
 refine XO.done (XK.seq ?_)
 refine XK.if rfl (fun c0 => ?_) (fun c0 => ?_)
 ·skip
  refine XK.skip (XK.seq (XK.block (XK.seq (XK.region rfl (XO.q (Q.move rfl) ?_)))))
  refine XO.q (Q.assign rfl) (XO.done (XK.seq (XK.region rfl (XO.q (Q.move rfl) (XO.q (Q.move rfl) ?_)))))
  refine XO.q (Q.move rfl) ?_
  refine XO.ix rfl rfl (by omega) (by omega) fun i14 => ?_
  refine XO.q (Q.ldEA [_, _, _, _] rfl (by first | assumption | omega) rfl rfl) ?_
  refine XO.call hc rfl rfl rfl (hS _ (getD_mem (by omega))) fun v16 s16 R16 => ?_
  obtain ⟨rfl, rfl⟩ := R16
  dsimp only [lcA, lnA]
  refine XO.done ?_
  refine XK.if rfl (fun c1 => ?_) (fun c1 => ?_)
  ·skip
   refine XK.seq (XK.region rfl (XO.q (Q.move rfl) (XO.q (Q.assign rfl) (XO.done ?_))))
   refine XK.rt [] Tryz.func204 Tryz.results204 (.t rfl .n) ?_
   exact ⟨by rw [findFirst_here ht (by omega) c1], rfl⟩
  ·skip
   refine XK.skip ?_
   refine XK.inBlock ?_
   refine XK.region rfl ?_
   refine XO.q (Q.add rfl rfl ⟨by omega, by omega⟩) ?_
   refine XO.q (Q.move rfl) (XO.done ?_)
   exact ih0 (i + 1) _ _ ⟨by omega, any_step ht (by omega) (Bool.eq_false_iff.2 c1)⟩ (by first | omega | (dsimp only; omega)) (.c rfl (.base 25 rfl rfl)) inferInstance
 ·skip
  refine XK.exit rfl ?_
  refine XK.seq (XK.region rfl (XO.q (Q.assign rfl) (XO.done ?_)))
  refine XK.rt [] Tryz.func204 Tryz.results204 (.t rfl .n) ?_
  exact ⟨by rw [findFirst_none ht c0], rfl⟩
theorem containsFuncJ (v : Value) (h : PHeap) (xs : List KJob) [s : Arr v encJob 4 h xs] (gid : FuncId) (cap : List Value) (Hr : List PHeap) (p : KJob → Bool)
  (hc : ∀ args w, (callFunc gid args).run Tryz.prog w = .ok (.enter gid args) w) (hS : ∀ x ∈ xs, Spec Tryz.prog gid (.agg #[.int .i64 x.beg, .int .i64 x.fin, .int .i64 x.hours, .int .i64 x.power] :: cap).toArray [] Hr (fun v hs => v = .bool (p x) ∧ hs = [])) :
  Spec Tryz.prog 189 #[v, .func (.func gid) #[] cap.toArray] [] (h :: Hr) (fun v hs => v = .bool (xs.any p) ∧ hs = []) := by
 refine Spec.intro (fn := Tryz.f189) (N := 9) Tryz.func189 rfl Tryz.ntmps189 rfl fun B => ?_
 refine XK.seq (XK.region rfl (XO.q (Q.assign rfl) (XO.done (XK.seq (XK.region rfl ?_)))))
 refine XO.q (Q.move rfl) (XO.q (Q.move rfl) ?_)
 refine XO.call Tryz.call204 rfl rfl rfl (indexFuncJ v h xs gid cap Hr p hc hS) fun v7 s7 R7 => ?_
 obtain ⟨rfl, rfl⟩ := R7
 dsimp only [lcA, lnA]
 refine XO.q (Q.geq rfl rfl) ?_
 refine XO.q (Q.assign rfl) (XO.done ?_)
 refine XK.rt [] Tryz.func189 Tryz.results189 (.t rfl .n) ?_
 exact ⟨by rw [← findFirst_any], rfl⟩
theorem in1 (b : Nat) (m x : Int) : Spec Tryz.prog 196 #[.int .i64 x, ptr b 0] [] [blk b [.int .i64 m] 3] (fun v hs => v = .bool (kout m x) ∧ hs = []) := by
 refine Spec.intro (fn := Tryz.f196) (N := 11) Tryz.func196 rfl Tryz.ntmps196 rfl fun B => ?_
 refine XK.seq (XK.region rfl (XO.q (Q.assign rfl) (XO.done (XK.seq (XK.region rfl ?_)))))
 refine XO.q (Q.move rfl) ?_
 refine XO.q (Q.lss rfl rfl) ?_
 refine XO.q (Q.move rfl) ?_
 refine XO.q (Quiet.guardF rfl rfl fun g7 p7 => Q.move rfl) ?_
 refine XO.q (Quiet.guardF rfl rfl fun g8 p8 => Q.ld rfl rfl) ?_
 refine XO.q (Quiet.guardF rfl rfl fun g9 p9 => Q.gtr (lzv g9 rfl) (lzv g9 rfl)) ?_
 refine XO.q (Q.or rfl (fun hp => lzv hp rfl)) ?_
 refine XO.q (Q.assign rfl) (XO.done ?_)
 refine XK.rt [] Tryz.func196 Tryz.results196 (.t rfl .n) ?_
 exact ⟨rfl, rfl⟩
theorem kin_spec (m : Int) (v : Value) (h : PHeap) (xs : List Int) [s : Arr v encI 1 h xs] : Spec Tryz.prog 151 #[.int .i64 m, v] [] [h] (fun v hs => v = .bool (kin m xs) ∧ hs = []) := by
 refine Spec.intro (fn := Tryz.f151) (N := 9) Tryz.func151 rfl Tryz.ntmps151 rfl fun B => ?_
 refine XK.seq (XK.region rfl ?_)
 refine XO.box rfl fun b2 => ?_
 refine XO.q (Q.assign rfl) (XO.done (XK.seq (XK.region rfl (XO.q (Q.move rfl) ?_))))
 refine XO.q (Q.func (fun _ he => rfl) (fun _ he => evs_rel he rfl)) ?_
 refine XO.call Tryz.call97 rfl rfl rfl (containsFuncI v h xs 196 [ptr b2 0] [blk b2 [.int .i64 m] 3] (kout m) Tryz.call196 (fun x hx => in1 b2 m x)) fun v7 s7 R7 => ?_
 obtain ⟨rfl, rfl⟩ := R7
 dsimp only [lcA, lnA]
 refine XO.q (Q.not rfl) ?_
 refine XO.q (Q.assign rfl) (XO.done ?_)
 refine XK.rt [] Tryz.func151 Tryz.results151 (.t rfl .n) ?_
 exact ⟨rfl, rfl⟩
theorem hourR_spec (h : KHour) : Spec Tryz.prog 187 #[.agg #[.int .i64 h.buy, .int .i64 h.sell, .int .i64 h.sun, .int .i64 h.load, .int .i64 h.carbon, .int .i64 h.water]] [] [] (fun v hs => v = .bool (hourR h) ∧ hs = []) := by
 refine Spec.intro (fn := Tryz.f187) (N := 32) Tryz.func187 rfl Tryz.ntmps187 rfl fun B => ?_
 refine XK.seq (XK.region rfl ?_)
 refine XO.box rfl fun b1 => ?_
 refine XO.q (Q.assign rfl) (XO.done (XK.seq (XK.region rfl ?_)))
 refine XO.q (Q.fieldAddr rfl) ?_
 refine XO.q (Q.ld rfl rfl) ?_
 refine XO.q (Q.fieldAddr rfl) ?_
 refine XO.q (Q.ld rfl rfl) ?_
 refine XO.lit [_, _] [_, _] [h.buy, h.sell] encI (by rfl) (by rfl) rfl (by rfl) (by exact .c 0 1 rfl rfl rfl (.c 1 1 rfl rfl rfl (.n _))) (fun _ => rfl) (by rfl) rfl (by infer_instance) rfl fun v7 h7 O7 => ?_
 refine XO.call Tryz.call151 rfl rfl rfl (kin_spec 1000 v7 h7 [h.buy, h.sell]) fun v8 s8 R8 => ?_
 obtain ⟨rfl, rfl⟩ := R8
 dsimp only [lcA, lnA]
 refine XO.q (Q.move rfl) ?_
 refine XO.q (Quiet.guardT rfl rfl fun g10 p10 => Q.fieldAddr rfl) ?_
 refine XO.q (Quiet.guardT rfl rfl fun g11 p11 => Q.ld (lzv g11 rfl) rfl) ?_
 refine XO.q (Quiet.guardT rfl rfl fun g12 p12 => Q.fieldAddr rfl) ?_
 refine XO.q (Quiet.guardT rfl rfl fun g13 p13 => Q.ld (lzv g13 rfl) rfl) ?_
 refine XO.q (Quiet.guardT rfl rfl fun g14 p14 => Q.leq (lzv g14 rfl) (lzv g14 rfl)) ?_
 refine XO.q (Q.and rfl (fun hp => lzv hp rfl)) ?_
 refine XO.q (Q.move rfl) ?_
 refine XO.q (Quiet.guardT rfl rfl fun g17 p17 => Q.fieldAddr rfl) ?_
 refine XO.q (Quiet.guardT rfl rfl fun g18 p18 => Q.ld (lzv g18 rfl) rfl) ?_
 refine XO.q (Quiet.guardT rfl rfl fun g19 p19 => Q.fieldAddr rfl) ?_
 refine XO.q (Quiet.guardT rfl rfl fun g20 p20 => Q.ld (lzv g20 rfl) rfl) ?_
 refine XO.lit1 [_, _] [_, _] [h.sun, h.load] encI rfl rfl (by rfl) (by rfl) rfl (by rfl) (fun g21 => by exact .c 0 1 (lzv g21 rfl) rfl rfl (.c 1 1 (lzv g21 rfl) rfl rfl (.n _))) (fun _ => rfl) (by rfl) rfl (fun _ => by infer_instance) rfl (fun v21 h21 O21 => ?_)
 refine XO.gcallT rfl rfl Tryz.call151 rfl (fun g22 => .c rfl (.c (lzv g22 rfl) .n)) rfl (fun g22 p22 => by haveI := O21 g22; exact kin_spec 40 v21 h21 [h.sun, h.load]) ?_
 refine XO.q (Q.and rfl (fun hp => lzv hp rfl)) ?_
 refine XO.q (Q.move rfl) ?_
 refine XO.q (Quiet.guardT rfl rfl fun g25 p25 => Q.fieldAddr rfl) ?_
 refine XO.q (Quiet.guardT rfl rfl fun g26 p26 => Q.ld (lzv g26 rfl) rfl) ?_
 refine XO.q (Quiet.guardT rfl rfl fun g27 p27 => Q.fieldAddr rfl) ?_
 refine XO.q (Quiet.guardT rfl rfl fun g28 p28 => Q.ld (lzv g28 rfl) rfl) ?_
 refine XO.lit1 [_, _] [_, _] [h.carbon, h.water] encI rfl rfl (by rfl) (by rfl) rfl (by rfl) (fun g29 => by exact .c 0 1 (lzv g29 rfl) rfl rfl (.c 1 1 (lzv g29 rfl) rfl rfl (.n _))) (fun _ => rfl) (by rfl) rfl (fun _ => by infer_instance) rfl (fun v29 h29 O29 => ?_)
 refine XO.gcallT rfl rfl Tryz.call151 rfl (fun g30 => .c rfl (.c (lzv g30 rfl) .n)) rfl (fun g30 p30 => by haveI := O29 g30; exact kin_spec 10000 v29 h29 [h.carbon, h.water]) ?_
 refine XO.q (Q.and rfl (fun hp => lzv hp rfl)) ?_
 refine XO.q (Q.assign rfl) (XO.done ?_)
 refine XK.rt [] Tryz.func187 Tryz.results187 (.t rfl .n) ?_
 exact ⟨rfl, rfl⟩
theorem storeR_spec (s : KStore) : Spec Tryz.prog 188 #[.agg #[.int .i64 s.energy, .int .i64 s.full, .int .i64 s.power, .int .i64 s.fin]] [] [] (fun v hs => v = .bool (storeR s) ∧ hs = []) := by
 refine Spec.intro (fn := Tryz.f188) (N := 19) Tryz.func188 rfl Tryz.ntmps188 rfl fun B => ?_
 refine XK.seq (XK.region rfl ?_)
 refine XO.box rfl fun b1 => ?_
 refine XO.q (Q.assign rfl) (XO.done (XK.seq (XK.region rfl ?_)))
 refine XO.q (Q.fieldAddr rfl) ?_
 refine XO.q (Q.ld rfl rfl) ?_
 refine XO.q (Q.fieldAddr rfl) ?_
 refine XO.q (Q.ld rfl rfl) ?_
 refine XO.lit [_, _] [_, _] [s.full, s.power] encI (by rfl) (by rfl) rfl (by rfl) (by exact .c 0 1 rfl rfl rfl (.c 1 1 rfl rfl rfl (.n _))) (fun _ => rfl) (by rfl) rfl (by infer_instance) rfl fun v7 h7 O7 => ?_
 refine XO.call Tryz.call151 rfl rfl rfl (kin_spec 10 v7 h7 [s.full, s.power]) fun v8 s8 R8 => ?_
 obtain ⟨rfl, rfl⟩ := R8
 dsimp only [lcA, lnA]
 refine XO.q (Q.move rfl) ?_
 refine XO.q (Quiet.guardT rfl rfl fun g10 p10 => Q.fieldAddr rfl) ?_
 refine XO.q (Quiet.guardT rfl rfl fun g11 p11 => Q.ld (lzv g11 rfl) rfl) ?_
 refine XO.q (Quiet.guardT rfl rfl fun g12 p12 => Q.fieldAddr rfl) ?_
 refine XO.q (Quiet.guardT rfl rfl fun g13 p13 => Q.ld (lzv g13 rfl) rfl) ?_
 refine XO.q (Quiet.guardT rfl rfl fun g14 p14 => Q.fieldAddr rfl) ?_
 refine XO.q (Quiet.guardT rfl rfl fun g15 p15 => Q.ld (lzv g15 rfl) rfl) ?_
 refine XO.lit1 [_, _] [_, _] [s.energy, s.fin] encI rfl rfl (by rfl) (by rfl) rfl (by rfl) (fun g16 => by exact .c 0 1 (lzv g16 rfl) rfl rfl (.c 1 1 (lzv g16 rfl) rfl rfl (.n _))) (fun _ => rfl) (by rfl) rfl (fun _ => by infer_instance) rfl (fun v16 h16 O16 => ?_)
 refine XO.gcallT rfl rfl Tryz.call151 rfl (fun g17 => .c (lzv g17 rfl) (.c (lzv g17 rfl) .n)) rfl (fun g17 p17 => by haveI := O16 g17; exact kin_spec s.full v16 h16 [s.energy, s.fin]) ?_
 refine XO.q (Q.and rfl (fun hp => lzv hp rfl)) ?_
 refine XO.q (Q.assign rfl) (XO.done ?_)
 refine XK.rt [] Tryz.func188 Tryz.results188 (.t rfl .n) ?_
 exact ⟨rfl, rfl⟩
theorem jobR_spec (j : KJob) (n : Nat) (hn : (n : Int) ≤ 140737488355328) : Spec Tryz.prog 191 #[.agg #[.int .i64 j.beg, .int .i64 j.fin, .int .i64 j.hours, .int .i64 j.power], .int .i64 (n : Nat)] [] [] (fun v hs => v = .bool (jobR n j) ∧ hs = []) := by
 refine Spec.intro (fn := Tryz.f191) (N := 33) Tryz.func191 rfl Tryz.ntmps191 rfl fun B => ?_
 refine XK.seq (XK.region rfl ?_)
 refine XO.box rfl fun b2 => ?_
 refine XO.q (Q.assign rfl) (XO.done (XK.seq (XK.region rfl (XO.q (Q.move rfl) ?_))))
 refine XO.q (Q.fieldAddr rfl) ?_
 refine XO.q (Q.ld rfl rfl) ?_
 refine XO.q (Q.fieldAddr rfl) ?_
 refine XO.q (Q.ld rfl rfl) ?_
 refine XO.lit [_, _] [_, _] [j.beg, j.fin] encI (by rfl) (by rfl) rfl (by rfl) (by exact .c 0 1 rfl rfl rfl (.c 1 1 rfl rfl rfl (.n _))) (fun _ => rfl) (by rfl) rfl (by infer_instance) rfl fun v10 h10 O10 => ?_
 refine XO.call Tryz.call151 rfl rfl rfl (kin_spec (n : Int) v10 h10 [j.beg, j.fin]) fun v11 s11 R11 => ?_
 obtain ⟨rfl, rfl⟩ := R11
 dsimp only [lcA, lnA]
 refine XO.q (Q.move rfl) ?_
 refine XO.q (Quiet.guardT rfl rfl fun g13 p13 => Q.fieldAddr rfl) ?_
 refine XO.q (Quiet.guardT rfl rfl fun g14 p14 => Q.ld (lzv g14 rfl) rfl) ?_
 refine XO.q (Quiet.guardT rfl rfl fun g15 p15 => Q.geq (lzv g15 rfl) rfl) ?_
 refine XO.q (Q.and rfl (fun hp => lzv hp rfl)) ?_
 refine XO.q (Q.move rfl) ?_
 refine XO.q (Quiet.guardT rfl rfl fun g18 p18 => Q.fieldAddr rfl) ?_
 refine XO.q (Quiet.guardT rfl rfl fun g19 p19 => Q.ld (lzv g19 rfl) rfl) ?_
 refine XO.q (Quiet.guardT rfl rfl fun g20 p20 => Q.fieldAddr rfl) ?_
 refine XO.q (Quiet.guardT rfl rfl fun g21 p21 => Q.ld (lzv g21 rfl) rfl) ?_
 refine XO.q (Quiet.guardT rfl rfl fun g22 p22 => Q.fieldAddr rfl) ?_
 refine XO.q (Quiet.guardT rfl rfl fun g23 p23 => Q.ld (lzv g23 rfl) rfl) ?_
 refine XO.q (Quiet.guardT rfl rfl fun g24 p24 => Q.sub (lzv g24 rfl) (lzv g24 rfl) (by have q := kin_two.1 p24.1; exact ⟨by omega, by omega⟩)) ?_
 refine XO.q (Quiet.guardT rfl rfl fun g25 p25 => Q.leq (lzv g25 rfl) (lzv g25 rfl)) ?_
 refine XO.q (Q.and rfl (fun hp => lzv hp rfl)) ?_
 refine XO.q (Q.move rfl) ?_
 refine XO.q (Quiet.guardT rfl rfl fun g28 p28 => Q.fieldAddr rfl) ?_
 refine XO.q (Quiet.guardT rfl rfl fun g29 p29 => Q.ld (lzv g29 rfl) rfl) ?_
 refine XO.lit1 [_] [_] [j.power] encI rfl rfl (by rfl) (by rfl) rfl (by rfl) (fun g30 => by exact .c 0 1 (lzv g30 rfl) rfl rfl (.n _)) (fun _ => rfl) (by rfl) rfl (fun _ => by infer_instance) rfl (fun v30 h30 O30 => ?_)
 refine XO.gcallT rfl rfl Tryz.call151 rfl (fun g31 => .c rfl (.c (lzv g31 rfl) .n)) rfl (fun g31 p31 => by haveI := O30 g31; exact kin_spec 20 v30 h30 [j.power]) ?_
 refine XO.q (Q.and rfl (fun hp => lzv hp rfl)) ?_
 refine XO.q (Q.assign rfl) (XO.done ?_)
 refine XK.rt [] Tryz.func191 Tryz.results191 (.t rfl .n) ?_
 exact ⟨rfl, rfl⟩
theorem check1 (h : KHour) : Spec Tryz.prog 186 #[.agg #[.int .i64 h.buy, .int .i64 h.sell, .int .i64 h.sun, .int .i64 h.load, .int .i64 h.carbon, .int .i64 h.water]] [] [] (fun v hs => v = .bool (!hourR h) ∧ hs = []) := by
 refine Spec.intro (fn := Tryz.f186) (N := 6) Tryz.func186 rfl Tryz.ntmps186 rfl fun B => ?_
 refine XK.seq (XK.region rfl ?_)
 refine XO.box rfl fun b1 => ?_
 refine XO.q (Q.assign rfl) (XO.done (XK.seq (XK.region rfl ?_)))
 refine XO.q (Q.ldA [_, _, _, _, _, _] rfl rfl rfl) ?_
 refine XO.call Tryz.call187 rfl rfl rfl (hourR_spec h) fun v4 s4 R4 => ?_
 obtain ⟨rfl, rfl⟩ := R4
 dsimp only [lcA, lnA]
 refine XO.q (Q.not rfl) ?_
 refine XO.q (Q.assign rfl) (XO.done ?_)
 refine XK.rt [] Tryz.func186 Tryz.results186 (.t rfl .n) ?_
 exact ⟨rfl, rfl⟩
theorem check2 (d : KDay) (vh vj : Value) (hh hj : PHeap) [ih : Arr vh encHour 6 hh d.hours] [ij : Arr vj encJob 4 hj d.jobs] (j : KJob) (b : Nat) : Spec Tryz.prog 190 #[.agg #[.int .i64 j.beg, .int .i64 j.fin, .int .i64 j.hours, .int .i64 j.power], ptr b 0] [] [blk b [vh, .int .i64 d.store.energy, .int .i64 d.store.full, .int .i64 d.store.power, .int .i64 d.store.fin, vj, .int .i64 d.most, .int .i64 d.peak] 116] (fun v hs => v = .bool (!jobR d.hours.length j) ∧ hs = []) := by
 have lh := ih.le
 refine Spec.intro (fn := Tryz.f190) (N := 10) Tryz.func190 rfl Tryz.ntmps190 rfl fun B => ?_
 refine XK.seq (XK.region rfl ?_)
 refine XO.box rfl fun b2 => ?_
 refine XO.q (Q.assign rfl) (XO.done (XK.seq (XK.region rfl ?_)))
 refine XO.q (Q.ldA [_, _, _, _] rfl rfl rfl) ?_
 refine XO.q (Q.fieldAddr rfl) ?_
 refine XO.q (Q.ld rfl rfl) ?_
 refine XO.len rfl fun l7 => ?_
 refine XO.call Tryz.call191 rfl rfl rfl (jobR_spec j d.hours.length (by omega)) fun v8 s8 R8 => ?_
 obtain ⟨rfl, rfl⟩ := R8
 dsimp only [lcA, lnA]
 refine XO.q (Q.not rfl) ?_
 refine XO.q (Q.assign rfl) (XO.done ?_)
 refine XK.rt [] Tryz.func190 Tryz.results190 (.t rfl .n) ?_
 exact ⟨rfl, rfl⟩
theorem prod_rng {js : List KJob} {n : Nat} (hn : n ≤ 24) (h2 : js.length ≤ 2) (h : ∀ i, i < js.length → JobOk n (js.getD i default)) : ∀ i, i ≤ js.length → 1 ≤ prodS js i ∧ prodS js i ≤ (if i = 0 then 1 else if i = 1 then 24 else 576) := fun i hi => by
 have sp : ∀ k, k < js.length → 1 ≤ spanS (js.getD k default) ∧ spanS (js.getD k default) ≤ 24 := fun k hk => by
  have := h k hk
  have := this.b0; have := (h k hk).b1; have := (h k hk).t1; have := (h k hk).h0
  unfold spanS; omega
 match i, hi with
 | 0, _ => exact ⟨Int.le_refl _, Int.le_refl _⟩
 | 1, hi => have := sp 0 (by omega); simp only [prodS]; omega
 | 2, hi =>
  have h0 := sp 0 (by omega)
  have h1 := sp 1 (by omega)
  simp only [prodS, Int.one_mul]
  have a : 1 * 1 ≤ spanS (js.getD 0 default) * spanS (js.getD 1 default) := Int.mul_le_mul h0.1 h1.1 (by omega) (by omega)
  have b : spanS (js.getD 0 default) * spanS (js.getD 1 default) ≤ 24 * 24 := Int.mul_le_mul h0.2 h1.2 (by omega) (by omega)
  omega
 | n + 3, hi => omega
theorem Check_spec (d : KDay) (vh vj : Value) (hh hj : PHeap) [ih : Arr vh encHour 6 hh d.hours] [ij : Arr vj encJob 4 hj d.jobs] : Spec Tryz.prog 144 #[.agg #[vh, .int .i64 d.store.energy, .int .i64 d.store.full, .int .i64 d.store.power, .int .i64 d.store.fin, vj, .int .i64 d.most, .int .i64 d.peak]] [] [hh, hj] (fun v hs => v = .int .i64 (kcheck d) ∧ hs = []) := by
 have lh := ih.le
 have lj := ij.le
 refine Spec.intro (fn := Tryz.f144) (N := 66) Tryz.func144 rfl Tryz.ntmps144 rfl fun B => ?_
 refine XK.seq (XK.region rfl ?_)
 refine XO.box rfl fun b1 => ?_
 refine XO.q (Q.assign rfl) (XO.done (XK.seq (XK.block (XK.seq (XK.region rfl ?_)))))
 refine XO.q (Q.fieldAddr rfl) ?_
 refine XO.q (Q.ld rfl rfl) ?_
 refine XO.len rfl fun l9 => ?_
 refine XO.q (Q.lss rfl rfl) ?_
 refine XO.q (Q.move rfl) ?_
 refine XO.q (Quiet.guardF rfl rfl fun g12 p12 => Q.fieldAddr rfl) ?_
 refine XO.q (Quiet.guardF rfl rfl fun g13 p13 => Q.ld (lzv g13 rfl) rfl) ?_
 refine XO.q (Quiet.guardF rfl rfl fun g14 p14 => Q.len (lzv g14 rfl)) ?_
 refine XO.q (Quiet.guardF rfl rfl fun g15 p15 => Q.gtr (lzv g15 rfl) rfl) ?_
 refine XO.q (Q.or rfl (fun hp => lzv hp rfl)) ?_
 refine XO.q (Q.move rfl) ?_
 refine XO.q (Quiet.guardF rfl rfl fun g18 p18 => Q.fieldAddr rfl) ?_
 refine XO.q (Quiet.guardF rfl rfl fun g19 p19 => Q.ld (lzv g19 rfl) rfl) ?_
 refine XO.q (Quiet.guardF rfl rfl fun g20 p20 => Q.len (lzv g20 rfl)) ?_
 refine XO.q (Quiet.guardF rfl rfl fun g21 p21 => Q.gtr (lzv g21 rfl) rfl) ?_
 refine XO.q (Q.or rfl (fun hp => lzv hp rfl)) ?_
 refine XO.q (Q.assign rfl) (XO.done ?_)
 refine XK.if rfl (fun c0 => ?_) (fun c0 => ?_)
 ·skip
  refine XK.seq (XK.region rfl (XO.q (Q.assign rfl) (XO.done ?_)))
  refine XK.rt [] Tryz.func144 Tryz.results144 (.t rfl .n) ?_
  exact ⟨by rw [kcheck, if_pos c0], rfl⟩
 ·skip
  refine XK.seq (XK.seq (XK.region rfl ?_))
  refine XO.q (Q.fieldAddr rfl) ?_
  refine XO.q (Q.ld rfl rfl) ?_
  refine XO.call Tryz.call185 rfl rfl rfl (containsFuncH vh hh d.hours 186 [] [] (fun h => !hourR h) Tryz.call186 (fun x hx => check1 x)) fun v26 s26 R26 => ?_
  obtain ⟨rfl, rfl⟩ := R26
  dsimp only [lcA, lnA]
  refine XO.q (Q.assign rfl) (XO.done ?_)
  refine XK.meet (X := Bool) [23, 27, 28, 29, 30, 31, 32, 33, 34, 35, 36, 37, 38, 39, 40, 41, 42, 43, 44] (fun q => [(23, some (.bool q))]) (fun q => []) (fun q => q = kbad d) [] ?_ ?_
  ·rintro q hq
   dsimp only [lcA, lnA]
   subst hq
   refine XK.if rfl (fun c2 => ?_) (fun c2 => ?_)
   ·skip
    refine XK.seq (XK.region rfl (XO.q (Q.assign rfl) (XO.done ?_)))
    refine XK.rt [] Tryz.func144 Tryz.results144 (.t rfl .n) ?_
    exact ⟨by rw [kcheck, if_neg c0, if_pos c2], rfl⟩
   ·skip
    have kf := kbad_false.1 (Bool.eq_false_iff.2 c2)
    have pr := prod_rng (by omega) (by omega) kf.2.2.1
    refine XK.skip ?_
    refine XK.inBlock ?_
    refine XK.seq (XK.region rfl (XO.q (Q.assign rfl) (XO.done (XK.seq (XK.seq ?_)))))
    refine XK.region rfl ?_
    refine XO.q (Q.fieldAddr rfl) ?_
    refine XO.q (Q.ld rfl rfl) ?_
    refine XO.len rfl fun l47 => ?_
    refine XO.q (Q.move rfl) (XO.done (XK.block ?_))
    refine XK.while (X := Nat) [3, 5, 48, 49, 50, 51, 52, 53, 54, 55, 56, 57, 58, 59, 60, 61, 62, 63] (fun i => [(3, some (.int .i64 (prodS d.jobs i))), (48, some (.int .i64 (i : Nat)))]) (fun i => []) (fun i => i ≤ d.jobs.length) (fun i => d.jobs.length - i) (0) [] rfl (by omega) (.c rfl (.c rfl (.base 0 rfl rfl))) ?_
    rintro i hi ih0
    dsimp only [lcA, lnA] at ih0 ⊢
    refine XK.seq (XK.region rfl ?_)
    refine XO.q (Q.lss rfl rfl) ?_
    refine XO.done (XK.seq ?_)
    refine XK.if rfl (fun c3 => ?_) (fun c3 => ?_)
    ·skip
     have pi := pr i (by omega)
     have pi1 := pr (i + 1) (by omega)
     have ji := kf.2.2.1 i (by omega)
     have j1 := ji.b0
     have j2 := ji.b1
     have j3 := ji.t1
     have j4 := ji.h0
     have e1 : prodS d.jobs (i + 1) = prodS d.jobs i * spanS (d.jobs.getD i default) := rfl
     unfold spanS at e1
     have hi2 : i = 0 ∨ i = 1 := by omega
     rw [e1] at pi1
     refine XK.skip (XK.seq (XK.block (XK.seq (XK.region rfl ?_))))
     refine XO.ix rfl rfl (by omega) (by omega) fun i50 => ?_
     refine XO.q (Q.ldEA [_, _, _, _] rfl (by first | assumption | omega) rfl rfl) ?_
     refine XO.alloc fun b5 => ?_
     refine XO.st rfl rfl rfl ?_
     refine XO.done (XK.region rfl (XO.q (Q.move rfl) ?_))
     refine XO.q (Q.fieldAddr rfl) ?_
     refine XO.q (Q.ld rfl rfl) ?_
     refine XO.q (Q.fieldAddr rfl) ?_
     refine XO.q (Q.ld rfl rfl) ?_
     refine XO.q (Q.sub rfl rfl ⟨by omega, by omega⟩) ?_
     refine XO.q (Q.fieldAddr rfl) ?_
     refine XO.q (Q.ld rfl rfl) ?_
     refine XO.q (Q.sub rfl rfl ⟨by omega, by omega⟩) ?_
     refine XO.q (Q.add rfl rfl ⟨by omega, by omega⟩) ?_
     refine XO.q (Q.mul rfl rfl ⟨by omega, by omega⟩) ?_
     refine XO.q (Q.assign rfl) (XO.done ?_)
     refine XK.inBlock ?_
     refine XK.region rfl ?_
     refine XO.q (Q.add rfl rfl ⟨by omega, by omega⟩) ?_
     refine XO.q (Q.move rfl) (XO.done ?_)
     exact ih0 (i + 1) _ _ (by omega) (by first | omega | (dsimp only; omega)) (.c rfl (.c rfl (.base 38 rfl rfl))) inferInstance
    ·skip
     have hil : i = d.jobs.length := by omega
     subst hil
     refine XK.exit rfl ?_
     refine XK.seq (XK.seq (XK.region rfl (XO.q (Q.move rfl) ?_)))
     refine XO.q (Q.gtr rfl rfl) ?_
     refine XO.done ?_
     refine XK.if rfl (fun c4 => ?_) (fun c4 => ?_)
     ·skip
      refine XK.seq (XK.region rfl (XO.q (Q.assign rfl) (XO.done ?_)))
      refine XK.rt [] Tryz.func144 Tryz.results144 (.t rfl .n) ?_
      exact ⟨by rw [kcheck, if_neg c0, if_neg c2, if_pos c4], rfl⟩
     ·skip
      refine XK.skip (XK.seq (XK.region rfl (XO.q (Q.assign rfl) (XO.done ?_))))
      refine XK.rt [] Tryz.func144 Tryz.results144 (.t rfl .n) ?_
      exact ⟨by rw [kcheck, if_neg c0, if_neg c2, if_neg c4], rfl⟩
  ·intro mt1
   dsimp only [lcA, lnA] at mt1
   refine XK.if rfl (fun c1 => ?_) (fun c1 => ?_)
   ·skip
    refine XK.skip ?_
    exact mt1 (d.hours.any fun h => !hourR h) _ _ (by unfold kbad; rw [c1]; rfl) (.c rfl (.base 0 rfl rfl)) inferInstance
   ·skip
    refine XK.seq (XK.region rfl ?_)
    refine XO.q (Q.fieldAddr rfl) ?_
    refine XO.q (Q.ldA [_, _, _, _] rfl rfl rfl) ?_
    refine XO.call Tryz.call188 rfl rfl rfl (storeR_spec d.store) fun v29 s29 R29 => ?_
    obtain ⟨rfl, rfl⟩ := R29
    dsimp only [lcA, lnA]
    refine XO.q (Q.not rfl) ?_
    refine XO.q (Q.assign rfl) (XO.done ?_)
    refine XK.if rfl (fun c5 => ?_) (fun c5 => ?_)
    ·skip
     refine XK.skip ?_
     exact mt1 (!storeR d.store) _ _ (by unfold kbad; rw [Bool.eq_false_iff.2 c1, Bool.eq_false_iff.2 c5]; rfl) (.c rfl (.base 5 rfl rfl)) inferInstance
    ·skip
     refine XK.seq (XK.region rfl ?_)
     refine XO.q (Q.fieldAddr rfl) ?_
     refine XO.q (Q.ld rfl rfl) ?_
     refine XO.q (Q.func (fun _ he => rfl) (fun _ he => evs_rel he rfl)) ?_
     refine XO.call Tryz.call189 rfl rfl rfl (containsFuncJ vj hj d.jobs 190 [ptr b1 0] [blk b1 [vh, .int .i64 d.store.energy, .int .i64 d.store.full, .int .i64 d.store.power, .int .i64 d.store.fin, vj, .int .i64 d.most, .int .i64 d.peak] 116] (fun j => !jobR d.hours.length j) Tryz.call190 (fun x hx => check2 d vh vj hh hj x b1)) fun v34 s34 R34 => ?_
     obtain ⟨rfl, rfl⟩ := R34
     dsimp only [lcA, lnA]
     refine XO.q (Q.assign rfl) (XO.done ?_)
     refine XK.if rfl (fun c6 => ?_) (fun c6 => ?_)
     ·skip
      refine XK.skip ?_
      exact mt1 (d.jobs.any fun j => !jobR d.hours.length j) _ _ (by unfold kbad; rw [Bool.eq_false_iff.2 c1, Decidable.of_not_not c5, c6]; rfl) (.c rfl (.base 10 rfl rfl)) inferInstance
     ·skip
      refine XK.seq (XK.region rfl ?_)
      refine XO.q (Q.fieldAddr rfl) ?_
      refine XO.q (Q.ld rfl rfl) ?_
      refine XO.lit [_] [_] [d.most] encI (by rfl) (by rfl) rfl (by rfl) (by exact .c 0 1 rfl rfl rfl (.n _)) (fun _ => rfl) (by rfl) rfl (by infer_instance) rfl fun v37 h37 O37 => ?_
      refine XO.call Tryz.call151 rfl rfl rfl (kin_spec 40 v37 h37 [d.most]) fun v38 s38 R38 => ?_
      obtain ⟨rfl, rfl⟩ := R38
      dsimp only [lcA, lnA]
      refine XO.q (Q.not rfl) ?_
      refine XO.q (Q.assign rfl) (XO.done ?_)
      refine XK.if rfl (fun c7 => ?_) (fun c7 => ?_)
      ·skip
       refine XK.skip ?_
       exact mt1 (!kin 40 [d.most]) _ _ (by unfold kbad; rw [Bool.eq_false_iff.2 c1, Decidable.of_not_not c5, Bool.eq_false_iff.2 c6, Bool.eq_false_iff.2 c7]; rfl) (.c rfl (.base 16 rfl rfl)) inferInstance
      ·skip
       refine XK.region rfl ?_
       refine XO.q (Q.fieldAddr rfl) ?_
       refine XO.q (Q.ld rfl rfl) ?_
       refine XO.lit [_] [_] [d.peak] encI (by rfl) (by rfl) rfl (by rfl) (by exact .c 0 1 rfl rfl rfl (.n _)) (fun _ => rfl) (by rfl) rfl (by infer_instance) rfl fun v42 h42 O42 => ?_
       refine XO.call Tryz.call151 rfl rfl rfl (kin_spec 1000 v42 h42 [d.peak]) fun v43 s43 R43 => ?_
       obtain ⟨rfl, rfl⟩ := R43
       dsimp only [lcA, lnA]
       refine XO.q (Q.not rfl) ?_
       refine XO.q (Q.assign rfl) (XO.done ?_)
       exact mt1 (!kin 1000 [d.peak]) _ _ (by unfold kbad; rw [Bool.eq_false_iff.2 c1, Decidable.of_not_not c5, Bool.eq_false_iff.2 c6, Decidable.of_not_not c7]; rfl) (.c rfl (.base 22 rfl rfl)) inferInstance
end Go.X.Ma

set_option linter.unusedSimpArgs false
set_option linter.unusedVariables false
set_option maxRecDepth 20000
namespace Go.X.Ma
open Go.Proofs
theorem span_rng {d : KDay} (ok : DayOk d) {i : Nat} (hi : i < d.jobs.length) : 1 ≤ (spanS (d.jobs.getD i default)).toNat ∧ (spanS (d.jobs.getD i default)).toNat ≤ 24 := by
 have j := ok.job i hi
 have := j.b0; have := j.b1; have := j.t1; have := j.h0; have := ok.h2
 unfold spanS; omega
theorem addJob_take {out : List (List Int)} (j : KJob) : addJob (out.take out.length) j = addJob out j := by rw [List.take_length]
set_option maxHeartbeats 1000000 in
theorem starts_spec (d : KDay) (vh vj : Value) (hh hj : PHeap) [ih : Arr vh encHour 6 hh d.hours] [ij : Arr vj encJob 4 hj d.jobs] (ok : DayOk d) : Spec Tryz.prog 145 #[.agg #[vh, .int .i64 d.store.energy, .int .i64 d.store.full, .int .i64 d.store.power, .int .i64 d.store.fin, vj, .int .i64 d.most, .int .i64 d.peak]] [] [hh, hj] (fun v hs => ∃ ho us K, hs = [ho, K] ∧ OArr v encV 1 29 ho us ∧ RowsK us K (startsL d)) := by
 have lj := ij.le
 have j2 := ok.j2
 have h24 := ok.h2
 have pr := prod_rng ok.h2 ok.j2 ok.job
 have sl := starts_len ok.job
 have nV : OArr (.slice none 0 0) encV 1 29 emp ([] : List Value) := OArr.nil (fun _ => rfl)
 refine Spec.intro (fn := Tryz.f145) (N := 47) Tryz.func145 rfl Tryz.ntmps145 rfl fun B => ?_
 refine XK.seq (XK.region rfl ?_)
 refine XO.box rfl fun b1 => ?_
 refine XO.q (Q.assign rfl) (XO.done (XK.seq (XK.region rfl ?_)))
 refine XO.lit [_] [_] [.slice none 0 0] encV (by rfl) (by rfl) rfl (by rfl) (by exact .c 0 1 rfl rfl rfl (.n _)) (fun _ => rfl) (by rfl) rfl (by infer_instance) rfl fun v10 h10 O10 => ?_
 refine XO.q (Q.assign rfl) (XO.done (XK.seq (XK.seq (XK.region rfl ?_))))
 refine XO.q (Q.fieldAddr rfl) ?_
 refine XO.q (Q.ld rfl rfl) ?_
 refine XO.len rfl fun l13 => ?_
 refine XO.q (Q.move rfl) (XO.done (XK.block ?_))
 refine XK.while (X := Nat × Value × PHeap × List Value × PHeap) [3, 5, 6, 8, 9, 14, 15, 16, 17, 18, 19, 20, 21, 22, 23, 24, 25, 26, 27, 28, 29, 30, 31, 32, 33, 34, 35, 36, 37, 38, 39, 40, 41, 42, 43, 44, 45] (fun ⟨i, vo, ko, us, K⟩ => [(3, some (vo)), (14, some (.int .i64 (i : Nat)))]) (fun ⟨i, vo, ko, us, K⟩ => [ko, K]) (fun ⟨i, vo, ko, us, K⟩ => i ≤ d.jobs.length ∧ OArr vo encV 1 29 ko us ∧ RowsK us K (startsTo d.jobs (i))) (fun ⟨i, vo, ko, us, K⟩ => d.jobs.length - i) (0, v10, h10, [.slice none 0 0], emp) [h10, emp] rfl ⟨by omega, O10, ⟨rfl, fun i hi => (by have h0 : i = 0 := (by simpa using hi); subst h0; exact Arr.nil (fun _ => rfl))⟩⟩ (.c rfl (.c rfl (.base 0 rfl rfl))) ?_
 rintro ⟨i, vo, ko, us, K⟩ ⟨hi, OO, RO⟩ ih0
 dsimp only [lcA, lnA] at ih0 ⊢
 refine XK.seq (XK.region rfl ?_)
 refine XO.q (Q.lss rfl rfl) ?_
 refine XO.done (XK.seq ?_)
 refine XK.if rfl (fun c0 => ?_) (fun c0 => ?_)
 ·skip
  have ji := ok.job i (by omega)
  have jb := ji.b0
  have jc := ji.b1
  have jt := ji.t1
  have jh := ji.h0
  have sp := span_rng ok (i := i) (by omega)
  have pi := pr i (by omega)
  have pi1 := pr (i + 1) (by omega)
  have si := sl i (by omega)
  have rl := RO.1
  have hi2 : i = 0 ∨ i = 1 := by omega
  have sl3 : (startsTo d.jobs (i)).length ≤ 24 := by rcases hi2 with h | h <;> (subst h; simp at pi; omega)
  refine XK.skip (XK.seq (XK.block (XK.seq (XK.region rfl ?_))))
  refine XO.ix rfl rfl (by omega) (by omega) fun i16 => ?_
  refine XO.q (Q.ldEA [_, _, _, _] rfl (by first | assumption | omega) rfl rfl) ?_
  refine XO.alloc fun b5 => ?_
  refine XO.st rfl rfl rfl ?_
  refine XO.done (XK.seq (XK.region rfl (XO.q (Q.assign rfl) (XO.done (XK.seq ?_)))))
  refine XK.seq (XK.region rfl (XO.q (Q.move rfl) ?_))
  refine XO.len rfl fun l19 => ?_
  refine XO.q (Q.move rfl) (XO.done (XK.block ?_))
  refine XK.while (X := Nat × Value × PHeap × List Value × PHeap) [6, 8, 9, 20, 21, 22, 23, 24, 25, 26, 27, 28, 29, 30, 31, 32, 33, 34, 35, 36, 37, 38, 39, 40, 41, 42, 43] (fun ⟨k, vn, kn, un, K2⟩ => [(6, some (vn)), (20, some (.int .i64 (k : Nat)))]) (fun ⟨k, vn, kn, un, K2⟩ => [kn, K2]) (fun ⟨k, vn, kn, un, K2⟩ => k ≤ us.length ∧ OArr vn encV 1 29 kn un ∧ RowsK us K2 (startsTo d.jobs (i)) ∧ RowsK un K2 (addPart (startsTo d.jobs (i)) (d.jobs.getD i default) (k) (0))) (fun ⟨k, vn, kn, un, K2⟩ => us.length - k) (0, .slice none 0 0, emp, [], K) [emp, K] rfl ⟨by omega, nV, RO, by rw [addPart_zero, List.take_zero]; exact RowsK.nil⟩ (.c rfl (.c rfl (.base 0 rfl rfl))) ?_
  rintro ⟨k, vn, kn, un, K2⟩ ⟨hk, ON, RS, RP⟩ ih1
  dsimp only [lcA, lnA] at ih1 ⊢
  refine XK.seq (XK.region rfl ?_)
  refine XO.q (Q.lss rfl rfl) ?_
  refine XO.done (XK.seq ?_)
  refine XK.if rfl (fun c1 => ?_) (fun c1 => ?_)
  ·skip
   have ak := RS.2 k (by omega)
   have lk := starts_each d.jobs i ((startsTo d.jobs (i)).getD k default) (getD_mem (by omega))
   refine XK.skip (XK.seq (XK.block (XK.seq (XK.region rfl ?_))))
   refine XO.ix rfl rfl (by omega) (by omega) fun i22 => ?_
   refine XO.q (Q.ldE rfl (by first | assumption | omega) rfl) ?_
   refine XO.q (Q.assign rfl) (XO.done (XK.seq (XK.region rfl ?_)))
   refine XO.q (Q.fieldAddr rfl) ?_
   refine XO.q (Q.ld rfl rfl) ?_
   refine XO.q (Q.assign rfl) (XO.done (XK.block ?_))
   refine XK.while (X := Nat × Int × Value × PHeap × List Value × PHeap) [6, 9, 26, 27, 28, 29, 30, 31, 32, 33, 34, 35, 36, 37, 38, 39, 40, 41, 42] (fun ⟨q, tt, vn3, kn3, un3, K3⟩ => [(6, some (vn3)), (9, some (.int .i64 tt))]) (fun ⟨q, tt, vn3, kn3, un3, K3⟩ => [kn3, K3]) (fun ⟨q, tt, vn3, kn3, un3, K3⟩ => q ≤ (spanS (d.jobs.getD i default)).toNat ∧ tt = (d.jobs.getD i default).beg + ((q : Nat) : Int) ∧ OArr vn3 encV 1 29 kn3 un3 ∧ RowsK us K3 (startsTo d.jobs (i)) ∧ RowsK un3 K3 (addPart (startsTo d.jobs (i)) (d.jobs.getD i default) (k) (q))) (fun ⟨q, tt, vn3, kn3, un3, K3⟩ => (spanS (d.jobs.getD i default)).toNat - q) (0, (d.jobs.getD i default).beg, vn, kn, un, K2) [kn, K2] rfl ⟨by omega, by omega, ON, RS, RP⟩ (.c rfl (.c rfl (.base 0 rfl rfl))) ?_
   rintro ⟨q, tt, vn3, kn3, un3, K3⟩ ⟨hq, htt, ON3, RS3, RP3⟩ ih2
   dsimp only [lcA, lnA] at ih2 ⊢
   subst htt
   refine XK.seq (XK.seq (XK.region rfl (XO.q (Q.move rfl) ?_)))
   refine XO.q (Q.fieldAddr rfl) ?_
   refine XO.q (Q.ld rfl rfl) ?_
   refine XO.q (Q.fieldAddr rfl) ?_
   refine XO.q (Q.ld rfl rfl) ?_
   refine XO.q (Q.sub rfl rfl ⟨by omega, by omega⟩) ?_
   refine XO.q (Q.leq rfl rfl) ?_
   refine XO.done ?_
   refine XK.if rfl (fun c2 => ?_) (fun c2 => ?_)
   ·skip
    have hq2 : q < (spanS (d.jobs.getD i default)).toNat := by unfold spanS; omega
    have ak3 := RS3.2 k (by omega)
    have al := addPart_len (out := (startsTo d.jobs (i))) (j := (d.jobs.getD i default)) (k := k) (q := q) (by omega) (by omega)
    have rl3 := RP3.1
    rw [al] at rl3
    have mq : k * (spanS (d.jobs.getD i default)).toNat ≤ 24 * 24 := Nat.mul_le_mul (by omega) (by omega)
    refine XK.skip (XK.seq (XK.block (XK.region rfl (XO.q (Q.move rfl) (XO.q (Q.move rfl) ?_)))))
    refine XO.call Tryz.call59 rfl rfl rfl (cloneI (us.getD k default) K3 ((startsTo d.jobs (i)).getD k default) (by omega)) fun v37 s37 R37 => ?_
    obtain ⟨k37, rfl, O37⟩ := R37
    dsimp only [lcA, lnA]
    refine XO.q (Q.move rfl) ?_
    refine XO.lit [_] [_] [(d.jobs.getD i default).beg + ((q : Nat) : Int)] encI (by rfl) (by rfl) rfl (by rfl) (by exact .c 0 1 rfl rfl rfl (.n _)) (fun _ => rfl) (by rfl) rfl (by infer_instance) rfl fun v39 h39 O39 => ?_
    have AK : True := trivial
    refine XO.append rfl rfl rfl rfl (by simp only [List.length_cons, List.length_nil]; omega) fun v40 h40 O40 => ?_
    refine XO.lit [_] [_] [v40] encV (by rfl) (by rfl) rfl (by rfl) (by exact .c 0 1 rfl rfl rfl (.n _)) (fun _ => rfl) (by rfl) rfl (by infer_instance) rfl fun v41 h41 O41 => ?_
    refine XO.append rfl rfl rfl rfl (by simp only [List.length_cons, List.length_nil]; omega) fun v42 h42 O42 => ?_
    refine XO.q (Q.assign rfl) (XO.done ?_)
    refine XK.inBlock ?_
    refine XK.region rfl (XO.q (Q.move rfl) ?_)
    refine XO.q (Q.add rfl rfl ⟨by omega, by omega⟩) ?_
    refine XO.q (Q.assign rfl) (XO.done ?_)
    refine XK.cat K3 h40 fun l1 l2 => ?_
    exact ih2 (q + 1, (d.jobs.getD i default).beg + ((q : Nat) : Int) + 1, v42, h42, un3 ++ [v40], cat K3 h40) _ _ ⟨by dsimp only; omega, by dsimp only; omega, O42, RS3.mono l1, by dsimp only; rw [addPart_succ hq2]; exact (RP3.mono l1).snoc (Arr.le_heap (OArr.arr (s := O40)) l2)⟩ (by first | omega | (dsimp only; omega)) (.c rfl (.c rfl (.base 40 rfl rfl))) inferInstance
   ·skip
    have hqe : q = (spanS (d.jobs.getD i default)).toNat := by unfold spanS at hq ⊢; omega
    refine XK.exit rfl ?_
    refine XK.inBlock ?_
    refine XK.region rfl ?_
    refine XO.q (Q.add rfl rfl ⟨by omega, by omega⟩) ?_
    refine XO.q (Q.move rfl) (XO.done ?_)
    exact ih1 (k + 1, vn3, kn3, un3, K3) _ _ ⟨by dsimp only; omega, ON3, RS3, by dsimp only; rw [hqe, addPart_all (by omega)] at RP3; rw [addPart_zero]; exact RP3⟩ (by first | omega | (dsimp only; omega)) (.c rfl (.c rfl (.base 66 rfl rfl))) inferInstance
  ·skip
   have hkl : k = us.length := by omega
   subst hkl
   refine XK.exit rfl ?_
   refine XK.region rfl (XO.q (Q.move rfl) (XO.q (Q.assign rfl) (XO.done ?_)))
   refine XK.inBlock ?_
   refine XK.region rfl ?_
   refine XO.q (Q.add rfl rfl ⟨by omega, by omega⟩) ?_
   refine XO.q (Q.move rfl) (XO.done ?_)
   exact ih0 (i + 1, vn, kn, un, K2) _ _ ⟨by dsimp only; omega, ON, by dsimp only; rw [rl, addPart_zero, addJob_take] at RP; exact RP⟩ (by first | omega | (dsimp only; omega)) (.c rfl (.c rfl (.base 81 rfl rfl))) inferInstance
 ·skip
  have hil : i = d.jobs.length := by omega
  subst hil
  refine XK.exit rfl ?_
  refine XK.seq (XK.region rfl (XO.q (Q.move rfl) (XO.q (Q.assign rfl) (XO.done ?_))))
  refine XK.rt [ko, K] Tryz.func145 Tryz.results145 (.t rfl .n) ?_
  exact ⟨ko, us, K, rfl, OO, RO⟩
end Go.X.Ma

set_option linter.unusedSimpArgs false
set_option linter.unusedVariables false
set_option maxRecDepth 20000
namespace Go.X.Ma
open Go.Proofs
theorem range_snocI (f : Nat → Int) (n : Nat) : (List.range (n + 1)).map f = (List.range n).map f ++ [f n] := by rw [List.range_succ, List.map_append]; rfl
theorem used_spec (d : KDay) (vh vj : Value) (hh hj : PHeap) [ih : Arr vh encHour 6 hh d.hours] [ij : Arr vj encJob 4 hj d.jobs] (s : List Int) (vs : Value) (hs_ : PHeap) [js : Arr vs encI 1 hs_ s] (ok : DayOk d) (so : SOk d s) : Spec Tryz.prog 84 #[.agg #[vh, .int .i64 d.store.energy, .int .i64 d.store.full, .int .i64 d.store.power, .int .i64 d.store.fin, vj, .int .i64 d.most, .int .i64 d.peak], vs] [] [hh, hj, hs_] (fun v hs => ∃ k, hs = [k] ∧ OArr v encI 1 3 k (usedL d s)) := by
 have lh := ih.le
 have lj := ij.le
 have h24 := ok.h2
 have j2 := ok.j2
 have sl := so.len
 have nI : OArr (.slice none 0 0) encI 1 3 emp ([] : List Int) := OArr.nil (fun _ => rfl)
 refine Spec.intro (fn := Tryz.f84) (N := 53) Tryz.func84 rfl Tryz.ntmps84 rfl fun B => ?_
 refine XK.seq (XK.region rfl ?_)
 refine XO.box rfl fun b2 => ?_
 refine XO.q (Q.assign rfl) (XO.done (XK.seq (XK.region rfl (XO.q (Q.assign rfl) (XO.done ?_)))))
 refine XK.seq (XK.seq (XK.region rfl ?_))
 refine XO.q (Q.fieldAddr rfl) ?_
 refine XO.q (Q.ld rfl rfl) ?_
 refine XO.len rfl fun l13 => ?_
 refine XO.q (Q.move rfl) (XO.done (XK.block ?_))
 refine XK.while (X := Nat × Value × PHeap) [5, 7, 14, 15, 16, 17, 18, 19, 20, 21, 22, 23] (fun ⟨i, vo, ko⟩ => [(5, some (vo)), (14, some (.int .i64 (i : Nat)))]) (fun ⟨i, vo, ko⟩ => [ko]) (fun ⟨i, vo, ko⟩ => i ≤ d.hours.length ∧ OArr vo encI 1 3 ko ((List.range i).map (fun i => (d.hours.getD i default).load))) (fun ⟨i, vo, ko⟩ => d.hours.length - i) (0, .slice none 0 0, emp) [emp] rfl ⟨by omega, nI⟩ (.c rfl (.c rfl (.base 0 rfl rfl))) ?_
 rintro ⟨i, vo, ko⟩ ⟨hi, OL⟩ ih0
 dsimp only [lcA, lnA] at ih0 ⊢
 have ll : ((List.range i).map (fun i => (d.hours.getD i default).load)).length = i := range_len
 refine XK.seq (XK.region rfl ?_)
 refine XO.q (Q.lss rfl rfl) ?_
 refine XO.done (XK.seq ?_)
 refine XK.if rfl (fun c0 => ?_) (fun c0 => ?_)
 ·skip
  refine XK.skip (XK.seq (XK.block (XK.seq (XK.region rfl ?_))))
  refine XO.ix rfl rfl (by omega) (by omega) fun i16 => ?_
  refine XO.q (Q.ldEA [_, _, _, _, _, _] rfl (by first | assumption | omega) rfl rfl) ?_
  refine XO.alloc fun b7 => ?_
  refine XO.st rfl rfl rfl ?_
  refine XO.done (XK.region rfl (XO.q (Q.move rfl) ?_))
  refine XO.q (Q.fieldAddr rfl) ?_
  refine XO.q (Q.ld rfl rfl) ?_
  refine XO.lit [_] [_] [(d.hours.getD i default).load] encI (by rfl) (by rfl) rfl (by rfl) (by exact .c 0 1 rfl rfl rfl (.n _)) (fun _ => rfl) (by rfl) rfl (by infer_instance) rfl fun v21 h21 O21 => ?_
  refine XO.append rfl rfl rfl rfl (by first | omega | (simp; omega)) fun v22 h22 O22 => ?_
  refine XO.q (Q.assign rfl) (XO.done ?_)
  refine XK.inBlock ?_
  refine XK.region rfl ?_
  refine XO.q (Q.add rfl rfl ⟨by omega, by omega⟩) ?_
  refine XO.q (Q.move rfl) (XO.done ?_)
  exact ih0 (i + 1, v22, h22) _ _ ⟨by dsimp only; omega, by dsimp only; rw [range_snocI]; exact O22⟩ (by first | omega | (dsimp only; omega)) (.c rfl (.c rfl (.base 26 rfl rfl))) inferInstance
 ·skip
  have hin : i = d.hours.length := by omega
  rw [hin, ← usedT_start d s] at OL
  clear ih0
  refine XK.exit rfl ?_
  refine XK.seq (XK.seq (XK.region rfl ?_))
  refine XO.q (Q.fieldAddr rfl) ?_
  refine XO.q (Q.ld rfl rfl) ?_
  refine XO.len rfl fun l26 => ?_
  refine XO.q (Q.move rfl) (XO.done (XK.block ?_))
  refine XK.while (X := Nat × PHeap) [8, 9, 10, 27, 28, 29, 30, 31, 32, 33, 34, 35, 36, 37, 38, 39, 40, 41, 42, 43, 44, 45, 46, 47, 48, 49, 50, 51] (fun ⟨k, kq⟩ => [(27, some (.int .i64 (k : Nat)))]) (fun ⟨k, kq⟩ => [kq]) (fun ⟨k, kq⟩ => k ≤ d.jobs.length ∧ OArr vo encI 1 3 kq (usedT d s k 0)) (fun ⟨k, kq⟩ => d.jobs.length - k) (0, ko) [ko] rfl ⟨by omega, OL⟩ (.c rfl (.base 0 rfl rfl)) ?_
  rintro ⟨k, kq⟩ ⟨hk, OU⟩ ih1
  dsimp only [lcA, lnA] at ih1 ⊢
  refine XK.seq (XK.region rfl ?_)
  refine XO.q (Q.lss rfl rfl) ?_
  refine XO.done (XK.seq ?_)
  refine XK.if rfl (fun c1 => ?_) (fun c1 => ?_)
  ·skip
   have ji := ok.job k (by omega)
   have jb := ji.b0
   have jc := ji.b1
   have jt := ji.t1
   have jh := ji.h0
   have jp := ji.p0
   have jq := ji.p1
   have sk := so.at' k (by omega)
   refine XK.skip (XK.seq (XK.block (XK.seq (XK.region rfl (XO.q (Q.move rfl) ?_)))))
   refine XO.ix rfl rfl (by omega) (by omega) fun i30 => ?_
   refine XO.q (Q.ldEA [_, _, _, _] rfl (by first | assumption | omega) rfl rfl) ?_
   refine XO.alloc fun b9 => ?_
   refine XO.q (Q.assign rfl) ?_
   refine XO.st rfl rfl rfl ?_
   refine XO.done (XK.seq (XK.region rfl ?_))
   refine XO.q (Q.fieldAddr rfl) ?_
   refine XO.q (Q.ld rfl rfl) ?_
   refine XO.q (Q.move rfl) (XO.done (XK.block ?_))
   refine XK.while (X := Nat × PHeap) [10, 34, 35, 36, 37, 38, 39, 40, 41, 42, 43, 44, 45, 46, 47, 48, 49, 50] (fun ⟨t, kr⟩ => [(34, some (.int .i64 (t : Nat)))]) (fun ⟨t, kr⟩ => [kr]) (fun ⟨t, kr⟩ => (t : Int) ≤ (d.jobs.getD k default).hours ∧ OArr vo encI 1 3 kr (usedT d s k t)) (fun ⟨t, kr⟩ => (d.jobs.getD k default).hours.toNat - t) (0, kq) [kq] rfl ⟨by (try dsimp only); omega, OU⟩ (.c rfl (.base 0 rfl rfl)) ?_
   rintro ⟨t, kr⟩ ⟨ht, OT⟩ ih2
   dsimp only [lcA, lnA] at ih2 ⊢
   refine XK.seq (XK.region rfl ?_)
   refine XO.q (Q.lss rfl rfl) ?_
   refine XO.done (XK.seq ?_)
   refine XK.if rfl (fun c2 => ?_) (fun c2 => ?_)
   ·skip
    have ul := usedT_len d s k t
    have ha : (s.getD k default + ((t : Nat) : Int)).toNat < d.hours.length := by omega
    have ur := used_rng ok s ha k (by omega)
    have ue : (usedT d s k t).getD (s.getD k default + ((t : Nat) : Int)).toNat default = usedAt d s (s.getD k default + ((t : Nat) : Int)).toNat k + partS (d.jobs.getD k default) (s.getD k default) t (s.getD k default + ((t : Nat) : Int)).toNat := by rw [usedT, range_at ha]
    unfold partS at ue
    rw [if_neg (by omega), Int.add_zero] at ue
    refine XK.skip (XK.seq (XK.block (XK.seq (XK.region rfl (XO.q (Q.move rfl) ?_)))))
    refine XO.q (Q.assign rfl) (XO.done ?_)
    refine XK.drawn [0, 1, 2, 3, 4, 5, 6, 7, 8, 9, 10, 11, 12] [b9] [kr] (.q 0 (.q 1 (.q 2 (.q 3 (.q 4 (.q 5 (.q 6 (.q 7 (.q 8 (.q 9 (.q 10 (.q 11 (.q 12 (.br 13 false .done .stop)))))))))))))) Tryz.mixed rfl (by kernel_rfl) ?_
    refine XT.q rfl rfl (Q.move rfl) ?_
    refine XT.q rfl rfl (Q.move rfl) ?_
    refine XT.q rfl rfl (Q.move rfl) ?_
    refine XT.ix rfl rfl rfl rfl (by omega) (by omega) fun i40 => ?_
    refine XT.q rfl rfl (Q.ldE rfl (by first | assumption | omega) rfl) ?_
    refine XT.q rfl rfl (Q.move rfl) ?_
    refine XT.q rfl rfl (Q.add rfl rfl ⟨by omega, by omega⟩) ?_
    refine XT.ix rfl rfl rfl rfl (by omega) (by omega) fun i44 => ?_
    refine XT.q rfl rfl (Q.ldE rfl (by first | assumption | omega) rfl) ?_
    refine XT.q rfl rfl (Q.fieldAddr rfl) ?_
    refine XT.q rfl rfl (Q.ld rfl rfl) ?_
    refine XT.q rfl rfl (Q.add rfl rfl ⟨by omega, by omega⟩) ?_
    refine XT.ix rfl rfl rfl rfl (by omega) (by omega) fun i49 => ?_
    refine XT.stE _ rfl rfl rfl rfl rfl (by assumption) rfl rfl (fun h13_13 O13_13 => ⟨inferInstance, ?_⟩) XT.stop
    rw [usedT_step ha (by omega) (by omega)] at O13_13
    refine XT.done ?_
    refine XK.inBlock ?_
    refine XK.region rfl ?_
    refine XO.q (Q.add rfl rfl ⟨by omega, by omega⟩) ?_
    refine XO.q (Q.move rfl) (XO.done ?_)
    exact ih2 (t + 1, h13_13) _ _ ⟨by dsimp only; omega, O13_13⟩ (by first | omega | (dsimp only; omega)) (.c rfl (.base 37 rfl rfl)) inferInstance
   ·skip
    have hte : ((t : Nat) : Int) = (d.jobs.getD k default).hours := by omega
    refine XK.exit rfl ?_
    refine XK.inBlock ?_
    refine XK.region rfl ?_
    refine XO.q (Q.add rfl rfl ⟨by omega, by omega⟩) ?_
    refine XO.q (Q.move rfl) (XO.done ?_)
    exact ih1 (k + 1, kr) _ _ ⟨by dsimp only; omega, by dsimp only; rw [← usedT_all hte]; exact OT⟩ (by first | omega | (dsimp only; omega)) (.c rfl (.base 60 rfl rfl)) inferInstance
  ·skip
   have hkl : k = d.jobs.length := by omega
   rw [hkl, usedT_end] at OU
   refine XK.exit rfl ?_
   refine XK.seq (XK.region rfl (XO.q (Q.move rfl) (XO.q (Q.assign rfl) (XO.done ?_))))
   refine XK.rt [kq] Tryz.func84 Tryz.results84 (.t rfl .n) ?_
   exact ⟨kq, rfl, OU⟩
theorem needs_spec (d : KDay) (vh vj : Value) (hh hj : PHeap) [ih : Arr vh encHour 6 hh d.hours] [ij : Arr vj encJob 4 hj d.jobs] (s : List Int) (vs : Value) (hs_ : PHeap) [js : Arr vs encI 1 hs_ s] (ok : DayOk d) (so : SOk d s) : Spec Tryz.prog 150 #[.agg #[vh, .int .i64 d.store.energy, .int .i64 d.store.full, .int .i64 d.store.power, .int .i64 d.store.fin, vj, .int .i64 d.most, .int .i64 d.peak], vs] [] [hh, hj, hs_] (fun v hs => ∃ k, hs = [k] ∧ OArr v encI 1 3 k (needsL d s)) := by
 have lh := ih.le
 refine Spec.intro (fn := Tryz.f150) (N := 29) Tryz.func150 rfl Tryz.ntmps150 rfl fun B => ?_
 refine XK.seq (XK.region rfl ?_)
 refine XO.box rfl fun b2 => ?_
 refine XO.q (Q.assign rfl) (XO.done (XK.seq (XK.region rfl ?_)))
 refine XO.q (Q.ldA [_, _, _, _, _, _, _, _] rfl rfl rfl) ?_
 refine XO.q (Q.move rfl) ?_
 refine XO.call Tryz.call84 rfl rfl rfl (used_spec d vh vj hh hj s vs hs_ ok so) fun v10 s10 R10 => ?_
 obtain ⟨ku, rfl, OU0⟩ := R10
 dsimp only [lcA, lnA]
 refine XO.q (Q.assign rfl) (XO.done (XK.seq (XK.seq (XK.region rfl ?_))))
 refine XO.q (Q.fieldAddr rfl) ?_
 refine XO.q (Q.ld rfl rfl) ?_
 refine XO.len rfl fun l13 => ?_
 refine XO.q (Q.move rfl) (XO.done (XK.block ?_))
 refine XK.while (X := Nat × PHeap) [6, 7, 14, 15, 16, 17, 18, 19, 20, 21, 22, 23, 24, 25, 26, 27] (fun ⟨i, kq⟩ => [(14, some (.int .i64 (i : Nat)))]) (fun ⟨i, kq⟩ => [kq]) (fun ⟨i, kq⟩ => i ≤ d.hours.length ∧ OArr v10 encI 1 3 kq (needT d s i)) (fun ⟨i, kq⟩ => d.hours.length - i) (0, ku) [ku] rfl ⟨by omega, by rw [needT_zero]; exact OU0⟩ (.c rfl (.base 0 rfl rfl)) ?_
 rintro ⟨i, kq⟩ ⟨hi, OU⟩ ih0
 dsimp only [lcA, lnA] at ih0 ⊢
 refine XK.seq (XK.region rfl ?_)
 refine XO.q (Q.lss rfl rfl) ?_
 refine XO.done (XK.seq ?_)
 refine XK.if rfl (fun c0 => ?_) (fun c0 => ?_)
 ·skip
  have nl := needT_len d s i
  have ur := used_rng ok s (show i < d.hours.length by omega) d.jobs.length (Nat.le_refl _)
  have j2 := ok.j2
  have hk := ok.hour i (by omega)
  have u0 := hk.u0
  have u1 := hk.u1
  have na := needT_at (s := s) (show i < d.hours.length by omega)
  refine XK.skip (XK.seq (XK.block (XK.seq (XK.region rfl (XO.q (Q.move rfl) ?_)))))
  refine XO.ix rfl rfl (by omega) (by omega) fun i17 => ?_
  refine XO.q (Q.ldEA [_, _, _, _, _, _] rfl (by first | assumption | omega) rfl rfl) ?_
  refine XO.alloc fun b7 => ?_
  refine XO.q (Q.assign rfl) ?_
  refine XO.st rfl rfl rfl ?_
  refine XO.done ?_
  refine XK.drawn [0, 1, 2, 3, 4, 5, 6, 7] [b7] [kq] (.q 0 (.q 1 (.q 2 (.q 3 (.q 4 (.q 5 (.q 6 (.q 7 (.br 8 false .done .stop))))))))) Tryz.mixed rfl (by kernel_rfl) ?_
  refine XT.q rfl rfl (Q.move rfl) ?_
  refine XT.q rfl rfl (Q.move rfl) ?_
  refine XT.ix rfl rfl rfl rfl (by omega) (by omega) fun i21 => ?_
  refine XT.q rfl rfl (Q.ldE rfl (by first | assumption | omega) rfl) ?_
  refine XT.q rfl rfl (Q.fieldAddr rfl) ?_
  refine XT.q rfl rfl (Q.ld rfl rfl) ?_
  refine XT.q rfl rfl (Q.sub rfl rfl ⟨by omega, by omega⟩) ?_
  refine XT.ix rfl rfl rfl rfl (by omega) (by omega) fun i26 => ?_
  refine XT.stE _ rfl rfl rfl rfl rfl (by assumption) rfl rfl (fun h5_8 O5_8 => ⟨inferInstance, ?_⟩) XT.stop
  rw [needT_step (by omega)] at O5_8
  refine XT.done ?_
  refine XK.inBlock ?_
  refine XK.region rfl ?_
  refine XO.q (Q.add rfl rfl ⟨by omega, by omega⟩) ?_
  refine XO.q (Q.move rfl) (XO.done ?_)
  exact ih0 (i + 1, h5_8) _ _ ⟨by dsimp only; omega, O5_8⟩ (by first | omega | (dsimp only; omega)) (.c rfl (.base 33 rfl rfl)) inferInstance
 ·skip
  have hin : i = d.hours.length := by omega
  rw [hin, needT_all] at OU
  refine XK.exit rfl ?_
  refine XK.seq (XK.region rfl (XO.q (Q.move rfl) (XO.q (Q.assign rfl) (XO.done ?_))))
  refine XK.rt [kq] Tryz.func150 Tryz.results150 (.t rfl .n) ?_
  exact ⟨kq, rfl, OU⟩
theorem price_mul {a b : Int} (a0 : 0 ≤ a) (a1 : a ≤ 1000) (b0 : 0 ≤ b) (b1 : b ≤ 1000) : 0 ≤ a * b ∧ a * b ≤ 1000000 := ⟨Int.mul_nonneg a0 b0, Int.le_trans (Int.mul_le_mul a1 b1 b0 (by omega)) (by decide)⟩
theorem price_rng {h : KHour} (k : HourOk h) {n : Int} (h0 : -1000 ≤ n) (h1 : n ≤ 1000) : -1000000 ≤ priceH h n ∧ priceH h n ≤ 1000000 := by
 have := k.b0; have := k.b1; have := k.s0; have := k.s1
 have p1 := price_mul (a := max n 0) (b := h.buy) (by omega) (by omega) (by omega) (by omega)
 have p2 := price_mul (a := max (-n) 0) (b := h.sell) (by omega) (by omega) (by omega) (by omega)
 unfold priceH; omega
theorem price_spec (h : KHour) (k : HourOk h) (n : Int) (h0 : -1000 ≤ n) (h1 : n ≤ 1000) : Spec Tryz.prog 162 #[.agg #[.int .i64 h.buy, .int .i64 h.sell, .int .i64 h.sun, .int .i64 h.load, .int .i64 h.carbon, .int .i64 h.water], .int .i64 n] [] [] (fun v hs => v = .int .i64 (priceH h n) ∧ hs = []) := by
 have := k.b0
 have := k.b1
 have := k.s0
 have := k.s1
 have p1 := price_mul (a := max n 0) (b := h.buy) (by omega) (by omega) (by omega) (by omega)
 have p2 := price_mul (a := max (-n) 0) (b := h.sell) (by omega) (by omega) (by omega) (by omega)
 refine Spec.intro (fn := Tryz.f162) (N := 17) Tryz.func162 rfl Tryz.ntmps162 rfl fun B => ?_
 refine XK.seq (XK.region rfl ?_)
 refine XO.box rfl fun b2 => ?_
 refine XO.q (Q.assign rfl) (XO.done (XK.seq (XK.region rfl (XO.q (Q.move rfl) ?_))))
 refine XO.q (Q.max rfl rfl) ?_
 refine XO.q (Q.fieldAddr rfl) ?_
 refine XO.q (Q.ld rfl rfl) ?_
 refine XO.q (Q.mul rfl rfl ⟨by omega, by omega⟩) ?_
 refine XO.q (Q.move rfl) ?_
 refine XO.q (Q.neg rfl ⟨by omega, by omega⟩) ?_
 rw [show (0 : Int) - n = -n by omega]
 refine XO.q (Q.max rfl rfl) ?_
 refine XO.q (Q.fieldAddr rfl) ?_
 refine XO.q (Q.ld rfl rfl) ?_
 refine XO.q (Q.mul rfl rfl ⟨by omega, by omega⟩) ?_
 refine XO.q (Q.sub rfl rfl ⟨by omega, by omega⟩) ?_
 refine XO.q (Q.assign rfl) (XO.done ?_)
 refine XK.rt [] Tryz.func162 Tryz.results162 (.t rfl .n) ?_
 exact ⟨rfl, rfl⟩
end Go.X.Ma

set_option linter.unusedSimpArgs false
set_option linter.unusedVariables false
set_option maxRecDepth 20000
namespace Go.X.Ma
open Go.Proofs
theorem indexRows (v : Value) (h : PHeap) (us : List Value) [s : Arr v encV 1 h us] (K : PHeap) (rows : List (List Int)) (rk : RowsK us K rows) (gid : FuncId) (cap : List Value) (Hr : List PHeap) (p : List Int → Bool)
  (hc : ∀ args w, (callFunc gid args).run Tryz.prog w = .ok (.enter gid args) w) (hS : ∀ i, i < us.length → Spec Tryz.prog gid (us.getD i default :: cap).toArray [] (K :: Hr) (fun v hs => v = .bool (p (rows.getD i default)) ∧ hs = [])) :
  Spec Tryz.prog 90 #[v, .func (.func gid) #[] cap.toArray] [] (h :: K :: Hr) (fun v hs => v = .int .i64 (findFirst p rows) ∧ hs = []) := by
 have rl := rk.1
 refine Spec.intro (fn := Tryz.f90) (N := 19) Tryz.func90 rfl Tryz.ntmps90 rfl fun B => ?_
 refine XK.seq (XK.region rfl (XO.q (Q.assign rfl) (XO.done (XK.seq (XK.seq ?_)))))
 refine XK.region rfl (XO.q (Q.move rfl) ?_)
 refine XO.len rfl fun l7 => ?_
 refine XO.q (Q.move rfl) (XO.done (XK.block ?_))
 refine XK.while (X := Nat) [4, 5, 8, 9, 10, 11, 12, 13, 14, 15, 16, 17, 18] (fun i => [(8, some (.int .i64 (i : Nat)))]) (fun i => []) (fun i => i ≤ us.length ∧ (rows.take i).any p = false) (fun i => us.length - i) (0) [] rfl ⟨by omega, rfl⟩ (.c rfl (.base 0 rfl rfl)) ?_
 rintro i ⟨hi, ht⟩ ih0
 dsimp only [lcA, lnA] at ih0 ⊢
 refine XK.seq (XK.region rfl ?_)
 refine XO.q (Q.lss rfl rfl) ?_
 refine XO.done (XK.seq ?_)
 refine XK.if rfl (fun c0 => ?_) (fun c0 => ?_)
 ·skip
  refine XK.skip (XK.seq (XK.block (XK.seq (XK.region rfl (XO.q (Q.move rfl) ?_)))))
  refine XO.q (Q.assign rfl) (XO.done (XK.seq (XK.region rfl (XO.q (Q.move rfl) (XO.q (Q.move rfl) ?_)))))
  refine XO.q (Q.move rfl) ?_
  refine XO.ix rfl rfl (by omega) (by omega) fun i14 => ?_
  refine XO.q (Q.ldE rfl (by first | assumption | omega) rfl) ?_
  refine XO.call hc rfl rfl rfl (hS i (by omega)) fun v16 s16 R16 => ?_
  obtain ⟨rfl, rfl⟩ := R16
  dsimp only [lcA, lnA]
  refine XO.done ?_
  refine XK.if rfl (fun c1 => ?_) (fun c1 => ?_)
  ·skip
   refine XK.seq (XK.region rfl (XO.q (Q.move rfl) (XO.q (Q.assign rfl) (XO.done ?_))))
   refine XK.rt [] Tryz.func90 Tryz.results90 (.t rfl .n) ?_
   exact ⟨by rw [findFirst_here ht (by omega) c1], rfl⟩
  ·skip
   refine XK.skip ?_
   refine XK.inBlock ?_
   refine XK.region rfl ?_
   refine XO.q (Q.add rfl rfl ⟨by omega, by omega⟩) ?_
   refine XO.q (Q.move rfl) (XO.done ?_)
   exact ih0 (i + 1) _ _ ⟨by omega, any_step ht (by omega) (Bool.eq_false_iff.2 c1)⟩ (by first | omega | (dsimp only; omega)) (.c rfl (.base 25 rfl rfl)) inferInstance
 ·skip
  refine XK.exit rfl ?_
  refine XK.seq (XK.region rfl (XO.q (Q.assign rfl) (XO.done ?_)))
  refine XK.rt [] Tryz.func90 Tryz.results90 (.t rfl .n) ?_
  exact ⟨by rw [findFirst_none ht (by omega)], rfl⟩
theorem containsRows (v : Value) (h : PHeap) (us : List Value) [s : Arr v encV 1 h us] (K : PHeap) (rows : List (List Int)) (rk : RowsK us K rows) (gid : FuncId) (cap : List Value) (Hr : List PHeap) (p : List Int → Bool)
  (hc : ∀ args w, (callFunc gid args).run Tryz.prog w = .ok (.enter gid args) w) (hS : ∀ i, i < us.length → Spec Tryz.prog gid (us.getD i default :: cap).toArray [] (K :: Hr) (fun v hs => v = .bool (p (rows.getD i default)) ∧ hs = [])) :
  Spec Tryz.prog 36 #[v, .func (.func gid) #[] cap.toArray] [] (h :: K :: Hr) (fun v hs => v = .bool (rows.any p) ∧ hs = []) := by
 refine Spec.intro (fn := Tryz.f36) (N := 9) Tryz.func36 rfl Tryz.ntmps36 rfl fun B => ?_
 refine XK.seq (XK.region rfl (XO.q (Q.assign rfl) (XO.done (XK.seq (XK.region rfl ?_)))))
 refine XO.q (Q.move rfl) (XO.q (Q.move rfl) ?_)
 refine XO.call Tryz.call90 rfl rfl rfl (indexRows v h us K rows rk gid cap Hr p hc hS) fun v7 s7 R7 => ?_
 obtain ⟨rfl, rfl⟩ := R7
 dsimp only [lcA, lnA]
 refine XO.q (Q.geq rfl rfl) ?_
 refine XO.q (Q.assign rfl) (XO.done ?_)
 refine XK.rt [] Tryz.func36 Tryz.results36 (.t rfl .n) ?_
 exact ⟨by rw [← findFirst_any], rfl⟩
theorem form1 (p : KPlan) (vs vc : Value) (hs_ hc : PHeap) [js : Arr vs encI 1 hs_ p.starts] [jc : Arr vc encI 1 hc p.charge] (b : Nat) (x : Value) (K : PHeap) (xs : List Int) [ix : Arr x encI 1 K xs] : Spec Tryz.prog 149 #[x, ptr b 0] [] [K, blk b [vs, vc, .int .i64 p.cost] 118, hs_] (fun v hs => v = .bool (decide (xs = p.starts)) ∧ hs = []) := by
 refine Spec.intro (fn := Tryz.f149) (N := 8) Tryz.func149 rfl Tryz.ntmps149 rfl fun B => ?_
 refine XK.seq (XK.region rfl (XO.q (Q.assign rfl) (XO.done (XK.seq (XK.region rfl ?_)))))
 refine XO.q (Q.move rfl) ?_
 refine XO.q (Q.fieldAddr rfl) ?_
 refine XO.q (Q.ld rfl rfl) ?_
 refine XO.call Tryz.call35 rfl rfl rfl (equalI x vs K hs_ xs p.starts) fun v7 s7 R7 => ?_
 obtain ⟨rfl, rfl⟩ := R7
 dsimp only [lcA, lnA]
 refine XO.q (Q.assign rfl) (XO.done ?_)
 refine XK.rt [] Tryz.func149 Tryz.results149 (.t rfl .n) ?_
 exact ⟨rfl, rfl⟩
theorem okAt_bad {d : KDay} {p : KPlan} {i : Nat} (h : (((p.charge.getD i default < -d.store.power ∨ d.store.power < p.charge.getD i default) ∨ ¬ kin d.store.full [energyTo d p.charge i + p.charge.getD i default] = true) ∨ d.most < (needsL d p.starts).getD i default + p.charge.getD i default)) : okAt d (needsL d p.starts) p.charge i = false := by
 unfold okAt
 simp only [Bool.and_eq_false_iff, Bool.not_eq_false', decide_eq_true_eq]
 rcases h with ((h | h) | h) | h
 ·exact .inl (.inl (.inl h))
 ·exact .inl (.inl (.inr h))
 ·exact .inl (.inr (Bool.eq_false_iff.2 h))
 ·exact .inr h
theorem okAt_good {d : KDay} {p : KPlan} {i : Nat} (h : ¬ (((p.charge.getD i default < -d.store.power ∨ d.store.power < p.charge.getD i default) ∨ ¬ kin d.store.full [energyTo d p.charge i + p.charge.getD i default] = true) ∨ d.most < (needsL d p.starts).getD i default + p.charge.getD i default)) : okAt d (needsL d p.starts) p.charge i = true := by
 unfold okAt
 simp only [not_or, Classical.not_not] at h
 simp only [Bool.and_eq_true, Bool.not_eq_true', decide_eq_false_iff_not]
 exact ⟨⟨⟨h.1.1.1, h.1.1.2⟩, h.1.2⟩, h.2⟩
set_option maxHeartbeats 1000000 in
theorem form_spec (d : KDay) (vh vj : Value) (hh hj : PHeap) [ih : Arr vh encHour 6 hh d.hours] [ij : Arr vj encJob 4 hj d.jobs] (p : KPlan) (vs vc : Value) (hs_ hc : PHeap) [js : Arr vs encI 1 hs_ p.starts] [jc : Arr vc encI 1 hc p.charge] : Spec Tryz.prog 83 #[.agg #[vh, .int .i64 d.store.energy, .int .i64 d.store.full, .int .i64 d.store.power, .int .i64 d.store.fin, vj, .int .i64 d.most, .int .i64 d.peak], .agg #[vs, vc, .int .i64 p.cost]] [] [hh, hj, hs_, hc] (fun v hs => ∃ v1 k1, v = .tuple #[v1, .int .i64 (formG d p).2] ∧ hs = [k1] ∧ OArr v1 encI 1 3 k1 (formG d p).1) := by
 have lh := ih.le
 have lc := jc.le
 have nI : OArr (.slice none 0 0) encI 1 3 emp ([] : List Int) := OArr.nil (fun _ => rfl)
 refine Spec.intro (fn := Tryz.f83) (N := 90) Tryz.func83 rfl Tryz.ntmps83 rfl fun B => ?_
 refine XK.seq (XK.region rfl ?_)
 refine XO.box rfl fun b2 => ?_
 refine XO.box rfl fun b3 => ?_
 refine XO.q (Q.assign rfl) (XO.q (Q.assign rfl) (XO.done (XK.seq (XK.seq (XK.region rfl ?_)))))
 refine XO.q (Q.ldA [_, _, _, _, _, _, _, _] rfl rfl rfl) ?_
 refine XO.call Tryz.call144 rfl rfl rfl (Check_spec d vh vj hh hj) fun v12 s12 R12 => ?_
 obtain ⟨rfl, rfl⟩ := R12
 dsimp only [lcA, lnA]
 refine XO.q (Q.assign rfl) (XO.done (XK.seq (XK.region rfl (XO.q (Q.move rfl) ?_))))
 refine XO.q (Q.neq rfl rfl) ?_
 refine XO.done ?_
 refine XK.if rfl (fun c0 => ?_) (fun c0 => ?_)
 ·skip
  refine XK.seq (XK.region rfl (XO.q (Q.move rfl) (XO.q (Q.assign rfl) (XO.q (Q.assign rfl) (XO.done ?_)))))
  refine XK.rt [emp] Tryz.func83 Tryz.results83 (.t rfl (.t rfl .n)) ?_
  have e : formG d p = ([], kcheck d) := by rw [formG, if_pos c0]
  rw [e]
  exact ⟨.slice none 0 0, emp, rfl, rfl, nI⟩
 ·skip
  have ok := kcheck_iff.1 (Decidable.of_not_not c0)
  have st := ok.store
  have s1 := st.f0
  have s2 := st.f1
  have s3 := st.p0
  have s4 := st.p1
  have s5 := st.e0
  have s6 := st.e1
  refine XK.skip (XK.seq (XK.seq (XK.region rfl ?_)))
  refine XO.q (Q.ldA [_, _, _, _, _, _, _, _] rfl rfl rfl) ?_
  refine XO.call Tryz.call145 rfl rfl rfl (starts_spec d vh vj hh hj ok) fun v17 s17 R17 => ?_
  obtain ⟨ho, us, K, rfl, OO, RO⟩ := R17
  dsimp only [lcA, lnA]
  refine XO.q (Q.func (fun _ he => rfl) (fun _ he => evs_rel he rfl)) ?_
  refine XO.call Tryz.call36 rfl rfl rfl (containsRows v17 ho us K (startsL d) RO 149 [ptr b3 0] [blk b3 [vs, vc, .int .i64 p.cost] 118, hs_] (fun l => decide (l = p.starts)) Tryz.call149 (fun i hi => by haveI := RO.2 i hi; exact form1 p vs vc hs_ hc b3 (us.getD i default) K ((startsL d).getD i default))) fun v19 s19 R19 => ?_
  obtain ⟨rfl, rfl⟩ := R19
  dsimp only [lcA, lnA]
  refine XO.q (Q.not rfl) ?_
  refine XO.q (Q.move rfl) ?_
  refine XO.q (Quiet.guardF rfl rfl fun g22 p22 => Q.fieldAddr rfl) ?_
  refine XO.q (Quiet.guardF rfl rfl fun g23 p23 => Q.ld (lzv g23 rfl) rfl) ?_
  refine XO.q (Quiet.guardF rfl rfl fun g24 p24 => Q.len (lzv g24 rfl)) ?_
  refine XO.q (Quiet.guardF rfl rfl fun g25 p25 => Q.fieldAddr rfl) ?_
  refine XO.q (Quiet.guardF rfl rfl fun g26 p26 => Q.ld (lzv g26 rfl) rfl) ?_
  refine XO.q (Quiet.guardF rfl rfl fun g27 p27 => Q.len (lzv g27 rfl)) ?_
  refine XO.q (Quiet.guardF rfl rfl fun g28 p28 => Q.neq (lzv g28 rfl) (lzv g28 rfl)) ?_
  refine XO.q (Q.or rfl (fun hp => lzv hp rfl)) ?_
  refine XO.done ?_
  refine XK.if rfl (fun c1 => ?_) (fun c1 => ?_)
  ·skip
   refine XK.seq (XK.region rfl (XO.q (Q.assign rfl) (XO.q (Q.assign rfl) (XO.done ?_))))
   refine XK.rt [emp] Tryz.func83 Tryz.results83 (.t rfl (.t rfl .n)) ?_
   have e : formG d p = ([], 1) := by rw [formG, if_neg c0, if_pos c1]
   rw [e]
   exact ⟨.slice none 0 0, emp, rfl, rfl, nI⟩
  ·skip
   have c1a : (startsL d).any (fun l => decide (l = p.starts)) = true := Decidable.of_not_not fun h => c1 (.inl h)
   have so := starts_any c1a
   have cl : p.charge.length = d.hours.length := by have := fun h => c1 (.inr h); omega
   refine XK.skip (XK.seq (XK.region rfl ?_))
   refine XO.q (Q.ldA [_, _, _, _, _, _, _, _] rfl rfl rfl) ?_
   refine XO.q (Q.fieldAddr rfl) ?_
   refine XO.q (Q.ld rfl rfl) ?_
   refine XO.call Tryz.call150 rfl rfl rfl (needs_spec d vh vj hh hj p.starts vs hs_ ok so) fun v33 s33 R33 => ?_
   obtain ⟨kb, rfl, OB⟩ := R33
   dsimp only [lcA, lnA]
   refine XO.q (Q.assign rfl) (XO.done (XK.seq (XK.region rfl ?_)))
   refine XO.q (Q.fieldAddr rfl) ?_
   refine XO.q (Q.fieldAddr rfl) ?_
   refine XO.q (Q.ld rfl rfl) ?_
   refine XO.q (Q.assign rfl) (XO.done (XK.seq (XK.seq (XK.region rfl ?_))))
   refine XO.q (Q.fieldAddr rfl) ?_
   refine XO.q (Q.ld rfl rfl) ?_
   refine XO.len rfl fun l39 => ?_
   refine XO.q (Q.move rfl) (XO.done (XK.block ?_))
   refine XK.while (X := Nat) [4, 5, 8, 9, 10, 40, 41, 42, 43, 44, 45, 46, 47, 48, 49, 50, 51, 52, 53, 54, 55, 56, 57, 58, 59, 60, 61, 62, 63, 64, 65, 66, 67, 68, 69, 70, 71, 72, 73, 74, 75, 76, 77, 78, 79, 80, 81, 82, 83] (fun i => [(8, some (.int .i64 (energyTo d p.charge i))), (40, some (.int .i64 (i : Nat)))]) (fun i => []) (fun i => i ≤ p.charge.length ∧ allTo (okAt d (needsL d p.starts) p.charge) i = true ∧ 0 ≤ energyTo d p.charge i ∧ energyTo d p.charge i ≤ d.store.full) (fun i => p.charge.length - i) (0) [] rfl ⟨by omega, rfl, s5, s6⟩ (.c rfl (.c rfl (.base 0 rfl rfl))) ?_
   rintro i ⟨hi, ha, e0, e1⟩ ih0
   dsimp only [lcA, lnA] at ih0 ⊢
   refine XK.seq (XK.region rfl ?_)
   refine XO.q (Q.lss rfl rfl) ?_
   refine XO.done (XK.seq ?_)
   refine XK.if rfl (fun c2 => ?_) (fun c2 => ?_)
   ·skip
    have nr := needs_rng ok p.starts (show i < d.hours.length by omega)
    have nl := needsL_len d p.starts
    refine XK.skip (XK.seq (XK.block (XK.seq (XK.region rfl (XO.q (Q.move rfl) ?_)))))
    refine XO.ix rfl rfl (by omega) (by omega) fun i43 => ?_
    refine XO.q (Q.ldE rfl (by first | assumption | omega) rfl) ?_
    refine XO.q (Q.assign rfl) (XO.q (Q.assign rfl) (XO.done (XK.seq (XK.seq ?_))))
    refine XK.drawn [0, 1, 2, 3, 4, 5, 6, 7, 8, 9, 10, 11, 12, 13, 14, 15, 16, 17, 18, 19, 22, 23, 24, 25, 26, 27, 28, 29, 30, 31, 32, 33, 34] [b2] [kb] (.q 0 (.q 1 (.q 2 (.q 3 (.q 4 (.q 5 (.q 6 (.q 7 (.q 8 (.q 9 (.q 10 (.q 11 (.q 12 (.q 13 (.q 14 (.q 15 (.q 16 (.q 17 (.q 18 (.q 19 (.br 20 true (.br 21 true (.q 22 (.q 23 (.q 24 (.q 25 (.q 26 (.q 27 (.q 28 (.q 29 (.q 30 (.q 31 (.q 32 (.q 33 (.q 34 .done))))))))))))) .stop) .stop))))))))))))))))))))) Tryz.mixed rfl (by kernel_rfl) ?_
    refine XT.q rfl rfl (Q.move rfl) ?_
    refine XT.q rfl rfl (Q.fieldAddr rfl) ?_
    refine XT.q rfl rfl (Q.fieldAddr rfl) ?_
    refine XT.q rfl rfl (Q.ld rfl rfl) ?_
    refine XT.q rfl rfl (Q.neg rfl ⟨by omega, by omega⟩) ?_
    rw [show (0 : Int) - d.store.power = -d.store.power by omega]
    refine XT.q rfl rfl (Q.lss rfl rfl) ?_
    refine XT.q rfl rfl (Q.move rfl) ?_
    refine XT.q rfl rfl (Quiet.guardF rfl rfl fun g52 p52 => Q.move rfl) ?_
    refine XT.q rfl rfl (Quiet.guardF rfl rfl fun g53 p53 => Q.fieldAddr rfl) ?_
    refine XT.q rfl rfl (Quiet.guardF rfl rfl fun g54 p54 => Q.fieldAddr (lzv g54 rfl)) ?_
    refine XT.q rfl rfl (Quiet.guardF rfl rfl fun g55 p55 => Q.ld (lzv g55 rfl) rfl) ?_
    refine XT.q rfl rfl (Quiet.guardF rfl rfl fun g56 p56 => Q.gtr (lzv g56 rfl) (lzv g56 rfl)) ?_
    refine XT.q rfl rfl (Q.or rfl (fun hp => lzv hp rfl)) ?_
    refine XT.q rfl rfl (Q.move rfl) ?_
    refine XT.q rfl rfl (Quiet.guardF rfl rfl fun g59 p59 => Q.fieldAddr rfl) ?_
    refine XT.q rfl rfl (Quiet.guardF rfl rfl fun g60 p60 => Q.fieldAddr (lzv g60 rfl)) ?_
    refine XT.q rfl rfl (Quiet.guardF rfl rfl fun g61 p61 => Q.ld (lzv g61 rfl) rfl) ?_
    refine XT.q rfl rfl (Quiet.guardF rfl rfl fun g62 p62 => Q.move rfl) ?_
    refine XT.q rfl rfl (Quiet.guardF rfl rfl fun g63 p63 => Q.move rfl) ?_
    refine XT.q rfl rfl (Quiet.guardF rfl rfl fun g64 p64 => Q.add (lzv g64 rfl) (lzv g64 rfl) (by have q := p64; exact ⟨by omega, by omega⟩)) ?_
    refine XT.lit1 [_] [_] [energyTo d p.charge i + (p.charge.getD i default)] encI rfl rfl rfl rfl (by rfl) (by rfl) rfl (by rfl) (fun g65 => by exact .c 0 1 (lzv g65 rfl) rfl rfl (.n _)) (fun _ => rfl) (by rfl) rfl (fun _ => by infer_instance) rfl (fun v65 h65 O65 => ⟨inferInstance, ?_⟩) XT.stop
    refine XT.gcallF rfl rfl rfl rfl Tryz.call151 rfl (fun g66 => .c (lzv g66 rfl) (.c (lzv g66 rfl) .n)) rfl (fun g66 p66 => by haveI := O65 g66; exact kin_spec d.store.full v65 h65 [energyTo d p.charge i + (p.charge.getD i default)]) ⟨inferInstance, ?_⟩ XT.stop
    refine XT.q rfl rfl (Quiet.guardF rfl rfl fun g67 p67 => Q.not (lzv g67 rfl)) ?_
    refine XT.q rfl rfl (Q.or rfl (fun hp => lzv hp rfl)) ?_
    refine XT.q rfl rfl (Q.move rfl) ?_
    refine XT.q rfl rfl (Quiet.guardF rfl rfl fun g70 p70 => Q.move rfl) ?_
    refine XT.q rfl rfl (Quiet.guardF rfl rfl fun g71 p71 => Q.move rfl) ?_
    refine XT.q rfl rfl (Quiet.guardF rfl rfl fun g72 p72 => Q.ix (lzv g72 rfl) (lzv g72 rfl) (by omega) (by omega)) ?_
    refine XT.q rfl rfl (Quiet.guardF rfl rfl fun g73 p73 => Q.ldE (lzv g73 rfl) (by first | assumption | omega) rfl) ?_
    refine XT.q rfl rfl (Quiet.guardF rfl rfl fun g74 p74 => Q.move rfl) ?_
    refine XT.q rfl rfl (Quiet.guardF rfl rfl fun g75 p75 => Q.add (lzv g75 rfl) (lzv g75 rfl) (by have q := p75; exact ⟨by omega, by omega⟩)) ?_
    refine XT.q rfl rfl (Quiet.guardF rfl rfl fun g76 p76 => Q.fieldAddr rfl) ?_
    refine XT.q rfl rfl (Quiet.guardF rfl rfl fun g77 p77 => Q.ld (lzv g77 rfl) rfl) ?_
    refine XT.q rfl rfl (Quiet.guardF rfl rfl fun g78 p78 => Q.gtr (lzv g78 rfl) (lzv g78 rfl)) ?_
    refine XT.q rfl rfl (Q.or rfl (fun hp => lzv hp rfl)) ?_
    refine XT.done ?_
    refine XK.if rfl (fun c3 => ?_) (fun c3 => ?_)
    ·skip
     refine XK.seq (XK.region rfl (XO.q (Q.assign rfl) (XO.q (Q.assign rfl) (XO.done ?_))))
     refine XK.rt [emp] Tryz.func83 Tryz.results83 (.t rfl (.t rfl .n)) ?_
     have e : formG d p = ([], 120) := by rw [formG, if_neg c0, if_neg c1, if_pos (by rw [allTo_false (s := i) (by omega) (okAt_bad c3)]; decide)]
     rw [e]
     exact ⟨.slice none 0 0, emp, rfl, rfl, nI⟩
    ·skip
     have good := okAt_good c3
     have c3b := c3
     simp only [not_or, Classical.not_not] at c3b
     have k1 := kin_one.1 c3b.1.2
     refine XK.skip (XK.region rfl (XO.q (Q.move rfl) (XO.q (Q.move rfl) ?_)))
     refine XO.q (Q.add rfl rfl ⟨by omega, by omega⟩) ?_
     refine XO.q (Q.assign rfl) (XO.done ?_)
     refine XK.inBlock ?_
     refine XK.region rfl ?_
     refine XO.q (Q.add rfl rfl ⟨by omega, by omega⟩) ?_
     refine XO.q (Q.move rfl) (XO.done ?_)
     exact ih0 (i + 1) _ _ ⟨by omega, by rw [allTo_succ, ha, good]; rfl, by rw [energyTo]; omega, by rw [energyTo]; omega⟩ (by first | omega | (dsimp only; omega)) (.c rfl (.c rfl (.base 98 rfl rfl))) inferInstance
   ·skip
    have hin : i = p.charge.length := by omega
    subst hin
    refine XK.exit rfl ?_
    refine XK.seq (XK.seq (XK.region rfl (XO.q (Q.move rfl) ?_)))
    refine XO.q (Q.fieldAddr rfl) ?_
    refine XO.q (Q.fieldAddr rfl) ?_
    refine XO.q (Q.ld rfl rfl) ?_
    refine XO.q (Q.lss rfl rfl) ?_
    refine XO.done ?_
    refine XK.if rfl (fun c4 => ?_) (fun c4 => ?_)
    ·skip
     refine XK.seq (XK.region rfl (XO.q (Q.assign rfl) (XO.q (Q.assign rfl) (XO.done ?_))))
     refine XK.rt [emp] Tryz.func83 Tryz.results83 (.t rfl (.t rfl .n)) ?_
     have e : formG d p = ([], 120) := by rw [formG, if_neg c0, if_neg c1, if_neg (fun h => h ha), if_pos c4]
     rw [e]
     exact ⟨.slice none 0 0, emp, rfl, rfl, nI⟩
    ·skip
     refine XK.skip (XK.seq (XK.region rfl (XO.q (Q.move rfl) (XO.q (Q.assign rfl) (XO.q (Q.assign rfl) ?_)))))
     refine XO.done ?_
     refine XK.rt [kb] Tryz.func83 Tryz.results83 (.t rfl (.t rfl .n)) ?_
     have e : formG d p = (needsL d p.starts, 0) := by rw [formG, if_neg c0, if_neg c1, if_neg (fun h => h ha), if_neg c4]
     rw [e]
     exact ⟨v33, kb, rfl, rfl, OB⟩
theorem cost_rng {d : KDay} {base ch : List Int} (hok : ∀ i, i < d.hours.length → HourOk (d.hours.getD i default)) (hl : ch.length ≤ d.hours.length) (hr : ∀ i, i < ch.length → -1000 ≤ base.getD i default + ch.getD i default ∧ base.getD i default + ch.getD i default ≤ 1000) : ∀ i, i ≤ ch.length → (-(1000000 * (i : Int)) ≤ costTo d base ch i ∧ costTo d base ch i ≤ 1000000 * i) ∧ 0 ≤ peakTo base ch i ∧ peakTo base ch i ≤ 1000
 | 0, _ => by simp [costTo, peakTo]
 | i + 1, hi => by
  have h := cost_rng hok hl hr i (by omega)
  have r := hr i (by omega)
  have p := price_rng (hok i (by omega)) r.1 r.2
  rw [costTo, peakTo]
  omega
theorem cost_spec (d : KDay) (vh vj : Value) (hh hj : PHeap) [ih : Arr vh encHour 6 hh d.hours] [ij : Arr vj encJob 4 hj d.jobs] (base : List Int) (vb : Value) (hb : PHeap) [jb : Arr vb encI 1 hb base] (ch : List Int) (vc : Value) (hc : PHeap) [jc : Arr vc encI 1 hc ch] (ok : DayOk d) (hl : ch.length = d.hours.length) (hbl : base.length = d.hours.length) (hr : ∀ i, i < ch.length → (-1000 ≤ base.getD i default ∧ base.getD i default ≤ 1000) ∧ (-1000 ≤ ch.getD i default ∧ ch.getD i default ≤ 1000) ∧ -1000 ≤ base.getD i default + ch.getD i default ∧ base.getD i default + ch.getD i default ≤ 1000) :
  Spec Tryz.prog 105 #[.agg #[vh, .int .i64 d.store.energy, .int .i64 d.store.full, .int .i64 d.store.power, .int .i64 d.store.fin, vj, .int .i64 d.most, .int .i64 d.peak], vb, vc] [] [hh, hj, hb, hc] (fun v hs => v = .int .i64 (costL d base ch) ∧ hs = []) := by
 have lh := ih.le
 have h24 := ok.h2
 have cr := cost_rng ok.hour (by omega) (fun i hi => (hr i hi).2.2)
 have pk0 := ok.p0
 have pk1 := ok.p1
 refine Spec.intro (fn := Tryz.f105) (N := 47) Tryz.func105 rfl Tryz.ntmps105 rfl fun B => ?_
 refine XK.seq (XK.region rfl ?_)
 refine XO.box rfl fun b3 => ?_
 refine XO.q (Q.assign rfl) (XO.done (XK.seq (XK.region rfl (XO.q (Q.assign rfl) (XO.q (Q.assign rfl) ?_)))))
 refine XO.done (XK.seq (XK.seq (XK.region rfl (XO.q (Q.move rfl) ?_))))
 refine XO.len rfl fun l12 => ?_
 refine XO.q (Q.move rfl) (XO.done (XK.block ?_))
 refine XK.while (X := Nat) [7, 8, 9, 10, 13, 14, 15, 16, 17, 18, 19, 20, 21, 22, 23, 24, 25, 26, 27, 28, 29, 30, 31, 32, 33, 34, 35, 36, 37, 38, 39, 40] (fun i => [(7, some (.int .i64 (costTo d base ch i))), (8, some (.int .i64 (peakTo base ch i))), (13, some (.int .i64 (i : Nat)))]) (fun i => []) (fun i => i ≤ ch.length) (fun i => ch.length - i) (0) [] rfl (by omega) (.c rfl (.c rfl (.c rfl (.base 0 rfl rfl)))) ?_
 rintro i hi ih0
 dsimp only [lcA, lnA] at ih0 ⊢
 refine XK.seq (XK.region rfl ?_)
 refine XO.q (Q.lss rfl rfl) ?_
 refine XO.done (XK.seq ?_)
 refine XK.if rfl (fun c0 => ?_) (fun c0 => ?_)
 ·skip
  have ri := hr i (by omega)
  have ci := cr i (by omega)
  have pi := price_rng (ok.hour i (by omega)) ri.2.2.1 ri.2.2.2
  refine XK.skip (XK.seq (XK.block (XK.seq (XK.region rfl (XO.q (Q.move rfl) ?_)))))
  refine XO.ix rfl rfl (by omega) (by omega) fun i16 => ?_
  refine XO.q (Q.ldE rfl (by first | assumption | omega) rfl) ?_
  refine XO.q (Q.assign rfl) (XO.q (Q.assign rfl) (XO.done (XK.seq ?_)))
  refine XK.drawn [0, 1, 2, 3, 4, 5, 6, 7, 8, 9, 10, 11, 13, 14] [b3] [] (.q 0 (.q 1 (.q 2 (.q 3 (.q 4 (.q 5 (.q 6 (.q 7 (.q 8 (.q 9 (.q 10 (.q 11 (.br 12 true (.q 13 (.q 14 .done)) .stop))))))))))))) Tryz.mixed rfl (by kernel_rfl) ?_
  refine XT.q rfl rfl (Q.move rfl) ?_
  refine XT.q rfl rfl (Q.fieldAddr rfl) ?_
  refine XT.q rfl rfl (Q.ld rfl rfl) ?_
  refine XT.q rfl rfl (Q.move rfl) ?_
  refine XT.ix rfl rfl rfl rfl (by omega) (by omega) fun i22 => ?_
  refine XT.q rfl rfl (Q.ldEA [_, _, _, _, _, _] rfl (by first | assumption | omega) rfl rfl) ?_
  refine XT.q rfl rfl (Q.move rfl) ?_
  refine XT.q rfl rfl (Q.move rfl) ?_
  refine XT.ix rfl rfl rfl rfl (by omega) (by omega) fun i26 => ?_
  refine XT.q rfl rfl (Q.ldE rfl (by first | assumption | omega) rfl) ?_
  refine XT.q rfl rfl (Q.move rfl) ?_
  refine XT.q rfl rfl (Q.add rfl rfl ⟨by omega, by omega⟩) ?_
  refine XT.call rfl rfl Tryz.call162 rfl rfl rfl (price_spec (d.hours.getD i default) (ok.hour i (by omega)) (base.getD i default + ch.getD i default) (by omega) (by omega)) (fun v30 s30 R30 => ?_) XT.stop
  obtain ⟨rfl, rfl⟩ := R30
  dsimp only [lcA, lnA]
  refine ⟨inferInstance, ?_⟩
  refine XT.q rfl rfl (Q.add rfl rfl ⟨by omega, by omega⟩) ?_
  refine XT.q rfl rfl (Q.assign rfl) ?_
  refine XT.done ?_
  refine XK.region rfl (XO.q (Q.move rfl) (XO.q (Q.move rfl) (XO.q (Q.move rfl) ?_)))
  refine XO.ix rfl rfl (by omega) (by omega) fun i35 => ?_
  refine XO.q (Q.ldE rfl (by first | assumption | omega) rfl) ?_
  refine XO.q (Q.move rfl) ?_
  refine XO.q (Q.add rfl rfl ⟨by omega, by omega⟩) ?_
  refine XO.q (Q.max rfl rfl) ?_
  refine XO.q (Q.assign rfl) (XO.done ?_)
  refine XK.inBlock ?_
  refine XK.region rfl ?_
  refine XO.q (Q.add rfl rfl ⟨by omega, by omega⟩) ?_
  refine XO.q (Q.move rfl) (XO.done ?_)
  exact ih0 (i + 1) _ _ (by omega) (by first | omega | (dsimp only; omega)) (.c rfl (.c rfl (.c rfl (.base 67 rfl rfl)))) inferInstance
 ·skip
  have hin : i = ch.length := by omega
  subst hin
  have ci := cr ch.length (Nat.le_refl _)
  have pm := price_mul (a := d.peak) (b := peakTo base ch ch.length) pk0 pk1 ci.2.1 ci.2.2
  refine XK.exit rfl ?_
  refine XK.seq (XK.region rfl (XO.q (Q.move rfl) ?_))
  refine XO.q (Q.fieldAddr rfl) ?_
  refine XO.q (Q.ld rfl rfl) ?_
  refine XO.q (Q.move rfl) ?_
  refine XO.q (Q.mul rfl rfl ⟨by omega, by omega⟩) ?_
  refine XO.q (Q.add rfl rfl ⟨by omega, by omega⟩) ?_
  refine XO.q (Q.assign rfl) (XO.done ?_)
  refine XK.rt [] Tryz.func105 Tryz.results105 (.t rfl .n) ?_
  exact ⟨rfl, rfl⟩
theorem form_fine {d : KDay} {p : KPlan} (h : (formG d p).2 = 0) : DayOk d ∧ SOk d p.starts ∧ (startsL d).any (fun l => decide (l = p.starts)) = true ∧ p.charge.length = d.hours.length ∧ allTo (okAt d (needsL d p.starts) p.charge) p.charge.length = true ∧ d.store.fin ≤ energyTo d p.charge p.charge.length ∧ (formG d p).1 = needsL d p.starts := by
 unfold formG at h ⊢
 split at h
 ·rename_i h0; exact absurd h h0
 ·rename_i h0
  rw [if_neg h0]
  split at h
  ·cases h
  ·rename_i h1
   rw [if_neg h1]
   split at h
   ·cases h
   ·rename_i h2
    rw [if_neg h2]
    split at h
    ·cases h
    ·rename_i h3
     rw [if_neg h3]
     have c1a : (startsL d).any (fun l => decide (l = p.starts)) = true := Decidable.of_not_not fun h => h1 (.inl h)
     exact ⟨kcheck_iff.1 (Decidable.of_not_not h0), starts_any c1a, c1a, (by have := fun h => h1 (.inr h); omega), Decidable.of_not_not h2, by omega, rfl⟩
theorem okAt_iff {d : KDay} {base ch : List Int} {i : Nat} : okAt d base ch i = true ↔ (-d.store.power ≤ ch.getD i default ∧ ch.getD i default ≤ d.store.power) ∧ (0 ≤ energyTo d ch i + ch.getD i default ∧ energyTo d ch i + ch.getD i default ≤ d.store.full) ∧ base.getD i default + ch.getD i default ≤ d.most := by
 unfold okAt
 simp only [Bool.and_eq_true, Bool.not_eq_true', decide_eq_false_iff_not]
 rw [kin_one]
 omega
theorem form_rng {d : KDay} {p : KPlan} (h : (formG d p).2 = 0) : ∀ i, i < p.charge.length → ((formG d p).1.length = d.hours.length) ∧ (-1000 ≤ (formG d p).1.getD i default ∧ (formG d p).1.getD i default ≤ 1000) ∧ (-1000 ≤ p.charge.getD i default ∧ p.charge.getD i default ≤ 1000) ∧ -1000 ≤ (formG d p).1.getD i default + p.charge.getD i default ∧ (formG d p).1.getD i default + p.charge.getD i default ≤ 1000 := fun i hi => by
 obtain ⟨ok, so, _, hl, ha, _, e⟩ := form_fine h
 have nr := needs_rng ok p.starts (show i < d.hours.length by omega)
 have oi := okAt_iff.1 (allTo_at ha hi)
 have s3 := ok.store.p0; have s4 := ok.store.p1
 rw [e]
 exact ⟨needsL_len d _, by omega, by omega, by omega, by omega⟩
theorem Cost_spec (d : KDay) (vh vj : Value) (hh hj : PHeap) [ih : Arr vh encHour 6 hh d.hours] [ij : Arr vj encJob 4 hj d.jobs] (p : KPlan) (vs vc : Value) (hs_ hc : PHeap) [js : Arr vs encI 1 hs_ p.starts] [jc : Arr vc encI 1 hc p.charge] : Spec Tryz.prog 48 #[.agg #[vh, .int .i64 d.store.energy, .int .i64 d.store.full, .int .i64 d.store.power, .int .i64 d.store.fin, vj, .int .i64 d.most, .int .i64 d.peak], .agg #[vs, vc, .int .i64 p.cost]] [] [hh, hj, hs_, hc] (fun v hs => v = .tuple #[.int .i64 (costG d p).1, .int .i64 (costG d p).2] ∧ hs = []) := by
 refine Spec.intro (fn := Tryz.f48) (N := 22) Tryz.func48 rfl Tryz.ntmps48 rfl fun B => ?_
 refine XK.seq (XK.region rfl ?_)
 refine XO.box rfl fun b2 => ?_
 refine XO.box rfl fun b3 => ?_
 refine XO.q (Q.assign rfl) (XO.q (Q.assign rfl) (XO.done (XK.seq (XK.region rfl ?_))))
 refine XO.q (Q.ldA [_, _, _, _, _, _, _, _] rfl rfl rfl) ?_
 refine XO.q (Q.ldA [_, _, _] rfl rfl rfl) ?_
 refine XO.call Tryz.call83 rfl rfl rfl (form_spec d vh vj hh hj p vs vc hs_ hc) fun v11 s11 R11 => ?_
 obtain ⟨v1, k1, rfl, rfl, O1⟩ := R11
 dsimp only [lcA, lnA]
 refine XO.q (Q.move rfl) ?_
 refine XO.q (Q.extract rfl rfl) ?_
 refine XO.q (Q.extract rfl rfl) ?_
 refine XO.q (Q.assign rfl) (XO.q (Q.assign rfl) (XO.done (XK.seq (XK.seq (XK.region rfl ?_)))))
 refine XO.q (Q.move rfl) ?_
 refine XO.q (Q.neq rfl rfl) ?_
 refine XO.done ?_
 refine XK.if rfl (fun c0 => ?_) (fun c0 => ?_)
 ·skip
  refine XK.seq (XK.region rfl (XO.q (Q.move rfl) (XO.q (Q.assign rfl) (XO.q (Q.assign rfl) (XO.done ?_)))))
  refine XK.rt [] Tryz.func48 Tryz.results48 (.t rfl (.t rfl .n)) ?_
  exact ⟨by rw [costG, if_pos c0], rfl⟩
 ·skip
  have e0 := Decidable.of_not_not c0
  have ff := form_fine e0
  refine XK.skip (XK.seq (XK.region rfl ?_))
  refine XO.q (Q.ldA [_, _, _, _, _, _, _, _] rfl rfl rfl) ?_
  refine XO.q (Q.move rfl) ?_
  refine XO.q (Q.fieldAddr rfl) ?_
  refine XO.q (Q.ld rfl rfl) ?_
  refine XO.call Tryz.call105 rfl rfl rfl (cost_spec d vh vj hh hj (formG d p).1 v1 k1 p.charge vc hc ff.1 ff.2.2.2.1 (by rw [ff.2.2.2.2.2.2]; exact needsL_len d _) (fun i hi => (form_rng e0 i hi).2)) fun v21 s21 R21 => ?_
  obtain ⟨rfl, rfl⟩ := R21
  dsimp only [lcA, lnA]
  refine XO.q (Q.assign rfl) (XO.q (Q.assign rfl) (XO.done ?_))
  refine XK.rt [] Tryz.func48 Tryz.results48 (.t rfl (.t rfl .n)) ?_
  exact ⟨by rw [costG, if_neg c0], rfl⟩
end Go.X.Ma

set_option linter.unusedSimpArgs false
set_option linter.unusedVariables false
set_option maxRecDepth 20000
namespace Go.X.Me
open Go.Proofs
def encNode (x : MNode) : List Value := [.int .i64 x.up, .int .i64 x.low, .int .i64 x.high]
def encIv (x : Iv) : List Value := [.int .i64 x.first, .int .i64 x.last]
theorem cloneI (v : Value) (h : PHeap) (xs : List Int) [s : Arr v encI 1 h xs] (hl : xs.length ≤ 68719476736) :
  Spec Tryz.prog 59 #[v] [] [h] (fun v' hs => ∃ h', hs = [h'] ∧ OArr v' encI 1 3 h' xs) := by apply Go.X.Bk.cloneI <;> assumption
theorem equalI (v1 v2 : Value) (h1 h2 : PHeap) (xs ys : List Int) [s1 : Arr v1 encI 1 h1 xs] [s2 : Arr v2 encI 1 h2 ys] :
  Spec Tryz.prog 35 #[v1, v2] [] [h1, h2] (fun v hs => v = .bool (decide (xs = ys)) ∧ hs = []) := by apply Go.X.Bk.equalI <;> assumption
theorem indexFuncI (v : Value) (h : PHeap) (xs : List Int) [s : Arr v encI 1 h xs] (gid : FuncId) (cap : List Value) (Hr : List PHeap) (p : Int → Bool)
  (hc : ∀ args w, (callFunc gid args).run Tryz.prog w = .ok (.enter gid args) w) (hS : ∀ x ∈ xs, Spec Tryz.prog gid (.int .i64 x :: cap).toArray [] Hr (fun v hs => v = .bool (p x) ∧ hs = [])) :
  Spec Tryz.prog 159 #[v, .func (.func gid) #[] cap.toArray] [] (h :: Hr) (fun v hs => v = .int .i64 (findFirst p xs) ∧ hs = []) := by apply Go.X.Bk.indexFuncI <;> assumption
theorem containsFuncI (v : Value) (h : PHeap) (xs : List Int) [s : Arr v encI 1 h xs] (gid : FuncId) (cap : List Value) (Hr : List PHeap) (p : Int → Bool)
  (hc : ∀ args w, (callFunc gid args).run Tryz.prog w = .ok (.enter gid args) w) (hS : ∀ x ∈ xs, Spec Tryz.prog gid (.int .i64 x :: cap).toArray [] Hr (fun v hs => v = .bool (p x) ∧ hs = [])) :
  Spec Tryz.prog 97 #[v, .func (.func gid) #[] cap.toArray] [] (h :: Hr) (fun v hs => v = .bool (xs.any p) ∧ hs = []) := by apply Go.X.Bk.containsFuncI <;> assumption
theorem indexI (v : Value) (hh : PHeap) (xs : List Int) [s : Arr v encI 1 hh xs] (x : Int) : Spec Tryz.prog 197 #[v, .int .i64 x] [] [hh] (fun v hs => v = .int .i64 (findFirst (fun y => decide (x = y)) xs) ∧ hs = []) := by
 refine Spec.intro (fn := Tryz.f197) (N := 19) Tryz.func197 rfl Tryz.ntmps197 rfl fun B => ?_
 refine XK.seq (XK.region rfl (XO.q (Q.assign rfl) (XO.done (XK.seq (XK.seq ?_)))))
 refine XK.region rfl (XO.q (Q.move rfl) ?_)
 refine XO.len rfl fun l7 => ?_
 refine XO.q (Q.move rfl) (XO.done (XK.block ?_))
 refine XK.while (X := Nat) [4, 5, 8, 9, 10, 11, 12, 13, 14, 15, 16, 17, 18] (fun i => [(8, some (.int .i64 (i : Nat)))]) (fun i => []) (fun i => i ≤ xs.length ∧ (xs.take i).any (fun y => decide (x = y)) = false) (fun i => xs.length - i) (0) [] rfl ⟨by omega, rfl⟩ (.c rfl (.base 0 rfl rfl)) ?_
 rintro i ⟨hi, hany⟩ ih0
 dsimp only [lcA, lnA] at ih0 ⊢
 refine XK.seq (XK.region rfl ?_)
 refine XO.q (Q.lss rfl rfl) ?_
 refine XO.done (XK.seq ?_)
 refine XK.if rfl (fun c0 => ?_) (fun c0 => ?_)
 ·skip
  refine XK.skip (XK.seq (XK.block (XK.seq (XK.region rfl (XO.q (Q.move rfl) ?_)))))
  refine XO.q (Q.assign rfl) (XO.done (XK.seq (XK.region rfl (XO.q (Q.move rfl) (XO.q (Q.move rfl) ?_)))))
  refine XO.q (Q.move rfl) ?_
  refine XO.ix rfl rfl (by omega) (by omega) fun i14 => ?_
  refine XO.q (Q.ldE rfl (by first | assumption | omega) rfl) ?_
  refine XO.q (Q.eql rfl rfl) ?_
  refine XO.done ?_
  refine XK.if rfl (fun c1 => ?_) (fun c1 => ?_)
  ·skip
   refine XK.seq (XK.region rfl (XO.q (Q.move rfl) (XO.q (Q.assign rfl) (XO.done ?_))))
   refine XK.rt [] Tryz.func197 Tryz.results197 (.t rfl .n) ?_
   exact ⟨by rw [findFirst_here hany (by omega) (by rw [decide_eq_true_eq]; exact c1)], rfl⟩
  ·skip
   refine XK.skip ?_
   refine XK.inBlock ?_
   refine XK.region rfl ?_
   refine XO.q (Q.add rfl rfl ⟨by omega, by omega⟩) ?_
   refine XO.q (Q.move rfl) (XO.done ?_)
   exact ih0 (i + 1) _ _ ⟨by omega, any_step hany (by omega) (by rw [decide_eq_false_iff_not]; exact c1)⟩ (by first | omega | (dsimp only; omega)) (.c rfl (.base 25 rfl rfl)) inferInstance
 ·skip
  refine XK.exit rfl ?_
  refine XK.seq (XK.region rfl (XO.q (Q.assign rfl) (XO.done ?_)))
  refine XK.rt [] Tryz.func197 Tryz.results197 (.t rfl .n) ?_
  exact ⟨by rw [findFirst_none hany c0], rfl⟩
theorem containsI (v : Value) (hh : PHeap) (xs : List Int) [s : Arr v encI 1 hh xs] (x : Int) : Spec Tryz.prog 154 #[v, .int .i64 x] [] [hh] (fun v hs => v = .bool (xs.any (fun y => decide (x = y))) ∧ hs = []) := by
 refine Spec.intro (fn := Tryz.f154) (N := 9) Tryz.func154 rfl Tryz.ntmps154 rfl fun B => ?_
 refine XK.seq (XK.region rfl (XO.q (Q.assign rfl) (XO.done (XK.seq (XK.region rfl ?_)))))
 refine XO.q (Q.move rfl) (XO.q (Q.move rfl) ?_)
 refine XO.call Tryz.call197 rfl rfl rfl (indexI v hh xs x) fun v7 s7 R7 => ?_
 obtain ⟨rfl, rfl⟩ := R7
 dsimp only [lcA, lnA]
 refine XO.q (Q.geq rfl rfl) ?_
 refine XO.q (Q.assign rfl) (XO.done ?_)
 refine XK.rt [] Tryz.func154 Tryz.results154 (.t rfl .n) ?_
 exact ⟨by rw [← findFirst_any], rfl⟩
theorem in1 (b : Nat) (m x : Int) : Spec Tryz.prog 158 #[.int .i64 x, ptr b 0] [] [blk b [.int .i64 m] 3] (fun v hs => v = .bool (outP m x) ∧ hs = []) := by
 refine Spec.intro (fn := Tryz.f158) (N := 11) Tryz.func158 rfl Tryz.ntmps158 rfl fun B => ?_
 refine XK.seq (XK.region rfl (XO.q (Q.assign rfl) (XO.done (XK.seq (XK.region rfl ?_)))))
 refine XO.q (Q.move rfl) ?_
 refine XO.q (Q.lss rfl rfl) ?_
 refine XO.q (Q.move rfl) ?_
 refine XO.q (Quiet.guardF rfl rfl fun g7 p7 => Q.move rfl) ?_
 refine XO.q (Quiet.guardF rfl rfl fun g8 p8 => Q.ld rfl rfl) ?_
 refine XO.q (Quiet.guardF rfl rfl fun g9 p9 => Q.gtr (lzv g9 rfl) (lzv g9 rfl)) ?_
 refine XO.q (Q.or rfl (fun hp => lzv hp rfl)) ?_
 refine XO.q (Q.assign rfl) (XO.done ?_)
 refine XK.rt [] Tryz.func158 Tryz.results158 (.t rfl .n) ?_
 exact ⟨rfl, rfl⟩
theorem in_spec11 (m : Int) (v : Value) (h : PHeap) (xs : List Int) [s : Arr v encI 1 h xs] : Spec Tryz.prog 95 #[.int .i64 m, v] [] [h] (fun v hs => v = .bool (inA m xs) ∧ hs = []) := by
 refine Spec.intro (fn := Tryz.f95) (N := 9) Tryz.func95 rfl Tryz.ntmps95 rfl fun B => ?_
 refine XK.seq (XK.region rfl ?_)
 refine XO.box rfl fun b2 => ?_
 refine XO.q (Q.assign rfl) (XO.done (XK.seq (XK.region rfl (XO.q (Q.move rfl) ?_))))
 refine XO.q (Q.func (fun _ he => rfl) (fun _ he => evs_rel he rfl)) ?_
 refine XO.call Tryz.call97 rfl rfl rfl (containsFuncI v h xs 158 [ptr b2 0] [blk b2 [.int .i64 m] 3] (outP m) Tryz.call158 (fun x hx => in1 b2 m x)) fun v7 s7 R7 => ?_
 obtain ⟨rfl, rfl⟩ := R7
 dsimp only [lcA, lnA]
 refine XO.q (Q.not rfl) ?_
 refine XO.q (Q.assign rfl) (XO.done ?_)
 refine XK.rt [] Tryz.func95 Tryz.results95 (.t rfl .n) ?_
 exact ⟨rfl, rfl⟩
theorem Check_spec11 (c : MCase) (vn vv : Value) (hn hv : PHeap) [jn : Arr vn encNode 3 hn c.nodes] [jv : Arr vv encI 1 hv c.vals] : Spec Tryz.prog 86 #[.agg #[vn, vv]] [] [hn, hv] (fun v hs => v = .int .i64 (mcheck c) ∧ hs = []) := by
 have ln := jn.le
 have lv := jv.le
 refine Spec.intro (fn := Tryz.f86) (N := 72) Tryz.func86 rfl Tryz.ntmps86 rfl fun B => ?_
 refine XK.seq (XK.region rfl ?_)
 refine XO.box rfl fun b1 => ?_
 refine XO.q (Q.assign rfl) (XO.done (XK.seq (XK.seq (XK.region rfl ?_))))
 refine XO.q (Q.fieldAddr rfl) ?_
 refine XO.q (Q.ld rfl rfl) ?_
 refine XO.len rfl fun l7 => ?_
 refine XO.q (Q.lss rfl rfl) ?_
 refine XO.q (Q.move rfl) ?_
 refine XO.q (Quiet.guardF rfl rfl fun g10 p10 => Q.fieldAddr rfl) ?_
 refine XO.q (Quiet.guardF rfl rfl fun g11 p11 => Q.ld (lzv g11 rfl) rfl) ?_
 refine XO.q (Quiet.guardF rfl rfl fun g12 p12 => Q.len (lzv g12 rfl)) ?_
 refine XO.q (Quiet.guardF rfl rfl fun g13 p13 => Q.gtr (lzv g13 rfl) rfl) ?_
 refine XO.q (Q.or rfl (fun hp => lzv hp rfl)) ?_
 refine XO.done ?_
 refine XK.if rfl (fun c0 => ?_) (fun c0 => ?_)
 ·skip
  refine XK.seq (XK.region rfl (XO.q (Q.assign rfl) (XO.done ?_)))
  refine XK.rt [] Tryz.func86 Tryz.results86 (.t rfl .n) ?_
  exact ⟨by rw [mcheck, if_pos c0], rfl⟩
 ·skip
  refine XK.skip (XK.seq (XK.seq (XK.region rfl ?_)))
  refine XO.q (Q.fieldAddr rfl) ?_
  refine XO.q (Q.ld rfl rfl) ?_
  refine XO.len rfl fun l17 => ?_
  refine XO.q (Q.fieldAddr rfl) ?_
  refine XO.q (Q.ld rfl rfl) ?_
  refine XO.len rfl fun l20 => ?_
  refine XO.q (Q.neq rfl rfl) ?_
  refine XO.done ?_
  refine XK.if rfl (fun c1 => ?_) (fun c1 => ?_)
  ·skip
   refine XK.seq (XK.region rfl (XO.q (Q.assign rfl) (XO.done ?_)))
   refine XK.rt [] Tryz.func86 Tryz.results86 (.t rfl .n) ?_
   exact ⟨by rw [mcheck, if_neg c0, if_pos c1], rfl⟩
  ·skip
   refine XK.skip (XK.seq (XK.seq (XK.region rfl ?_)))
   refine XO.q (Q.fieldAddr rfl) ?_
   refine XO.q (Q.ld rfl rfl) ?_
   refine XO.len rfl fun l24 => ?_
   refine XO.q (Q.move rfl) (XO.done (XK.block ?_))
   refine XK.while (X := Nat) [2, 3, 4, 25, 26, 27, 28, 29, 30, 31, 32, 33, 34, 35, 36, 37, 38, 39, 40, 41, 42, 43, 44, 45, 46, 47, 48, 49, 50, 51, 52, 53, 54, 55, 56, 57, 58, 59, 60, 61, 62, 63, 64, 65, 66, 67, 68, 69, 70, 71] (fun i => [(25, some (.int .i64 (i : Nat)))]) (fun i => []) (fun i => i ≤ c.nodes.length ∧ nodesOk c i = true) (fun i => c.nodes.length - i) (0) [] rfl ⟨by omega, rfl⟩ (.c rfl (.base 0 rfl rfl)) ?_
   rintro i ⟨hi, hall⟩ ih0
   dsimp only [lcA, lnA] at ih0 ⊢
   refine XK.seq (XK.region rfl ?_)
   refine XO.q (Q.lss rfl rfl) ?_
   refine XO.done (XK.seq ?_)
   refine XK.if rfl (fun c2 => ?_) (fun c2 => ?_)
   ·skip
    refine XK.skip (XK.seq (XK.block (XK.seq (XK.region rfl (XO.q (Q.move rfl) ?_)))))
    refine XO.ix rfl rfl (by omega) (by omega) fun i28 => ?_
    refine XO.q (Q.ldEA [_, _, _] rfl (by first | assumption | omega) rfl rfl) ?_
    refine XO.alloc fun b4 => ?_
    refine XO.q (Q.assign rfl) ?_
    refine XO.st rfl rfl rfl ?_
    refine XO.done (XK.seq ?_)
    refine XK.drawn [0, 1, 2, 3, 4, 5, 6, 9, 10, 11, 12, 13, 14, 17, 18, 19, 20, 21, 22, 23, 24, 25, 26, 27, 28, 29, 30, 31, 32, 33, 34, 35, 38, 39, 40] [b4, b1] [] (.q 0 (.q 1 (.q 2 (.q 3 (.q 4 (.q 5 (.q 6 (.br 7 true (.br 8 true (.q 9 (.q 10 (.q 11 (.q 12 (.q 13 (.q 14 (.br 15 true (.br 16 true (.q 17 (.q 18 (.q 19 (.q 20 (.q 21 (.q 22 (.q 23 (.q 24 (.q 25 (.q 26 (.q 27 (.q 28 (.q 29 (.q 30 (.q 31 (.q 32 (.q 33 (.q 34 (.q 35 (.br 36 true (.br 37 true (.q 38 (.q 39 (.q 40 .done))) .stop) .stop)))))))))))))))))))) .stop) .stop))))))) .stop) .stop)))))))) Tryz.mixed rfl (by kernel_rfl) ?_
    refine XT.q rfl rfl (Q.fieldAddr rfl) ?_
    refine XT.q rfl rfl (Q.ld rfl rfl) ?_
    refine XT.q rfl rfl (Q.fieldAddr rfl) ?_
    refine XT.q rfl rfl (Q.ld rfl rfl) ?_
    refine XT.q rfl rfl (Q.move rfl) ?_
    refine XT.ix rfl rfl rfl rfl (by omega) (by omega) fun i35 => ?_
    refine XT.q rfl rfl (Q.ldE rfl (by first | assumption | omega) rfl) ?_
    refine XT.lit [_, _] [_, _] [(c.nodes.getD i default).high, c.vals.getD i default] encI rfl rfl (by rfl) (by rfl) rfl (by rfl) (by exact .c 0 1 rfl rfl rfl (.c 1 1 rfl rfl rfl (.n _))) (fun _ => rfl) (by rfl) rfl (by infer_instance) rfl (fun v37 h37 O37 => ⟨inferInstance, ?_⟩) XT.stop
    refine XT.call rfl rfl Tryz.call95 rfl rfl rfl (in_spec11 1000000000 v37 h37 [(c.nodes.getD i default).high, c.vals.getD i default]) (fun v38 s38 R38 => ?_) XT.stop
    obtain ⟨rfl, rfl⟩ := R38
    dsimp only [lcA, lnA]
    refine ⟨inferInstance, ?_⟩
    refine XT.q rfl rfl (Q.not rfl) ?_
    refine XT.q rfl rfl (Q.move rfl) ?_
    refine XT.q rfl rfl (Quiet.guardF rfl rfl fun g41 p41 => Q.fieldAddr rfl) ?_
    refine XT.q rfl rfl (Quiet.guardF rfl rfl fun g42 p42 => Q.ld (lzv g42 rfl) rfl) ?_
    refine XT.q rfl rfl (Quiet.guardF rfl rfl fun g43 p43 => Q.fieldAddr rfl) ?_
    refine XT.q rfl rfl (Quiet.guardF rfl rfl fun g44 p44 => Q.ld (lzv g44 rfl) rfl) ?_
    refine XT.lit1 [_] [_] [(c.nodes.getD i default).low] encI rfl rfl rfl rfl (by rfl) (by rfl) rfl (by rfl) (fun g45 => by exact .c 0 1 (lzv g45 rfl) rfl rfl (.n _)) (fun _ => rfl) (by rfl) rfl (fun _ => by infer_instance) rfl (fun v45 h45 O45 => ⟨inferInstance, ?_⟩) XT.stop
    refine XT.gcallF rfl rfl rfl rfl Tryz.call95 rfl (fun g46 => .c (lzv g46 rfl) (.c (lzv g46 rfl) .n)) rfl (fun g46 p46 => by haveI := O45 g46; exact in_spec11 (c.nodes.getD i default).high v45 h45 [(c.nodes.getD i default).low]) ⟨inferInstance, ?_⟩ XT.stop
    refine XT.q rfl rfl (Quiet.guardF rfl rfl fun g47 p47 => Q.not (lzv g47 rfl)) ?_
    refine XT.q rfl rfl (Q.or rfl (fun hp => lzv hp rfl)) ?_
    refine XT.q rfl rfl (Q.move rfl) ?_
    refine XT.q rfl rfl (Quiet.guardF rfl rfl fun g50 p50 => Q.move rfl) ?_
    refine XT.q rfl rfl (Quiet.guardF rfl rfl fun g51 p51 => Q.eql (lzv g51 rfl) rfl) ?_
    refine XT.q rfl rfl (Quiet.guardF rfl rfl fun g52 p52 => Q.move (lzv g52 rfl)) ?_
    refine XT.q rfl rfl (Quiet.guard2 rfl rfl fun g53a g53b => have p53a := bpF g53a; have p53b := bpT g53b; Q.fieldAddr rfl) ?_
    refine XT.q rfl rfl (Quiet.guard2 rfl rfl fun g54a g54b => have p54a := bpF g54a; have p54b := bpT g54b; Q.ld (lzv g54b (lzv g54a rfl)) rfl) ?_
    refine XT.q rfl rfl (Quiet.guard2 rfl rfl fun g55a g55b => have p55a := bpF g55a; have p55b := bpT g55b; Q.neq (lzv g55b (lzv g55a rfl)) rfl) ?_
    refine XT.q rfl rfl (Quiet.guardF rfl rfl fun g56 p56 => Q.and (lzv g56 rfl) (fun hp => (lzv hp (lzv g56 rfl)))) ?_
    refine XT.q rfl rfl (Q.or rfl (fun hp => lzv hp rfl)) ?_
    refine XT.q rfl rfl (Q.move rfl) ?_
    refine XT.q rfl rfl (Quiet.guardF rfl rfl fun g59 p59 => Q.move rfl) ?_
    refine XT.q rfl rfl (Quiet.guardF rfl rfl fun g60 p60 => Q.gtr (lzv g60 rfl) rfl) ?_
    refine XT.q rfl rfl (Quiet.guardF rfl rfl fun g61 p61 => Q.move (lzv g61 rfl)) ?_
    refine XT.q rfl rfl (Quiet.guard2 rfl rfl fun g62a g62b => have p62a := bpF g62a; have p62b := bpT g62b; Q.move rfl) ?_
    refine XT.q rfl rfl (Quiet.guard2 rfl rfl fun g63a g63b => have p63a := bpF g63a; have p63b := bpT g63b; Q.sub (lzv g63b (lzv g63a rfl)) rfl ⟨by omega, by omega⟩) ?_
    refine XT.q rfl rfl (Quiet.guard2 rfl rfl fun g64a g64b => have p64a := bpF g64a; have p64b := bpT g64b; Q.fieldAddr rfl) ?_
    refine XT.q rfl rfl (Quiet.guard2 rfl rfl fun g65a g65b => have p65a := bpF g65a; have p65b := bpT g65b; Q.ld (lzv g65b (lzv g65a rfl)) rfl) ?_
    refine XT.lit2 [_] [_] [(c.nodes.getD i default).up] encI rfl rfl rfl rfl (by rfl) (by rfl) rfl (by rfl) (fun g66a g66b => by exact .c 0 1 (lzv g66b (lzv g66a rfl)) rfl rfl (.n _)) (fun _ => rfl) (by rfl) rfl (fun _ _ => by infer_instance) rfl (fun v66 h66 O66 => ⟨inferInstance, ?_⟩) XT.stop
    refine XT.vg2 rfl rfl rfl rfl (fun g67a g67b => rfl) (fun g67a g67b => .c (lzv g67b (lzv g67a rfl)) (.c (lzv g67b (lzv g67a rfl)) .n)) (fun g67a g67b => have p67a := bpF g67a; have p67b := bpT g67b; VSpec.fn (P := Tryz.prog) Tryz.call95 rfl (by haveI := O66 g67a g67b; exact in_spec11 ((i : Int) - 1) v66 h66 [(c.nodes.getD i default).up])) ⟨inferInstance, ?_⟩ XT.stop
    refine XT.q rfl rfl (Quiet.guard2 rfl rfl fun g68a g68b => have p68a := bpF g68a; have p68b := bpT g68b; Q.not (lzv g68b (lzv g68a rfl))) ?_
    refine XT.q rfl rfl (Quiet.guardF rfl rfl fun g69 p69 => Q.and (lzv g69 rfl) (fun hp => (lzv hp (lzv g69 rfl)))) ?_
    refine XT.q rfl rfl (Q.or rfl (fun hp => lzv hp rfl)) ?_
    refine XT.done ?_
    refine XK.if rfl (fun c3 => ?_) (fun c3 => ?_)
    ·skip
     refine XK.seq (XK.region rfl (XO.q (Q.assign rfl) (XO.done ?_)))
     refine XK.rt [] Tryz.func86 Tryz.results86 (.t rfl .n) ?_
     exact ⟨by rw [mcheck, if_neg c0, if_neg c1, if_neg (by rw [nodesOk, allTo_false (s := i) (by omega) (by rw [Bool.not_eq_false', decide_eq_true_eq]; exact c3)]; decide)], rfl⟩
    ·skip
     refine XK.skip ?_
     refine XK.inBlock ?_
     refine XK.region rfl ?_
     refine XO.q (Q.add rfl rfl ⟨by omega, by omega⟩) ?_
     refine XO.q (Q.move rfl) (XO.done ?_)
     exact ih0 (i + 1) _ _ ⟨by omega, by rw [nodesOk, allTo_succ]; rw [nodesOk] at hall; rw [hall, Bool.true_and, Bool.not_eq_true', decide_eq_false_iff_not]; exact c3⟩ (by first | omega | (dsimp only; omega)) (.c rfl (.base 100 rfl rfl)) inferInstance
   ·skip
    refine XK.exit rfl ?_
    refine XK.seq (XK.region rfl (XO.q (Q.assign rfl) (XO.done ?_)))
    refine XK.rt [] Tryz.func86 Tryz.results86 (.t rfl .n) ?_
    have hin : i = c.nodes.length := by omega
    rw [hin] at hall
    exact ⟨by rw [mcheck, if_neg c0, if_neg c1, if_pos hall], rfl⟩
end Go.X.Me

set_option linter.unusedSimpArgs false
set_option linter.unusedVariables false
set_option maxRecDepth 20000
namespace Go.X.Me
open Go.Proofs
theorem sons_spec (c : MCase) (vn vv : Value) (hn : PHeap) [jn : Arr vn encNode 3 hn c.nodes] [ov : One vv] (hl : c.nodes.length ≤ 14) (i : Int) : Spec Tryz.prog 87 #[.agg #[vn, vv], .int .i64 i] [] [hn] (fun v hs => ∃ k, hs = [k] ∧ OArr v encI 1 3 k (ints (sonsTo c i c.nodes.length))) := by
 have hnil : OArr (.slice none 0 0) encI 1 3 emp ([] : List Int) := OArr.nil (fun _ => rfl)
 refine Spec.intro (fn := Tryz.f87) (N := 26) Tryz.func87 rfl Tryz.ntmps87 rfl fun B => ?_
 refine XK.seq (XK.region rfl ?_)
 refine XO.box rfl fun b2 => ?_
 refine XO.q (Q.assign rfl) (XO.done (XK.seq (XK.region rfl (XO.q (Q.assign rfl) (XO.done ?_)))))
 refine XK.seq (XK.seq (XK.region rfl ?_))
 refine XO.q (Q.fieldAddr rfl) ?_
 refine XO.q (Q.ld rfl rfl) ?_
 refine XO.len rfl fun l10 => ?_
 refine XO.q (Q.move rfl) (XO.done (XK.block ?_))
 refine XK.while (X := Nat × Value × PHeap) [5, 6, 7, 11, 12, 13, 14, 15, 16, 17, 18, 19, 20, 21, 22, 23, 24] (fun ⟨j, v5, k5⟩ => [(11, some (.int .i64 (j : Nat))), (5, some (v5))]) (fun ⟨j, v5, k5⟩ => [k5]) (fun ⟨j, v5, k5⟩ => j ≤ c.nodes.length ∧ OArr v5 encI 1 3 k5 (ints (sonsTo c i j))) (fun ⟨j, v5, k5⟩ => c.nodes.length - j) (0, .slice none 0 0, emp) [emp] rfl ⟨by omega, hnil⟩ (.c rfl (.c rfl (.base 0 rfl rfl))) ?_
 rintro ⟨j, v5, k5⟩ ⟨hj, O5⟩ ih0
 dsimp only [lcA, lnA] at ih0 ⊢
 refine XK.seq (XK.region rfl ?_)
 refine XO.q (Q.lss rfl rfl) ?_
 refine XO.done (XK.seq ?_)
 refine XK.if rfl (fun c0 => ?_) (fun c0 => ?_)
 ·skip
  have hsl := sonsTo_len (c := c) (i := i) (n := j)
  refine XK.skip (XK.seq (XK.block (XK.seq (XK.region rfl (XO.q (Q.move rfl) ?_)))))
  refine XO.ix rfl rfl (by omega) (by omega) fun i14 => ?_
  refine XO.q (Q.ldEA [_, _, _] rfl (by first | assumption | omega) rfl rfl) ?_
  refine XO.alloc fun b7 => ?_
  refine XO.q (Q.assign rfl) ?_
  refine XO.st rfl rfl rfl ?_
  refine XO.done (XK.seq (XK.region rfl ?_))
  refine XO.q (Q.fieldAddr rfl) ?_
  refine XO.q (Q.ld rfl rfl) ?_
  refine XO.q (Q.move rfl) ?_
  refine XO.q (Q.eql rfl rfl) ?_
  refine XO.done ?_
  refine XK.if rfl (fun c1 => ?_) (fun c1 => ?_)
  ·skip
   refine XK.region rfl (XO.q (Q.move rfl) (XO.q (Q.move rfl) ?_))
   refine XO.lit [_] [_] [((j : Nat) : Int)] encI (by rfl) (by rfl) rfl (by rfl) (by exact .c 0 1 rfl rfl rfl (.n _)) (fun _ => rfl) (by rfl) rfl (by infer_instance) rfl fun v22 h22 O22 => ?_
   refine XO.append rfl rfl rfl rfl (by simp only [ints_len, List.length_cons, List.length_nil]; omega) fun v23 h23 O23 => ?_
   refine XO.q (Q.assign rfl) (XO.done ?_)
   refine XK.inBlock ?_
   refine XK.region rfl ?_
   refine XO.q (Q.add rfl rfl ⟨by omega, by omega⟩) ?_
   refine XO.q (Q.move rfl) (XO.done ?_)
   exact ih0 (j + 1, v23, h23) _ _ ⟨by dsimp only; omega, by dsimp only; rw [sonsTo, if_pos c1, ints_snoc]; exact O23⟩ (by first | omega | (dsimp only; omega)) (.c rfl (.c rfl (.base 36 rfl rfl))) inferInstance
  ·skip
   refine XK.skip ?_
   refine XK.inBlock ?_
   refine XK.region rfl ?_
   refine XO.q (Q.add rfl rfl ⟨by omega, by omega⟩) ?_
   refine XO.q (Q.move rfl) (XO.done ?_)
   exact ih0 (j + 1, v5, k5) _ _ ⟨by dsimp only; omega, by dsimp only; rw [sonsTo, if_neg c1]; exact O5⟩ (by first | omega | (dsimp only; omega)) (.c rfl (.c rfl (.base 31 rfl rfl))) inferInstance
 ·skip
  refine XK.exit rfl ?_
  refine XK.seq (XK.region rfl (XO.q (Q.move rfl) (XO.q (Q.assign rfl) (XO.done ?_))))
  refine XK.rt [k5] Tryz.func87 Tryz.results87 (.t rfl .n) ?_
  have hin : j = c.nodes.length := by omega
  rw [hin] at O5
  exact ⟨k5, rfl, O5⟩
theorem cut_spec (x y : Iv) : Spec Tryz.prog 155 #[.agg #[.int .i64 x.first, .int .i64 x.last], .agg #[.int .i64 y.first, .int .i64 y.last]] [] [] (fun v hs => v = .agg #[.int .i64 (max x.first y.first), .int .i64 (min x.last y.last)] ∧ hs = []) := by
 refine Spec.intro (fn := Tryz.f155) (N := 16) Tryz.func155 rfl Tryz.ntmps155 rfl fun B => ?_
 refine XK.seq (XK.region rfl ?_)
 refine XO.box rfl fun b2 => ?_
 refine XO.box rfl fun b3 => ?_
 refine XO.alloc fun b4 => ?_
 refine XO.done (XK.seq (XK.region rfl ?_))
 refine XO.q (Q.fieldAddr rfl) ?_
 refine XO.q (Q.ld rfl rfl) ?_
 refine XO.q (Q.fieldAddr rfl) ?_
 refine XO.q (Q.ld rfl rfl) ?_
 refine XO.q (Q.max rfl rfl) ?_
 refine XO.q (Q.fieldAddr rfl) ?_
 refine XO.q (Q.ld rfl rfl) ?_
 refine XO.q (Q.fieldAddr rfl) ?_
 refine XO.q (Q.ld rfl rfl) ?_
 refine XO.q (Q.min rfl rfl) ?_
 refine XO.q (Q.build [_, _] (.c 0 1 rfl rfl rfl (.c 1 1 rfl rfl rfl (.n _)))) ?_
 refine XO.st rfl rfl rfl ?_
 refine XO.done ?_
 refine XK.rt [] Tryz.func155 Tryz.results155 (.cell [_, _] rfl rfl rfl (.n)) ?_
 exact ⟨rfl, rfl⟩
theorem none_spec (x : Iv) : Spec Tryz.prog 156 #[.agg #[.int .i64 x.first, .int .i64 x.last]] [] [] (fun v hs => v = .bool (decide (x.last < x.first)) ∧ hs = []) := by
 refine Spec.intro (fn := Tryz.f156) (N := 8) Tryz.func156 rfl Tryz.ntmps156 rfl fun B => ?_
 refine XK.seq (XK.region rfl ?_)
 refine XO.box rfl fun b1 => ?_
 refine XO.q (Q.assign rfl) (XO.done (XK.seq (XK.region rfl ?_)))
 refine XO.q (Q.fieldAddr rfl) ?_
 refine XO.q (Q.ld rfl rfl) ?_
 refine XO.q (Q.fieldAddr rfl) ?_
 refine XO.q (Q.ld rfl rfl) ?_
 refine XO.q (Q.lss rfl rfl) ?_
 refine XO.q (Q.assign rfl) (XO.done ?_)
 refine XK.rt [] Tryz.func156 Tryz.results156 (.t rfl .n) ?_
 exact ⟨rfl, rfl⟩
theorem behind_spec (c : MCase) (vn vv : Value) (hn hv : PHeap) [jn : Arr vn encNode 3 hn c.nodes] [jv : Arr vv encI 1 hv c.vals] (ok : MOk c) (set : List Int) (vs : Value) (hs_ : PHeap) [js : Arr vs encI 1 hs_ set] (b1 b2 b3 b4 bt : Nat) (vm : Value) :
  ∀ (m i : Nat), i < c.nodes.length → c.nodes.length - i ≤ m → ∀ (hm : PHeap) (ms : List Iv) (W : Nat → Prop), OArr vm encIv 2 304 hm ms → Wr c set W ms →
  Spec Tryz.prog 153 #[.int .i64 (i : Nat), ptr b1 0, ptr b2 0, ptr b3 0, ptr b4 0] [hm] [blk b1 [vs] 29, blk b2 [vn, vv] 130, blk b3 [(.func (.func 153) #[] #[ptr b1 0, ptr b2 0, ptr b3 0, ptr b4 0])] 248, blk b4 [ptr bt 0] 231, blk bt [vn, vv, vs, vm] 302, hn, hv, hs_]
   (fun v hs => ∃ h' ms' W', hs = [h'] ∧ OArr vm encIv 2 304 h' ms' ∧ Wr c set W' ms' ∧ (∀ j, W j → W' j) ∧ v = .bool (okN c set i) ∧ (okN c set i = true → W' i)) := by
 intro m
 induction m with
 | zero => intro i hi hm; omega
 | succ m ih =>
  intro i hi hm hm0 ms0 W0 OM0 wr0
  have n2 := ok.n2
  have nd := ok.node i hi
  have own := own_rng ok set hi
  have sl := sonsTo_len (c := c) (i := (i : Int)) (n := c.nodes.length)
  change (sonsN c i).length ≤ _ at sl
  have vl := ok.vl
  have il := ints_len (l := (sonsN c i))
  refine Spec.intro (fn := Tryz.f153) (N := 100) Tryz.func153 rfl Tryz.ntmps153 rfl fun B => ?_
  refine XK.seq (XK.region rfl (XO.q (Q.assign rfl) (XO.done (XK.seq (XK.region rfl ?_)))))
  refine XO.q (Q.build [_, _] (.c 0 1 rfl rfl rfl (.c 1 1 rfl rfl rfl (.n _)))) ?_
  refine XO.alloc fun b7 => ?_
  refine XO.st rfl rfl rfl ?_
  refine XO.done (XK.seq (XK.seq (XK.region rfl ?_)))
  refine XO.q (Q.ld rfl rfl) ?_
  refine XO.q (Q.move rfl) ?_
  refine XO.call Tryz.call154 rfl rfl rfl (containsI vs hs_ set (i : Nat)) fun v15 s15 R15 => ?_
  obtain ⟨rfl, rfl⟩ := R15
  dsimp only [lcA, lnA]
  refine XO.q (Q.not rfl) ?_
  refine XO.done ?_
  refine XK.meet (X := Unit) [17, 18, 19, 20, 21, 22, 23, 24, 25, 26, 27] (fun ⟨⟩ => []) (fun ⟨⟩ => [blk b7 [.int .i64 ((ownIv c set i)).first, .int .i64 ((ownIv c set i)).last] 304]) (fun ⟨⟩ => True) [blk b7 [.int .i64 0, .int .i64 1000000000] 304] ?_ ?_
  ·rintro ⟨⟩ _
   dsimp only [lcA, lnA]
   refine XK.seq (XK.region rfl ?_)
   refine XO.q (Q.ldA [_, _] rfl rfl rfl) ?_
   refine XO.q (Q.move rfl) ?_
   refine XO.call Tryz.call87 rfl rfl rfl (sons_spec c vn vv hn n2 (i : Nat)) fun v30 s30 R30 => ?_
   obtain ⟨k30, rfl, O30⟩ := R30
   dsimp only [lcA, lnA]
   change OArr v30 encI 1 3 k30 (ints (sonsN c i)) at O30
   refine XO.q (Q.assign rfl) (XO.done (XK.seq (XK.region rfl ?_)))
   refine XO.alloc fun b9 => ?_
   refine XO.done (XK.seq (XK.seq (XK.region rfl (XO.q (Q.move rfl) ?_))))
   refine XO.len rfl fun l32 => ?_
   rw [ints_len]
   refine XO.q (Q.move rfl) (XO.done (XK.block ?_))
   refine XK.while (X := Nat × PHeap × List Iv × (Nat → Prop)) [6, 11, 33, 34, 35, 36, 37, 38, 39, 40, 41, 42, 43, 44, 45, 46, 47, 48, 49, 50, 51, 52, 53, 54, 55, 56, 57, 58, 59, 60, 61, 62, 63, 64, 65] (fun ⟨j, hm, ms, W⟩ => [(33, some (.int .i64 (j : Nat)))]) (fun ⟨j, hm, ms, W⟩ => [hm, blk b9 [.int .i64 (sumFirst c set i j), .int .i64 (sumLast c set i j)] 304]) (fun ⟨j, hm, ms, W⟩ => j ≤ (sonsN c i).length ∧ OArr vm encIv 2 304 hm ms ∧ Wr c set W ms ∧ (∀ q, W0 q → W q) ∧ ∀ q, q < j → okN c set ((sonsN c i).getD q 0) = true ∧ W ((sonsN c i).getD q 0)) (fun ⟨j, hm, ms, W⟩ => (sonsN c i).length - j) (0, hm0, ms0, W0) [hm0, blk b9 [.int .i64 0, .int .i64 0] 304] rfl ⟨by omega, OM0, wr0, fun q hq => hq, fun q hq => by omega⟩ (.c rfl (.base 0 rfl rfl)) ?_
   rintro ⟨j, hm, ms, W⟩ ⟨hj, OM, wr, wmono, hdone⟩ ih0
   dsimp only [lcA, lnA] at ih0 ⊢
   refine XK.seq (XK.region rfl ?_)
   refine XO.q (Q.lss rfl rfl) ?_
   refine XO.done (XK.seq ?_)
   refine XK.if rfl (fun c1 => ?_) (fun c1 => ?_)
   ·skip
    have sr := sums_rng ok hj (fun q hq => (hdone q hq).1)
    refine XK.skip (XK.seq (XK.block (XK.seq (XK.region rfl ?_))))
    refine XO.ix rfl rfl (by omega) (by omega) fun i35 => ?_
    refine XO.q (Q.ldE rfl (by first | assumption | omega) rfl) ?_
    rw [ints_at (by omega)]
    obtain ⟨k, ek⟩ : ∃ k, k = (sonsN c i).getD j 0 := ⟨_, rfl⟩
    rw [← ek]
    obtain ⟨k1, k2, k3⟩ := ok.son (i := i) (k := k) (by rw [ek]; exact getD_mem0 (by omega))
    refine XO.q (Q.assign rfl) (XO.done (XK.seq (XK.seq (XK.region rfl ?_))))
    refine XO.q (Q.ld rfl rfl) ?_
    refine XO.q (Q.move rfl) ?_
    refine XO.call Tryz.call153 rfl rfl rfl (ih k k1 (by omega) hm ms W OM wr) fun v39 s39 R39 => ?_
    obtain ⟨hm2, ms2, W2, rfl, OM2, wr2, wmono2, rfl, wok2⟩ := R39
    dsimp only [lcA, lnA]
    have w2l := wr2.len
    refine XO.q (Q.not rfl) ?_
    refine XO.done ?_
    refine XK.if rfl (fun c2 => ?_) (fun c2 => ?_)
    ·skip
     refine XK.seq (XK.region rfl (XO.q (Q.assign rfl) (XO.done ?_)))
     refine XK.rt [hm2] Tryz.func153 Tryz.results153 (.t rfl .n) ?_
     exact ⟨hm2, ms2, W2, rfl, OM2, wr2, fun q hq => wmono2 q (wmono q hq), by rw [ok_eq ok set hi, allTo_false (s := j) (by omega) (by rw [← ek]; exact Bool.eq_false_iff.2 c2), Bool.false_and], fun h => by
        rw [ok_eq ok set hi, allTo_false (s := j) (by omega) (by rw [← ek]; exact Bool.eq_false_iff.2 c2), Bool.false_and] at h; cases h⟩
    ·skip
     have okk : okN c set k = true := Classical.byContradiction c2
     have mr := may_rng ok set k1 okk
     have hdone2 : ∀ q, q < j + 1 → okN c set ((sonsN c i).getD q 0) = true ∧ W2 ((sonsN c i).getD q 0) := fun q hq => by
      by_cases hqj : q < j
      ·exact ⟨(hdone q hqj).1, wmono2 _ (hdone q hqj).2⟩
      ·rw [show q = j by omega, ← ek]; exact ⟨okk, wok2 okk⟩
     refine XK.skip (XK.seq ?_)
     refine XK.drawn [0, 1, 2, 3, 4, 5, 6, 7, 8, 9, 10, 11] [b9, b4] [hm2] (.q 0 (.q 1 (.q 2 (.q 3 (.q 4 (.q 5 (.q 6 (.q 7 (.q 8 (.q 9 (.q 10 (.q 11 (.br 12 false .done .stop))))))))))))) Tryz.mixed rfl (by kernel_rfl) ?_
     refine XT.q rfl rfl (Q.fieldAddr rfl) ?_
     refine XT.q rfl rfl (Q.ld rfl rfl) ?_
     refine XT.q rfl rfl (Q.ld rfl rfl) ?_
     refine XT.q rfl rfl (Q.nilCheck rfl) ?_
     refine XT.q rfl rfl (Q.fieldAddr rfl) ?_
     refine XT.q rfl rfl (Q.ld rfl rfl) ?_
     refine XT.q rfl rfl (Q.move rfl) ?_
     refine XT.ix rfl rfl rfl rfl (by omega) (by omega) fun i48 => ?_
     refine XT.q rfl rfl (Q.fieldQ rfl (by first | assumption | omega)) ?_
     refine XT.q rfl rfl (Q.ldE rfl (by first | assumption | omega) rfl) ?_
     rw [wr2.val k (wok2 okk)]
     refine XT.q rfl rfl (Q.add rfl rfl ⟨by omega, by omega⟩) ?_
     rw [show sumFirst c set i j + (mayI c set k).first = sumFirst c set i (j + 1) by rw [sumFirst, sumFirst, sumTo, ← ek]]
     refine XT.q rfl rfl (Q.fieldAddr rfl) ?_
     refine XT.st rfl rfl rfl rfl rfl ⟨inferInstance, ?_⟩ XT.stop
     refine XT.done ?_
     refine XK.drawn [0, 1, 2, 3, 4, 5, 6, 7, 8, 9, 10, 11] [b9, b4] [hm2] (.q 0 (.q 1 (.q 2 (.q 3 (.q 4 (.q 5 (.q 6 (.q 7 (.q 8 (.q 9 (.q 10 (.q 11 (.br 12 false .done .stop))))))))))))) Tryz.mixed rfl (by kernel_rfl) ?_
     refine XT.q rfl rfl (Q.fieldAddr rfl) ?_
     refine XT.q rfl rfl (Q.ld rfl rfl) ?_
     refine XT.q rfl rfl (Q.ld rfl rfl) ?_
     refine XT.q rfl rfl (Q.nilCheck rfl) ?_
     refine XT.q rfl rfl (Q.fieldAddr rfl) ?_
     refine XT.q rfl rfl (Q.ld rfl rfl) ?_
     refine XT.q rfl rfl (Q.move rfl) ?_
     refine XT.ix rfl rfl rfl rfl (by omega) (by omega) fun i60 => ?_
     refine XT.q rfl rfl (Q.fieldQ rfl (by first | assumption | omega)) ?_
     refine XT.q rfl rfl (Q.ldE rfl (by first | assumption | omega) rfl) ?_
     rw [wr2.val k (wok2 okk)]
     refine XT.q rfl rfl (Q.add rfl rfl ⟨by omega, by omega⟩) ?_
     rw [show sumLast c set i j + (mayI c set k).last = sumLast c set i (j + 1) by rw [sumLast, sumLast, sumTo, ← ek]]
     refine XT.q rfl rfl (Q.fieldAddr rfl) ?_
     refine XT.st rfl rfl rfl rfl rfl ⟨inferInstance, ?_⟩ XT.stop
     refine XT.done ?_
     refine XK.inBlock ?_
     refine XK.region rfl ?_
     refine XO.q (Q.add rfl rfl ⟨by omega, by omega⟩) ?_
     refine XO.q (Q.move rfl) (XO.done ?_)
     exact ih0 (j + 1, hm2, ms2, W2) _ _ ⟨by dsimp only; omega, OM2, wr2, fun q hq => wmono2 q (wmono q hq), hdone2⟩ (by first | omega | (dsimp only; omega)) (.c rfl (.base 70 rfl rfl)) inferInstance
   ·skip
    have hjn : j = (sonsN c i).length := by omega
    subst hjn
    have wl := wr.len
    have sr := sums_rng ok hj (fun q hq => (hdone q hq).1)
    refine XK.exit rfl ?_
    refine XK.seq (XK.seq (XK.region rfl (XO.q (Q.move rfl) ?_)))
    refine XO.len rfl fun l67 => ?_
    rw [ints_len]
    refine XO.q (Q.gtr rfl rfl) ?_
    refine XO.done ?_
    refine XK.if rfl (fun c3 => ?_) (fun c3 => ?_)
    ·skip
     have e0 := may_eq ok set hi
     rw [if_pos (by omega)] at e0
     have e1 : max (ownIv c set i).first (sumFirst c set i (sonsN c i).length + (c.nodes.getD i default).low) = (mayI c set i).first := by rw [e0]
     have e2 : min (ownIv c set i).last (sumLast c set i (sonsN c i).length + (c.nodes.getD i default).high) = (mayI c set i).last := by rw [e0]
     refine XK.drawn [0, 1, 2, 3, 4, 5, 6, 7, 8, 9, 10, 11, 12, 13, 14, 15, 16, 17, 18, 19] [b7, b9, b2] [] (.q 0 (.q 1 (.q 2 (.q 3 (.q 4 (.q 5 (.q 6 (.q 7 (.q 8 (.q 9 (.q 10 (.q 11 (.q 12 (.q 13 (.q 14 (.q 15 (.q 16 (.q 17 (.q 18 (.q 19 (.br 20 true (.br 21 false .done .stop) .stop))))))))))))))))))))) Tryz.mixed rfl (by kernel_rfl) ?_
     refine XT.q rfl rfl (Q.ldA [_, _] rfl rfl rfl) ?_
     refine XT.q rfl rfl (Q.fieldAddr rfl) ?_
     refine XT.q rfl rfl (Q.ld rfl rfl) ?_
     refine XT.q rfl rfl (Q.fieldAddr rfl) ?_
     refine XT.q rfl rfl (Q.ld rfl rfl) ?_
     refine XT.q rfl rfl (Q.move rfl) ?_
     refine XT.ix rfl rfl rfl rfl (by omega) (by omega) fun i75 => ?_
     refine XT.q rfl rfl (Q.fieldQ rfl (by first | assumption | omega)) ?_
     refine XT.q rfl rfl (Q.ldE rfl (by first | assumption | omega) rfl) ?_
     refine XT.q rfl rfl (Q.add rfl rfl ⟨by omega, by omega⟩) ?_
     refine XT.q rfl rfl (Q.fieldAddr rfl) ?_
     refine XT.q rfl rfl (Q.ld rfl rfl) ?_
     refine XT.q rfl rfl (Q.fieldAddr rfl) ?_
     refine XT.q rfl rfl (Q.ld rfl rfl) ?_
     refine XT.q rfl rfl (Q.move rfl) ?_
     refine XT.ix rfl rfl rfl rfl (by omega) (by omega) fun i84 => ?_
     refine XT.q rfl rfl (Q.fieldQ rfl (by first | assumption | omega)) ?_
     refine XT.q rfl rfl (Q.ldE rfl (by first | assumption | omega) rfl) ?_
     refine XT.q rfl rfl (Q.add rfl rfl ⟨by omega, by omega⟩) ?_
     refine XT.q rfl rfl (Q.build [_, _] (.c 0 1 rfl rfl rfl (.c 1 1 rfl rfl rfl (.n _)))) ?_
     refine XT.call rfl rfl Tryz.call155 rfl rfl rfl (cut_spec (ownIv c set i) ⟨sumFirst c set i (sonsN c i).length + (c.nodes.getD i default).low, sumLast c set i (sonsN c i).length + (c.nodes.getD i default).high⟩) (fun v89 s89 R89 => ?_) XT.stop
     obtain ⟨rfl, rfl⟩ := R89
     dsimp only [lcA, lnA]
     refine ⟨inferInstance, ?_⟩
     refine XT.st rfl rfl rfl rfl rfl ⟨inferInstance, ?_⟩ XT.stop
     rw [e1, e2]
     refine XT.done ?_
     refine XK.seq ?_
     refine XK.drawn [0, 1, 2, 3, 4, 5, 6] [b4, b7] [] (.q 0 (.q 1 (.q 2 (.q 3 (.q 4 (.q 5 (.q 6 (.br 7 false .done .stop)))))))) Tryz.mixed rfl (by kernel_rfl) ?_
     refine XT.q rfl rfl (Q.ld rfl rfl) ?_
     refine XT.q rfl rfl (Q.nilCheck rfl) ?_
     refine XT.q rfl rfl (Q.fieldAddr rfl) ?_
     refine XT.q rfl rfl (Q.ld rfl rfl) ?_
     refine XT.q rfl rfl (Q.move rfl) ?_
     refine XT.q rfl rfl (Q.ldA [_, _] rfl rfl rfl) ?_
     refine XT.ix rfl rfl rfl rfl (by omega) (by omega) fun i96 => ?_
     refine XT.stE (mayI c set i) rfl rfl rfl rfl rfl (by assumption) rfl rfl (fun h16_7 O16_7 => ⟨inferInstance, ?_⟩) XT.stop
     refine XT.done ?_
     refine XK.seq (XK.region rfl ?_)
     refine XO.q (Q.ldA [_, _] rfl rfl rfl) ?_
     refine XO.call Tryz.call156 rfl rfl rfl (none_spec (mayI c set i)) fun v98 s98 R98 => ?_
     obtain ⟨rfl, rfl⟩ := R98
     dsimp only [lcA, lnA]
     refine XO.q (Q.not rfl) ?_
     refine XO.q (Q.assign rfl) (XO.done ?_)
     refine XK.rt [h16_7] Tryz.func153 Tryz.results153 (.t rfl .n) ?_
     have eo : okN c set i = !decide ((mayI c set i).last < (mayI c set i).first) := by rw [ok_eq ok set hi, allTo_true (fun q hq => (hdone q hq).1), Bool.true_and]
     rw [← eo]
     by_cases hb : okN c set i = true
     ·exact ⟨_, _, fun q => W q ∨ q = i, rfl, O16_7, wr.write hi hb (fun k hk => by obtain ⟨q, hq, rfl⟩ := mem_getD0 hk; exact (hdone q hq).2), fun q hq => .inl (wmono q hq), rfl, fun _ => .inr rfl⟩
     ·exact ⟨_, _, W, rfl, O16_7, wr.other hi, wmono, rfl, fun h => absurd h hb⟩
    ·skip
     have e0 := may_eq ok set hi
     rw [if_neg (by omega)] at e0
     rw [← e0]
     refine XK.skip (XK.seq ?_)
     refine XK.drawn [0, 1, 2, 3, 4, 5, 6] [b4, b7] [] (.q 0 (.q 1 (.q 2 (.q 3 (.q 4 (.q 5 (.q 6 (.br 7 false .done .stop)))))))) Tryz.mixed rfl (by kernel_rfl) ?_
     refine XT.q rfl rfl (Q.ld rfl rfl) ?_
     refine XT.q rfl rfl (Q.nilCheck rfl) ?_
     refine XT.q rfl rfl (Q.fieldAddr rfl) ?_
     refine XT.q rfl rfl (Q.ld rfl rfl) ?_
     refine XT.q rfl rfl (Q.move rfl) ?_
     refine XT.q rfl rfl (Q.ldA [_, _] rfl rfl rfl) ?_
     refine XT.ix rfl rfl rfl rfl (by omega) (by omega) fun i96 => ?_
     refine XT.stE (mayI c set i) rfl rfl rfl rfl rfl (by assumption) rfl rfl (fun h16_7 O16_7 => ⟨inferInstance, ?_⟩) XT.stop
     refine XT.done ?_
     refine XK.seq (XK.region rfl ?_)
     refine XO.q (Q.ldA [_, _] rfl rfl rfl) ?_
     refine XO.call Tryz.call156 rfl rfl rfl (none_spec (mayI c set i)) fun v98 s98 R98 => ?_
     obtain ⟨rfl, rfl⟩ := R98
     dsimp only [lcA, lnA]
     refine XO.q (Q.not rfl) ?_
     refine XO.q (Q.assign rfl) (XO.done ?_)
     refine XK.rt [h16_7] Tryz.func153 Tryz.results153 (.t rfl .n) ?_
     have eo : okN c set i = !decide ((mayI c set i).last < (mayI c set i).first) := by rw [ok_eq ok set hi, allTo_true (fun q hq => (hdone q hq).1), Bool.true_and]
     rw [← eo]
     by_cases hb : okN c set i = true
     ·exact ⟨_, _, fun q => W q ∨ q = i, rfl, O16_7, wr.write hi hb (fun k hk => by obtain ⟨q, hq, rfl⟩ := mem_getD0 hk; exact (hdone q hq).2), fun q hq => .inl (wmono q hq), rfl, fun _ => .inr rfl⟩
     ·exact ⟨_, _, W, rfl, O16_7, wr.other hi, wmono, rfl, fun h => absurd h hb⟩
  ·intro mt0
   dsimp only [lcA, lnA] at mt0
   refine XK.if rfl (fun c0 => ?_) (fun c0 => ?_)
   ·skip
    refine XK.drawn [0, 1, 2, 3, 4, 5, 6, 7, 8, 9, 10] [b2] [] (.q 0 (.q 1 (.q 2 (.q 3 (.q 4 (.q 5 (.q 6 (.q 7 (.q 8 (.q 9 (.q 10 (.br 11 false .done .stop)))))))))))) Tryz.mixed rfl (by kernel_rfl) ?_
    refine XT.q rfl rfl (Q.fieldAddr rfl) ?_
    refine XT.q rfl rfl (Q.ld rfl rfl) ?_
    refine XT.q rfl rfl (Q.move rfl) ?_
    refine XT.ix rfl rfl rfl rfl (by omega) (by omega) fun i20 => ?_
    refine XT.q rfl rfl (Q.ldE rfl (by first | assumption | omega) rfl) ?_
    refine XT.q rfl rfl (Q.fieldAddr rfl) ?_
    refine XT.q rfl rfl (Q.ld rfl rfl) ?_
    refine XT.q rfl rfl (Q.move rfl) ?_
    refine XT.ix rfl rfl rfl rfl (by omega) (by omega) fun i25 => ?_
    refine XT.q rfl rfl (Q.ldE rfl (by first | assumption | omega) rfl) ?_
    refine XT.q rfl rfl (Q.build [_, _] (.c 0 1 rfl rfl rfl (.c 1 1 rfl rfl rfl (.n _)))) ?_
    refine XT.st rfl rfl rfl rfl rfl ⟨inferInstance, ?_⟩ XT.stop
    refine XT.done ?_
    have e1 : (ownIv c set i).first = c.vals.getD i default := by rw [ownIv, if_neg c0]; rfl
    have e2 : (ownIv c set i).last = c.vals.getD i default := by rw [ownIv, if_neg c0]; rfl
    rw [e1, e2] at mt0
    exact mt0 (()) _ _ trivial (.base 11 rfl rfl) inferInstance
   ·skip
    refine XK.skip ?_
    have c0 := Decidable.of_not_not c0
    have e1 : (ownIv c set i).first = 0 := by rw [ownIv, if_pos c0]
    have e2 : (ownIv c set i).last = 1000000000 := by rw [ownIv, if_pos c0]
    rw [e1, e2] at mt0
    exact mt0 (()) _ _ trivial (.base 0 rfl rfl) inferInstance
end Go.X.Me

set_option linter.unusedSimpArgs false
set_option linter.unusedVariables false
set_option maxRecDepth 20000
namespace Go.X.Me
open Go.Proofs
theorem look_spec (c : MCase) (vn vv : Value) (hn hv : PHeap) [jn : Arr vn encNode 3 hn c.nodes] [jv : Arr vv encI 1 hv c.vals] (ok : MOk c) (set : List Int) (vs : Value) (hs_ : PHeap) [js : Arr vs encI 1 hs_ set] : Spec Tryz.prog 89 #[.agg #[vn, vv], vs] [] [hn, hv, hs_]
  (fun v hs => ∃ bt vm km ms, v = .tuple #[ptr bt 0, .bool (okN c set 0)] ∧ hs = [blk bt [vn, vv, vs, vm] 302, km] ∧ OArr vm encIv 2 304 km ms ∧ ms.length = c.nodes.length ∧ (okN c set 0 = true → ∀ i, i < c.nodes.length → ms.getD i default = mayI c set i)) := by
 have n1 := ok.n1
 have n2 := ok.n2
 refine Spec.intro (fn := Tryz.f89) (N := 20) Tryz.func89 rfl Tryz.ntmps89 rfl fun B => ?_
 refine XK.seq (XK.region rfl ?_)
 refine XO.box rfl fun b2 => ?_
 refine XO.box rfl fun b3 => ?_
 refine XO.q (Q.assign rfl) (XO.q (Q.assign rfl) (XO.done (XK.seq ?_)))
 refine XK.meet (X := Nat × Nat × Value × PHeap) [6, 8, 9, 10, 11, 12, 13, 14, 15] (fun ⟨b6, bt, vm, km⟩ => [(6, some (ptr b6 0))]) (fun ⟨b6, bt, vm, km⟩ => [blk b6 [ptr bt 0] 231, blk bt [vn, vv, vs, vm] 302, km]) (fun ⟨b6, bt, vm, km⟩ => OArr vm encIv 2 304 km (List.replicate c.nodes.length (⟨0, 0⟩ : Iv))) [] ?_ ?_
 ·rintro ⟨b6, bt, vm, km⟩ OM
  dsimp only [lcA, lnA]
  refine XK.seq (XK.region rfl ?_)
  refine XO.alloc fun b7 => ?_
  refine XO.done (XK.seq (XK.region rfl ?_))
  refine XO.q (Q.func (fun _ he => rfl) (fun _ he => evs_rel he rfl)) ?_
  refine XO.st rfl rfl rfl ?_
  refine XO.done (XK.seq ?_)
  refine XK.drawn [0, 1, 3, 4] [b6, b7] [] (.q 0 (.q 1 (.br 2 true (.q 3 (.q 4 .done)) .stop))) Tryz.mixed rfl (by kernel_rfl) ?_
  refine XT.q rfl rfl (Q.ld rfl rfl) ?_
  refine XT.q rfl rfl (Q.ld rfl rfl) ?_
  refine XT.call rfl rfl Tryz.call153 rfl rfl rfl (behind_spec c vn vv hn hv ok set vs hs_ b3 b2 b7 b6 bt vm c.nodes.length 0 (by omega) (by omega) km (List.replicate c.nodes.length (⟨0, 0⟩ : Iv)) (fun _ => False) OM ⟨by simp, fun j h => h.elim, fun j h => h.elim, fun j h => h.elim, fun j h => h.elim⟩) (fun v19 s19 R19 => ?_) XT.stop
  obtain ⟨k19, ms, W, rfl, OM2, wr, _, rfl, w0⟩ := R19
  dsimp only [lcA, lnA]
  refine ⟨inferInstance, ?_⟩
  refine XT.q rfl rfl (Q.assign rfl) ?_
  refine XT.q rfl rfl (Q.assign rfl) ?_
  refine XT.done ?_
  refine XK.rt [blk bt [vn, vv, vs, vm] 302, k19] Tryz.func89 Tryz.results89 (.t rfl (.t rfl .n)) ?_
  exact ⟨bt, vm, k19, ms, rfl, rfl, OM2, wr.len, fun h i hi => wr.val i (wr.all ok (w0 h) i hi)⟩
 ·intro mtr1
  dsimp only [lcA, lnA] at mtr1
  refine XK.drawn [0, 1, 2, 3, 4, 6] [b2, b3] [] (.q 0 (.q 1 (.q 2 (.q 3 (.q 4 (.br 5 true (.q 6 (.br 7 true (.br 8 true (.br 9 false .done .stop) .stop) (.br 8 true (.br 7 true (.br 9 false .done .stop) .stop) .stop))) (.br 8 true (.br 5 true (.q 6 (.br 7 true (.br 9 false .done .stop) .stop)) .stop) .stop))))))) Tryz.mixed rfl (by kernel_rfl) ?_
  refine XT.q rfl rfl (Q.ldA [_, _] rfl rfl rfl) ?_
  refine XT.q rfl rfl (Q.ld rfl rfl) ?_
  refine XT.q rfl rfl (Q.fieldAddr rfl) ?_
  refine XT.q rfl rfl (Q.ld rfl rfl) ?_
  refine XT.q rfl rfl (Q.len rfl) ?_
  refine XT.make encIv ((⟨0, 0⟩ : Iv)) rfl rfl rfl rfl rfl (by omega) (by omega) (fun _ => rfl) rfl rfl rfl (by dsimp only [encIv]; infer_instance) (fun v13 h13 O13 => ⟨inferInstance, ?_⟩) ?_
  ·skip
   refine XT.q rfl rfl (Q.build [_, _, _, _] (.c 0 2 rfl rfl rfl (.c 2 1 rfl rfl rfl (.c 3 1 rfl rfl rfl (.n _))))) ?_
   refine XT.box rfl rfl rfl (fun b15 => ⟨inferInstance, ?_⟩) ?_
   ·skip
    refine XT.alloc rfl rfl (fun b6 => ⟨inferInstance, ?_⟩) XT.stop
    refine XT.st rfl rfl rfl rfl rfl ⟨inferInstance, ?_⟩ XT.stop
    refine XT.done ?_
    exact mtr1 ((b6, b15, v13, h13)) _ _ (by have := O13; simpa using this) (.c rfl (.base 9 rfl rfl)) inferInstance
   ·skip
    refine XT.alloc rfl rfl (fun b6 => ⟨inferInstance, ?_⟩) XT.stop
    refine XT.box rfl rfl rfl (fun b15 => ⟨inferInstance, ?_⟩) XT.stop
    refine XT.st rfl rfl rfl rfl rfl ⟨inferInstance, ?_⟩ XT.stop
    refine XT.done ?_
    exact mtr1 ((b6, b15, v13, h13)) _ _ (by have := O13; simpa using this) (.c rfl (.base 9 rfl rfl)) inferInstance
  ·skip
   refine XT.alloc rfl rfl (fun b6 => ⟨inferInstance, ?_⟩) XT.stop
   refine XT.make encIv ((⟨0, 0⟩ : Iv)) rfl rfl rfl rfl rfl (by omega) (by omega) (fun _ => rfl) rfl rfl rfl (by dsimp only [encIv]; infer_instance) (fun v13 h13 O13 => ⟨inferInstance, ?_⟩) XT.stop
   refine XT.q rfl rfl (Q.build [_, _, _, _] (.c 0 2 rfl rfl rfl (.c 2 1 rfl rfl rfl (.c 3 1 rfl rfl rfl (.n _))))) ?_
   refine XT.box rfl rfl rfl (fun b15 => ⟨inferInstance, ?_⟩) XT.stop
   refine XT.st rfl rfl rfl rfl rfl ⟨inferInstance, ?_⟩ XT.stop
   refine XT.done ?_
   exact mtr1 ((b6, b15, v13, h13)) _ _ (by have := O13; simpa using this) (.c rfl (.base 9 rfl rfl)) inferInstance
end Go.X.Me

set_option linter.unusedSimpArgs false
set_option linter.unusedVariables false
set_option maxRecDepth 20000
namespace Go.X.Me
open Go.Proofs
end Go.X.Me

set_option linter.unusedSimpArgs false
set_option linter.unusedVariables false
set_option maxRecDepth 20000
namespace Go.X.Me
open Go.Proofs
end Go.X.Me

set_option linter.unusedSimpArgs false
set_option linter.unusedVariables false
set_option maxRecDepth 20000
namespace Go.X.Me
open Go.Proofs
instance : Inhabited (Value × MUse) := ⟨(.slice none 0 0, default)⟩
end Go.X.Me

set_option linter.unusedSimpArgs false
set_option linter.unusedVariables false
set_option maxRecDepth 20000
namespace Go.X.Me
open Go.Proofs
theorem mul64_one (n : Nat) (h : n ≤ 4294967295) : Spec Tryz.prog 199 #[.int .u64 1, .int .u64 (n : Nat)] [] [] (fun v hs => v = .tuple #[.int .u64 0, .int .u64 (n : Nat)] ∧ hs = []) := by apply Go.X.Ke.mul64_one <;> assumption
theorem mul_one' (n : Nat) (h : n ≤ 4294967295) : Spec Tryz.prog 160 #[.int .u64 1, .int .u64 (n : Nat)] [] [] (fun v hs => v = .tuple #[.int .u64 0, .int .u64 (n : Nat)] ∧ hs = []) := by apply Go.X.Ke.mul_one' <;> assumption
theorem repeatI (v : Value) (h : PHeap) (x : Int) [s : Arr v encI 1 h [x]] (n : Nat) (hn : n ≤ 4294967295) : Spec Tryz.prog 100 #[v, .int .i64 (n : Nat)] [] [h] (fun v' hs => ∃ h', hs = [h'] ∧ OArr v' encI 1 3 h' (List.replicate n x)) := by apply Go.X.Ke.repeatI <;> assumption
end Go.X.Me

set_option linter.unusedSimpArgs false
set_option linter.unusedVariables false
set_option maxRecDepth 20000
namespace Go.X.Me
open Go.Proofs
end Go.X.Me

set_option linter.unusedSimpArgs false
set_option linter.unusedVariables false
set_option maxRecDepth 20000
namespace Go.X.Me
open Go.Proofs
theorem lost_rng {c : MCase} (ok : MOk c) {i : Nat} (hi : i < c.nodes.length) {n : Nat} (hn : n ≤ (sonsN c i).length) : -14000000000 ≤ lostAt c i n ∧ lostAt c i n ≤ 1000000000 := by
 have hs : ∀ q, q < n → 0 ≤ c.vals.getD ((sonsN c i).getD q 0) 0 ∧ c.vals.getD ((sonsN c i).getD q 0) 0 ≤ 1000000000 := fun q hq => by
  obtain ⟨a, _, _⟩ := ok.son (getD_mem0 (l := sonsN c i) (j := q) (by omega))
  exact (ok.node _ a).2.1
 have h1 : 0 ≤ sumV c c.vals i n := sum_nonneg fun q hq => (hs q hq).1
 have h2 : sumV c c.vals i n ≤ n * 1000000000 := sum_le fun q hq => (hs q hq).2
 have h3 := (ok.node i hi).2.1
 have h4 : (sonsN c i).length ≤ c.nodes.length := sonsTo_len
 have h5 := ok.n2
 unfold lostAt; omega
theorem Broken_spec (c : MCase) (vn vv : Value) (hn hv : PHeap) [jn : Arr vn encNode 3 hn c.nodes] [jv : Arr vv encI 1 hv c.vals] : Spec Tryz.prog 33 #[.agg #[vn, vv]] [] [hn, hv] (fun v hs => ∃ v1 k1, v = .tuple #[v1, .int .i64 (brokenG c).2] ∧ hs = [k1] ∧ OArr v1 encI 1 3 k1 (brokenG c).1) := by
 have nI : OArr (.slice none 0 0) encI 1 3 emp ([] : List Int) := OArr.nil (fun _ => rfl)
 refine Spec.intro (fn := Tryz.f33) (N := 68) Tryz.func33 rfl Tryz.ntmps33 rfl fun B => ?_
 refine XK.seq (XK.region rfl ?_)
 refine XO.box rfl fun b1 => ?_
 refine XO.q (Q.assign rfl) (XO.q (Q.assign rfl) (XO.done (XK.seq (XK.seq (XK.region rfl ?_)))))
 refine XO.q (Q.ldA [_, _] rfl rfl rfl) ?_
 refine XO.call Tryz.call86 rfl rfl rfl (Check_spec11 c vn vv hn hv) fun v13 s13 R13 => ?_
 obtain ⟨rfl, rfl⟩ := R13
 dsimp only [lcA, lnA]
 refine XO.q (Q.assign rfl) (XO.done (XK.seq (XK.region rfl (XO.q (Q.move rfl) ?_))))
 refine XO.q (Q.neq rfl rfl) ?_
 refine XO.done ?_
 refine XK.if rfl (fun c0 => ?_) (fun c0 => ?_)
 ·skip
  refine XK.seq (XK.region rfl (XO.q (Q.move rfl) (XO.q (Q.assign rfl) (XO.q (Q.assign rfl) (XO.done ?_)))))
  refine XK.rt [emp] Tryz.func33 Tryz.results33 (.t rfl (.t rfl .n)) ?_
  have hw0 : brokenG c = ([], mcheck c) := by rw [brokenG, if_pos c0]
  rw [hw0]
  exact ⟨.slice none 0 0, emp, rfl, rfl, OArr.nil (fun _ => rfl)⟩
 ·skip
  have ok := mcheck_ok (Decidable.of_not_not c0)
  have vl := ok.vl
  refine XK.skip (XK.seq (XK.region rfl (XO.q (Q.assign rfl) (XO.done (XK.seq ?_)))))
  refine XK.seq (XK.region rfl ?_)
  refine XO.q (Q.fieldAddr rfl) ?_
  refine XO.q (Q.ld rfl rfl) ?_
  refine XO.len rfl fun l19 => ?_
  refine XO.q (Q.move rfl) (XO.done (XK.block ?_))
  refine XK.while (X := Nat × Value × PHeap) [5, 6, 7, 8, 9, 11, 20, 21, 22, 23, 24, 25, 26, 27, 28, 29, 30, 31, 32, 33, 34, 35, 36, 37, 38, 39, 40, 41, 42, 43, 44, 45, 46, 47, 48, 49, 50, 51, 52, 53, 54, 55, 56, 57, 58, 59, 60, 61, 62, 63, 64, 65, 66] (fun ⟨i, vo, ko⟩ => [(20, some (.int .i64 (i : Nat))), (5, some (vo))]) (fun ⟨i, vo, ko⟩ => [ko]) (fun ⟨i, vo, ko⟩ => i ≤ c.nodes.length ∧ OArr vo encI 1 3 ko (ints (brokenTo c i))) (fun ⟨i, vo, ko⟩ => c.nodes.length - i) (0, .slice none 0 0, emp) [emp] rfl ⟨by omega, nI⟩ (.c rfl (.c rfl (.base 0 rfl rfl))) ?_
  rintro ⟨i, vo, ko⟩ ⟨hi, OO⟩ ih0
  dsimp only [lcA, lnA] at ih0 ⊢
  refine XK.seq (XK.region rfl ?_)
  refine XO.q (Q.lss rfl rfl) ?_
  refine XO.done (XK.seq ?_)
  refine XK.if rfl (fun c1 => ?_) (fun c1 => ?_)
  ·skip
   have il := ints_len (l := (sonsN c i))
   have nd := (ok.node i (by omega)).2.1
   have bl := brokenTo_len c i
   have n2 := ok.n2
   refine XK.skip (XK.seq (XK.block (XK.seq (XK.region rfl (XO.q (Q.move rfl) ?_)))))
   refine XO.ix rfl rfl (by omega) (by omega) fun i23 => ?_
   refine XO.q (Q.ldEA [_, _, _] rfl (by first | assumption | omega) rfl rfl) ?_
   refine XO.alloc fun b7 => ?_
   refine XO.q (Q.assign rfl) ?_
   refine XO.st rfl rfl rfl ?_
   refine XO.done (XK.seq (XK.region rfl ?_))
   refine XO.q (Q.ldA [_, _] rfl rfl rfl) ?_
   refine XO.q (Q.move rfl) ?_
   refine XO.call Tryz.call87 rfl rfl rfl (sons_spec c vn vv hn ok.n2 (i : Nat)) fun v27 s27 R27 => ?_
   obtain ⟨k27, rfl, O27⟩ := R27
   dsimp only [lcA, lnA]
   change OArr v27 encI 1 3 k27 (ints (sonsN c i)) at O27
   refine XO.q (Q.assign rfl) (XO.done (XK.seq (XK.region rfl ?_)))
   refine XO.q (Q.fieldAddr rfl) ?_
   refine XO.q (Q.ld rfl rfl) ?_
   refine XO.q (Q.move rfl) ?_
   refine XO.ix rfl rfl (by omega) (by omega) fun i31 => ?_
   refine XO.q (Q.ldE rfl (by first | assumption | omega) rfl) ?_
   rw [show c.vals.getD i default = lostAt c i 0 by rw [lostAt, sumV, sumTo, Int.sub_zero]; rfl]
   refine XO.q (Q.assign rfl) (XO.done (XK.seq (XK.seq (XK.region rfl (XO.q (Q.move rfl) ?_)))))
   refine XO.len rfl fun l34 => ?_
   rw [il]
   refine XO.q (Q.move rfl) (XO.done (XK.block ?_))
   refine XK.while (X := Nat) [9, 11, 35, 36, 37, 38, 39, 40, 41, 42, 43, 44, 45, 46] (fun j => [(35, some (.int .i64 (j : Nat))), (9, some (.int .i64 (lostAt c i j)))]) (fun j => []) (fun j => j ≤ (sonsN c i).length) (fun j => (sonsN c i).length - j) (0) [] rfl (by omega) (.c rfl (.c rfl (.base 0 rfl rfl))) ?_
   rintro j hj ih1
   dsimp only [lcA, lnA] at ih1 ⊢
   refine XK.seq (XK.region rfl ?_)
   refine XO.q (Q.lss rfl rfl) ?_
   refine XO.done (XK.seq ?_)
   refine XK.if rfl (fun c2 => ?_) (fun c2 => ?_)
   ·skip
    have lr := lost_rng ok (i := i) (by omega) (n := j) (by omega)
    have lr2 := lost_rng ok (i := i) (by omega) (n := j + 1) (by omega)
    have lr3 : -14000000000 ≤ c.vals.getD i 0 := by omega
    refine XK.skip (XK.seq (XK.block (XK.seq (XK.region rfl ?_))))
    refine XO.ix rfl rfl (by omega) (by omega) fun i37 => ?_
    refine XO.q (Q.ldE rfl (by first | assumption | omega) rfl) ?_
    rw [ints_at (by omega)]
    obtain ⟨k, ek⟩ : ∃ k, k = (sonsN c i).getD j 0 := ⟨_, rfl⟩
    rw [← ek]
    obtain ⟨k1, k2, k3⟩ := ok.son (i := i) (k := k) (by rw [ek]; exact getD_mem0 (by omega))
    have vk : 0 ≤ c.vals.getD k default ∧ c.vals.getD k default ≤ 1000000000 := (ok.node k k1).2.1
    refine XO.q (Q.assign rfl) (XO.done (XK.region rfl (XO.q (Q.move rfl) ?_)))
    refine XO.q (Q.fieldAddr rfl) ?_
    refine XO.q (Q.ld rfl rfl) ?_
    refine XO.q (Q.move rfl) ?_
    refine XO.ix rfl rfl (by omega) (by omega) fun i43 => ?_
    refine XO.q (Q.ldE rfl (by first | assumption | omega) rfl) ?_
    refine XO.q (Q.sub rfl rfl ⟨by omega, by omega⟩) ?_
    rw [show (lostAt c i j) - c.vals.getD k default = (lostAt c i (j + 1)) by rw [lostAt, lostAt, sumV, sumV, sumTo, ← ek, ← Int.sub_sub]; rfl]
    refine XO.q (Q.assign rfl) (XO.done ?_)
    refine XK.inBlock ?_
    refine XK.region rfl ?_
    refine XO.q (Q.add rfl rfl ⟨by omega, by omega⟩) ?_
    refine XO.q (Q.move rfl) (XO.done ?_)
    exact ih1 (j + 1) _ _ (by omega) (by first | omega | (dsimp only; omega)) (.c rfl (.c rfl (.base 30 rfl rfl))) inferInstance
   ·skip
    have hjn : j = (sonsN c i).length := by omega
    subst hjn
    refine XK.exit rfl ?_
    refine XK.seq (XK.region rfl (XO.q (Q.move rfl) ?_))
    refine XO.len rfl fun l48 => ?_
    rw [il]
    refine XO.q (Q.gtr rfl rfl) ?_
    refine XO.q (Q.move rfl) ?_
    refine XO.q (Quiet.guardT rfl rfl fun g51 p51 => Q.move rfl) ?_
    refine XO.q (Quiet.guardT rfl rfl fun g52 p52 => Q.fieldAddr rfl) ?_
    refine XO.q (Quiet.guardT rfl rfl fun g53 p53 => Q.ld (lzv g53 rfl) rfl) ?_
    refine XO.q (Quiet.guardT rfl rfl fun g54 p54 => Q.lss (lzv g54 rfl) (lzv g54 rfl)) ?_
    refine XO.q (Quiet.guardT rfl rfl fun g55 p55 => Q.move (lzv g55 rfl)) ?_
    refine XO.q (Quiet.guard2 rfl rfl fun g56a g56b => have p56a := bpT g56a; have p56b := bpF g56b; Q.move rfl) ?_
    refine XO.q (Quiet.guard2 rfl rfl fun g57a g57b => have p57a := bpT g57a; have p57b := bpF g57b; Q.fieldAddr rfl) ?_
    refine XO.q (Quiet.guard2 rfl rfl fun g58a g58b => have p58a := bpT g58a; have p58b := bpF g58b; Q.ld (lzv g58b (lzv g58a rfl)) rfl) ?_
    refine XO.q (Quiet.guard2 rfl rfl fun g59a g59b => have p59a := bpT g59a; have p59b := bpF g59b; Q.gtr (lzv g59b (lzv g59a rfl)) (lzv g59b (lzv g59a rfl))) ?_
    refine XO.q (Quiet.guardT rfl rfl fun g60 p60 => Q.or (lzv g60 rfl) (fun hp => (lzv hp (lzv g60 rfl)))) ?_
    refine XO.q (Q.and rfl (fun hp => lzv hp rfl)) ?_
    refine XO.done ?_
    refine XK.if rfl (fun c3 => ?_) (fun c3 => ?_)
    ·skip
     refine XK.region rfl (XO.q (Q.move rfl) (XO.q (Q.move rfl) ?_))
     refine XO.lit [_] [_] [((i : Nat) : Int)] encI (by rfl) (by rfl) rfl (by rfl) (by exact .c 0 1 rfl rfl rfl (.n _)) (fun _ => rfl) (by rfl) rfl (by infer_instance) rfl fun v64 h64 O64 => ?_
     refine XO.append rfl rfl rfl rfl (by simp only [ints_len, List.length_cons, List.length_nil]; omega) fun v65 h65 O65 => ?_
     refine XO.q (Q.assign rfl) (XO.done ?_)
     refine XK.inBlock ?_
     refine XK.region rfl ?_
     refine XO.q (Q.add rfl rfl ⟨by omega, by omega⟩) ?_
     refine XO.q (Q.move rfl) (XO.done ?_)
     exact ih0 (i + 1, v65, h65) _ _ ⟨by dsimp only; omega, by dsimp only; rw [brokenTo, if_pos (show isBroken c i from c3), ints_snoc]; exact O65⟩ (by first | omega | (dsimp only; omega)) (.c rfl (.c rfl (.base 113 rfl rfl))) inferInstance
    ·skip
     refine XK.skip ?_
     refine XK.inBlock ?_
     refine XK.region rfl ?_
     refine XO.q (Q.add rfl rfl ⟨by omega, by omega⟩) ?_
     refine XO.q (Q.move rfl) (XO.done ?_)
     exact ih0 (i + 1, vo, ko) _ _ ⟨by dsimp only; omega, by dsimp only; rw [brokenTo, if_neg (show ¬ isBroken c i from c3)]; exact OO⟩ (by first | omega | (dsimp only; omega)) (.c rfl (.c rfl (.base 108 rfl rfl))) inferInstance
  ·skip
   refine XK.exit rfl ?_
   refine XK.seq (XK.region rfl (XO.q (Q.move rfl) (XO.q (Q.assign rfl) (XO.q (Q.assign rfl) (XO.done ?_)))))
   refine XK.rt [ko] Tryz.func33 Tryz.results33 (.t rfl (.t rfl .n)) ?_
   have hin : i = c.nodes.length := by omega
   subst hin
   have hw0 : brokenG c = (ints (brokenTo c c.nodes.length), 0) := by rw [brokenG, if_neg c0]
   rw [hw0]
   exact ⟨vo, ko, rfl, rfl, OO⟩
end Go.X.Me

set_option linter.unusedSimpArgs false
set_option linter.unusedVariables false
set_option maxRecDepth 20000
namespace Go.X
open Go.Proofs
theorem there_spec : Spec Tryz.prog 14 #[] [] [] (fun v hs => v = .bool true ∧ hs = []) := by
 have nG : ∀ h, Arr (.slice none 0 0) Bk.encGen 5 h ([] : List Bk.BGen) := fun h => Arr.nil (fun _ => rfl)
 have nI : ∀ h, Arr (.slice none 0 0) encI 1 h ([] : List Int) := fun h => Arr.nil (fun _ => rfl)
 have nW : ∀ h, Arr (.slice none 0 0) Ht.encWall 3 h ([] : List HWall) := fun h => Arr.nil (fun _ => rfl)
 have nB : ∀ h, Arr (.slice none 0 0) Ht.encBranch 3 h ([] : List HBranch) := fun h => Arr.nil (fun _ => rfl)
 have nC : ∀ h, Arr (.slice none 0 0) Ht.encCooler 5 h ([] : List HCooler) := fun h => Arr.nil (fun _ => rfl)
 have nJ : ∀ h, Arr (.slice none 0 0) Ma.encJob 4 h ([] : List Ma.KJob) := fun h => Arr.nil (fun _ => rfl)
 refine Spec.intro (fn := Tryz.f14) (N := 118) Tryz.func14 rfl Tryz.ntmps14 rfl fun B => ?_
 refine XK.seq (XK.region rfl (XO.q (Q.assign rfl) (XO.done (XK.seq (XK.region rfl ?_)))))
 refine XO.q (Q.build [_, _, _, _] (.c 0 1 rfl rfl rfl (.c 1 1 rfl rfl rfl (.c 2 1 rfl rfl rfl (.n _))))) ?_
 refine XO.lit [_, _, _, _] [_, _, _, _] [⟨30, 30, 10, 0⟩] Bk.encBat (by rfl) (by rfl) rfl (by rfl) (by exact .c 0 4 rfl rfl rfl (.n _)) (fun _ => rfl) (by rfl) rfl (by infer_instance) rfl fun v15 h15 O15 => ?_
 refine XO.q (Q.build [_, _] (.c 0 1 rfl rfl rfl (.n _))) ?_
 refine XO.q (Q.build [_, _] (.c 0 1 rfl rfl rfl (.c 1 1 rfl rfl rfl (.n _)))) ?_
 refine XO.lit [_, _] [_, _] [⟨5, 10⟩] Bk.encSpan (by rfl) (by rfl) rfl (by rfl) (by exact .c 0 2 rfl rfl rfl (.n _)) (fun _ => rfl) (by rfl) rfl (by infer_instance) rfl fun v18 h18 O18 => ?_
 refine XO.call Tryz.call29 rfl rfl rfl (Bk.Run_spec thB v15 (.slice none 0 0) h15 h15 (ib := O15.arr) (ig := nG _) thL v18 h18 (il := O18.arr) [] (.slice none 0 0) h15 (jf := nI _)) fun v19 s19 R19 => ?_
 obtain ⟨ve, vn, ke, kn, rfl, rfl, OE, OB⟩ := R19
 dsimp only [lcA, lnA]
 rw [if_pos th_ready] at OE OB
 rw [th_ready, if_pos rfl]
 dsimp only [Bk.resV]
 rw [th_dark]
 refine XO.q (Q.move rfl) ?_
 refine XO.q (Q.extract rfl rfl) ?_
 refine XO.q (Q.extract rfl rfl) ?_
 refine XO.alloc fun b1 => ?_
 refine XO.st rfl rfl rfl ?_
 refine XO.q (Q.assign rfl) (XO.done (XK.seq (XK.region rfl ?_)))
 refine XO.q (Q.build [_, _] (.c 0 1 rfl rfl rfl (.c 1 1 rfl rfl rfl (.n _)))) ?_
 refine XO.lit [_, _] [_, _] [⟨2, 9⟩] Ht.encRoom (by rfl) (by rfl) rfl (by rfl) (by exact .c 0 2 rfl rfl rfl (.n _)) (fun _ => rfl) (by rfl) rfl (by infer_instance) rfl fun v24 h24 O24 => ?_
 refine XO.q (Q.build [_, _, _, _] (.c 0 1 rfl rfl rfl (.n _))) ?_
 refine XO.lit [_] [_] [5] encI (by rfl) (by rfl) rfl (by rfl) (by exact .c 0 1 rfl rfl rfl (.n _)) (fun _ => rfl) (by rfl) rfl (by infer_instance) rfl fun v26 h26 O26 => ?_
 refine XO.lit [_] [_] [4] encI (by rfl) (by rfl) rfl (by rfl) (by exact .c 0 1 rfl rfl rfl (.n _)) (fun _ => rfl) (by rfl) rfl (by infer_instance) rfl fun v27 h27 O27 => ?_
 refine XO.q (Q.build [_, _, _] (.c 0 1 rfl rfl rfl (.n _))) ?_
 refine XO.call Tryz.call16 rfl rfl rfl (Ht.Next_spec thH v24 (.slice none 0 0) (.slice none 0 0) (.slice none 0 0) h24 h24 h24 h24 (ir := O24.arr) (iw := nW _) (ib := nB _) (ic := nC _) [5] v26 h26 ⟨[4], 0, 0⟩ v27 h27) fun v29 s29 R29 => ?_
 obtain ⟨w29, k29, rfl, rfl, O29⟩ := R29
 dsimp only [lcA, lnA]
 rw [th_next1] at O29
 rw [th_next2]
 refine XO.q (Q.move rfl) ?_
 refine XO.q (Q.extract rfl rfl) ?_
 refine XO.q (Q.extract rfl rfl) ?_
 refine XO.q (Q.assign rfl) (XO.q (Q.assign rfl) (XO.done (XK.seq (XK.region rfl ?_))))
 refine XO.lit [_] [_] [0] encI (by rfl) (by rfl) rfl (by rfl) (by exact .c 0 1 rfl rfl rfl (.n _)) (fun _ => rfl) (by rfl) rfl (by infer_instance) rfl fun v33 h33 O33 => ?_
 refine XO.lit [_] [_] [true] encB (by rfl) (by rfl) rfl (by rfl) (by exact .c 0 1 rfl rfl rfl (.n _)) (fun _ => rfl) (by rfl) rfl (by infer_instance) rfl fun v34 h34 O34 => ?_
 refine XO.q (Q.build [_, _, _, _, _] (.c 0 1 rfl rfl rfl (.c 1 1 rfl rfl rfl (.c 2 1 rfl rfl rfl (.c 3 1 rfl rfl rfl (.c 4 1 rfl rfl rfl (.n _))))))) ?_
 refine XO.call Tryz.call12 rfl rfl rfl (Ke.Solve_spec thG v33 v34 h33 h34 (sn := O33.arr) (sg := O34.arr)) fun v36 s36 R36 => ?_
 obtain ⟨p1, p2, p3, q1, q2, q3, rfl, rfl, OP1, OP2, OP3⟩ := R36
 dsimp only [lcA, lnA]
 rw [th_solve] at OP1
 have hl1 : (0 : Int).toNat < ([true] : List Bool).length := by decide
 rw [th_game]
 refine XO.q (Q.move rfl) ?_
 refine XO.q (Q.extract rfl rfl) ?_
 refine XO.q (Q.extract rfl rfl) ?_
 refine XO.alloc fun b5 => ?_
 refine XO.st rfl rfl rfl ?_
 refine XO.q (Q.assign rfl) (XO.done (XK.seq (XK.region rfl ?_)))
 refine XO.q (Q.build [_, _] (.c 0 1 rfl rfl rfl (.c 1 1 rfl rfl rfl (.n _)))) ?_
 refine XO.q (Q.build [_, _] (.c 0 1 rfl rfl rfl (.c 1 1 rfl rfl rfl (.n _)))) ?_
 refine XO.lit [_, _, _, _] [_, _, _, _] [⟨1, 1⟩, ⟨3, 3⟩] Pl.encDraw (by rfl) (by rfl) rfl (by rfl) (by exact .c 0 2 rfl rfl rfl (.c 2 2 rfl rfl rfl (.n _))) (fun _ => rfl) (by rfl) rfl (by infer_instance) rfl fun v42 h42 O42 => ?_
 refine XO.q (Q.build [_, _, _, _, _, _] (.c 3 1 rfl rfl rfl (.n _))) ?_
 refine XO.lit [_, _, _, _, _, _] [_, _, _, _, _, _] [(v42, ⟨0, 0, 0, [⟨1, 1⟩, ⟨3, 3⟩], 0, 0⟩)] Pl.encPJ (by rfl) (by rfl) rfl (by rfl) (by exact .c 0 6 rfl rfl rfl (.n _)) (fun _ => rfl) (by rfl) rfl (by infer_instance) rfl fun v44 h44 O44 => ?_
 refine XO.call Tryz.call26 rfl rfl rfl (Pl.Chance_spec [(v42, ⟨0, 0, 0, [⟨1, 1⟩, ⟨3, 3⟩], 0, 0⟩)] v44 h44 h42 (fun i hi => by have e : i = 0 := (by simp at hi; omega); subst e; exact O42.arr) 2) fun v45 s45 R45 => ?_
 obtain ⟨rfl, rfl⟩ := R45
 dsimp only [lcA, lnA]
 rw [show Pl.chanceG (List.map Prod.snd [(v42, (⟨0, 0, 0, [⟨1, 1⟩, ⟨3, 3⟩], 0, 0⟩ : Pl.PJob))]) 2 = (⟨3, 4⟩, 0) from th_chance]
 refine XO.q (Q.move rfl) ?_
 refine XO.q (Q.extract rfl rfl) ?_
 refine XO.q (Q.extract rfl rfl) ?_
 refine XO.alloc fun b7 => ?_
 refine XO.st rfl rfl rfl ?_
 refine XO.q (Q.assign rfl) (XO.done (XK.seq (XK.region rfl ?_)))
 refine XO.q (Q.build [_, _, _, _, _, _] (.c 0 1 rfl rfl rfl (.c 3 1 rfl rfl rfl (.n _)))) ?_
 refine XO.lit [_, _, _, _, _, _] [_, _, _, _, _, _] [⟨7, 0, 0, 3, 0, 0⟩] Ma.encHour (by rfl) (by rfl) rfl (by rfl) (by exact .c 0 6 rfl rfl rfl (.n _)) (fun _ => rfl) (by rfl) rfl (by infer_instance) rfl fun v50 h50 O50 => ?_
 refine XO.q (Q.build [_, _, _, _, _, _, _, _] (.c 0 1 rfl rfl rfl (.c 6 1 rfl rfl rfl (.n _)))) ?_
 refine XO.lit [_] [_] [0] encI (by rfl) (by rfl) rfl (by rfl) (by exact .c 0 1 rfl rfl rfl (.n _)) (fun _ => rfl) (by rfl) rfl (by infer_instance) rfl fun v52 h52 O52 => ?_
 refine XO.q (Q.build [_, _, _] (.c 1 1 rfl rfl rfl (.n _))) ?_
 refine XO.call Tryz.call48 rfl rfl rfl (Ma.Cost_spec thD v50 (.slice none 0 0) h50 h50 (ih := O50.arr) (ij := nJ _) ⟨[], [0], 0⟩ (.slice none 0 0) v52 h50 h52 (js := nI _) (jc := O52.arr)) fun v54 s54 R54 => ?_
 obtain ⟨rfl, rfl⟩ := R54
 dsimp only [lcA, lnA]
 rw [th_cost]
 refine XO.q (Q.move rfl) ?_
 refine XO.q (Q.extract rfl rfl) ?_
 refine XO.q (Q.extract rfl rfl) ?_
 refine XO.q (Q.assign rfl) (XO.q (Q.assign rfl) (XO.done (XK.seq (XK.region rfl ?_))))
 refine XO.q (Q.build [_, _, _] (.c 0 1 rfl rfl rfl (.n _))) ?_
 refine XO.q (Q.build [_, _, _] (.n _)) ?_
 refine XO.lit [_, _, _, _, _, _] [_, _, _, _, _, _] [⟨-1, 0, 0⟩, ⟨0, 0, 0⟩] Me.encNode (by rfl) (by rfl) rfl (by rfl) (by exact .c 0 3 rfl rfl rfl (.c 3 3 rfl rfl rfl (.n _))) (fun _ => rfl) (by rfl) rfl (by infer_instance) rfl fun v60 h60 O60 => ?_
 refine XO.lit [_, _] [_, _] [4, 5] encI (by rfl) (by rfl) rfl (by rfl) (by exact .c 0 1 rfl rfl rfl (.c 1 1 rfl rfl rfl (.n _))) (fun _ => rfl) (by rfl) rfl (by infer_instance) rfl fun v61 h61 O61 => ?_
 refine XO.q (Q.build [_, _] (.c 0 1 rfl rfl rfl (.c 1 1 rfl rfl rfl (.n _)))) ?_
 refine XO.call Tryz.call33 rfl rfl rfl (Me.Broken_spec thM v60 v61 h60 h61 (jn := O60.arr) (jv := O61.arr)) fun v63 s63 R63 => ?_
 obtain ⟨w63, k63, rfl, rfl, O63⟩ := R63
 dsimp only [lcA, lnA]
 rw [show (Me.brokenG thM).1 = [0] by rw [th_broken]] at O63
 rw [th_broken]
 refine XO.q (Q.move rfl) ?_
 refine XO.q (Q.extract rfl rfl) ?_
 refine XO.q (Q.extract rfl rfl) ?_
 refine XO.q (Q.assign rfl) (XO.q (Q.assign rfl) (XO.done (XK.seq (XK.region rfl (XO.q (Q.move rfl) ?_)))))
 refine XO.q (Q.eql rfl rfl) ?_
 refine XO.q (Q.move rfl) ?_
 refine XO.q (Quiet.guardT rfl rfl fun g69 p69 => Q.move rfl) ?_
 refine XO.q (Quiet.guardT rfl rfl fun g70 p70 => Q.eql (lzv rfl rfl) rfl) ?_
 refine XO.q (Q.and rfl (fun hp => lzv hp rfl)) ?_
 refine XO.q (Q.move rfl) ?_
 refine XO.q (Quiet.guardT rfl rfl fun g73 p73 => Q.move rfl) ?_
 refine XO.q (Quiet.guardT rfl rfl fun g74 p74 => Q.eql (lzv rfl rfl) rfl) ?_
 refine XO.q (Q.and rfl (fun hp => lzv hp rfl)) ?_
 refine XO.q (Q.move rfl) ?_
 refine XO.q (Quiet.guardT rfl rfl fun g77 p77 => Q.move rfl) ?_
 refine XO.q (Quiet.guardT rfl rfl fun g78 p78 => Q.eql (lzv rfl rfl) rfl) ?_
 refine XO.q (Q.and rfl (fun hp => lzv hp rfl)) ?_
 refine XO.q (Q.move rfl) ?_
 refine XO.q (Quiet.guardT rfl rfl fun g81 p81 => Q.move rfl) ?_
 refine XO.q (Quiet.guardT rfl rfl fun g82 p82 => Q.eql (lzv rfl rfl) rfl) ?_
 refine XO.q (Q.and rfl (fun hp => lzv hp rfl)) ?_
 refine XO.q (Q.move rfl) ?_
 refine XO.q (Quiet.guardT rfl rfl fun g85 p85 => Q.move rfl) ?_
 refine XO.q (Quiet.guardT rfl rfl fun g86 p86 => Q.eql (lzv rfl rfl) rfl) ?_
 refine XO.q (Q.and rfl (fun hp => lzv hp rfl)) ?_
 refine XO.q (Q.move rfl) ?_
 refine XO.q (Quiet.guardT rfl rfl fun g89 p89 => Q.fieldAddr rfl) ?_
 refine XO.q (Quiet.guardT rfl rfl fun g90 p90 => Q.ld (lzv rfl rfl) rfl) ?_
 refine XO.q (Quiet.guardT rfl rfl fun g91 p91 => Q.eql (lzv rfl rfl) rfl) ?_
 refine XO.q (Q.and rfl (fun hp => lzv hp rfl)) ?_
 refine XO.q (Q.move rfl) ?_
 refine XO.q (Quiet.guardT rfl rfl fun g94 p94 => Q.move rfl) ?_
 refine XO.litG [_] [_] [7] encI rfl rfl rfl (by rfl) (by rfl) rfl (by rfl) (by exact .c 0 1 rfl rfl rfl (.n _)) (fun _ => rfl) (by rfl) rfl (by infer_instance) rfl fun v95 h95 O95 => ?_
 refine XO.callS rfl rfl rfl Tryz.call35 rfl (.c (lzv rfl rfl) (.c rfl .n)) rfl (Bk.equalI w29 v95 k29 h95 [7] [7]) fun v96 s96 R96 => ?_
 obtain ⟨rfl, rfl⟩ := R96
 dsimp only [lcA, lnA]
 refine XO.q (Q.and rfl (fun _ => rfl)) ?_
 refine XO.q (Q.move rfl) ?_
 refine XO.q (Quiet.guardT rfl rfl fun g99 p99 => Q.fieldAddr rfl) ?_
 refine XO.q (Quiet.guardT rfl rfl fun g100 p100 => Q.ld (lzv rfl rfl) rfl) ?_
 refine XO.q (Quiet.guardT rfl rfl fun g101 p101 => Q.ix (lzv rfl rfl) rfl (by decide) (by decide)) ?_
 refine XO.q (Quiet.guardT rfl rfl fun g102 p102 => Q.ldE (lzv rfl rfl) (by first | assumption | omega) rfl) ?_
 refine XO.q (Q.and rfl (fun hp => lzv hp rfl)) ?_
 refine XO.q (Q.move rfl) ?_
 refine XO.q (Quiet.guardT rfl rfl fun g105 p105 => Q.ldA [_, _] rfl rfl rfl) ?_
 refine XO.q (Quiet.guardT rfl rfl fun g106 p106 => Q.build [_, _] (.c 0 1 rfl rfl rfl (.c 1 1 rfl rfl rfl (.n _)))) ?_
 refine XO.q (Quiet.guardT rfl rfl fun g107 p107 => Q.eqlS (us := [_, _]) (vs := [_, _]) rfl rfl inferInstance (by kernel_rfl) (by kernel_rfl) (.c rfl inferInstance inferInstance rfl rfl (.c rfl inferInstance inferInstance rfl rfl .n))) ?_
 refine XO.q (Q.and rfl (fun hp => lzv hp rfl)) ?_
 refine XO.q (Q.move rfl) ?_
 refine XO.q (Quiet.guardT rfl rfl fun g110 p110 => Q.move rfl) ?_
 refine XO.q (Quiet.guardT rfl rfl fun g111 p111 => Q.eql (lzv rfl rfl) rfl) ?_
 refine XO.q (Q.and rfl (fun hp => lzv hp rfl)) ?_
 refine XO.q (Q.move rfl) ?_
 refine XO.q (Quiet.guardT rfl rfl fun g114 p114 => Q.move rfl) ?_
 refine XO.litG [_] [_] [0] encI rfl rfl rfl (by rfl) (by rfl) rfl (by rfl) (by exact .c 0 1 rfl rfl rfl (.n _)) (fun _ => rfl) (by rfl) rfl (by infer_instance) rfl fun v115 h115 O115 => ?_
 refine XO.callS rfl rfl rfl Tryz.call35 rfl (.c (lzv rfl rfl) (.c rfl .n)) rfl (Bk.equalI w63 v115 k63 h115 [0] [0]) fun v116 s116 R116 => ?_
 obtain ⟨rfl, rfl⟩ := R116
 dsimp only [lcA, lnA]
 refine XO.q (Q.and rfl (fun _ => rfl)) ?_
 refine XO.q (Q.assign rfl) (XO.done ?_)
 refine XK.rt [] Tryz.func14 Tryz.results14 (.t rfl .n) ?_
 exact ⟨rfl, rfl⟩
end Go.X
