/- A part of the proof: a small program logic, plain laws and contracts of functions, each proved by a walk through its operations. No condition but those that stand in each theorem. -/
import Derived.Test.YtocdijoiaongbaaGreatA3
import Derived.KernelRfl
import Derived.Shelf.Sort.Plain
import Derived.Test.YtocdijoiaongbaaGreatProg
set_option linter.unusedSimpArgs false
set_option linter.unusedVariables false
set_option maxRecDepth 20000
namespace Go.X
open Go.Proofs
theorem rackR_spec (r : PRack) : Spec Tryz.prog 59 #[.agg #[.int .i64 r.r0, .int .i64 r.r1, .int .i64 r.r2, .int .i64 r.cap, .int .i64 r.domain]] [] [] (fun v hs => v = .bool (rackR r) ∧ hs = []) := by
 refine Spec.intro (fn := Tryz.f59) (N := 18) Tryz.func59 rfl Tryz.ntmps59 rfl fun B => ?_
 refine XK.seq (XK.region rfl ?_)
 refine XO.box rfl fun b1 => ?_
 refine XO.q (Q.assign rfl) (XO.done (XK.seq (XK.region rfl ?_)))
 refine XO.q (Q.fieldAddr rfl) ?_
 refine XO.q (Q.sliceA rfl) ?_
 refine XO.call Tryz.call100 rfl rfl rfl (by haveI := arr3 (b := b1) (a0 := r.r0) (a1 := r.r1) (a2 := r.r2) (rest := [.int .i64 r.cap, .int .i64 r.domain]) (T := 43); exact pin_spec 1000000 (.slice (some ⟨b1, 0, none⟩) 3 3) (blk b1 (.int .i64 r.r0 :: .int .i64 r.r1 :: .int .i64 r.r2 :: [.int .i64 r.cap, .int .i64 r.domain]) 43) [r.r0, r.r1, r.r2]) fun v5 s5 R5 => ?_
 obtain ⟨rfl, rfl⟩ := R5
 dsimp only [lcA, lnA]
 refine XO.q (Q.move rfl) ?_
 refine XO.q (Quiet.guardT rfl rfl fun g7 p7 => Q.fieldAddr rfl) ?_
 refine XO.q (Quiet.guardT rfl rfl fun g8 p8 => Q.ld (lzv g8 rfl) rfl) ?_
 refine XO.lit1 [_] [_] [r.cap] encI rfl rfl (by rfl) (by rfl) rfl (by rfl) (fun g9 => by exact .c 0 1 (lzv g9 rfl) rfl rfl (.n _)) (fun _ => rfl) (by rfl) rfl (fun _ => by infer_instance) rfl (fun v9 h9 O9 => ?_)
 refine XO.gcallT rfl rfl Tryz.call100 rfl (fun g10 => .c rfl (.c (lzv g10 rfl) .n)) rfl (fun g10 p10 => by haveI := O9 g10; exact pin_spec 10000 v9 h9 [r.cap]) ?_
 refine XO.q (Q.and rfl (fun hp => lzv hp rfl)) ?_
 refine XO.q (Q.move rfl) ?_
 refine XO.q (Quiet.guardT rfl rfl fun g13 p13 => Q.fieldAddr rfl) ?_
 refine XO.q (Quiet.guardT rfl rfl fun g14 p14 => Q.ld (lzv g14 rfl) rfl) ?_
 refine XO.lit1 [_] [_] [r.domain] encI rfl rfl (by rfl) (by rfl) rfl (by rfl) (fun g15 => by exact .c 0 1 (lzv g15 rfl) rfl rfl (.n _)) (fun _ => rfl) (by rfl) rfl (fun _ => by infer_instance) rfl (fun v15 h15 O15 => ?_)
 refine XO.gcallT rfl rfl Tryz.call100 rfl (fun g16 => .c rfl (.c (lzv g16 rfl) .n)) rfl (fun g16 p16 => by haveI := O15 g16; exact pin_spec 100 v15 h15 [r.domain]) ?_
 refine XO.q (Q.and rfl (fun hp => lzv hp rfl)) ?_
 refine XO.q (Q.assign rfl) (XO.done ?_)
 refine XK.rt [] Tryz.func59 Tryz.results59 (.t rfl .n) ?_
 exact ⟨rfl, rfl⟩
theorem draws_next {j : PJob} {i : Nat} (h : ∀ k, k < i → DrawOk j.draws k) (hi : DrawOk j.draws i) : ∀ k, k < i + 1 → DrawOk j.draws k := fun k hk => by
 by_cases e : k = i
 ·subst e; exact hi
 ·exact h k (by omega)
theorem jobR_no {j : PJob} (h : (((¬pin 1000000 [j.n0, j.n1, j.n2] = true ∨ ¬pin 100 [j.group] = true) ∨ ¬pin 1000000 [j.worth] = true) ∨ (j.draws.length : Int) < 1) ∨ 8 < (j.draws.length : Int)) : jobR j = false := by
 refine Bool.eq_false_iff.2 fun hc => ?_
 have k := jobR_iff.1 hc
 have := k.few
 rcases h with (((h | h) | h) | h) | h
 ·exact h k.need
 ·exact h (pin_one.2 k.grp)
 ·exact h (pin_one.2 k.wor)
 ·omega
 ·omega
theorem jobR_yes {j : PJob} (h : ¬ ((((¬pin 1000000 [j.n0, j.n1, j.n2] = true ∨ ¬pin 100 [j.group] = true) ∨ ¬pin 1000000 [j.worth] = true) ∨ (j.draws.length : Int) < 1) ∨ 8 < (j.draws.length : Int))) (hg : ∀ k, k < j.draws.length → DrawOk j.draws k) : jobR j = true := by
 simp only [not_or, Decidable.not_not, pin_one] at h
 obtain ⟨⟨⟨⟨a, b⟩, c⟩, d⟩, e⟩ := h
 exact jobR_iff.2 ⟨a, b, c, ⟨by omega, by omega⟩, hg⟩
theorem drawOk_no {l : List PDraw} {i : Nat} (h : ((¬pin 1000 [(l.getD i default).power] = true ∨ (l.getD i default).count < 1) ∨ 64 < (l.getD i default).count) ∨ 0 < (i : Int) ∧ (l.getD i default).power ≤ (l.getD ((i : Int) - 1).toNat default).power) : ¬ DrawOk l i := fun hd => by
 unfold DrawOk at hd
 rw [pin_one] at h
 rw [show ((i : Int) - 1).toNat = i - 1 by omega] at h
 omega
theorem drawOk_yes {l : List PDraw} {i : Nat} (h : ¬ (((¬pin 1000 [(l.getD i default).power] = true ∨ (l.getD i default).count < 1) ∨ 64 < (l.getD i default).count) ∨ 0 < (i : Int) ∧ (l.getD i default).power ≤ (l.getD ((i : Int) - 1).toNat default).power)) : DrawOk l i := by
 unfold DrawOk
 rw [pin_one] at h
 rw [show ((i : Int) - 1).toNat = i - 1 by omega] at h
 omega
set_option maxHeartbeats 2000000 in
theorem jobR_spec (j : PJob) (vd : Value) (hd : PHeap) [id_ : Arr vd encDraw 2 hd j.draws] : Spec Tryz.prog 56 #[.agg #[.int .i64 j.n0, .int .i64 j.n1, .int .i64 j.n2, vd, .int .i64 j.group, .int .i64 j.worth]] [] [hd] (fun v hs => v = .bool (jobR j) ∧ hs = []) := by
 have ld := id_.le
 refine Spec.intro (fn := Tryz.f56) (N := 75) Tryz.func56 rfl Tryz.ntmps56 rfl fun B => ?_
 refine XK.seq (XK.region rfl ?_)
 refine XO.box rfl fun b1 => ?_
 refine XO.q (Q.assign rfl) (XO.done (XK.seq (XK.seq (XK.region rfl ?_))))
 refine XO.q (Q.fieldAddr rfl) ?_
 refine XO.q (Q.sliceA rfl) ?_
 refine XO.call Tryz.call100 rfl rfl rfl (by haveI := arr3 (b := b1) (a0 := j.n0) (a1 := j.n1) (a2 := j.n2) (rest := [vd, .int .i64 j.group, .int .i64 j.worth]) (T := 41); exact pin_spec 1000000 (.slice (some ⟨b1, 0, none⟩) 3 3) (blk b1 (.int .i64 j.n0 :: .int .i64 j.n1 :: .int .i64 j.n2 :: [vd, .int .i64 j.group, .int .i64 j.worth]) 41) [j.n0, j.n1, j.n2]) fun v7 s7 R7 => ?_
 obtain ⟨rfl, rfl⟩ := R7
 dsimp only [lcA, lnA]
 refine XO.q (Q.not rfl) ?_
 refine XO.q (Q.move rfl) ?_
 refine XO.q (Quiet.guardF rfl rfl fun g10 p10 => Q.fieldAddr rfl) ?_
 refine XO.q (Quiet.guardF rfl rfl fun g11 p11 => Q.ld (lzv g11 rfl) rfl) ?_
 refine XO.lit1 [_] [_] [j.group] encI rfl rfl (by rfl) (by rfl) rfl (by rfl) (fun g12 => by exact .c 0 1 (lzv g12 rfl) rfl rfl (.n _)) (fun _ => rfl) (by rfl) rfl (fun _ => by infer_instance) rfl (fun v12 h12 O12 => ?_)
 refine XO.gcallF rfl rfl Tryz.call100 rfl (fun g13 => .c rfl (.c (lzv g13 rfl) .n)) rfl (fun g13 p13 => by haveI := O12 g13; exact pin_spec 100 v12 h12 [j.group]) ?_
 refine XO.q (Quiet.guardF rfl rfl fun g14 p14 => Q.not (lzv g14 rfl)) ?_
 refine XO.q (Q.or rfl (fun hp => lzv hp rfl)) ?_
 refine XO.q (Q.move rfl) ?_
 refine XO.q (Quiet.guardF rfl rfl fun g17 p17 => Q.fieldAddr rfl) ?_
 refine XO.q (Quiet.guardF rfl rfl fun g18 p18 => Q.ld (lzv g18 rfl) rfl) ?_
 refine XO.lit1 [_] [_] [j.worth] encI rfl rfl (by rfl) (by rfl) rfl (by rfl) (fun g19 => by exact .c 0 1 (lzv g19 rfl) rfl rfl (.n _)) (fun _ => rfl) (by rfl) rfl (fun _ => by infer_instance) rfl (fun v19 h19 O19 => ?_)
 refine XO.gcallF rfl rfl Tryz.call100 rfl (fun g20 => .c rfl (.c (lzv g20 rfl) .n)) rfl (fun g20 p20 => by haveI := O19 g20; exact pin_spec 1000000 v19 h19 [j.worth]) ?_
 refine XO.q (Quiet.guardF rfl rfl fun g21 p21 => Q.not (lzv g21 rfl)) ?_
 refine XO.q (Q.or rfl (fun hp => lzv hp rfl)) ?_
 refine XO.q (Q.move rfl) ?_
 refine XO.q (Quiet.guardF rfl rfl fun g24 p24 => Q.fieldAddr rfl) ?_
 refine XO.q (Quiet.guardF rfl rfl fun g25 p25 => Q.ld (lzv g25 rfl) rfl) ?_
 refine XO.q (Quiet.guardF rfl rfl fun g26 p26 => Q.len (lzv g26 rfl)) ?_
 refine XO.q (Quiet.guardF rfl rfl fun g27 p27 => Q.lss (lzv g27 rfl) rfl) ?_
 refine XO.q (Q.or rfl (fun hp => lzv hp rfl)) ?_
 refine XO.q (Q.move rfl) ?_
 refine XO.q (Quiet.guardF rfl rfl fun g30 p30 => Q.fieldAddr rfl) ?_
 refine XO.q (Quiet.guardF rfl rfl fun g31 p31 => Q.ld (lzv g31 rfl) rfl) ?_
 refine XO.q (Quiet.guardF rfl rfl fun g32 p32 => Q.len (lzv g32 rfl)) ?_
 refine XO.q (Quiet.guardF rfl rfl fun g33 p33 => Q.gtr (lzv g33 rfl) rfl) ?_
 refine XO.q (Q.or rfl (fun hp => lzv hp rfl)) ?_
 refine XO.done ?_
 refine XK.if rfl (fun c0 => ?_) (fun c0 => ?_)
 ·skip
  refine XK.seq (XK.region rfl (XO.q (Q.assign rfl) (XO.done ?_)))
  refine XK.rt [] Tryz.func56 Tryz.results56 (.t rfl .n) ?_
  exact ⟨by rw [jobR_no c0], rfl⟩
 ·skip
  refine XK.skip (XK.seq (XK.seq (XK.region rfl ?_)))
  refine XO.q (Q.fieldAddr rfl) ?_
  refine XO.q (Q.ld rfl rfl) ?_
  refine XO.len rfl fun l37 => ?_
  refine XO.q (Q.move rfl) (XO.done (XK.block ?_))
  refine XK.while (X := Nat) [2, 3, 4, 38, 39, 40, 41, 42, 43, 44, 45, 46, 47, 48, 49, 50, 51, 52, 53, 54, 55, 56, 57, 58, 59, 60, 61, 62, 63, 64, 65, 66, 67, 68, 69, 70, 71, 72, 73, 74] (fun i => [(38, some (.int .i64 (i : Nat)))]) (fun i => []) (fun i => i ≤ j.draws.length ∧ ∀ k, k < i → DrawOk j.draws k) (fun i => j.draws.length - i) (0) [] rfl ⟨by omega, fun k hk => by omega⟩ (.c rfl (.base 0 rfl rfl)) ?_
  rintro i ⟨hi, hg⟩ ih0
  dsimp only [lcA, lnA] at ih0 ⊢
  refine XK.seq (XK.region rfl ?_)
  refine XO.q (Q.lss rfl rfl) ?_
  refine XO.done (XK.seq ?_)
  refine XK.if rfl (fun c1 => ?_) (fun c1 => ?_)
  ·skip
   refine XK.skip (XK.seq (XK.block (XK.seq (XK.region rfl (XO.q (Q.move rfl) ?_)))))
   refine XO.ix rfl rfl (by omega) (by omega) fun i41 => ?_
   refine XO.q (Q.ldEA [_, _] rfl (by first | assumption | omega) rfl rfl) ?_
   refine XO.alloc fun b4 => ?_
   refine XO.q (Q.assign rfl) ?_
   refine XO.st rfl rfl rfl ?_
   refine XO.done (XK.seq ?_)
   refine XK.drawn [0, 1, 4, 5, 6, 7, 8, 9, 10, 11, 12, 13, 14, 15, 16, 17, 18, 19, 20, 21, 22, 23, 24, 25, 26, 27, 28, 29, 30] [b4, b1] [] (.q 0 (.q 1 (.br 2 true (.br 3 true (.q 4 (.q 5 (.q 6 (.q 7 (.q 8 (.q 9 (.q 10 (.q 11 (.q 12 (.q 13 (.q 14 (.q 15 (.q 16 (.q 17 (.q 18 (.q 19 (.q 20 (.q 21 (.q 22 (.q 23 (.q 24 (.q 25 (.q 26 (.q 27 (.q 28 (.q 29 (.q 30 .done))))))))))))))))))))))))))) .stop) .stop))) Tryz.mixed rfl (by kernel_rfl) ?_
   refine XT.q rfl rfl (Q.fieldAddr rfl) ?_
   refine XT.q rfl rfl (Q.ld rfl rfl) ?_
   refine XT.lit [_] [_] [(j.draws.getD i default).power] encI rfl rfl (by rfl) (by rfl) rfl (by rfl) (by exact .c 0 1 rfl rfl rfl (.n _)) (fun _ => rfl) (by rfl) rfl (by infer_instance) rfl (fun v45 h45 O45 => ⟨inferInstance, ?_⟩) XT.stop
   refine XT.call rfl rfl Tryz.call100 rfl rfl rfl (pin_spec 1000 v45 h45 [(j.draws.getD i default).power]) (fun v46 s46 R46 => ?_) XT.stop
   obtain ⟨rfl, rfl⟩ := R46
   dsimp only [lcA, lnA]
   refine ⟨inferInstance, ?_⟩
   refine XT.q rfl rfl (Q.not rfl) ?_
   refine XT.q rfl rfl (Q.move rfl) ?_
   refine XT.q rfl rfl (Quiet.guardF rfl rfl fun g49 p49 => Q.fieldAddr rfl) ?_
   refine XT.q rfl rfl (Quiet.guardF rfl rfl fun g50 p50 => Q.ld (lzv g50 rfl) rfl) ?_
   refine XT.q rfl rfl (Quiet.guardF rfl rfl fun g51 p51 => Q.lss (lzv g51 rfl) rfl) ?_
   refine XT.q rfl rfl (Q.or rfl (fun hp => lzv hp rfl)) ?_
   refine XT.q rfl rfl (Q.move rfl) ?_
   refine XT.q rfl rfl (Quiet.guardF rfl rfl fun g54 p54 => Q.fieldAddr rfl) ?_
   refine XT.q rfl rfl (Quiet.guardF rfl rfl fun g55 p55 => Q.ld (lzv g55 rfl) rfl) ?_
   refine XT.q rfl rfl (Quiet.guardF rfl rfl fun g56 p56 => Q.gtr (lzv g56 rfl) rfl) ?_
   refine XT.q rfl rfl (Q.or rfl (fun hp => lzv hp rfl)) ?_
   refine XT.q rfl rfl (Q.move rfl) ?_
   refine XT.q rfl rfl (Quiet.guardF rfl rfl fun g59 p59 => Q.move rfl) ?_
   refine XT.q rfl rfl (Quiet.guardF rfl rfl fun g60 p60 => Q.gtr (lzv g60 rfl) rfl) ?_
   refine XT.q rfl rfl (Quiet.guardF rfl rfl fun g61 p61 => Q.move (lzv g61 rfl)) ?_
   refine XT.q rfl rfl (Quiet.guard2 rfl rfl fun g62a g62b => have p62a := bpF g62a; have p62b := bpT g62b; Q.fieldAddr rfl) ?_
   refine XT.q rfl rfl (Quiet.guard2 rfl rfl fun g63a g63b => have p63a := bpF g63a; have p63b := bpT g63b; Q.ld (lzv g63b (lzv g63a rfl)) rfl) ?_
   refine XT.q rfl rfl (Quiet.guard2 rfl rfl fun g64a g64b => have p64a := bpF g64a; have p64b := bpT g64b; Q.fieldAddr rfl) ?_
   refine XT.q rfl rfl (Quiet.guard2 rfl rfl fun g65a g65b => have p65a := bpF g65a; have p65b := bpT g65b; Q.ld (lzv g65b (lzv g65a rfl)) rfl) ?_
   refine XT.q rfl rfl (Quiet.guard2 rfl rfl fun g66a g66b => have p66a := bpF g66a; have p66b := bpT g66b; Q.move rfl) ?_
   refine XT.q rfl rfl (Quiet.guard2 rfl rfl fun g67a g67b => have p67a := bpF g67a; have p67b := bpT g67b; Q.sub (lzv g67b (lzv g67a rfl)) rfl ⟨by omega, by omega⟩) ?_
   refine XT.q rfl rfl (Quiet.guard2 rfl rfl fun g68a g68b => have p68a := bpF g68a; have p68b := bpT g68b; Q.ix (lzv g68b (lzv g68a rfl)) (lzv g68b (lzv g68a rfl)) (by omega) (by omega)) ?_
   refine XT.q rfl rfl (Quiet.guard2 rfl rfl fun g69a g69b => have p69a := bpF g69a; have p69b := bpT g69b; Q.fieldQ (lzv g69b (lzv g69a rfl)) (by first | assumption | omega)) ?_
   refine XT.q rfl rfl (Quiet.guard2 rfl rfl fun g70a g70b => have p70a := bpF g70a; have p70b := bpT g70b; Q.ldE (lzv g70b (lzv g70a rfl)) (by first | assumption | omega) rfl) ?_
   refine XT.q rfl rfl (Quiet.guard2 rfl rfl fun g71a g71b => have p71a := bpF g71a; have p71b := bpT g71b; Q.leq (lzv g71b (lzv g71a rfl)) (lzv g71b (lzv g71a rfl))) ?_
   refine XT.q rfl rfl (Quiet.guardF rfl rfl fun g72 p72 => Q.and (lzv g72 rfl) (fun hp => (lzv hp (lzv g72 rfl)))) ?_
   refine XT.q rfl rfl (Q.or rfl (fun hp => lzv hp rfl)) ?_
   refine XT.done ?_
   refine XK.if rfl (fun c2 => ?_) (fun c2 => ?_)
   ·skip
    refine XK.seq (XK.region rfl (XO.q (Q.assign rfl) (XO.done ?_)))
    refine XK.rt [] Tryz.func56 Tryz.results56 (.t rfl .n) ?_
    exact ⟨by rw [Bool.eq_false_iff.2 (fun h => drawOk_no c2 ((jobR_iff.1 h).draw i (by omega)))], rfl⟩
   ·skip
    refine XK.skip ?_
    refine XK.inBlock ?_
    refine XK.region rfl ?_
    refine XO.q (Q.add rfl rfl ⟨by omega, by omega⟩) ?_
    refine XO.q (Q.move rfl) (XO.done ?_)
    exact ih0 (i + 1) _ _ ⟨by omega, draws_next hg (drawOk_yes c2)⟩ (by first | omega | (dsimp only; omega)) (.c rfl (.base 80 rfl rfl)) inferInstance
  ·skip
   refine XK.exit rfl ?_
   refine XK.seq (XK.region rfl (XO.q (Q.assign rfl) (XO.done ?_)))
   refine XK.rt [] Tryz.func56 Tryz.results56 (.t rfl .n) ?_
   exact ⟨by rw [jobR_yes c0 (fun k hk => hg k (by omega))], rfl⟩
theorem JobsK.mem {l : List (Value × PJob)} {K : PHeap} (h : JobsK l K) {x : Value × PJob} (hx : x ∈ l) : Arr x.1 encDraw 2 K x.2.draws := by
 obtain ⟨i, hi, rfl⟩ := List.getElem_of_mem hx
 have := h i hi
 rwa [List.getD_eq_getElem?_getD, List.getElem?_eq_getElem hi] at this
theorem check1 (j : PJob) (vd : Value) (hd : PHeap) [id_ : Arr vd encDraw 2 hd j.draws] : Spec Tryz.prog 55 #[.agg #[.int .i64 j.n0, .int .i64 j.n1, .int .i64 j.n2, vd, .int .i64 j.group, .int .i64 j.worth]] [] [hd] (fun v hs => v = .bool (!jobR j) ∧ hs = []) := by
 refine Spec.intro (fn := Tryz.f55) (N := 6) Tryz.func55 rfl Tryz.ntmps55 rfl fun B => ?_
 refine XK.seq (XK.region rfl ?_)
 refine XO.box rfl fun b1 => ?_
 refine XO.q (Q.assign rfl) (XO.done (XK.seq (XK.region rfl ?_)))
 refine XO.q (Q.ldA [_, _, _, _, _, _] rfl rfl rfl) ?_
 refine XO.call Tryz.call56 rfl rfl rfl (jobR_spec j vd hd) fun v4 s4 R4 => ?_
 obtain ⟨rfl, rfl⟩ := R4
 dsimp only [lcA, lnA]
 refine XO.q (Q.not rfl) ?_
 refine XO.q (Q.assign rfl) (XO.done ?_)
 refine XK.rt [] Tryz.func55 Tryz.results55 (.t rfl .n) ?_
 exact ⟨rfl, rfl⟩
theorem listed1 (j : PJob) (vd : Value) (hd : PHeap) [id_ : Arr vd encDraw 2 hd j.draws] : Spec Tryz.prog 108 #[.agg #[.int .i64 j.n0, .int .i64 j.n1, .int .i64 j.n2, vd, .int .i64 j.group, .int .i64 j.worth]] [] [hd] (fun v hs => v = .bool (!jobR j) ∧ hs = []) := by
 refine Spec.intro (fn := Tryz.f108) (N := 6) Tryz.func108 rfl Tryz.ntmps108 rfl fun B => ?_
 refine XK.seq (XK.region rfl ?_)
 refine XO.box rfl fun b1 => ?_
 refine XO.q (Q.assign rfl) (XO.done (XK.seq (XK.region rfl ?_)))
 refine XO.q (Q.ldA [_, _, _, _, _, _] rfl rfl rfl) ?_
 refine XO.call Tryz.call56 rfl rfl rfl (jobR_spec j vd hd) fun v4 s4 R4 => ?_
 obtain ⟨rfl, rfl⟩ := R4
 dsimp only [lcA, lnA]
 refine XO.q (Q.not rfl) ?_
 refine XO.q (Q.assign rfl) (XO.done ?_)
 refine XK.rt [] Tryz.func108 Tryz.results108 (.t rfl .n) ?_
 exact ⟨rfl, rfl⟩
theorem check2 (r : PRack) : Spec Tryz.prog 58 #[.agg #[.int .i64 r.r0, .int .i64 r.r1, .int .i64 r.r2, .int .i64 r.cap, .int .i64 r.domain]] [] [] (fun v hs => v = .bool (!rackR r) ∧ hs = []) := by
 refine Spec.intro (fn := Tryz.f58) (N := 6) Tryz.func58 rfl Tryz.ntmps58 rfl fun B => ?_
 refine XK.seq (XK.region rfl ?_)
 refine XO.box rfl fun b1 => ?_
 refine XO.q (Q.assign rfl) (XO.done (XK.seq (XK.region rfl ?_)))
 refine XO.q (Q.ldA [_, _, _, _, _] rfl rfl rfl) ?_
 refine XO.call Tryz.call59 rfl rfl rfl (rackR_spec r) fun v4 s4 R4 => ?_
 obtain ⟨rfl, rfl⟩ := R4
 dsimp only [lcA, lnA]
 refine XO.q (Q.not rfl) ?_
 refine XO.q (Q.assign rfl) (XO.done ?_)
 refine XK.rt [] Tryz.func58 Tryz.results58 (.t rfl .n) ?_
 exact ⟨rfl, rfl⟩
theorem any_jobs {l : List (Value × PJob)} : (l.any fun x => !jobR x.2) = ((l.map Prod.snd).any fun j => !jobR j) := by rw [List.any_map]; rfl
theorem Check_spec (l : List (Value × PJob)) (vl : Value) (hl K : PHeap) [jl : Arr vl encPJ 6 hl l] (aL : JobsK l K) (rs : List PRack) (vr : Value) (hr : PHeap) [jr : Arr vr encRack 5 hr rs] (m : PRat) : Spec Tryz.prog 19 #[.agg #[vl, vr, .int .i64 m.n, .int .i64 m.d]] [] [hl, K, hr] (fun v hs => v = .int .i64 (pcheck ⟨(l.map Prod.snd), rs, m⟩) ∧ hs = []) := by
 refine Spec.intro (fn := Tryz.f19) (N := 34) Tryz.func19 rfl Tryz.ntmps19 rfl fun B => ?_
 refine XK.seq (XK.region rfl ?_)
 refine XO.box rfl fun b1 => ?_
 refine XO.q (Q.assign rfl) (XO.done (XK.seq (XK.block (XK.seq (XK.region rfl ?_)))))
 refine XO.q (Q.fieldAddr rfl) ?_
 refine XO.q (Q.ld rfl rfl) ?_
 refine XO.len rfl fun l6 => ?_
 refine XO.q (Q.gtr rfl rfl) ?_
 refine XO.q (Q.move rfl) ?_
 refine XO.q (Quiet.guardF rfl rfl fun g9 p9 => Q.fieldAddr rfl) ?_
 refine XO.q (Quiet.guardF rfl rfl fun g10 p10 => Q.ld (lzv g10 rfl) rfl) ?_
 refine XO.q (Quiet.guardF rfl rfl fun g11 p11 => Q.len (lzv g11 rfl)) ?_
 refine XO.q (Quiet.guardF rfl rfl fun g12 p12 => Q.lss (lzv g12 rfl) rfl) ?_
 refine XO.q (Q.or rfl (fun hp => lzv hp rfl)) ?_
 refine XO.q (Q.move rfl) ?_
 refine XO.q (Quiet.guardF rfl rfl fun g15 p15 => Q.fieldAddr rfl) ?_
 refine XO.q (Quiet.guardF rfl rfl fun g16 p16 => Q.ld (lzv g16 rfl) rfl) ?_
 refine XO.q (Quiet.guardF rfl rfl fun g17 p17 => Q.len (lzv g17 rfl)) ?_
 refine XO.q (Quiet.guardF rfl rfl fun g18 p18 => Q.gtr (lzv g18 rfl) rfl) ?_
 refine XO.q (Q.or rfl (fun hp => lzv hp rfl)) ?_
 refine XO.q (Q.assign rfl) (XO.done ?_)
 refine XK.if rfl (fun c0 => ?_) (fun c0 => ?_)
 ·skip
  refine XK.seq (XK.region rfl (XO.q (Q.assign rfl) (XO.done ?_)))
  refine XK.rt [] Tryz.func19 Tryz.results19 (.t rfl .n) ?_
  exact ⟨by rw [pcheck, if_pos (by dsimp only; rw [List.length_map]; omega)], rfl⟩
 ·skip
  refine XK.seq (XK.region rfl ?_)
  refine XO.q (Q.fieldAddr rfl) ?_
  refine XO.q (Q.ld rfl rfl) ?_
  refine XO.call Tryz.call15 rfl rfl rfl (containsFuncPJ vl hl l 55 [] [K] (fun x => !jobR x.2) Tryz.call55 (fun x hx => by haveI := aL.mem hx; exact check1 x.2 x.1 K)) fun v23 s23 R23 => ?_
  obtain ⟨rfl, rfl⟩ := R23
  dsimp only [lcA, lnA]
  rw [any_jobs]
  refine XO.q (Q.move rfl) ?_
  refine XO.q (Quiet.guardF rfl rfl fun g25 p25 => Q.fieldAddr rfl) ?_
  refine XO.q (Quiet.guardF rfl rfl fun g26 p26 => Q.ld (lzv g26 rfl) rfl) ?_
  refine XO.gcallF rfl rfl Tryz.call57 rfl (fun g27 => .c (lzv g27 rfl) (.c rfl .n)) rfl (fun g27 p27 => containsFuncPR vr hr rs 58 [] [] (fun x => !rackR x) Tryz.call58 (fun x hx => check2 x)) ?_
  refine XO.q (Q.or rfl (fun hp => lzv hp rfl)) ?_
  refine XO.q (Q.assign rfl) (XO.done ?_)
  refine XK.if rfl (fun c1 => ?_) (fun c1 => ?_)
  ·skip
   refine XK.seq (XK.region rfl (XO.q (Q.assign rfl) (XO.done ?_)))
   refine XK.rt [] Tryz.func19 Tryz.results19 (.t rfl .n) ?_
   exact ⟨by rw [pcheck, if_neg (by dsimp only; rw [List.length_map]; omega), if_pos (by dsimp only; rw [Bool.or_eq_true]; exact c1)], rfl⟩
  ·skip
   refine XK.seq (XK.region rfl ?_)
   refine XO.q (Q.fieldAddr rfl) ?_
   refine XO.q (Q.ldA [_, _] rfl rfl rfl) ?_
   refine XO.call Tryz.call60 rfl rfl rfl (chance_spec m) fun v32 s32 R32 => ?_
   obtain ⟨rfl, rfl⟩ := R32
   dsimp only [lcA, lnA]
   refine XO.q (Q.not rfl) ?_
   refine XO.q (Q.assign rfl) (XO.done ?_)
   refine XK.if rfl (fun c2 => ?_) (fun c2 => ?_)
   ·skip
    refine XK.seq (XK.region rfl (XO.q (Q.assign rfl) (XO.done ?_)))
    refine XK.rt [] Tryz.func19 Tryz.results19 (.t rfl .n) ?_
    exact ⟨by rw [pcheck, if_neg (by dsimp only; rw [List.length_map]; omega), if_neg (by dsimp only; rw [Bool.or_eq_true]; exact c1), if_pos c2], rfl⟩
   ·skip
    refine XK.skip ?_
    refine XK.inBlock ?_
    refine XK.seq (XK.region rfl (XO.q (Q.assign rfl) (XO.done ?_)))
    refine XK.rt [] Tryz.func19 Tryz.results19 (.t rfl .n) ?_
    exact ⟨by rw [pcheck, if_neg (by dsimp only; rw [List.length_map]; omega), if_neg (by dsimp only; rw [Bool.or_eq_true]; exact c1), if_neg c2], rfl⟩
end Go.X

set_option linter.unusedSimpArgs false
set_option linter.unusedVariables false
set_option maxRecDepth 20000
namespace Go.X
open Go.Proofs
theorem listed_spec (l : List (Value × PJob)) (vl : Value) (hl K : PHeap) [jl : Arr vl encPJ 6 hl l] (aL : JobsK l K) : Spec Tryz.prog 85 #[vl] [] [hl, K] (fun v hs => v = .tuple #[.int .i64 (listedG (l.map Prod.snd)).1, .int .i64 (listedG (l.map Prod.snd)).2] ∧ hs = []) := by
 have ll := jl.le
 have lm : (l.map Prod.snd).length = l.length := List.length_map ..
 refine Spec.intro (fn := Tryz.f85) (N := 40) Tryz.func85 rfl Tryz.ntmps85 rfl fun B => ?_
 refine XK.seq (XK.region rfl (XO.q (Q.assign rfl) (XO.q (Q.assign rfl) (XO.done (XK.seq ?_)))))
 refine XK.seq (XK.region rfl (XO.q (Q.move rfl) ?_))
 refine XO.len rfl fun l11 => ?_
 refine XO.q (Q.gtr rfl rfl) ?_
 refine XO.done ?_
 refine XK.if rfl (fun c0 => ?_) (fun c0 => ?_)
 ·skip
  refine XK.seq (XK.region rfl (XO.q (Q.assign rfl) (XO.q (Q.assign rfl) (XO.done ?_))))
  refine XK.rt [] Tryz.func85 Tryz.results85 (.t rfl (.t rfl .n)) ?_
  exact ⟨by rw [listedG, if_pos (by omega)], rfl⟩
 ·skip
  refine XK.skip (XK.seq (XK.seq (XK.region rfl (XO.q (Q.move rfl) ?_))))
  refine XO.call Tryz.call15 rfl rfl rfl (containsFuncPJ vl hl l 108 [] [K] (fun x => !jobR x.2) Tryz.call108 (fun x hx => by haveI := aL.mem hx; exact listed1 x.2 x.1 K)) fun v14 s14 R14 => ?_
  obtain ⟨rfl, rfl⟩ := R14
  dsimp only [lcA, lnA]
  rw [any_jobs]
  refine XO.done ?_
  refine XK.if rfl (fun c1 => ?_) (fun c1 => ?_)
  ·skip
   refine XK.seq (XK.region rfl (XO.q (Q.assign rfl) (XO.q (Q.assign rfl) (XO.done ?_))))
   refine XK.rt [] Tryz.func85 Tryz.results85 (.t rfl (.t rfl .n)) ?_
   exact ⟨by rw [listedG, if_neg (by omega), if_pos c1], rfl⟩
  ·skip
   have hJ : ∀ k, k < l.length → PJobOk (l.getD k default).2 := fun k hk => jobR_iff.1 (by
    have := any_false_at (Bool.eq_false_iff.2 c1) (i := k) (by rw [lm]; exact hk)
    rw [map_snd_atP] at this
    simpa using this)
   refine XK.skip (XK.seq (XK.region rfl (XO.q (Q.assign rfl) (XO.done (XK.seq ?_)))))
   refine XK.seq (XK.region rfl (XO.q (Q.move rfl) ?_))
   refine XO.len rfl fun l16 => ?_
   refine XO.q (Q.move rfl) (XO.done (XK.block ?_))
   refine XK.while (X := Nat) [2, 3, 4, 6, 7, 9, 17, 18, 19, 20, 21, 22, 23, 24, 25, 26, 27, 28, 29, 30, 31, 32, 33, 34, 35, 36, 37, 38] (fun i => [(17, some (.int .i64 (i : Nat))), (4, some (.int .i64 (prodJ (l.map Prod.snd) i)))]) (fun i => []) (fun i => (i ≤ l.length ∧ (1 ≤ prodJ (l.map Prod.snd) i ∧ prodJ (l.map Prod.snd) i ≤ 1099511627776)) ∧ ∀ k, k < i → prodJ (l.map Prod.snd) (k + 1) ≤ 1099511627776) (fun i => l.length - i) (0) [] rfl ⟨⟨by omega, by (try unfold prodJ); omega⟩, fun k hk => by omega⟩ (.c rfl (.c rfl (.base 0 rfl rfl))) ?_
   rintro i ⟨⟨hi, pp⟩, hp⟩ ih0
   dsimp only [lcA, lnA] at ih0 ⊢
   refine XK.seq (XK.region rfl ?_)
   refine XO.q (Q.lss rfl rfl) ?_
   refine XO.done (XK.seq ?_)
   refine XK.if rfl (fun c2 => ?_) (fun c2 => ?_)
   ·skip
    have ji := map_snd_atP l i
    have ai := aL i (by omega)
    have jok := hJ i (by omega)
    have pn := prod_next (l := l.map Prod.snd) (i := i) (by omega) (by rw [ji]; exact jok) pp
    rw [ji] at pn
    have jf := jok.few
    refine XK.skip (XK.seq (XK.block (XK.seq (XK.region rfl ?_))))
    refine XO.ix rfl rfl (by omega) (by omega) fun i19 => ?_
    refine XO.q (Q.ldEA [_, _, _, _, _, _] rfl (by first | assumption | omega) rfl rfl) ?_
    refine XO.alloc fun b6 => ?_
    refine XO.st rfl rfl rfl ?_
    refine XO.done (XK.seq (XK.region rfl (XO.q (Q.assign rfl) (XO.done (XK.seq ?_)))))
    refine XK.seq (XK.region rfl ?_)
    refine XO.q (Q.fieldAddr rfl) ?_
    refine XO.q (Q.ld rfl rfl) ?_
    refine XO.len rfl fun l23 => ?_
    refine XO.q (Q.move rfl) (XO.done (XK.block ?_))
    refine XK.while (X := Nat) [7, 9, 24, 25, 26, 27, 28, 29, 30, 31, 32] (fun k => [(24, some (.int .i64 (k : Nat))), (7, some (.int .i64 (cntTo (l.getD i default).2 k)))]) (fun k => []) (fun k => k ≤ (l.getD i default).2.draws.length) (fun k => (l.getD i default).2.draws.length - k) (0) [] rfl (by omega) (.c rfl (.c rfl (.base 0 rfl rfl))) ?_
    rintro k hk ih1
    dsimp only [lcA, lnA] at ih1 ⊢
    refine XK.seq (XK.region rfl ?_)
    refine XO.q (Q.lss rfl rfl) ?_
    refine XO.done (XK.seq ?_)
    refine XK.if rfl (fun c3 => ?_) (fun c3 => ?_)
    ·skip
     have ct := cntTo_rng jok k (by omega)
     have dk := jok.draw k (by omega)
     unfold DrawOk at dk
     refine XK.skip (XK.seq (XK.block (XK.seq (XK.region rfl ?_))))
     refine XO.ix rfl rfl (by omega) (by omega) fun i26 => ?_
     refine XO.q (Q.ldEA [_, _] rfl (by first | assumption | omega) rfl rfl) ?_
     refine XO.alloc fun b9 => ?_
     refine XO.st rfl rfl rfl ?_
     refine XO.done (XK.region rfl (XO.q (Q.move rfl) ?_))
     refine XO.q (Q.fieldAddr rfl) ?_
     refine XO.q (Q.ld rfl rfl) ?_
     refine XO.q (Q.add rfl rfl ⟨by omega, by omega⟩) ?_
     refine XO.q (Q.assign rfl) (XO.done ?_)
     refine XK.inBlock ?_
     refine XK.region rfl ?_
     refine XO.q (Q.add rfl rfl ⟨by omega, by omega⟩) ?_
     refine XO.q (Q.move rfl) (XO.done ?_)
     rw [← cntTo_succ (by omega)]
     exact ih1 (k + 1) _ _ (by omega) (by first | omega | (dsimp only; omega)) (.c rfl (.c rfl (.base 24 rfl rfl))) inferInstance
    ·skip
     have hkl : k = (l.getD i default).2.draws.length := by omega
     subst hkl
     rw [cntTo_all]
     have tr := total_rng jok
     refine XK.exit rfl ?_
     refine XK.seq (XK.region rfl (XO.q (Q.move rfl) (XO.q (Q.move rfl) ?_)))
     refine XO.q (Q.mul rfl rfl ⟨by omega, by omega⟩) ?_
     refine XO.q (Q.assign rfl) (XO.done (XK.seq (XK.region rfl (XO.q (Q.move rfl) ?_))))
     refine XO.q (Q.gtr rfl rfl) ?_
     refine XO.done ?_
     refine XK.if rfl (fun c4 => ?_) (fun c4 => ?_)
     ·skip
      have mt := manyTo_true (l := l.map Prod.snd) (n := (l.map Prod.snd).length) (i := i) (by omega) (by rw [pn.1]; omega)
      refine XK.seq (XK.region rfl (XO.q (Q.assign rfl) (XO.q (Q.assign rfl) (XO.done ?_))))
      refine XK.rt [] Tryz.func85 Tryz.results85 (.t rfl (.t rfl .n)) ?_
      exact ⟨by rw [listedG, if_neg (by omega), if_neg c1, if_pos mt], rfl⟩
     ·skip
      refine XK.skip ?_
      refine XK.inBlock ?_
      refine XK.region rfl ?_
      refine XO.q (Q.add rfl rfl ⟨by omega, by omega⟩) ?_
      refine XO.q (Q.move rfl) (XO.done ?_)
      rw [← pn.1]
      exact ih0 (i + 1) _ _ ⟨⟨by omega, by rw [pn.1]; omega⟩, fun k hk => by
       by_cases h : k = i
       ·subst h; rw [pn.1]; omega
       ·exact hp k (by omega)⟩ (by first | omega | (dsimp only; omega)) (.c rfl (.c rfl (.base 61 rfl rfl))) inferInstance
   ·skip
    refine XK.exit rfl ?_
    refine XK.seq (XK.region rfl (XO.q (Q.move rfl) (XO.q (Q.assign rfl) (XO.q (Q.assign rfl) (XO.done ?_)))))
    refine XK.rt [] Tryz.func85 Tryz.results85 (.t rfl (.t rfl .n)) ?_
    have hil : i = (l.map Prod.snd).length := by omega
    exact ⟨by rw [listedG, if_neg (by omega), if_neg c1, if_neg (by rw [manyTo_false.2 fun k hk => hp k (by omega)]; decide), ← hil], rfl⟩
theorem keyI : KeyT Tryz.prog 3 encK1 := KeyT.int (by kernel_rfl)
set_option maxHeartbeats 2000000 in
theorem sums_spec (l : List (Value × PJob)) (vl : Value) (hl K : PHeap) [jl : Arr vl encPJ 6 hl l] (aL : JobsK l K) (ok : ListOk (l.map Prod.snd)) : Spec Tryz.prog 86 #[vl] [] [hl, K] (fun v hs => ∃ b es, v = .map (some b) ∧ hs = [mapH b encK1 es] ∧ MapIs es (combos (l.map Prod.snd))) := by
 haveI := keyI
 have ll := jl.le
 have lm : (l.map Prod.snd).length = l.length := List.length_map ..
 have few := ok.few
 refine Spec.intro (fn := Tryz.f86) (N := 49) Tryz.func86 rfl Tryz.ntmps86 rfl fun B => ?_
 refine XK.seq (XK.region rfl (XO.q (Q.assign rfl) (XO.done (XK.seq (XK.region rfl ?_)))))
 refine XO.map encK1 fun b11 => ?_
 refine XO.insert (enc := encK1) (0) rfl rfl rfl ?_
 refine XO.q (Q.move rfl) (XO.q (Q.assign rfl) (XO.done (XK.seq (XK.seq (XK.region rfl ?_)))))
 refine XO.q (Q.move rfl) ?_
 refine XO.len rfl fun l14 => ?_
 refine XO.q (Q.move rfl) (XO.done (XK.block ?_))
 refine XK.while (X := Nat × Nat × List (Int × Value)) [3, 5, 6, 7, 8, 10, 15, 16, 17, 18, 19, 20, 21, 22, 23, 24, 25, 26, 27, 28, 29, 30, 31, 32, 33, 34, 35, 36, 37, 38, 39, 40, 41, 42, 43, 44, 45, 46, 47] (fun ⟨i, b, es⟩ => [(15, some (.int .i64 (i : Nat))), (3, some (.map (some b)))]) (fun ⟨i, b, es⟩ => [mapH b encK1 es]) (fun ⟨i, b, es⟩ => i ≤ l.length ∧ MapIs es (combos ((l.map Prod.snd).take i))) (fun ⟨i, b, es⟩ => l.length - i) (0, b11, putM 0 (.int .i64 1) []) [mapH b11 encK1 (putM 0 (.int .i64 1) [])] rfl ⟨by omega, MapIs.one⟩ (.c rfl (.c rfl (.base 0 rfl rfl))) ?_
 rintro ⟨i, b, es⟩ ⟨hi, mi⟩ ih0
 dsimp only [lcA, lnA] at ih0 ⊢
 refine XK.seq (XK.region rfl ?_)
 refine XO.q (Q.lss rfl rfl) ?_
 refine XO.done (XK.seq ?_)
 refine XK.if rfl (fun c0 => ?_) (fun c0 => ?_)
 ·skip
  have ji := map_snd_atP l i
  have ai := aL i (by omega)
  have sb := step_bound ok (i := i) (by omega)
  rw [ji] at sb
  have jok := ok.job i (by omega)
  rw [ji] at jok
  have jf := jok.few
  refine XK.skip (XK.seq (XK.block (XK.seq (XK.region rfl ?_))))
  refine XO.ix rfl rfl (by omega) (by omega) fun i17 => ?_
  refine XO.q (Q.ldEA [_, _, _, _, _, _] rfl (by first | assumption | omega) rfl rfl) ?_
  refine XO.alloc fun b5 => ?_
  refine XO.st rfl rfl rfl ?_
  refine XO.done (XK.seq (XK.region rfl ?_))
  refine XO.map encK1 fun b19 => ?_
  refine XO.q (Q.assign rfl) (XO.done (XK.seq (XK.seq (XK.region rfl (XO.q (Q.move rfl) ?_)))))
  refine XO.range rfl fun q21 => ?_
  refine XO.done (XK.block ?_)
  refine XK.while (X := List Nat × List (Int × Value)) [7, 8, 10, 22, 23, 24, 25, 26, 27, 28, 29, 30, 31, 32, 33, 34, 35, 36, 37, 38, 39, 40, 41, 42, 43, 44, 45] (fun ⟨seen, es2⟩ => []) (fun ⟨seen, es2⟩ => [itH q21 b es.length seen, mapH b19 encK1 es2]) (fun ⟨seen, es2⟩ => seen.Nodup ∧ (∀ i ∈ seen, i < es.length) ∧ MapIs es2 (given es (l.getD i default).2 seen)) (fun ⟨seen, es2⟩ => es.length - seen.length) ([], []) [itH q21 b es.length [], mapH b19 encK1 []] rfl ⟨List.nodup_nil, fun i h => (by cases h), MapIs.nil⟩ (.base 0 rfl rfl) ?_
  rintro ⟨seen, es2⟩ ⟨hnd, hlt, h2⟩ ih1
  dsimp only [lcA, lnA] at ih1 ⊢
  refine XK.seq (XK.region rfl ?_)
  refine XO.next rfl rfl fun more22 nl22 seen22 out22 => ?_
  refine XO.q (Q.extract0 rfl) ?_
  refine XO.done (XK.seq ?_)
  refine XK.if rfl (fun c1 => ?_) (fun c1 => ?_)
  ·skip
   obtain ⟨q, hq, hqs, rfl⟩ := (Out.next out22) c1
   have kr := combos_rng ok i (by omega) _ (mi.at hq).2.2
   refine XK.skip (XK.block (XK.seq (XK.region rfl ?_)))
   refine XO.q (Q.entry (i := q) rfl rfl hq) ?_
   refine XO.q (Q.extract rfl rfl) ?_
   refine XO.q (Q.extract rfl rfl) ?_
   rw [(mi.at hq).1]
   refine XO.q (Q.assign rfl) (XO.q (Q.assign rfl) (XO.done (XK.seq (XK.region rfl ?_))))
   refine XO.q (Q.fieldAddr rfl) ?_
   refine XO.q (Q.ld rfl rfl) ?_
   refine XO.len rfl fun l29 => ?_
   refine XO.q (Q.move rfl) (XO.done (XK.block ?_))
   refine XK.while (X := Nat × List (Int × Value)) [10, 30, 31, 32, 33, 34, 35, 36, 37, 38, 39, 40, 41, 42, 43, 44, 45] (fun ⟨k, es3⟩ => [(30, some (.int .i64 (k : Nat)))]) (fun ⟨k, es3⟩ => [mapH b19 encK1 es3]) (fun ⟨k, es3⟩ => k ≤ (l.getD i default).2.draws.length ∧ MapIs es3 (given es (l.getD i default).2 seen ++ give (l.getD i default).2 k (es.getD q default))) (fun ⟨k, es3⟩ => (l.getD i default).2.draws.length - k) (0, es2) [mapH b19 encK1 es2] rfl ⟨by omega, by (try dsimp only); rw [count_nil_give]; exact h2⟩ (.c rfl (.base 0 rfl rfl)) ?_
   rintro ⟨k, es3⟩ ⟨hk, h4⟩ ih2
   dsimp only [lcA, lnA] at ih2 ⊢
   refine XK.seq (XK.region rfl ?_)
   refine XO.q (Q.lss rfl rfl) ?_
   refine XO.done (XK.seq ?_)
   refine XK.if rfl (fun c2 => ?_) (fun c2 => ?_)
   ·skip
    have dk := jok.draw k (by omega)
    unfold DrawOk at dk
    refine XK.skip (XK.seq (XK.block (XK.seq (XK.region rfl ?_))))
    refine XO.ix rfl rfl (by omega) (by omega) fun i32 => ?_
    refine XO.q (Q.ldEA [_, _] rfl (by first | assumption | omega) rfl rfl) ?_
    refine XO.alloc fun b10 => ?_
    refine XO.st rfl rfl rfl ?_
    refine XO.done (XK.region rfl (XO.q (Q.move rfl) (XO.q (Q.move rfl) ?_)))
    refine XO.q (Q.fieldAddr rfl) ?_
    refine XO.q (Q.ld rfl rfl) ?_
    refine XO.q (Q.add rfl rfl ⟨by omega, by omega⟩) ?_
    refine XO.q (Q.lookup (enc := encK1) _ Tryz.zeroValue3 ((es.getD q default).1 + ((l.getD i default).2.draws.getD k default).power) rfl rfl) ?_
    rw [h4.get]
    refine XO.q (Q.move rfl) ?_
    refine XO.q (Q.fieldAddr rfl) ?_
    refine XO.q (Q.ld rfl rfl) ?_
    obtain ⟨gv1, gv2, gv3⟩ := mi.give jok h4 hq (by omega) hnd hlt hqs sb.1 sb.2 rfl rfl rfl
    refine XO.q (Q.mul rfl rfl ⟨by omega, by omega⟩) ?_
    refine XO.q (Q.add rfl rfl ⟨by omega, by omega⟩) ?_
    refine XO.mapUpdate (enc := encK1) ((es.getD q default).1 + ((l.getD i default).2.draws.getD k default).power) rfl rfl rfl ?_
    refine XO.done ?_
    refine XK.inBlock ?_
    refine XK.region rfl ?_
    refine XO.q (Q.add rfl rfl ⟨by omega, by omega⟩) ?_
    refine XO.q (Q.move rfl) (XO.done ?_)
    exact ih2 (k + 1, _) _ _ ⟨by dsimp only; omega, gv3⟩ (by first | omega | (dsimp only; omega)) (.c rfl (.base 35 rfl rfl)) inferInstance
   ·skip
    have hkl : k = (l.getD i default).2.draws.length := by omega
    subst hkl
    refine XK.exit rfl ?_
    refine XK.inBlock ?_
    exact ih1 (seen ++ [q], es3) _ _ ⟨nodup_snoc hnd hqs, mem_snoc hlt hq, by dsimp only; rw [given_snoc]; exact h4⟩ (by have := seen_few (nodup_snoc hnd hqs) (mem_snoc hlt hq); rw [List.length_append, List.length_singleton] at this; dsimp only; rw [List.length_append, List.length_singleton]; omega) (.base 57 rfl rfl) inferInstance
  ·skip
   obtain ⟨rfl, hall⟩ := Out.done out22 (by simpa using c1)
   have h3 := h2.perm (given_all mi hnd hlt hall)
   refine XK.exit rfl ?_
   refine XK.region rfl (XO.q (Q.move rfl) (XO.q (Q.assign rfl) (XO.done ?_)))
   refine XK.inBlock ?_
   refine XK.region rfl ?_
   refine XO.q (Q.add rfl rfl ⟨by omega, by omega⟩) ?_
   refine XO.q (Q.move rfl) (XO.done ?_)
   exact ih0 (i + 1, b19, es2) _ _ ⟨by dsimp only; omega, by dsimp only; rw [combos_succ (by omega), ji]; exact h3⟩ (by first | omega | (dsimp only; omega)) (.c rfl (.c rfl (.base 82 rfl rfl))) inferInstance
 ·skip
  refine XK.exit rfl ?_
  refine XK.seq (XK.region rfl (XO.q (Q.move rfl) (XO.q (Q.assign rfl) (XO.done ?_))))
  refine XK.rt [mapH b encK1 es] Tryz.func86 Tryz.results86 (.t rfl .n) ?_
  have hil : i = l.length := by omega
  rw [← lm] at hil
  rw [hil, List.take_length] at mi
  exact ⟨b, es, rfl, rfl, mi⟩
end Go.X

set_option linter.unusedSimpArgs false
set_option linter.unusedVariables false
set_option maxRecDepth 20000
namespace Go.X
open Go.Proofs
set_option maxHeartbeats 2000000 in
theorem over_spec (l : List (Value × PJob)) (vl : Value) (hl K : PHeap) [jl : Arr vl encPJ 6 hl l] (aL : JobsK l K) (ok : ListOk (l.map Prod.snd)) (limit all : Int) (ha : 1 ≤ all ∧ all ≤ 1099511627776) : Spec Tryz.prog 89 #[vl, .int .i64 limit, .int .i64 all] [] [hl, K] (fun v hs => v = .agg #[.int .i64 (overG (l.map Prod.snd) limit all).n, .int .i64 (overG (l.map Prod.snd) limit all).d] ∧ hs = []) := by
 have cl := combos_len ok (l.map Prod.snd).length (Nat.le_refl _)
 rw [List.take_length] at cl
 have pr := ok.prod (l.map Prod.snd).length (Nat.le_refl _)
 have ol := over_len (combos (l.map Prod.snd)) limit
 have gp := gcd_pos (n := ((overN (combos (l.map Prod.snd)) limit : Nat) : Int)) ha.1
 refine Spec.intro (fn := Tryz.f89) (N := 35) Tryz.func89 rfl Tryz.ntmps89 rfl fun B => ?_
 refine XK.seq (XK.region rfl ?_)
 refine XO.alloc fun b6 => ?_
 refine XO.done (XK.seq (XK.region rfl (XO.q (Q.assign rfl) (XO.done (XK.seq ?_)))))
 refine XK.seq (XK.region rfl (XO.q (Q.move rfl) ?_))
 refine XO.call Tryz.call86 rfl rfl rfl (sums_spec l vl hl K aL ok) fun v12 s12 R12 => ?_
 obtain ⟨b, es, rfl, rfl, mi⟩ := R12
 dsimp only [lcA, lnA]
 refine XO.range rfl fun q13 => ?_
 refine XO.done (XK.block ?_)
 refine XK.while (X := List Nat) [7, 8, 9, 14, 15, 16, 17, 18, 19, 20, 21, 22, 23, 24] (fun seen => [(7, some (.int .i64 (overS es limit seen)))]) (fun seen => [itH q13 b es.length seen]) (fun seen => seen.Nodup ∧ (∀ i ∈ seen, i < es.length)) (fun seen => es.length - seen.length) ([]) [itH q13 b es.length []] rfl ⟨List.nodup_nil, fun i h => (by cases h)⟩ (.c rfl (.base 0 rfl rfl)) ?_
 rintro seen ⟨hnd, hlt⟩ ih0
 dsimp only [lcA, lnA] at ih0 ⊢
 refine XK.seq (XK.region rfl ?_)
 refine XO.next rfl rfl fun more14 nl14 seen14 out14 => ?_
 refine XO.q (Q.extract0 rfl) ?_
 refine XO.done (XK.seq ?_)
 refine XK.if rfl (fun c0 => ?_) (fun c0 => ?_)
 ·skip
  obtain ⟨q, hq, hqs, rfl⟩ := Out.next out14 c0
  refine XK.skip (XK.block (XK.seq (XK.region rfl ?_)))
  refine XO.q (Q.entry (i := q) rfl rfl hq) ?_
  refine XO.q (Q.extract rfl rfl) ?_
  refine XO.q (Q.extract rfl rfl) ?_
  rw [(mi.at hq).1]
  have os := overS_snoc es limit seen q
  rw [(mi.at hq).2.1] at os
  have orr := overS_rng (limit := limit) mi hnd hlt
  have cle : List.count (es.getD q default).1 (combos (l.map Prod.snd)) ≤ (combos (l.map Prod.snd)).length := List.count_le_length
  refine XO.q (Q.assign rfl) (XO.q (Q.assign rfl) (XO.done (XK.seq (XK.region rfl (XO.q (Q.move rfl) ?_)))))
  refine XO.q (Q.move rfl) ?_
  refine XO.q (Q.gtr rfl rfl) ?_
  refine XO.done ?_
  refine XK.if rfl (fun c1 => ?_) (fun c1 => ?_)
  ·skip
   rw [if_pos c1] at os
   refine XK.region rfl (XO.q (Q.move rfl) (XO.q (Q.move rfl) ?_))
   refine XO.q (Q.add rfl rfl ⟨by omega, by omega⟩) ?_
   refine XO.q (Q.assign rfl) (XO.done ?_)
   refine XK.inBlock ?_
   rw [← os]
   exact ih0 (seen ++ [q]) _ _ ⟨nodup_snoc hnd hqs, mem_snoc hlt hq⟩ (by have := seen_few (nodup_snoc hnd hqs) (mem_snoc hlt hq); rw [List.length_append, List.length_singleton] at this; (try dsimp only); rw [List.length_append, List.length_singleton]; omega) (.c rfl (.base 29 rfl rfl)) inferInstance
  ·skip
   rw [if_neg c1, Int.add_zero] at os
   refine XK.skip ?_
   refine XK.inBlock ?_
   rw [← os]
   exact ih0 (seen ++ [q]) _ _ ⟨nodup_snoc hnd hqs, mem_snoc hlt hq⟩ (by have := seen_few (nodup_snoc hnd hqs) (mem_snoc hlt hq); rw [List.length_append, List.length_singleton] at this; (try dsimp only); rw [List.length_append, List.length_singleton]; omega) (.c rfl (.base 25 rfl rfl)) inferInstance
 ·skip
  obtain ⟨rfl, hall⟩ := Out.done out14 (by simpa using c0)
  rw [overS_all mi hnd hlt hall]
  refine XK.exit rfl ?_
  refine XK.seq (XK.region rfl (XO.q (Q.move rfl) (XO.q (Q.move rfl) ?_)))
  refine XO.call Tryz.call102 rfl rfl rfl ((by
   have q := divisor_spec (overN (combos (l.map Prod.snd)) limit) all.toNat (by omega) (by omega)
   rw [show ((all.toNat : Nat) : Int) = all by omega] at q
   exact q)) fun v27 s27 R27 => ?_
  obtain ⟨rfl, rfl⟩ := R27
  dsimp only [lcA, lnA]
  rw [show (Nat.gcd (overN (combos (l.map Prod.snd)) limit) all.toNat : Nat) = Int.gcd ((overN (combos (l.map Prod.snd)) limit : Nat) : Int) all by unfold Int.gcd; rw [Int.natAbs_natCast, show all.natAbs = all.toNat by omega]]
  refine XO.q (Q.assign rfl) (XO.done (XK.seq ?_))
  refine XK.drawn [0, 1, 2, 3, 4, 5, 6] [] [] (.q 0 (.q 1 (.q 2 (.q 3 (.q 4 (.q 5 (.q 6 (.br 7 false .done .stop)))))))) Tryz.mixed rfl (by kernel_rfl) ?_
  refine XT.q rfl rfl (Q.move rfl) ?_
  refine XT.q rfl rfl (Q.move rfl) ?_
  refine XT.q rfl rfl (Q.quo rfl rfl (by omega) (by omega) (by omega)) ?_
  refine XT.q rfl rfl (Q.move rfl) ?_
  refine XT.q rfl rfl (Q.move rfl) ?_
  refine XT.q rfl rfl (Q.quo rfl rfl (by omega) (by omega) (by omega)) ?_
  refine XT.q rfl rfl (Q.build [_, _] (.c 0 1 rfl rfl rfl (.c 1 1 rfl rfl rfl (.n _)))) ?_
  refine XT.st rfl rfl rfl rfl rfl ⟨inferInstance, ?_⟩ XT.stop
  refine XT.done ?_
  refine XK.rt [] Tryz.func89 Tryz.results89 (.cell [_, _] rfl rfl rfl (.n)) ?_
  exact ⟨rfl, rfl⟩
theorem listed_rng {l : List PJob} (ok : ListOk l) : listedG l = (prodJ l l.length, 0) ∧ 1 ≤ prodJ l l.length ∧ prodJ l l.length ≤ 1099511627776 := ⟨listed_prod ok, prod_pos ok _ (Nat.le_refl _), ok.prod _ (Nat.le_refl _)⟩
theorem Chance_spec (l : List (Value × PJob)) (vl : Value) (hl K : PHeap) [jl : Arr vl encPJ 6 hl l] (aL : JobsK l K) (limit : Int) : Spec Tryz.prog 38 #[vl, .int .i64 limit] [] [hl, K] (fun v hs => v = .tuple #[.agg #[.int .i64 (chanceG (l.map Prod.snd) limit).1.n, .int .i64 (chanceG (l.map Prod.snd) limit).1.d], .int .i64 (chanceG (l.map Prod.snd) limit).2] ∧ hs = []) := by
 refine Spec.intro (fn := Tryz.f38) (N := 21) Tryz.func38 rfl Tryz.ntmps38 rfl fun B => ?_
 refine XK.seq (XK.region rfl ?_)
 refine XO.alloc fun b4 => ?_
 refine XO.q (Q.assign rfl) (XO.done (XK.seq (XK.region rfl (XO.q (Q.move rfl) ?_))))
 refine XO.call Tryz.call85 rfl rfl rfl (listed_spec l vl hl K aL) fun v10 s10 R10 => ?_
 obtain ⟨rfl, rfl⟩ := R10
 dsimp only [lcA, lnA]
 refine XO.q (Q.move rfl) ?_
 refine XO.q (Q.extract rfl rfl) ?_
 refine XO.q (Q.extract rfl rfl) ?_
 refine XO.q (Q.assign rfl) (XO.q (Q.assign rfl) (XO.done (XK.seq (XK.seq (XK.region rfl ?_)))))
 refine XO.q (Q.move rfl) ?_
 refine XO.q (Q.neq rfl rfl) ?_
 refine XO.done ?_
 refine XK.if rfl (fun c0 => ?_) (fun c0 => ?_)
 ·skip
  refine XK.seq (XK.region rfl ?_)
  refine XO.q (Q.build [_, _] (.n _)) ?_
  refine XO.q (Q.move rfl) ?_
  refine XO.st rfl rfl rfl ?_
  refine XO.q (Q.assign rfl) (XO.done ?_)
  refine XK.rt [] Tryz.func38 Tryz.results38 (.cell [_, _] rfl rfl rfl (.t rfl .n)) ?_
  exact ⟨by rw [chanceG, if_pos c0], rfl⟩
 ·skip
  have ok := listed_ok.1 (Decidable.of_not_not c0)
  have lr := listed_rng ok
  refine XK.skip (XK.seq (XK.region rfl (XO.q (Q.move rfl) (XO.q (Q.move rfl) (XO.q (Q.move rfl) ?_)))))
  refine XO.call Tryz.call89 rfl rfl rfl (over_spec l vl hl K aL ok limit (listedG (l.map Prod.snd)).1 (by rw [lr.1]; exact lr.2)) fun v20 s20 R20 => ?_
  obtain ⟨rfl, rfl⟩ := R20
  dsimp only [lcA, lnA]
  refine XO.st rfl rfl rfl ?_
  refine XO.q (Q.assign rfl) (XO.done ?_)
  refine XK.rt [] Tryz.func38 Tryz.results38 (.cell [_, _] rfl rfl rfl (.t rfl .n)) ?_
  exact ⟨by rw [chanceG, if_neg c0], rfl⟩
theorem atMost_spec (a b : PRat) (ha : (0 ≤ a.n ∧ a.n ≤ 1099511627776) ∧ (0 ≤ a.d ∧ a.d ≤ 1099511627776)) (hb : (0 ≤ b.n ∧ b.n ≤ 1000000) ∧ (0 ≤ b.d ∧ b.d ≤ 1000000)) : Spec Tryz.prog 96 #[.agg #[.int .i64 a.n, .int .i64 a.d], .agg #[.int .i64 b.n, .int .i64 b.d]] [] [] (fun v hs => v = .bool (atMostB a b) ∧ hs = []) := by
 have m1 := mulP ha.1 hb.2
 have m2 := mulP ha.2 hb.1
 rw [Int.mul_comm a.d] at m2
 refine Spec.intro (fn := Tryz.f96) (N := 16) Tryz.func96 rfl Tryz.ntmps96 rfl fun B => ?_
 refine XK.seq (XK.region rfl ?_)
 refine XO.box rfl fun b2 => ?_
 refine XO.box rfl fun b3 => ?_
 refine XO.q (Q.assign rfl) (XO.done (XK.seq (XK.region rfl ?_)))
 refine XO.q (Q.fieldAddr rfl) ?_
 refine XO.q (Q.ld rfl rfl) ?_
 refine XO.q (Q.fieldAddr rfl) ?_
 refine XO.q (Q.ld rfl rfl) ?_
 refine XO.q (Q.mul rfl rfl ⟨by omega, by omega⟩) ?_
 refine XO.q (Q.fieldAddr rfl) ?_
 refine XO.q (Q.ld rfl rfl) ?_
 refine XO.q (Q.fieldAddr rfl) ?_
 refine XO.q (Q.ld rfl rfl) ?_
 refine XO.q (Q.mul rfl rfl ⟨by omega, by omega⟩) ?_
 refine XO.q (Q.leq rfl rfl) ?_
 refine XO.q (Q.assign rfl) (XO.done ?_)
 refine XK.rt [] Tryz.func96 Tryz.results96 (.t rfl .n) ?_
 exact ⟨rfl, rfl⟩
set_option maxHeartbeats 4000000 in
theorem fits_spec (l : List (Value × PJob)) (vl : Value) (hl K : PHeap) [jl : Arr vl encPJ 6 hl l] (aL : JobsK l K) (ok : ListOk (l.map Prod.snd)) (r : PRack) (m : PRat) (hm : chanceR m = true) (all : Int) (ha : all = prodJ (l.map Prod.snd) (l.map Prod.snd).length) : Spec Tryz.prog 94 #[vl, .agg #[.int .i64 r.r0, .int .i64 r.r1, .int .i64 r.r2, .int .i64 r.cap, .int .i64 r.domain], .agg #[.int .i64 m.n, .int .i64 m.d], .int .i64 all] [] [hl, K] (fun v hs => v = .bool (fitsG (l.map Prod.snd) r m) ∧ hs = []) := by
 have ll := jl.le
 have lm : (l.map Prod.snd).length = l.length := List.length_map ..
 have few := ok.few
 have lr := listed_rng ok
 have mr := chanceR_rng hm
 refine Spec.intro (fn := Tryz.f94) (N := 55) Tryz.func94 rfl Tryz.ntmps94 rfl fun B => ?_
 refine XK.seq (XK.region rfl ?_)
 refine XO.box rfl fun b5 => ?_
 refine XO.box rfl fun b6 => ?_
 refine XO.q (Q.assign rfl) (XO.done (XK.seq (XK.region rfl ?_)))
 refine XO.alloc fun b9 => ?_
 refine XO.done (XK.seq (XK.seq (XK.region rfl (XO.q (Q.move rfl) ?_))))
 refine XO.len rfl fun l17 => ?_
 refine XO.q (Q.move rfl) (XO.done (XK.block ?_))
 refine XK.while (X := Nat) [11, 12, 13, 18, 19, 20, 21, 22, 23, 24, 25, 26, 27, 28, 29, 30, 31, 32, 33, 34, 35] (fun i => [(18, some (.int .i64 (i : Nat)))]) (fun i => [blk b9 [.int .i64 (needK (l.map Prod.snd) 0 i), .int .i64 (needK (l.map Prod.snd) 1 i), .int .i64 (needK (l.map Prod.snd) 2 i)] 36]) (fun i => i ≤ l.length) (fun i => l.length - i) (0) [blk b9 [.int .i64 0, .int .i64 0, .int .i64 0] 36] rfl (by omega) (.c rfl (.base 0 rfl rfl)) ?_
 rintro i hi ih0
 dsimp only [lcA, lnA] at ih0 ⊢
 refine XK.seq (XK.region rfl ?_)
 refine XO.q (Q.lss rfl rfl) ?_
 refine XO.done (XK.seq ?_)
 refine XK.if rfl (fun c0 => ?_) (fun c0 => ?_)
 ·skip
  have ji := map_snd_atP l i
  have ai := aL i (by omega)
  have jok := ok.job i (by omega)
  rw [ji] at jok
  have nr := pin_three.1 jok.need
  have na := need_succ (l := l.map Prod.snd) (i := i) (by omega)
  rw [ji] at na
  have nb := need_rng ok i (by omega)
  obtain ⟨na0, na1, na2⟩ := na
  refine XK.skip (XK.seq (XK.block (XK.seq (XK.region rfl ?_))))
  refine XO.ix rfl rfl (by omega) (by omega) fun i20 => ?_
  refine XO.q (Q.ldEA [_, _, _, _, _, _] rfl (by first | assumption | omega) rfl rfl) ?_
  refine XO.alloc fun b11 => ?_
  refine XO.st rfl rfl rfl ?_
  refine XO.done (XK.seq (XK.region rfl ?_))
  refine XO.q (Q.fieldAddr rfl) ?_
  refine XO.q (Q.ldA [_, _, _] rfl rfl rfl) ?_
  refine XO.q (Q.move rfl) (XO.done (XK.block ?_))
  refine XK.loop' ?_
  refine XK.seq (XK.region rfl ?_)
  refine XO.q (Q.lss rfl rfl) ?_
  refine XO.done (XK.seq ?_)
  refine XK.if rfl (fun c1 => ?_) (fun c1 => ?_)
  ·skip
   refine XK.skip (XK.seq (XK.block (XK.seq (XK.region rfl (XO.q (Q.move rfl) ?_)))))
   refine XO.q (Q.index rfl rfl (by decide) (Nat.le_of_ble_eq_true rfl)) ?_
   refine XO.q (Q.assign rfl) (XO.q (Q.assign rfl) (XO.done (XK.region rfl (XO.q (Q.move rfl) ?_))))
   refine XO.q (Q.ixA rfl rfl (by omega) (by omega)) ?_
   (try rw [show (0 + Int.toNat 0 * 1 : Nat) = 0 from rfl])
   (try rw [show (0 + Int.toNat 1 * 1 : Nat) = 1 from rfl])
   (try rw [show (0 + Int.toNat 2 * 1 : Nat) = 2 from rfl])
   refine XO.q (Q.ld rfl rfl) ?_
   refine XO.q (Q.move rfl) ?_
   refine XO.q (Q.add rfl rfl ⟨by omega, by omega⟩) ?_
   refine XO.q (Q.ixA rfl rfl (by omega) (by omega)) ?_
   (try rw [show (0 + Int.toNat 0 * 1 : Nat) = 0 from rfl])
   (try rw [show (0 + Int.toNat 1 * 1 : Nat) = 1 from rfl])
   (try rw [show (0 + Int.toNat 2 * 1 : Nat) = 2 from rfl])
   refine XO.st rfl rfl rfl ?_
   refine XO.done ?_
   refine XK.inBlock ?_
   refine XK.region rfl ?_
   refine XO.q (Q.add rfl rfl ⟨by omega, by omega⟩) ?_
   (try rw [show ((0 : Int) + 1) = 1 from rfl])
   (try rw [show ((1 : Int) + 1) = 2 from rfl])
   (try rw [show ((2 : Int) + 1) = 3 from rfl])
   refine XO.q (Q.move rfl) (XO.done ?_)
   refine XK.inLoop' ?_
   refine XK.seq (XK.region rfl ?_)
   refine XO.q (Q.lss rfl rfl) ?_
   refine XO.done (XK.seq ?_)
   refine XK.if rfl (fun c2 => ?_) (fun c2 => ?_)
   ·skip
    refine XK.skip (XK.seq (XK.block (XK.seq (XK.region rfl (XO.q (Q.move rfl) ?_)))))
    refine XO.q (Q.index rfl rfl (by decide) (Nat.le_of_ble_eq_true rfl)) ?_
    refine XO.q (Q.assign rfl) (XO.q (Q.assign rfl) (XO.done (XK.region rfl (XO.q (Q.move rfl) ?_))))
    refine XO.q (Q.ixA rfl rfl (by omega) (by omega)) ?_
    (try rw [show (0 + Int.toNat 0 * 1 : Nat) = 0 from rfl])
    (try rw [show (0 + Int.toNat 1 * 1 : Nat) = 1 from rfl])
    (try rw [show (0 + Int.toNat 2 * 1 : Nat) = 2 from rfl])
    refine XO.q (Q.ld rfl rfl) ?_
    refine XO.q (Q.move rfl) ?_
    refine XO.q (Q.add rfl rfl ⟨by omega, by omega⟩) ?_
    refine XO.q (Q.ixA rfl rfl (by omega) (by omega)) ?_
    (try rw [show (0 + Int.toNat 0 * 1 : Nat) = 0 from rfl])
    (try rw [show (0 + Int.toNat 1 * 1 : Nat) = 1 from rfl])
    (try rw [show (0 + Int.toNat 2 * 1 : Nat) = 2 from rfl])
    refine XO.st rfl rfl rfl ?_
    refine XO.done ?_
    refine XK.inBlock ?_
    refine XK.region rfl ?_
    refine XO.q (Q.add rfl rfl ⟨by omega, by omega⟩) ?_
    (try rw [show ((0 : Int) + 1) = 1 from rfl])
    (try rw [show ((1 : Int) + 1) = 2 from rfl])
    (try rw [show ((2 : Int) + 1) = 3 from rfl])
    refine XO.q (Q.move rfl) (XO.done ?_)
    refine XK.inLoop' ?_
    refine XK.seq (XK.region rfl ?_)
    refine XO.q (Q.lss rfl rfl) ?_
    refine XO.done (XK.seq ?_)
    refine XK.if rfl (fun c3 => ?_) (fun c3 => ?_)
    ·skip
     refine XK.skip (XK.seq (XK.block (XK.seq (XK.region rfl (XO.q (Q.move rfl) ?_)))))
     refine XO.q (Q.index rfl rfl (by decide) (Nat.le_of_ble_eq_true rfl)) ?_
     refine XO.q (Q.assign rfl) (XO.q (Q.assign rfl) (XO.done (XK.region rfl (XO.q (Q.move rfl) ?_))))
     refine XO.q (Q.ixA rfl rfl (by omega) (by omega)) ?_
     (try rw [show (0 + Int.toNat 0 * 1 : Nat) = 0 from rfl])
     (try rw [show (0 + Int.toNat 1 * 1 : Nat) = 1 from rfl])
     (try rw [show (0 + Int.toNat 2 * 1 : Nat) = 2 from rfl])
     refine XO.q (Q.ld rfl rfl) ?_
     refine XO.q (Q.move rfl) ?_
     refine XO.q (Q.add rfl rfl ⟨by omega, by omega⟩) ?_
     refine XO.q (Q.ixA rfl rfl (by omega) (by omega)) ?_
     (try rw [show (0 + Int.toNat 0 * 1 : Nat) = 0 from rfl])
     (try rw [show (0 + Int.toNat 1 * 1 : Nat) = 1 from rfl])
     (try rw [show (0 + Int.toNat 2 * 1 : Nat) = 2 from rfl])
     refine XO.st rfl rfl rfl ?_
     refine XO.done ?_
     refine XK.inBlock ?_
     refine XK.region rfl ?_
     refine XO.q (Q.add rfl rfl ⟨by omega, by omega⟩) ?_
     (try rw [show ((0 : Int) + 1) = 1 from rfl])
     (try rw [show ((1 : Int) + 1) = 2 from rfl])
     (try rw [show ((2 : Int) + 1) = 3 from rfl])
     refine XO.q (Q.move rfl) (XO.done ?_)
     refine XK.inLoop' ?_
     refine XK.seq (XK.region rfl ?_)
     refine XO.q (Q.lss rfl rfl) ?_
     refine XO.done (XK.seq ?_)
     refine XK.if rfl (fun c4 => ?_) (fun c4 => ?_)
     ·skip
      exact absurd c4 (by first | decide | simp)
     ·skip
      refine XK.exit rfl ?_
      refine XK.inBlock ?_
      refine XK.region rfl ?_
      refine XO.q (Q.add rfl rfl ⟨by omega, by omega⟩) ?_
      refine XO.q (Q.move rfl) (XO.done ?_)
      rw [← na0, ← na1, ← na2]
      exact ih0 (i + 1) _ _ (by omega) (by first | omega | (dsimp only; omega)) (.c rfl (.base 71 rfl rfl)) inferInstance
    ·skip
     exact absurd (by first | decide | simp) c3
   ·skip
    exact absurd (by first | decide | simp) c2
  ·skip
   exact absurd (by first | decide | simp) c1
 ·skip
  have hil : i = (l.map Prod.snd).length := by omega
  refine XK.exit rfl ?_
  refine XK.seq (XK.seq (XK.region rfl ?_))
  refine XO.q (Q.ldA [_, _, _] rfl rfl rfl) ?_
  refine XO.q (Q.move rfl) (XO.done (XK.block ?_))
  refine XK.loop' ?_
  refine XK.seq (XK.region rfl ?_)
  refine XO.q (Q.lss rfl rfl) ?_
  refine XO.done (XK.seq ?_)
  refine XK.if rfl (fun c5 => ?_) (fun c5 => ?_)
  ·skip
   refine XK.skip (XK.seq (XK.block (XK.seq (XK.region rfl (XO.q (Q.move rfl) ?_)))))
   refine XO.q (Q.index rfl rfl (by decide) (Nat.le_of_ble_eq_true rfl)) ?_
   refine XO.q (Q.assign rfl) (XO.q (Q.assign rfl) (XO.done (XK.seq (XK.region rfl (XO.q (Q.move rfl) ?_)))))
   refine XO.q (Q.move rfl) ?_
   refine XO.q (Q.fieldAddr rfl) ?_
   refine XO.q (Q.ixA rfl rfl (by omega) (by omega)) ?_
   (try rw [show (0 + Int.toNat 0 * 1 : Nat) = 0 from rfl])
   (try rw [show (0 + Int.toNat 1 * 1 : Nat) = 1 from rfl])
   (try rw [show (0 + Int.toNat 2 * 1 : Nat) = 2 from rfl])
   refine XO.q (Q.ld rfl rfl) ?_
   refine XO.q (Q.gtr rfl rfl) ?_
   refine XO.done ?_
   refine XK.if rfl (fun c6 => ?_) (fun c6 => ?_)
   ·skip
    refine XK.seq (XK.region rfl (XO.q (Q.assign rfl) (XO.done ?_)))
    refine XK.rt [] Tryz.func94 Tryz.results94 (.t rfl .n) ?_
    refine ⟨?_, rfl⟩
    rw [fitsG, ← hil, decide_eq_false (show ¬ needK (l.map Prod.snd) 0 i ≤ r.r0 by omega)]
    simp
   ·skip
    refine XK.skip ?_
    refine XK.inBlock ?_
    refine XK.region rfl ?_
    refine XO.q (Q.add rfl rfl ⟨by omega, by omega⟩) ?_
    (try rw [show ((0 : Int) + 1) = 1 from rfl])
    (try rw [show ((1 : Int) + 1) = 2 from rfl])
    (try rw [show ((2 : Int) + 1) = 3 from rfl])
    refine XO.q (Q.move rfl) (XO.done ?_)
    refine XK.inLoop' ?_
    refine XK.seq (XK.region rfl ?_)
    refine XO.q (Q.lss rfl rfl) ?_
    refine XO.done (XK.seq ?_)
    refine XK.if rfl (fun c7 => ?_) (fun c7 => ?_)
    ·skip
     refine XK.skip (XK.seq (XK.block (XK.seq (XK.region rfl (XO.q (Q.move rfl) ?_)))))
     refine XO.q (Q.index rfl rfl (by decide) (Nat.le_of_ble_eq_true rfl)) ?_
     refine XO.q (Q.assign rfl) (XO.q (Q.assign rfl) (XO.done (XK.seq (XK.region rfl (XO.q (Q.move rfl) ?_)))))
     refine XO.q (Q.move rfl) ?_
     refine XO.q (Q.fieldAddr rfl) ?_
     refine XO.q (Q.ixA rfl rfl (by omega) (by omega)) ?_
     (try rw [show (0 + Int.toNat 0 * 1 : Nat) = 0 from rfl])
     (try rw [show (0 + Int.toNat 1 * 1 : Nat) = 1 from rfl])
     (try rw [show (0 + Int.toNat 2 * 1 : Nat) = 2 from rfl])
     refine XO.q (Q.ld rfl rfl) ?_
     refine XO.q (Q.gtr rfl rfl) ?_
     refine XO.done ?_
     refine XK.if rfl (fun c8 => ?_) (fun c8 => ?_)
     ·skip
      refine XK.seq (XK.region rfl (XO.q (Q.assign rfl) (XO.done ?_)))
      refine XK.rt [] Tryz.func94 Tryz.results94 (.t rfl .n) ?_
      refine ⟨?_, rfl⟩
      rw [fitsG, ← hil, decide_eq_false (show ¬ needK (l.map Prod.snd) 1 i ≤ r.r1 by omega)]
      simp
     ·skip
      refine XK.skip ?_
      refine XK.inBlock ?_
      refine XK.region rfl ?_
      refine XO.q (Q.add rfl rfl ⟨by omega, by omega⟩) ?_
      (try rw [show ((0 : Int) + 1) = 1 from rfl])
      (try rw [show ((1 : Int) + 1) = 2 from rfl])
      (try rw [show ((2 : Int) + 1) = 3 from rfl])
      refine XO.q (Q.move rfl) (XO.done ?_)
      refine XK.inLoop' ?_
      refine XK.seq (XK.region rfl ?_)
      refine XO.q (Q.lss rfl rfl) ?_
      refine XO.done (XK.seq ?_)
      refine XK.if rfl (fun c9 => ?_) (fun c9 => ?_)
      ·skip
       refine XK.skip (XK.seq (XK.block (XK.seq (XK.region rfl (XO.q (Q.move rfl) ?_)))))
       refine XO.q (Q.index rfl rfl (by decide) (Nat.le_of_ble_eq_true rfl)) ?_
       refine XO.q (Q.assign rfl) (XO.q (Q.assign rfl) (XO.done (XK.seq (XK.region rfl (XO.q (Q.move rfl) ?_)))))
       refine XO.q (Q.move rfl) ?_
       refine XO.q (Q.fieldAddr rfl) ?_
       refine XO.q (Q.ixA rfl rfl (by omega) (by omega)) ?_
       (try rw [show (0 + Int.toNat 0 * 1 : Nat) = 0 from rfl])
       (try rw [show (0 + Int.toNat 1 * 1 : Nat) = 1 from rfl])
       (try rw [show (0 + Int.toNat 2 * 1 : Nat) = 2 from rfl])
       refine XO.q (Q.ld rfl rfl) ?_
       refine XO.q (Q.gtr rfl rfl) ?_
       refine XO.done ?_
       refine XK.if rfl (fun c10 => ?_) (fun c10 => ?_)
       ·skip
        refine XK.seq (XK.region rfl (XO.q (Q.assign rfl) (XO.done ?_)))
        refine XK.rt [] Tryz.func94 Tryz.results94 (.t rfl .n) ?_
        refine ⟨?_, rfl⟩
        rw [fitsG, ← hil, decide_eq_false (show ¬ needK (l.map Prod.snd) 2 i ≤ r.r2 by omega)]
        simp
       ·skip
        refine XK.skip ?_
        refine XK.inBlock ?_
        refine XK.region rfl ?_
        refine XO.q (Q.add rfl rfl ⟨by omega, by omega⟩) ?_
        (try rw [show ((0 : Int) + 1) = 1 from rfl])
        (try rw [show ((1 : Int) + 1) = 2 from rfl])
        (try rw [show ((2 : Int) + 1) = 3 from rfl])
        refine XO.q (Q.move rfl) (XO.done ?_)
        refine XK.inLoop' ?_
        refine XK.seq (XK.region rfl ?_)
        refine XO.q (Q.lss rfl rfl) ?_
        refine XO.done (XK.seq ?_)
        refine XK.if rfl (fun c11 => ?_) (fun c11 => ?_)
        ·skip
         exact absurd c11 (by first | decide | simp)
        ·skip
         refine XK.exit rfl ?_
         refine XK.seq ?_
         refine XK.drawn [0, 1, 2, 3, 5, 7] [b5, b6] [] (.q 0 (.q 1 (.q 2 (.q 3 (.q 5 (.br 4 true (.br 6 true (.q 7 .done) .stop) .stop)))))) Tryz.mixed rfl (by kernel_rfl) ?_
         refine XT.q rfl rfl (Q.move rfl) ?_
         refine XT.q rfl rfl (Q.fieldAddr rfl) ?_
         refine XT.q rfl rfl (Q.ld rfl rfl) ?_
         refine XT.q rfl rfl (Q.move rfl) ?_
         refine XT.q rfl rfl (Q.ldA [_, _] rfl rfl rfl) ?_
         refine XT.call rfl rfl Tryz.call89 rfl rfl rfl (over_spec l vl hl K aL ok r.cap all (by rw [ha]; exact lr.2)) (fun v52 s52 R52 => ?_) XT.stop
         obtain ⟨rfl, rfl⟩ := R52
         dsimp only [lcA, lnA]
         refine ⟨inferInstance, ?_⟩
         have orr := over_rng (l.map Prod.snd) r.cap (all := all) (by rw [ha]; exact lr.2) (by have := combos_len ok (l.map Prod.snd).length (Nat.le_refl _); rw [List.take_length] at this; rw [ha]; exact this)
         refine XT.call rfl rfl Tryz.call96 rfl rfl rfl (atMost_spec (overG (l.map Prod.snd) r.cap all) m orr mr) (fun v54 s54 R54 => ?_) XT.stop
         obtain ⟨rfl, rfl⟩ := R54
         dsimp only [lcA, lnA]
         refine ⟨inferInstance, ?_⟩
         refine XT.q rfl rfl (Q.assign rfl) ?_
         refine XT.done ?_
         refine XK.rt [] Tryz.func94 Tryz.results94 (.t rfl .n) ?_
         refine ⟨?_, rfl⟩
         rw [fitsG, ← hil, decide_eq_true (show needK (l.map Prod.snd) 0 i ≤ r.r0 by omega), decide_eq_true (show needK (l.map Prod.snd) 1 i ≤ r.r1 by omega), decide_eq_true (show needK (l.map Prod.snd) 2 i ≤ r.r2 by omega), ha, hil]
         simp
      ·skip
       exact absurd (by first | decide | simp) c9
    ·skip
     exact absurd (by first | decide | simp) c7
  ·skip
   exact absurd (by first | decide | simp) c5
end Go.X

set_option linter.unusedSimpArgs false
set_option linter.unusedVariables false
set_option maxRecDepth 20000
namespace Go.X
open Go.Proofs
theorem JobsK.inTo {l : List (Value × PJob)} {K : PHeap} (aL : JobsK l K) {w : List Int} {r : Int} {n : Nat} (hn : n ≤ l.length) : JobsK (inTo l w r n) K := fun i hi => by
 obtain ⟨j, hj, _, he⟩ := inTo_mem (getD_mem hi)
 rw [he]; exact aL j (by omega)
theorem in_mem {l : List (Value × PJob)} {w : List Int} {r : Int} (n : Nat) : (inTo l w r n).map Prod.snd = inTo (l.map Prod.snd) w r n := inTo_map Prod.snd l w r rfl n
theorem in_spec (l : List (Value × PJob)) (vl : Value) (hl K : PHeap) [jl : Arr vl encPJ 6 hl l] (aL : JobsK l K) (rs : List PRack) (vr : Value) (hr : PHeap) [jr : Arr vr encRack 5 hr rs] (m : PRat) (w : List Int) (vw : Value) (hw : PHeap) [jw : Arr vw encI 1 hw w] (r : Int) (hwl : w.length ≤ l.length) (few : w.length ≤ 1000) : Spec Tryz.prog 69 #[.agg #[vl, vr, .int .i64 m.n, .int .i64 m.d], vw, .int .i64 r] [] [hl, K, hr, hw] (fun v hs => ∃ k, hs = [k] ∧ OArr v encPJ 6 41 k (inTo l w r w.length)) := by
 have nP : OArr (.slice none 0 0) encPJ 6 41 emp ([] : List (Value × PJob)) := OArr.nil (fun _ => rfl)
 refine Spec.intro (fn := Tryz.f69) (N := 30) Tryz.func69 rfl Tryz.ntmps69 rfl fun B => ?_
 refine XK.seq (XK.region rfl ?_)
 refine XO.box rfl fun b3 => ?_
 refine XO.q (Q.assign rfl) (XO.done (XK.seq (XK.region rfl (XO.q (Q.assign rfl) (XO.done ?_)))))
 refine XK.seq (XK.seq (XK.region rfl (XO.q (Q.move rfl) ?_)))
 refine XO.len rfl fun l11 => ?_
 refine XO.q (Q.move rfl) (XO.done (XK.block ?_))
 refine XK.while (X := Nat × Value × PHeap) [7, 8, 9, 12, 13, 14, 15, 16, 17, 18, 19, 20, 21, 22, 23, 24, 25, 26, 27, 28] (fun ⟨i, vo, ho⟩ => [(12, some (.int .i64 (i : Nat))), (7, some (vo))]) (fun ⟨i, vo, ho⟩ => [ho]) (fun ⟨i, vo, ho⟩ => i ≤ w.length ∧ OArr vo encPJ 6 41 ho (inTo l w r i)) (fun ⟨i, vo, ho⟩ => w.length - i) (0, .slice none 0 0, emp) [emp] rfl ⟨by omega, nP⟩ (.c rfl (.c rfl (.base 0 rfl rfl))) ?_
 rintro ⟨i, vo, ho⟩ ⟨hi, OV⟩ ih0
 dsimp only [lcA, lnA] at ih0 ⊢
 refine XK.seq (XK.region rfl ?_)
 refine XO.q (Q.lss rfl rfl) ?_
 refine XO.done (XK.seq ?_)
 refine XK.if rfl (fun c0 => ?_) (fun c0 => ?_)
 ·skip
  have ai := aL i (by omega)
  refine XK.skip (XK.seq (XK.block (XK.seq (XK.region rfl (XO.q (Q.move rfl) ?_)))))
  refine XO.ix rfl rfl (by omega) (by omega) fun i15 => ?_
  refine XO.q (Q.ldE rfl (by first | assumption | omega) rfl) ?_
  refine XO.q (Q.assign rfl) (XO.q (Q.assign rfl) (XO.done (XK.seq (XK.region rfl (XO.q (Q.move rfl) ?_)))))
  refine XO.q (Q.move rfl) ?_
  refine XO.q (Q.eql rfl rfl) ?_
  refine XO.done ?_
  refine XK.if rfl (fun c1 => ?_) (fun c1 => ?_)
  ·skip
   refine XK.region rfl (XO.q (Q.move rfl) ?_)
   refine XO.q (Q.fieldAddr rfl) ?_
   refine XO.q (Q.ld rfl rfl) ?_
   refine XO.q (Q.move rfl) ?_
   refine XO.ix rfl rfl (by omega) (by omega) fun i24 => ?_
   refine XO.q (Q.ldEA [_, _, _, _, _, _] rfl (by first | assumption | omega) rfl rfl) ?_
   refine XO.lit [_, _, _, _, _, _] [_, _, _, _, _, _] [l.getD i default] encPJ (by rfl) (by rfl) rfl (by rfl) (by exact .c 0 6 rfl rfl rfl (.n _)) (fun _ => rfl) (by rfl) rfl (by infer_instance) rfl fun v26 h26 O26 => ?_
   refine XO.append rfl rfl rfl rfl (by have := inTo_len l w r i; simp only [List.length_cons, List.length_nil]; omega) fun v27 h27 O27 => ?_
   refine XO.q (Q.assign rfl) (XO.done ?_)
   refine XK.inBlock ?_
   refine XK.region rfl ?_
   refine XO.q (Q.add rfl rfl ⟨by omega, by omega⟩) ?_
   refine XO.q (Q.move rfl) (XO.done ?_)
   exact ih0 (i + 1, v27, h27) _ _ ⟨by dsimp only; omega, by dsimp only; rw [inTo, if_pos c1]; exact O27⟩ (by first | omega | (dsimp only; omega)) (.c rfl (.c rfl (.base 42 rfl rfl))) inferInstance
  ·skip
   refine XK.skip ?_
   refine XK.inBlock ?_
   refine XK.region rfl ?_
   refine XO.q (Q.add rfl rfl ⟨by omega, by omega⟩) ?_
   refine XO.q (Q.move rfl) (XO.done ?_)
   exact ih0 (i + 1, vo, ho) _ _ ⟨by dsimp only; omega, by dsimp only; rw [inTo, if_neg c1, List.append_nil]; exact OV⟩ (by first | omega | (dsimp only; omega)) (.c rfl (.c rfl (.base 33 rfl rfl))) inferInstance
 ·skip
  have hil : i = w.length := by omega
  subst hil
  refine XK.exit rfl ?_
  refine XK.seq (XK.region rfl (XO.q (Q.move rfl) (XO.q (Q.assign rfl) (XO.done ?_))))
  refine XK.rt [ho] Tryz.func69 Tryz.results69 (.t rfl .n) ?_
  exact ⟨ho, rfl, OV⟩
theorem worth_spec (l : List (Value × PJob)) (vl : Value) (hl K : PHeap) [jl : Arr vl encPJ 6 hl l] (aL : JobsK l K) (rs : List PRack) (vr : Value) (hr : PHeap) [jr : Arr vr encRack 5 hr rs] (m : PRat) (w : List Int) (vw : Value) (hw : PHeap) [jw : Arr vw encI 1 hw w] (ok : TaskOk (⟨(l.map Prod.snd), rs, m⟩ : PTask)) (hwl : w.length ≤ l.length) : Spec Tryz.prog 74 #[.agg #[vl, vr, .int .i64 m.n, .int .i64 m.d], vw] [] [hl, K, hr, hw] (fun v hs => v = .int .i64 (worthG (⟨(l.map Prod.snd), rs, m⟩ : PTask) w) ∧ hs = []) := by
 have ll := jl.le
 have lm : (l.map Prod.snd).length = l.length := List.length_map ..
 have few := ok.few
 have few2 : l.length ≤ 8 := by rw [← lm]; exact few
 refine Spec.intro (fn := Tryz.f74) (N := 27) Tryz.func74 rfl Tryz.ntmps74 rfl fun B => ?_
 refine XK.seq (XK.region rfl ?_)
 refine XO.box rfl fun b2 => ?_
 refine XO.q (Q.assign rfl) (XO.done (XK.seq (XK.region rfl (XO.q (Q.assign rfl) (XO.done ?_)))))
 refine XK.seq (XK.seq (XK.region rfl (XO.q (Q.move rfl) ?_)))
 refine XO.len rfl fun l9 => ?_
 refine XO.q (Q.move rfl) (XO.done (XK.block ?_))
 refine XK.while (X := Nat) [5, 6, 7, 10, 11, 12, 13, 14, 15, 16, 17, 18, 19, 20, 21, 22, 23, 24, 25] (fun i => [(10, some (.int .i64 (i : Nat))), (5, some (.int .i64 (worthTo (⟨(l.map Prod.snd), rs, m⟩ : PTask) w i)))]) (fun i => []) (fun i => i ≤ w.length) (fun i => w.length - i) (0) [] rfl (by omega) (.c rfl (.c rfl (.base 0 rfl rfl))) ?_
 rintro i hi ih0
 dsimp only [lcA, lnA] at ih0 ⊢
 refine XK.seq (XK.region rfl ?_)
 refine XO.q (Q.lss rfl rfl) ?_
 refine XO.done (XK.seq ?_)
 refine XK.if rfl (fun c0 => ?_) (fun c0 => ?_)
 ·skip
  have wr := worth_rng ok (w := w) i (by dsimp only; omega)
  have ji := map_snd_atP l i
  have wj := (ok.job i (by dsimp only; omega)).wor
  dsimp only at wj
  rw [ji] at wj
  refine XK.skip (XK.seq (XK.block (XK.seq (XK.region rfl (XO.q (Q.move rfl) ?_)))))
  refine XO.ix rfl rfl (by omega) (by omega) fun i13 => ?_
  refine XO.q (Q.ldE rfl (by first | assumption | omega) rfl) ?_
  refine XO.q (Q.assign rfl) (XO.q (Q.assign rfl) (XO.done (XK.seq (XK.region rfl (XO.q (Q.move rfl) ?_)))))
  refine XO.q (Q.geq rfl rfl) ?_
  refine XO.done ?_
  refine XK.if rfl (fun c1 => ?_) (fun c1 => ?_)
  ·skip
   have e1 : worthTo (⟨(l.map Prod.snd), rs, m⟩ : PTask) w (i + 1) = worthTo (⟨(l.map Prod.snd), rs, m⟩ : PTask) w i + (l.getD i default).2.worth := by rw [worthTo, if_pos (by omega)]; dsimp only; rw [ji]
   refine XK.region rfl (XO.q (Q.move rfl) ?_)
   refine XO.q (Q.fieldAddr rfl) ?_
   refine XO.q (Q.ld rfl rfl) ?_
   refine XO.q (Q.move rfl) ?_
   refine XO.ix rfl rfl (by omega) (by omega) fun i21 => ?_
   refine XO.q (Q.fieldQ rfl (by first | assumption | omega)) ?_
   refine XO.q (Q.ldE rfl (by first | assumption | omega) rfl) ?_
   refine XO.q (Q.add rfl rfl ⟨by omega, by omega⟩) ?_
   refine XO.q (Q.assign rfl) (XO.done ?_)
   refine XK.inBlock ?_
   refine XK.region rfl ?_
   refine XO.q (Q.add rfl rfl ⟨by omega, by omega⟩) ?_
   refine XO.q (Q.move rfl) (XO.done ?_)
   rw [← e1]
   exact ih0 (i + 1) _ _ (by omega) (by first | omega | (dsimp only; omega)) (.c rfl (.c rfl (.base 40 rfl rfl))) inferInstance
  ·skip
   have e1 : worthTo (⟨(l.map Prod.snd), rs, m⟩ : PTask) w (i + 1) = worthTo (⟨(l.map Prod.snd), rs, m⟩ : PTask) w i := by rw [worthTo, if_neg (by omega), Int.add_zero]
   refine XK.skip ?_
   refine XK.inBlock ?_
   refine XK.region rfl ?_
   refine XO.q (Q.add rfl rfl ⟨by omega, by omega⟩) ?_
   refine XO.q (Q.move rfl) (XO.done ?_)
   rw [← e1]
   exact ih0 (i + 1) _ _ (by omega) (by first | omega | (dsimp only; omega)) (.c rfl (.c rfl (.base 31 rfl rfl))) inferInstance
 ·skip
  have hil : i = w.length := by omega
  subst hil
  refine XK.exit rfl ?_
  refine XK.seq (XK.region rfl (XO.q (Q.move rfl) (XO.q (Q.assign rfl) (XO.done ?_))))
  refine XK.rt [] Tryz.func74 Tryz.results74 (.t rfl .n) ?_
  exact ⟨rfl, rfl⟩
theorem cut_at {l : List (Value × PJob)} {n k : Nat} (hk : k < l.length - n) : ((l.drop n).take (l.length - n)).getD k default = l.getD (n + k) default := by
 rw [List.getD_eq_getElem?_getD, List.getElem?_take, if_pos hk, List.getElem?_drop, ← List.getD_eq_getElem?_getD]
theorem hope_spec (l : List (Value × PJob)) (vl : Value) (hl K : PHeap) [jl : Arr vl encPJ 6 hl l] (aL : JobsK l K) (rs : List PRack) (vr : Value) (hr : PHeap) [jr : Arr vr encRack 5 hr rs] (m : PRat) (w : List Int) (vw : Value) (hw : PHeap) [jw : Arr vw encI 1 hw w] (ok : TaskOk (⟨(l.map Prod.snd), rs, m⟩ : PTask)) (hwl : w.length ≤ l.length) : Spec Tryz.prog 73 #[.agg #[vl, vr, .int .i64 m.n, .int .i64 m.d], vw] [] [hl, K, hr, hw] (fun v hs => v = .int .i64 (hopeG (⟨(l.map Prod.snd), rs, m⟩ : PTask) w) ∧ hs = []) := by
 have ll := jl.le
 have lm : (l.map Prod.snd).length = l.length := List.length_map ..
 have few := ok.few
 have few2 : l.length ≤ 8 := by rw [← lm]; exact few
 have wr := worth_rng ok (w := w) w.length (by dsimp only; omega)
 have lc : ((l.drop w.length).take (l.length - w.length)).length = l.length - w.length := by rw [List.length_take, List.length_drop]; omega
 refine Spec.intro (fn := Tryz.f73) (N := 27) Tryz.func73 rfl Tryz.ntmps73 rfl fun B => ?_
 refine XK.seq (XK.region rfl ?_)
 refine XO.box rfl fun b2 => ?_
 refine XO.q (Q.assign rfl) (XO.done (XK.seq (XK.region rfl ?_)))
 refine XO.q (Q.ldA [_, _, _, _] rfl rfl rfl) ?_
 refine XO.q (Q.move rfl) ?_
 refine XO.call Tryz.call74 rfl rfl rfl (worth_spec l vl hl K aL rs vr hr m w vw hw ok hwl) fun v10 s10 R10 => ?_
 obtain ⟨rfl, rfl⟩ := R10
 dsimp only [lcA, lnA]
 rw [show worthG (⟨(l.map Prod.snd), rs, m⟩ : PTask) w = worthG (⟨(l.map Prod.snd), rs, m⟩ : PTask) w + restTo (⟨(l.map Prod.snd), rs, m⟩ : PTask) w.length 0 by rw [restTo, Int.add_zero]]
 refine XO.q (Q.assign rfl) (XO.done (XK.seq (XK.seq (XK.region rfl ?_))))
 refine XO.q (Q.fieldAddr rfl) ?_
 refine XO.q (Q.ld rfl rfl) ?_
 refine XO.q (Q.move rfl) ?_
 refine XO.len rfl fun l14 => ?_
 refine XO.cut (i := w.length) (j := l.length) rfl (.s rfl (by omega)) .n (by omega) (by omega) fun v15 A15 => ?_
 refine XO.len rfl fun l16 => ?_
 refine XO.q (Q.move rfl) (XO.done (XK.block ?_))
 refine XK.while (X := Nat) [5, 7, 17, 18, 19, 20, 21, 22, 23, 24, 25] (fun i => [(17, some (.int .i64 (i : Nat))), (5, some (.int .i64 (worthG (⟨(l.map Prod.snd), rs, m⟩ : PTask) w + restTo (⟨(l.map Prod.snd), rs, m⟩ : PTask) w.length i)))]) (fun i => []) (fun i => i ≤ l.length - w.length) (fun i => l.length - w.length - i) (0) [] rfl (by omega) (.c rfl (.c rfl (.base 0 rfl rfl))) ?_
 rintro i hi ih0
 dsimp only [lcA, lnA] at ih0 ⊢
 refine XK.seq (XK.region rfl ?_)
 refine XO.q (Q.lss rfl rfl) ?_
 refine XO.done (XK.seq ?_)
 refine XK.if rfl (fun c0 => ?_) (fun c0 => ?_)
 ·skip
  have rr := rest_rng ok (n := w.length) i (by dsimp only; omega)
  have ji := map_snd_atP l (w.length + i)
  have ca := cut_at (l := l) (n := w.length) (k := i) (by omega)
  have ai := aL (w.length + i) (by omega)
  rw [← ca] at ai
  have wj := (ok.job (w.length + i) (by dsimp only; omega)).wor
  dsimp only at wj
  rw [ji] at wj
  have e1 : restTo (⟨(l.map Prod.snd), rs, m⟩ : PTask) w.length (i + 1) = restTo (⟨(l.map Prod.snd), rs, m⟩ : PTask) w.length i + (l.getD (w.length + i) default).2.worth := by rw [restTo]; dsimp only; rw [ji]
  rw [← ca] at wj e1
  have wg : worthG (⟨(l.map Prod.snd), rs, m⟩ : PTask) w = worthTo (⟨(l.map Prod.snd), rs, m⟩ : PTask) w w.length := rfl
  refine XK.skip (XK.seq (XK.block (XK.seq (XK.region rfl ?_))))
  refine XO.ix rfl rfl (by omega) (by omega) fun i19 => ?_
  refine XO.q (Q.ldEA [_, _, _, _, _, _] rfl (by first | assumption | omega) rfl rfl) ?_
  refine XO.alloc fun b7 => ?_
  refine XO.st rfl rfl rfl ?_
  refine XO.done (XK.region rfl (XO.q (Q.move rfl) ?_))
  refine XO.q (Q.fieldAddr rfl) ?_
  refine XO.q (Q.ld rfl rfl) ?_
  refine XO.q (Q.add rfl rfl ⟨by omega, by omega⟩) ?_
  refine XO.q (Q.assign rfl) (XO.done ?_)
  refine XK.inBlock ?_
  refine XK.region rfl ?_
  refine XO.q (Q.add rfl rfl ⟨by omega, by omega⟩) ?_
  refine XO.q (Q.move rfl) (XO.done ?_)
  rw [show worthG (⟨(l.map Prod.snd), rs, m⟩ : PTask) w + restTo (⟨(l.map Prod.snd), rs, m⟩ : PTask) w.length i + ((((l.drop w.length).take (l.length - w.length))).getD i default).2.worth = worthG (⟨(l.map Prod.snd), rs, m⟩ : PTask) w + restTo (⟨(l.map Prod.snd), rs, m⟩ : PTask) w.length (i + 1) by rw [e1]; omega]
  exact ih0 (i + 1) _ _ (by omega) (by first | omega | (dsimp only; omega)) (.c rfl (.c rfl (.base 24 rfl rfl))) inferInstance
 ·skip
  have hil : i = l.length - w.length := by omega
  subst hil
  refine XK.exit rfl ?_
  refine XK.seq (XK.region rfl (XO.q (Q.move rfl) (XO.q (Q.assign rfl) (XO.done ?_))))
  refine XK.rt [] Tryz.func73 Tryz.results73 (.t rfl .n) ?_
  exact ⟨by rw [hopeG]; dsimp only; rw [lm], rfl⟩
theorem ready_spec (l : List (Value × PJob)) (vl : Value) (hl K : PHeap) [jl : Arr vl encPJ 6 hl l] (aL : JobsK l K) (rs : List PRack) (vr : Value) (hr : PHeap) [jr : Arr vr encRack 5 hr rs] (m : PRat) : Spec Tryz.prog 71 #[.agg #[vl, vr, .int .i64 m.n, .int .i64 m.d]] [] [hl, K, hr] (fun v hs => v = .int .i64 (readyG (⟨(l.map Prod.snd), rs, m⟩ : PTask)) ∧ hs = []) := by
 refine Spec.intro (fn := Tryz.f71) (N := 18) Tryz.func71 rfl Tryz.ntmps71 rfl fun B => ?_
 refine XK.seq (XK.region rfl ?_)
 refine XO.box rfl fun b1 => ?_
 refine XO.q (Q.assign rfl) (XO.done (XK.seq (XK.seq (XK.region rfl ?_))))
 refine XO.q (Q.ldA [_, _, _, _] rfl rfl rfl) ?_
 refine XO.call Tryz.call19 rfl rfl rfl (Check_spec l vl hl K aL rs vr hr m) fun v7 s7 R7 => ?_
 obtain ⟨rfl, rfl⟩ := R7
 dsimp only [lcA, lnA]
 refine XO.q (Q.assign rfl) (XO.done (XK.seq (XK.region rfl (XO.q (Q.move rfl) ?_))))
 refine XO.q (Q.neq rfl rfl) ?_
 refine XO.done ?_
 refine XK.if rfl (fun c0 => ?_) (fun c0 => ?_)
 ·skip
  refine XK.seq (XK.region rfl (XO.q (Q.move rfl) (XO.q (Q.assign rfl) (XO.done ?_))))
  refine XK.rt [] Tryz.func71 Tryz.results71 (.t rfl .n) ?_
  exact ⟨by rw [readyG, if_pos c0], rfl⟩
 ·skip
  refine XK.skip (XK.seq (XK.region rfl ?_))
  refine XO.q (Q.fieldAddr rfl) ?_
  refine XO.q (Q.ld rfl rfl) ?_
  refine XO.call Tryz.call85 rfl rfl rfl (listed_spec l vl hl K aL) fun v14 s14 R14 => ?_
  obtain ⟨rfl, rfl⟩ := R14
  dsimp only [lcA, lnA]
  refine XO.q (Q.move rfl) ?_
  refine XO.q (Q.extract rfl rfl) ?_
  refine XO.q (Q.extract rfl rfl) ?_
  refine XO.q (Q.assign rfl) (XO.q (Q.assign rfl) (XO.done (XK.seq (XK.region rfl (XO.q (Q.move rfl) ?_)))))
  refine XO.q (Q.assign rfl) (XO.done ?_)
  refine XK.rt [] Tryz.func71 Tryz.results71 (.t rfl .n) ?_
  exact ⟨by rw [readyG, if_neg c0], rfl⟩
theorem formed1 (l : List (Value × PJob)) (vl : Value) (hl K : PHeap) [jl : Arr vl encPJ 6 hl l] (aL : JobsK l K) (rs : List PRack) (vr : Value) (hr : PHeap) [jr : Arr vr encRack 5 hr rs] (m : PRat) (x : Int) (b : Nat) : Spec Tryz.prog 104 #[.int .i64 x, ptr b 0] [] [blk b [vl, vr, .int .i64 m.n, .int .i64 m.d] 27, hl, K, hr] (fun v hs => v = .bool (outW (⟨(l.map Prod.snd), rs, m⟩ : PTask) x) ∧ hs = []) := by
 refine Spec.intro (fn := Tryz.f104) (N := 13) Tryz.func104 rfl Tryz.ntmps104 rfl fun B => ?_
 refine XK.seq (XK.region rfl (XO.q (Q.assign rfl) (XO.done (XK.seq (XK.region rfl ?_)))))
 refine XO.q (Q.move rfl) ?_
 refine XO.q (Q.lss rfl rfl) ?_
 refine XO.q (Q.move rfl) ?_
 refine XO.q (Quiet.guardF rfl rfl fun g7 p7 => Q.move rfl) ?_
 refine XO.q (Quiet.guardF rfl rfl fun g8 p8 => Q.fieldAddr rfl) ?_
 refine XO.q (Quiet.guardF rfl rfl fun g9 p9 => Q.ld (lzv g9 rfl) rfl) ?_
 refine XO.q (Quiet.guardF rfl rfl fun g10 p10 => Q.len (lzv g10 rfl)) ?_
 refine XO.q (Quiet.guardF rfl rfl fun g11 p11 => Q.geq (lzv g11 rfl) (lzv g11 rfl)) ?_
 refine XO.q (Q.or rfl (fun hp => lzv hp rfl)) ?_
 refine XO.q (Q.assign rfl) (XO.done ?_)
 refine XK.rt [] Tryz.func104 Tryz.results104 (.t rfl .n) ?_
 exact ⟨rfl, rfl⟩
theorem formed_spec (l : List (Value × PJob)) (vl : Value) (hl K : PHeap) [jl : Arr vl encPJ 6 hl l] (aL : JobsK l K) (rs : List PRack) (vr : Value) (hr : PHeap) [jr : Arr vr encRack 5 hr rs] (m : PRat) (w : List Int) (vw : Value) (hw : PHeap) [jw : Arr vw encI 1 hw w] : Spec Tryz.prog 65 #[.agg #[vl, vr, .int .i64 m.n, .int .i64 m.d], vw] [] [hl, K, hr, hw] (fun v hs => v = .int .i64 (formedG (⟨(l.map Prod.snd), rs, m⟩ : PTask) w) ∧ hs = []) := by
 have lm : (l.map Prod.snd).length = l.length := List.length_map ..
 refine Spec.intro (fn := Tryz.f65) (N := 43) Tryz.func65 rfl Tryz.ntmps65 rfl fun B => ?_
 refine XK.seq (XK.region rfl ?_)
 refine XO.box rfl fun b2 => ?_
 refine XO.q (Q.assign rfl) (XO.done (XK.seq (XK.seq (XK.region rfl ?_))))
 refine XO.q (Q.ldA [_, _, _, _] rfl rfl rfl) ?_
 refine XO.call Tryz.call19 rfl rfl rfl (Check_spec l vl hl K aL rs vr hr m) fun v10 s10 R10 => ?_
 obtain ⟨rfl, rfl⟩ := R10
 dsimp only [lcA, lnA]
 refine XO.q (Q.assign rfl) (XO.done (XK.seq (XK.region rfl (XO.q (Q.move rfl) ?_))))
 refine XO.q (Q.neq rfl rfl) ?_
 refine XO.done ?_
 refine XK.if rfl (fun c0 => ?_) (fun c0 => ?_)
 ·skip
  refine XK.seq (XK.region rfl (XO.q (Q.move rfl) (XO.q (Q.assign rfl) (XO.done ?_))))
  refine XK.rt [] Tryz.func65 Tryz.results65 (.t rfl .n) ?_
  exact ⟨by rw [formedG, if_pos c0], rfl⟩
 ·skip
  have tk := pcheck_iff.1 (Decidable.of_not_not c0)
  have few := tk.few
  have rk5 := tk.rk5
  dsimp only at few rk5
  refine XK.skip (XK.seq (XK.seq (XK.region rfl (XO.q (Q.move rfl) ?_))))
  refine XO.len rfl fun l15 => ?_
  refine XO.q (Q.fieldAddr rfl) ?_
  refine XO.q (Q.ld rfl rfl) ?_
  refine XO.len rfl fun l18 => ?_
  refine XO.q (Q.neq rfl rfl) ?_
  refine XO.q (Q.move rfl) ?_
  refine XO.q (Quiet.guardF rfl rfl fun g21 p21 => Q.move rfl) ?_
  refine XO.q (Quiet.guardF rfl rfl fun g22 p22 => Q.func (fun _ he => rfl) (fun _ he => evs_rel he rfl)) ?_
  refine XO.gcallF rfl rfl Tryz.call103 rfl (fun g23 => .c (lzv g23 rfl) (.c (lzv g23 rfl) .n)) rfl (fun g23 p23 => containsFuncI vw hw w 104 [ptr b2 0] [blk b2 [vl, vr, .int .i64 m.n, .int .i64 m.d] 27, hl, K, hr] (outW (⟨(l.map Prod.snd), rs, m⟩ : PTask)) Tryz.call104 (fun x hx => formed1 l vl hl K aL rs vr hr m x b2)) ?_
  refine XO.q (Q.or rfl (fun hp => lzv hp rfl)) ?_
  refine XO.done ?_
  refine XK.if rfl (fun c1 => ?_) (fun c1 => ?_)
  ·skip
   refine XK.seq (XK.region rfl (XO.q (Q.assign rfl) (XO.done ?_)))
   refine XK.rt [] Tryz.func65 Tryz.results65 (.t rfl .n) ?_
   exact ⟨by rw [formedG, if_neg c0, if_pos (by dsimp only; rw [lm]; exact c1)], rfl⟩
  ·skip
   rw [not_or] at c1
   have hwl : w.length = l.length := by omega
   refine XK.skip (XK.seq (XK.seq (XK.region rfl ?_)))
   refine XO.q (Q.fieldAddr rfl) ?_
   refine XO.q (Q.ld rfl rfl) ?_
   refine XO.len rfl fun l27 => ?_
   refine XO.q (Q.move rfl) (XO.done (XK.block ?_))
   refine XK.while (X := Nat) [4, 6, 7, 8, 28, 29, 30, 31, 32, 33, 34, 35, 36, 37, 38, 39, 40, 41, 42] (fun r => [(28, some (.int .i64 (r : Nat)))]) (fun r => []) (fun r => r ≤ rs.length ∧ refTo (⟨(l.map Prod.snd), rs, m⟩ : PTask) w r = 0) (fun r => rs.length - r) (0) [] rfl ⟨by omega, rfl⟩ (.c rfl (.base 0 rfl rfl)) ?_
   rintro r ⟨hr_, rz⟩ ih0
   dsimp only [lcA, lnA] at ih0 ⊢
   refine XK.seq (XK.region rfl ?_)
   refine XO.q (Q.lss rfl rfl) ?_
   refine XO.done (XK.seq ?_)
   refine XK.if rfl (fun c2 => ?_) (fun c2 => ?_)
   ·skip
    refine XK.skip (XK.seq (XK.block (XK.seq (XK.region rfl (XO.q (Q.move rfl) ?_)))))
    refine XO.q (Q.assign rfl) (XO.done (XK.seq (XK.region rfl ?_)))
    refine XO.q (Q.ldA [_, _, _, _] rfl rfl rfl) ?_
    refine XO.q (Q.move rfl) (XO.q (Q.move rfl) ?_)
    refine XO.call Tryz.call69 rfl rfl rfl (in_spec l vl hl K aL rs vr hr m w vw hw (r : Nat) (by omega) (by omega)) fun v35 s35 R35 => ?_
    obtain ⟨k35, rfl, O35⟩ := R35
    dsimp only [lcA, lnA]
    refine XO.call Tryz.call85 rfl rfl rfl (listed_spec (inTo l w (r : Nat) w.length) v35 k35 K (aL.inTo (by omega))) fun v36 s36 R36 => ?_
    obtain ⟨rfl, rfl⟩ := R36
    dsimp only [lcA, lnA]
    rw [in_mem]
    refine XO.q (Q.move rfl) ?_
    refine XO.q (Q.extract rfl rfl) ?_
    refine XO.q (Q.extract rfl rfl) ?_
    refine XO.q (Q.assign rfl) (XO.q (Q.assign rfl) (XO.done (XK.seq (XK.region rfl (XO.q (Q.move rfl) ?_)))))
    refine XO.q (Q.neq rfl rfl) ?_
    refine XO.done ?_
    refine XK.if rfl (fun c3 => ?_) (fun c3 => ?_)
    ·skip
     refine XK.seq (XK.region rfl (XO.q (Q.move rfl) (XO.q (Q.assign rfl) (XO.done ?_))))
     refine XK.rt [] Tryz.func65 Tryz.results65 (.t rfl .n) ?_
     have e1 : refTo (⟨(l.map Prod.snd), rs, m⟩ : PTask) w (r + 1) = (listedG (inTo (l.map Prod.snd) w (r : Nat) w.length)).2 := by rw [refTo, if_neg (by rw [rz]; decide)]; rfl
     have e2 := refTo_keep (t := (⟨(l.map Prod.snd), rs, m⟩ : PTask)) (w := w) (n := r + 1) (by rw [e1]; exact c3) rs.length (by omega)
     exact ⟨by rw [formedG, if_neg c0, if_neg (by dsimp only; rw [lm, not_or]; exact c1)]; dsimp only; rw [e2, e1], rfl⟩
    ·skip
     refine XK.skip ?_
     refine XK.inBlock ?_
     refine XK.region rfl ?_
     refine XO.q (Q.add rfl rfl ⟨by omega, by omega⟩) ?_
     refine XO.q (Q.move rfl) (XO.done ?_)
     exact ih0 (r + 1) _ _ ⟨by omega, by rw [refTo, if_neg (by rw [rz]; decide)]; exact Decidable.of_not_not c3⟩ (by first | omega | (dsimp only; omega)) (.c rfl (.base 37 rfl rfl)) inferInstance
   ·skip
    have hrl : r = rs.length := by omega
    subst hrl
    refine XK.exit rfl ?_
    refine XK.seq (XK.region rfl (XO.q (Q.assign rfl) (XO.done ?_)))
    refine XK.rt [] Tryz.func65 Tryz.results65 (.t rfl .n) ?_
    exact ⟨by rw [formedG, if_neg c0, if_neg (by dsimp only; rw [lm, not_or]; exact c1)]; dsimp only; rw [rz], rfl⟩
end Go.X

set_option linter.unusedSimpArgs false
set_option linter.unusedVariables false
set_option maxRecDepth 20000
namespace Go.X
open Go.Proofs
def inR (x lo hi : Int) : Bool := decide (lo ≤ x) && decide (x ≤ hi)
theorem inR_iff {x lo hi : Int} : inR x lo hi = true ↔ lo ≤ x ∧ x ≤ hi := by unfold inR; rw [Bool.and_eq_true, decide_eq_true_eq, decide_eq_true_eq]
theorem rin_spec (x lo hi : Int) : Spec Tryz.prog 61 #[.int .i64 x, .int .i64 lo, .int .i64 hi] [] [] (fun v hs => v = .bool (inR x lo hi) ∧ hs = []) := by
 refine Spec.intro (fn := Tryz.f61) (N := 15) Tryz.func61 rfl Tryz.ntmps61 rfl fun B => ?_
 refine XK.seq (XK.region rfl (XO.q (Q.assign rfl) (XO.done (XK.seq (XK.region rfl ?_)))))
 refine XO.q (Q.move rfl) (XO.q (Q.move rfl) ?_)
 refine XO.q (Q.geq rfl rfl) ?_
 refine XO.q (Q.move rfl) ?_
 refine XO.q (Quiet.guardT rfl rfl fun g11 p11 => Q.move rfl) ?_
 refine XO.q (Quiet.guardT rfl rfl fun g12 p12 => Q.move rfl) ?_
 refine XO.q (Quiet.guardT rfl rfl fun g13 p13 => Q.leq (lzv g13 rfl) (lzv g13 rfl)) ?_
 refine XO.q (Q.and rfl (fun hp => lzv hp rfl)) ?_
 refine XO.q (Q.assign rfl) (XO.done ?_)
 refine XK.rt [] Tryz.func61 Tryz.results61 (.t rfl .n) ?_
 exact ⟨rfl, rfl⟩
theorem rtotal_spec (j : PJob) (vd : Value) (hd : PHeap) [id_ : Arr vd encDraw 2 hd j.draws] (ok : PJobOk j) : Spec Tryz.prog 112 #[.agg #[.int .i64 j.n0, .int .i64 j.n1, .int .i64 j.n2, vd, .int .i64 j.group, .int .i64 j.worth]] [] [hd] (fun v hs => v = .int .i64 (totalJ j) ∧ hs = []) := by
 have few := ok.few
 refine Spec.intro (fn := Tryz.f112) (N := 21) Tryz.func112 rfl Tryz.ntmps112 rfl fun B => ?_
 refine XK.seq (XK.region rfl ?_)
 refine XO.box rfl fun b1 => ?_
 refine XO.q (Q.assign rfl) (XO.done (XK.seq (XK.region rfl (XO.q (Q.assign rfl) (XO.done ?_)))))
 refine XK.seq (XK.seq (XK.region rfl (XO.q (Q.assign rfl) (XO.done (XK.block ?_)))))
 refine XK.while (X := Nat) [3, 4, 5, 6, 7, 8, 9, 10, 11, 12, 13, 14, 15, 16, 17, 18, 19] (fun k => [(4, some (.int .i64 (k : Nat))), (3, some (.int .i64 (cntTo j k)))]) (fun k => []) (fun k => k ≤ j.draws.length) (fun k => j.draws.length - k) (0) [] rfl (by omega) (.c rfl (.c rfl (.base 0 rfl rfl))) ?_
 rintro k hk ih0
 dsimp only [lcA, lnA] at ih0 ⊢
 refine XK.seq (XK.seq (XK.region rfl (XO.q (Q.move rfl) ?_)))
 refine XO.q (Q.fieldAddr rfl) ?_
 refine XO.q (Q.ld rfl rfl) ?_
 refine XO.len rfl fun l8 => ?_
 refine XO.q (Q.lss rfl rfl) ?_
 refine XO.done ?_
 refine XK.if rfl (fun c0 => ?_) (fun c0 => ?_)
 ·skip
  have ct := cntTo_rng ok k (by omega)
  have dk := ok.draw k (by omega)
  unfold DrawOk at dk
  refine XK.skip (XK.seq (XK.block (XK.region rfl (XO.q (Q.move rfl) ?_))))
  refine XO.q (Q.fieldAddr rfl) ?_
  refine XO.q (Q.ld rfl rfl) ?_
  refine XO.q (Q.move rfl) ?_
  refine XO.ix rfl rfl (by omega) (by omega) fun i16 => ?_
  refine XO.q (Q.fieldQ rfl (by first | assumption | omega)) ?_
  refine XO.q (Q.ldE rfl (by first | assumption | omega) rfl) ?_
  refine XO.q (Q.add rfl rfl ⟨by omega, by omega⟩) ?_
  refine XO.q (Q.assign rfl) (XO.done ?_)
  refine XK.inBlock ?_
  refine XK.region rfl (XO.q (Q.move rfl) ?_)
  refine XO.q (Q.add rfl rfl ⟨by omega, by omega⟩) ?_
  refine XO.q (Q.assign rfl) (XO.done ?_)
  rw [← cntTo_succ (by omega)]
  exact ih0 (k + 1) _ _ (by omega) (by first | omega | (dsimp only; omega)) (.c rfl (.c rfl (.base 36 rfl rfl))) inferInstance
 ·skip
  have hk2 : k = j.draws.length := by omega
  subst hk2
  rw [cntTo_all]
  refine XK.exit rfl ?_
  refine XK.seq (XK.region rfl (XO.q (Q.move rfl) (XO.q (Q.assign rfl) (XO.done ?_))))
  refine XK.rt [] Tryz.func112 Tryz.results112 (.t rfl .n) ?_
  exact ⟨rfl, rfl⟩
set_option maxHeartbeats 2000000 in
theorem rightJ_spec (j : PJob) (vd : Value) (hd : PHeap) [id_ : Arr vd encDraw 2 hd j.draws] : Spec Tryz.prog 62 #[.agg #[.int .i64 j.n0, .int .i64 j.n1, .int .i64 j.n2, vd, .int .i64 j.group, .int .i64 j.worth]] [] [hd] (fun v hs => v = .bool (jobR j) ∧ hs = []) := by
 refine Spec.intro (fn := Tryz.f62) (N := 60) Tryz.func62 rfl Tryz.ntmps62 rfl fun B => ?_
 refine XK.seq (XK.region rfl ?_)
 refine XO.box rfl fun b1 => ?_
 refine XO.q (Q.assign rfl) (XO.done (XK.seq (XK.seq (XK.region rfl (XO.q (Q.assign rfl) ?_)))))
 refine XO.done (XK.block ?_)
 refine XK.loop' ?_
 refine XK.seq (XK.seq (XK.region rfl (XO.q (Q.move rfl) ?_)))
 refine XO.q (Q.lss rfl rfl) ?_
 refine XO.done ?_
 refine XK.if rfl (fun c0 => ?_) (fun c0 => ?_)
 ·skip
  refine XK.skip (XK.seq (XK.block (XK.seq (XK.region rfl (XO.q (Q.move rfl) ?_)))))
  refine XO.q (Q.fieldAddr rfl) ?_
  refine XO.q (Q.ixA rfl rfl (by omega) (by omega)) ?_
  (try rw [show (0 + Int.toNat 0 * 1 : Nat) = 0 from rfl])
  (try rw [show (0 + Int.toNat 1 * 1 : Nat) = 1 from rfl])
  (try rw [show (0 + Int.toNat 2 * 1 : Nat) = 2 from rfl])
  refine XO.q (Q.ld rfl rfl) ?_
  refine XO.call Tryz.call61 rfl rfl rfl (rin_spec _ _ _) fun v15 s15 R15 => ?_
  obtain ⟨rfl, rfl⟩ := R15
  dsimp only [lcA, lnA]
  refine XO.q (Q.not rfl) ?_
  refine XO.done ?_
  refine XK.if rfl (fun c1 => ?_) (fun c1 => ?_)
  ·skip
   refine XK.seq (XK.region rfl (XO.q (Q.assign rfl) (XO.done ?_)))
   refine XK.rt [] Tryz.func62 Tryz.results62 (.t rfl .n) ?_
   have hb : jobR j = false := Bool.eq_false_iff.2 fun h => c1 (by have := pin_three.1 (jobR_iff.1 h).need; rw [inR_iff]; omega)
   exact ⟨by rw [hb], rfl⟩
  ·skip
   refine XK.skip ?_
   refine XK.inBlock ?_
   refine XK.region rfl (XO.q (Q.move rfl) ?_)
   (try rw [show ((0 : Int) + 1) = 1 from rfl])
   (try rw [show ((1 : Int) + 1) = 2 from rfl])
   (try rw [show ((2 : Int) + 1) = 3 from rfl])
   refine XO.q (Q.add rfl rfl ⟨by omega, by omega⟩) ?_
   refine XO.q (Q.assign rfl) (XO.done ?_)
   refine XK.inLoop' ?_
   refine XK.seq (XK.seq (XK.region rfl (XO.q (Q.move rfl) ?_)))
   refine XO.q (Q.lss rfl rfl) ?_
   refine XO.done ?_
   refine XK.if rfl (fun c2 => ?_) (fun c2 => ?_)
   ·skip
    refine XK.skip (XK.seq (XK.block (XK.seq (XK.region rfl (XO.q (Q.move rfl) ?_)))))
    refine XO.q (Q.fieldAddr rfl) ?_
    refine XO.q (Q.ixA rfl rfl (by omega) (by omega)) ?_
    (try rw [show (0 + Int.toNat 0 * 1 : Nat) = 0 from rfl])
    (try rw [show (0 + Int.toNat 1 * 1 : Nat) = 1 from rfl])
    (try rw [show (0 + Int.toNat 2 * 1 : Nat) = 2 from rfl])
    refine XO.q (Q.ld rfl rfl) ?_
    refine XO.call Tryz.call61 rfl rfl rfl (rin_spec _ _ _) fun v15 s15 R15 => ?_
    obtain ⟨rfl, rfl⟩ := R15
    dsimp only [lcA, lnA]
    refine XO.q (Q.not rfl) ?_
    refine XO.done ?_
    refine XK.if rfl (fun c3 => ?_) (fun c3 => ?_)
    ·skip
     refine XK.seq (XK.region rfl (XO.q (Q.assign rfl) (XO.done ?_)))
     refine XK.rt [] Tryz.func62 Tryz.results62 (.t rfl .n) ?_
     have hb : jobR j = false := Bool.eq_false_iff.2 fun h => c3 (by have := pin_three.1 (jobR_iff.1 h).need; rw [inR_iff]; omega)
     exact ⟨by rw [hb], rfl⟩
    ·skip
     refine XK.skip ?_
     refine XK.inBlock ?_
     refine XK.region rfl (XO.q (Q.move rfl) ?_)
     (try rw [show ((0 : Int) + 1) = 1 from rfl])
     (try rw [show ((1 : Int) + 1) = 2 from rfl])
     (try rw [show ((2 : Int) + 1) = 3 from rfl])
     refine XO.q (Q.add rfl rfl ⟨by omega, by omega⟩) ?_
     refine XO.q (Q.assign rfl) (XO.done ?_)
     refine XK.inLoop' ?_
     refine XK.seq (XK.seq (XK.region rfl (XO.q (Q.move rfl) ?_)))
     refine XO.q (Q.lss rfl rfl) ?_
     refine XO.done ?_
     refine XK.if rfl (fun c4 => ?_) (fun c4 => ?_)
     ·skip
      refine XK.skip (XK.seq (XK.block (XK.seq (XK.region rfl (XO.q (Q.move rfl) ?_)))))
      refine XO.q (Q.fieldAddr rfl) ?_
      refine XO.q (Q.ixA rfl rfl (by omega) (by omega)) ?_
      (try rw [show (0 + Int.toNat 0 * 1 : Nat) = 0 from rfl])
      (try rw [show (0 + Int.toNat 1 * 1 : Nat) = 1 from rfl])
      (try rw [show (0 + Int.toNat 2 * 1 : Nat) = 2 from rfl])
      refine XO.q (Q.ld rfl rfl) ?_
      refine XO.call Tryz.call61 rfl rfl rfl (rin_spec _ _ _) fun v15 s15 R15 => ?_
      obtain ⟨rfl, rfl⟩ := R15
      dsimp only [lcA, lnA]
      refine XO.q (Q.not rfl) ?_
      refine XO.done ?_
      refine XK.if rfl (fun c5 => ?_) (fun c5 => ?_)
      ·skip
       refine XK.seq (XK.region rfl (XO.q (Q.assign rfl) (XO.done ?_)))
       refine XK.rt [] Tryz.func62 Tryz.results62 (.t rfl .n) ?_
       have hb : jobR j = false := Bool.eq_false_iff.2 fun h => c5 (by have := pin_three.1 (jobR_iff.1 h).need; rw [inR_iff]; omega)
       exact ⟨by rw [hb], rfl⟩
      ·skip
       refine XK.skip ?_
       refine XK.inBlock ?_
       refine XK.region rfl (XO.q (Q.move rfl) ?_)
       (try rw [show ((0 : Int) + 1) = 1 from rfl])
       (try rw [show ((1 : Int) + 1) = 2 from rfl])
       (try rw [show ((2 : Int) + 1) = 3 from rfl])
       refine XO.q (Q.add rfl rfl ⟨by omega, by omega⟩) ?_
       refine XO.q (Q.assign rfl) (XO.done ?_)
       refine XK.inLoop' ?_
       refine XK.seq (XK.seq (XK.region rfl (XO.q (Q.move rfl) ?_)))
       refine XO.q (Q.lss rfl rfl) ?_
       refine XO.done ?_
       refine XK.if rfl (fun c6 => ?_) (fun c6 => ?_)
       ·skip
        exact absurd c6 (by first | decide | simp)
       ·skip
        refine XK.exit rfl ?_
        refine XK.seq (XK.seq (XK.region rfl ?_))
        refine XO.q (Q.fieldAddr rfl) ?_
        refine XO.q (Q.ld rfl rfl) ?_
        refine XO.call Tryz.call61 rfl rfl rfl (rin_spec _ _ _) fun v19 s19 R19 => ?_
        obtain ⟨rfl, rfl⟩ := R19
        dsimp only [lcA, lnA]
        refine XO.q (Q.not rfl) ?_
        refine XO.q (Q.move rfl) ?_
        refine XO.q (Quiet.guardF rfl rfl fun g22 p22 => Q.fieldAddr rfl) ?_
        refine XO.q (Quiet.guardF rfl rfl fun g23 p23 => Q.ld (lzv g23 rfl) rfl) ?_
        refine XO.gcallF rfl rfl Tryz.call61 rfl (fun g24 => .c (lzv g24 rfl) (.c rfl (.c rfl .n))) rfl (fun g24 p24 => rin_spec _ _ _) ?_
        refine XO.q (Quiet.guardF rfl rfl fun g25 p25 => Q.not (lzv g25 rfl)) ?_
        refine XO.q (Q.or rfl (fun hp => lzv hp rfl)) ?_
        refine XO.q (Q.move rfl) ?_
        refine XO.q (Quiet.guardF rfl rfl fun g28 p28 => Q.fieldAddr rfl) ?_
        refine XO.q (Quiet.guardF rfl rfl fun g29 p29 => Q.ld (lzv g29 rfl) rfl) ?_
        refine XO.q (Quiet.guardF rfl rfl fun g30 p30 => Q.len (lzv g30 rfl)) ?_
        refine XO.gcallF rfl rfl Tryz.call61 rfl (fun g31 => .c (lzv g31 rfl) (.c rfl (.c rfl .n))) rfl (fun g31 p31 => rin_spec _ _ _) ?_
        refine XO.q (Quiet.guardF rfl rfl fun g32 p32 => Q.not (lzv g32 rfl)) ?_
        refine XO.q (Q.or rfl (fun hp => lzv hp rfl)) ?_
        refine XO.done ?_
        refine XK.if rfl (fun c7 => ?_) (fun c7 => ?_)
        ·skip
         refine XK.seq (XK.region rfl (XO.q (Q.assign rfl) (XO.done ?_)))
         refine XK.rt [] Tryz.func62 Tryz.results62 (.t rfl .n) ?_
         have hb : jobR j = false := Bool.eq_false_iff.2 fun h => by
          have q := jobR_iff.1 h
          have q1 := q.grp
          have q2 := q.wor
          have q3 := q.few
          rcases c7 with (h1 | h1) | h1 <;> exact h1 (by rw [inR_iff]; omega)
         exact ⟨by rw [hb], rfl⟩
        ·skip
         simp only [not_or, Decidable.not_not] at c7
         obtain ⟨⟨g1, g2⟩, g3⟩ := c7
         rw [inR_iff] at g1 g2 g3
         have nd : pin 1000000 [j.n0, j.n1, j.n2] = true := by simp only [Decidable.not_not] at c1 c3 c5; rw [inR_iff] at c1 c3 c5; exact pin_three.2 ⟨c1, c3, c5⟩
         refine XK.skip (XK.seq (XK.region rfl (XO.q (Q.assign rfl) (XO.done (XK.seq ?_)))))
         refine XK.seq (XK.region rfl (XO.q (Q.assign rfl) (XO.done (XK.block ?_))))
         refine XK.while (X := Nat × Int) [2, 4, 5, 6, 34, 35, 36, 37, 38, 39, 40, 41, 42, 43, 44, 45, 46, 47, 48, 49, 50, 51, 52, 53, 54, 55, 56, 57, 58, 59] (fun ⟨k, last⟩ => [(5, some (.int .i64 (k : Nat))), (4, some (.int .i64 last))]) (fun ⟨k, last⟩ => []) (fun ⟨k, last⟩ => k ≤ j.draws.length ∧ last = (if k = 0 then -1 else (j.draws.getD (k - 1) default).power) ∧ ∀ i, i < k → DrawOk j.draws i) (fun ⟨k, last⟩ => j.draws.length - k) (0, -1) [] rfl ⟨by omega, rfl, fun i hi => absurd hi (Nat.not_lt_zero i)⟩ (.c rfl (.c rfl (.base 0 rfl rfl))) ?_
         rintro ⟨k, last⟩ ⟨hk, hlast, dr⟩ ih1
         dsimp only [lcA, lnA] at ih1 ⊢
         refine XK.seq (XK.seq (XK.region rfl (XO.q (Q.move rfl) ?_)))
         refine XO.q (Q.fieldAddr rfl) ?_
         refine XO.q (Q.ld rfl rfl) ?_
         refine XO.len rfl fun l37 => ?_
         refine XO.q (Q.lss rfl rfl) ?_
         refine XO.done ?_
         refine XK.if rfl (fun c8 => ?_) (fun c8 => ?_)
         ·skip
          have lr : -1 ≤ last ∧ last ≤ 1000 := by rw [hlast]; split; omega; have := dr (k - 1) (by omega); unfold DrawOk at this; omega
          refine XK.skip (XK.seq (XK.block (XK.seq (XK.region rfl ?_))))
          refine XO.q (Q.fieldAddr rfl) ?_
          refine XO.q (Q.ld rfl rfl) ?_
          refine XO.q (Q.move rfl) ?_
          refine XO.ix rfl rfl (by omega) (by omega) fun i44 => ?_
          refine XO.q (Q.ldEA [_, _] rfl (by first | assumption | omega) rfl rfl) ?_
          refine XO.alloc fun b6 => ?_
          refine XO.st rfl rfl rfl ?_
          refine XO.done (XK.seq (XK.seq (XK.region rfl ?_)))
          refine XO.q (Q.fieldAddr rfl) ?_
          refine XO.q (Q.ld rfl rfl) ?_
          refine XO.q (Q.move rfl) ?_
          refine XO.q (Q.add rfl rfl ⟨by omega, by omega⟩) ?_
          refine XO.call Tryz.call61 rfl rfl rfl (rin_spec _ _ _) fun v50 s50 R50 => ?_
          obtain ⟨rfl, rfl⟩ := R50
          dsimp only [lcA, lnA]
          refine XO.q (Q.not rfl) ?_
          refine XO.q (Q.move rfl) ?_
          refine XO.q (Quiet.guardF rfl rfl fun g53 p53 => Q.fieldAddr rfl) ?_
          refine XO.q (Quiet.guardF rfl rfl fun g54 p54 => Q.ld (lzv g54 rfl) rfl) ?_
          refine XO.gcallF rfl rfl Tryz.call61 rfl (fun g55 => .c (lzv g55 rfl) (.c rfl (.c rfl .n))) rfl (fun g55 p55 => rin_spec _ _ _) ?_
          refine XO.q (Quiet.guardF rfl rfl fun g56 p56 => Q.not (lzv g56 rfl)) ?_
          refine XO.q (Q.or rfl (fun hp => lzv hp rfl)) ?_
          refine XO.done ?_
          refine XK.if rfl (fun c9 => ?_) (fun c9 => ?_)
          ·skip
           refine XK.seq (XK.region rfl (XO.q (Q.assign rfl) (XO.done ?_)))
           refine XK.rt [] Tryz.func62 Tryz.results62 (.t rfl .n) ?_
           have hb : jobR j = false := Bool.eq_false_iff.2 fun h => by
            have q := (jobR_iff.1 h).draw k (by omega)
            unfold DrawOk at q
            rcases c9 with h1 | h1
            ·refine h1 (by rw [inR_iff, hlast]; split <;> omega)
            ·exact h1 (by rw [inR_iff]; omega)
           exact ⟨by rw [hb], rfl⟩
          ·skip
           simp only [not_or, Decidable.not_not] at c9
           rw [inR_iff, inR_iff] at c9
           refine XK.skip (XK.region rfl ?_)
           refine XO.q (Q.fieldAddr rfl) ?_
           refine XO.q (Q.ld rfl rfl) ?_
           refine XO.q (Q.assign rfl) (XO.done ?_)
           refine XK.inBlock ?_
           refine XK.region rfl (XO.q (Q.move rfl) ?_)
           refine XO.q (Q.add rfl rfl ⟨by omega, by omega⟩) ?_
           refine XO.q (Q.assign rfl) (XO.done ?_)
           exact ih1 (k + 1, (j.draws.getD k default).power) _ _ ⟨by dsimp only; omega, by dsimp only; rw [if_neg (by omega), Nat.add_sub_cancel], fun i hi => by
            dsimp only at hi
            by_cases he : i = k
            ·subst he
             unfold DrawOk
             refine ⟨by omega, by omega, fun h0 => ?_⟩
             rw [if_neg (by omega)] at hlast; omega
            ·exact dr i (by omega)⟩ (by first | omega | (dsimp only; omega)) (.c rfl (.c rfl (.base 61 rfl rfl))) inferInstance
         ·skip
          have hk2 : k = j.draws.length := by omega
          subst hk2
          refine XK.exit rfl ?_
          refine XK.seq (XK.region rfl (XO.q (Q.assign rfl) (XO.done ?_)))
          refine XK.rt [] Tryz.func62 Tryz.results62 (.t rfl .n) ?_
          have hb : jobR j = true := jobR_iff.2 ⟨nd, by omega, by omega, by omega, dr⟩
          exact ⟨by rw [hb], rfl⟩
     ·skip
      exact absurd (by first | decide | simp) c4
   ·skip
    exact absurd (by first | decide | simp) c2
 ·skip
  exact absurd (by first | decide | simp) c0
theorem rgcd_spec : ∀ (b a : Nat), (a : Int) ≤ 9223372036854775807 → (b : Int) ≤ 9223372036854775807 → Spec Tryz.prog 93 #[.int .i64 (a : Nat), .int .i64 (b : Nat)] [] [] (fun v hs => v = .int .i64 (Nat.gcd a b : Nat) ∧ hs = []) := by
 intro b
 induction b using Nat.strongRecOn with
 | _ b ih =>
  intro a ha hb
  refine Spec.intro (fn := Tryz.f93) (N := 13) Tryz.func93 rfl Tryz.ntmps93 rfl fun B => ?_
  refine XK.seq (XK.region rfl (XO.q (Q.assign rfl) (XO.done (XK.seq (XK.seq ?_)))))
  refine XK.region rfl (XO.q (Q.move rfl) ?_)
  refine XO.q (Q.eql rfl rfl) ?_
  refine XO.done ?_
  refine XK.if rfl (fun c0 => ?_) (fun c0 => ?_)
  ·skip
   refine XK.seq (XK.region rfl (XO.q (Q.move rfl) (XO.q (Q.assign rfl) (XO.done ?_))))
   refine XK.rt [] Tryz.func93 Tryz.results93 (.t rfl .n) ?_
   have hb0 : b = 0 := by omega
   subst hb0
   exact ⟨by rw [Nat.gcd_zero_right], rfl⟩
  ·skip
   refine XK.skip (XK.seq (XK.region rfl (XO.q (Q.move rfl) (XO.q (Q.move rfl) (XO.q (Q.move rfl) ?_)))))
   refine XO.q (Q.rem rfl rfl (by omega) (by omega)) ?_
   rw [show ((a : Int) % (b : Int)) = ((a % b : Nat) : Int) from rfl]
   refine XO.call Tryz.call93 rfl rfl rfl (ih (a % b) (Nat.mod_lt _ (by omega)) b (by omega) (by have := Nat.mod_lt a (show 0 < b by omega); omega)) fun v12 s12 R12 => ?_
   obtain ⟨rfl, rfl⟩ := R12
   dsimp only [lcA, lnA]
   refine XO.q (Q.assign rfl) (XO.done ?_)
   refine XK.rt [] Tryz.func93 Tryz.results93 (.t rfl .n) ?_
   exact ⟨by rw [Nat.gcd_comm b, ← Nat.gcd_rec, Nat.gcd_comm], rfl⟩
end Go.X

set_option linter.unusedSimpArgs false
set_option linter.unusedVariables false
set_option maxRecDepth 20000
namespace Go.X
open Go.Proofs
theorem rackRef_spec (r : PRack) : Spec Tryz.prog 63 #[.agg #[.int .i64 r.r0, .int .i64 r.r1, .int .i64 r.r2, .int .i64 r.cap, .int .i64 r.domain]] [] [] (fun v hs => v = .bool (rackR r) ∧ hs = []) := by
 have e : rackR r = ((inR r.r0 0 1000000 && inR r.r1 0 1000000 && inR r.r2 0 1000000) && (inR r.cap 0 10000 && inR r.domain 0 100)) := by
  rw [Bool.eq_iff_iff]
  unfold rackR
  simp only [Bool.and_eq_true, pin_three, pin_one, inR_iff]
  constructor
  ·rintro ⟨⟨⟨a, b, c⟩, d⟩, e⟩; exact ⟨⟨⟨a, b⟩, c⟩, d, e⟩
  ·rintro ⟨⟨⟨a, b⟩, c⟩, d, e⟩; exact ⟨⟨⟨a, b, c⟩, d⟩, e⟩
 rw [e]
 refine Spec.intro (fn := Tryz.f63) (N := 22) Tryz.func63 rfl Tryz.ntmps63 rfl fun B => ?_
 refine XK.seq (XK.region rfl ?_)
 refine XO.box rfl fun b1 => ?_
 refine XO.q (Q.assign rfl) (XO.done (XK.seq (XK.seq (XK.region rfl (XO.q (Q.assign rfl) ?_)))))
 refine XO.done (XK.block ?_)
 refine XK.loop' ?_
 refine XK.seq (XK.seq (XK.region rfl (XO.q (Q.move rfl) ?_)))
 refine XO.q (Q.lss rfl rfl) ?_
 refine XO.done ?_
 refine XK.if rfl (fun c0 => ?_) (fun c0 => ?_)
 ·skip
  refine XK.skip (XK.seq (XK.block (XK.seq (XK.region rfl (XO.q (Q.move rfl) ?_)))))
  refine XO.q (Q.fieldAddr rfl) ?_
  refine XO.q (Q.ixA rfl rfl (by omega) (by omega)) ?_
  (try rw [show (0 + Int.toNat 0 * 1 : Nat) = 0 from rfl])
  (try rw [show (0 + Int.toNat 1 * 1 : Nat) = 1 from rfl])
  (try rw [show (0 + Int.toNat 2 * 1 : Nat) = 2 from rfl])
  refine XO.q (Q.ld rfl rfl) ?_
  refine XO.call Tryz.call61 rfl rfl rfl (rin_spec _ _ _) fun v12 s12 R12 => ?_
  obtain ⟨rfl, rfl⟩ := R12
  dsimp only [lcA, lnA]
  refine XO.q (Q.not rfl) ?_
  refine XO.done ?_
  refine XK.if rfl (fun c1 => ?_) (fun c1 => ?_)
  ·skip
   refine XK.seq (XK.region rfl (XO.q (Q.assign rfl) (XO.done ?_)))
   refine XK.rt [] Tryz.func63 Tryz.results63 (.t rfl .n) ?_
   exact ⟨by rw [Bool.eq_false_iff.2 c1]; simp, rfl⟩
  ·skip
   refine XK.skip ?_
   refine XK.inBlock ?_
   refine XK.region rfl (XO.q (Q.move rfl) ?_)
   refine XO.q (Q.add rfl rfl ⟨by omega, by omega⟩) ?_
   (try rw [show ((0 : Int) + 1) = 1 from rfl])
   (try rw [show ((1 : Int) + 1) = 2 from rfl])
   (try rw [show ((2 : Int) + 1) = 3 from rfl])
   refine XO.q (Q.assign rfl) (XO.done ?_)
   refine XK.inLoop' ?_
   refine XK.seq (XK.seq (XK.region rfl (XO.q (Q.move rfl) ?_)))
   refine XO.q (Q.lss rfl rfl) ?_
   refine XO.done ?_
   refine XK.if rfl (fun c2 => ?_) (fun c2 => ?_)
   ·skip
    refine XK.skip (XK.seq (XK.block (XK.seq (XK.region rfl (XO.q (Q.move rfl) ?_)))))
    refine XO.q (Q.fieldAddr rfl) ?_
    refine XO.q (Q.ixA rfl rfl (by omega) (by omega)) ?_
    (try rw [show (0 + Int.toNat 0 * 1 : Nat) = 0 from rfl])
    (try rw [show (0 + Int.toNat 1 * 1 : Nat) = 1 from rfl])
    (try rw [show (0 + Int.toNat 2 * 1 : Nat) = 2 from rfl])
    refine XO.q (Q.ld rfl rfl) ?_
    refine XO.call Tryz.call61 rfl rfl rfl (rin_spec _ _ _) fun v12 s12 R12 => ?_
    obtain ⟨rfl, rfl⟩ := R12
    dsimp only [lcA, lnA]
    refine XO.q (Q.not rfl) ?_
    refine XO.done ?_
    refine XK.if rfl (fun c3 => ?_) (fun c3 => ?_)
    ·skip
     refine XK.seq (XK.region rfl (XO.q (Q.assign rfl) (XO.done ?_)))
     refine XK.rt [] Tryz.func63 Tryz.results63 (.t rfl .n) ?_
     exact ⟨by rw [Bool.eq_false_iff.2 c3]; simp, rfl⟩
    ·skip
     refine XK.skip ?_
     refine XK.inBlock ?_
     refine XK.region rfl (XO.q (Q.move rfl) ?_)
     refine XO.q (Q.add rfl rfl ⟨by omega, by omega⟩) ?_
     (try rw [show ((0 : Int) + 1) = 1 from rfl])
     (try rw [show ((1 : Int) + 1) = 2 from rfl])
     (try rw [show ((2 : Int) + 1) = 3 from rfl])
     refine XO.q (Q.assign rfl) (XO.done ?_)
     refine XK.inLoop' ?_
     refine XK.seq (XK.seq (XK.region rfl (XO.q (Q.move rfl) ?_)))
     refine XO.q (Q.lss rfl rfl) ?_
     refine XO.done ?_
     refine XK.if rfl (fun c4 => ?_) (fun c4 => ?_)
     ·skip
      refine XK.skip (XK.seq (XK.block (XK.seq (XK.region rfl (XO.q (Q.move rfl) ?_)))))
      refine XO.q (Q.fieldAddr rfl) ?_
      refine XO.q (Q.ixA rfl rfl (by omega) (by omega)) ?_
      (try rw [show (0 + Int.toNat 0 * 1 : Nat) = 0 from rfl])
      (try rw [show (0 + Int.toNat 1 * 1 : Nat) = 1 from rfl])
      (try rw [show (0 + Int.toNat 2 * 1 : Nat) = 2 from rfl])
      refine XO.q (Q.ld rfl rfl) ?_
      refine XO.call Tryz.call61 rfl rfl rfl (rin_spec _ _ _) fun v12 s12 R12 => ?_
      obtain ⟨rfl, rfl⟩ := R12
      dsimp only [lcA, lnA]
      refine XO.q (Q.not rfl) ?_
      refine XO.done ?_
      refine XK.if rfl (fun c5 => ?_) (fun c5 => ?_)
      ·skip
       refine XK.seq (XK.region rfl (XO.q (Q.assign rfl) (XO.done ?_)))
       refine XK.rt [] Tryz.func63 Tryz.results63 (.t rfl .n) ?_
       exact ⟨by rw [Bool.eq_false_iff.2 c5]; simp, rfl⟩
      ·skip
       refine XK.skip ?_
       refine XK.inBlock ?_
       refine XK.region rfl (XO.q (Q.move rfl) ?_)
       refine XO.q (Q.add rfl rfl ⟨by omega, by omega⟩) ?_
       (try rw [show ((0 : Int) + 1) = 1 from rfl])
       (try rw [show ((1 : Int) + 1) = 2 from rfl])
       (try rw [show ((2 : Int) + 1) = 3 from rfl])
       refine XO.q (Q.assign rfl) (XO.done ?_)
       refine XK.inLoop' ?_
       refine XK.seq (XK.seq (XK.region rfl (XO.q (Q.move rfl) ?_)))
       refine XO.q (Q.lss rfl rfl) ?_
       refine XO.done ?_
       refine XK.if rfl (fun c6 => ?_) (fun c6 => ?_)
       ·skip
        exact absurd c6 (by first | decide | simp)
       ·skip
        refine XK.exit rfl ?_
        refine XK.seq (XK.region rfl ?_)
        refine XO.q (Q.fieldAddr rfl) ?_
        refine XO.q (Q.ld rfl rfl) ?_
        refine XO.call Tryz.call61 rfl rfl rfl (rin_spec _ _ _) fun v16 s16 R16 => ?_
        obtain ⟨rfl, rfl⟩ := R16
        dsimp only [lcA, lnA]
        refine XO.q (Q.move rfl) ?_
        refine XO.q (Quiet.guardT rfl rfl fun g18 p18 => Q.fieldAddr rfl) ?_
        refine XO.q (Quiet.guardT rfl rfl fun g19 p19 => Q.ld (lzv g19 rfl) rfl) ?_
        refine XO.gcallT rfl rfl Tryz.call61 rfl (fun g20 => .c (lzv g20 rfl) (.c rfl (.c rfl .n))) rfl (fun g20 p20 => rin_spec _ _ _) ?_
        refine XO.q (Q.and rfl (fun hp => lzv hp rfl)) ?_
        refine XO.q (Q.assign rfl) (XO.done ?_)
        refine XK.rt [] Tryz.func63 Tryz.results63 (.t rfl .n) ?_
        exact ⟨by rw [Decidable.of_not_not c1, Decidable.of_not_not c3, Decidable.of_not_not c5]; rfl, rfl⟩
     ·skip
      exact absurd (by first | decide | simp) c4
   ·skip
    exact absurd (by first | decide | simp) c2
 ·skip
  exact absurd (by first | decide | simp) c0
theorem chanceRef_spec (c : PRat) : Spec Tryz.prog 64 #[.agg #[.int .i64 c.n, .int .i64 c.d]] [] [] (fun v hs => v = .bool (chanceR c) ∧ hs = []) := by
 have e : chanceR c = ((inR c.d 1 1000000 && inR c.n 0 c.d) && decide (Int.gcd c.n c.d = 1)) := by
  rw [Bool.eq_iff_iff]
  unfold chanceR
  simp only [Bool.and_eq_true, pin_one, inR_iff, decide_eq_true_eq]
 rw [e]
 refine Spec.intro (fn := Tryz.f64) (N := 21) Tryz.func64 rfl Tryz.ntmps64 rfl fun B => ?_
 refine XK.seq (XK.region rfl ?_)
 refine XO.box rfl fun b1 => ?_
 refine XO.q (Q.assign rfl) (XO.done (XK.seq (XK.region rfl ?_)))
 refine XO.q (Q.fieldAddr rfl) ?_
 refine XO.q (Q.ld rfl rfl) ?_
 refine XO.call Tryz.call61 rfl rfl rfl (rin_spec _ _ _) fun v5 s5 R5 => ?_
 obtain ⟨rfl, rfl⟩ := R5
 dsimp only [lcA, lnA]
 refine XO.q (Q.move rfl) ?_
 refine XO.q (Quiet.guardT rfl rfl fun g7 p7 => Q.fieldAddr rfl) ?_
 refine XO.q (Quiet.guardT rfl rfl fun g8 p8 => Q.ld (lzv g8 rfl) rfl) ?_
 refine XO.q (Quiet.guardT rfl rfl fun g9 p9 => Q.fieldAddr rfl) ?_
 refine XO.q (Quiet.guardT rfl rfl fun g10 p10 => Q.ld (lzv g10 rfl) rfl) ?_
 refine XO.gcallT rfl rfl Tryz.call61 rfl (fun g11 => .c (lzv g11 rfl) (.c rfl (.c (lzv g11 rfl) .n))) rfl (fun g11 p11 => rin_spec _ _ _) ?_
 refine XO.q (Q.and rfl (fun hp => lzv hp rfl)) ?_
 refine XO.q (Q.move rfl) ?_
 refine XO.q (Quiet.guardT rfl rfl fun g14 p14 => Q.fieldAddr rfl) ?_
 refine XO.q (Quiet.guardT rfl rfl fun g15 p15 => Q.ld (lzv g15 rfl) rfl) ?_
 refine XO.q (Quiet.guardT rfl rfl fun g16 p16 => Q.fieldAddr rfl) ?_
 refine XO.q (Quiet.guardT rfl rfl fun g17 p17 => Q.ld (lzv g17 rfl) rfl) ?_
 refine XO.gcallT rfl rfl Tryz.call93 rfl (fun g18 => .c (lzv g18 rfl) (.c (lzv g18 rfl) .n)) rfl (fun g18 p18 => (by
  have h1 := inR_iff.1 p18.1
  have h2 := inR_iff.1 p18.2
  have q := rgcd_spec c.d.toNat c.n.toNat (by omega) (by omega)
  rw [show ((c.d.toNat : Nat) : Int) = c.d by omega, show ((c.n.toNat : Nat) : Int) = c.n by omega] at q
  exact q)) ?_
 refine XO.q (Quiet.guardT rfl rfl fun g19 p19 => Q.eql (lzv g19 rfl) rfl) ?_
 refine XO.q (Q.and rfl (fun hp => lzv hp rfl)) ?_
 refine XO.q (Q.assign rfl) (XO.done ?_)
 refine XK.rt [] Tryz.func64 Tryz.results64 (.t rfl .n) ?_
 refine ⟨?_, rfl⟩
 congr 1
 cases hA : (inR c.d 1 1000000 && inR c.n 0 c.d) with
 | false => rfl
 | true =>
  rw [Bool.and_eq_true] at hA
  have h1 := inR_iff.1 hA.1
  have h2 := inR_iff.1 hA.2
  rw [Bool.true_and, Bool.true_and]
  have e2 : c.n.toNat.gcd c.d.toNat = Int.gcd c.n c.d := by unfold Int.gcd; rw [show c.n.natAbs = c.n.toNat by omega, show c.d.natAbs = c.d.toNat by omega]
  rw [e2]
  exact decide_eq_decide.2 (by omega)
set_option maxHeartbeats 2000000 in
theorem rlisted_spec (l : List (Value × PJob)) (vl : Value) (hl K : PHeap) [jl : Arr vl encPJ 6 hl l] (aL : JobsK l K) : Spec Tryz.prog 91 #[vl] [] [hl, K] (fun v hs => v = .tuple #[.int .i64 (listedG (l.map Prod.snd)).1, .int .i64 (listedG (l.map Prod.snd)).2] ∧ hs = []) := by
 have ll := jl.le
 have lm : (l.map Prod.snd).length = l.length := List.length_map ..
 refine Spec.intro (fn := Tryz.f91) (N := 38) Tryz.func91 rfl Tryz.ntmps91 rfl fun B => ?_
 refine XK.seq (XK.region rfl (XO.q (Q.assign rfl) (XO.q (Q.assign rfl) (XO.done (XK.seq ?_)))))
 refine XK.seq (XK.region rfl (XO.q (Q.move rfl) ?_))
 refine XO.len rfl fun l8 => ?_
 refine XO.q (Q.gtr rfl rfl) ?_
 refine XO.done ?_
 refine XK.if rfl (fun c0 => ?_) (fun c0 => ?_)
 ·skip
  refine XK.seq (XK.region rfl (XO.q (Q.assign rfl) (XO.q (Q.assign rfl) (XO.done ?_))))
  refine XK.rt [] Tryz.func91 Tryz.results91 (.t rfl (.t rfl .n)) ?_
  exact ⟨by rw [listedG, if_pos (by omega)], rfl⟩
 ·skip
  refine XK.skip (XK.seq (XK.seq (XK.region rfl (XO.q (Q.assign rfl) (XO.done ?_)))))
  refine XK.block ?_
  refine XK.while (X := Nat) [2, 3, 4, 10, 11, 12, 13, 14, 15, 16, 17, 18, 19, 20, 21] (fun i => [(4, some (.int .i64 (i : Nat)))]) (fun i => []) (fun i => i ≤ l.length ∧ ∀ k, k < i → jobR (l.getD k default).2 = true) (fun i => l.length - i) (0) [] rfl ⟨by omega, fun k hk => absurd hk (Nat.not_lt_zero k)⟩ (.c rfl (.base 0 rfl rfl)) ?_
  rintro i ⟨hi, jr⟩ ih0
  dsimp only [lcA, lnA] at ih0 ⊢
  refine XK.seq (XK.seq (XK.region rfl (XO.q (Q.move rfl) (XO.q (Q.move rfl) ?_))))
  refine XO.len rfl fun l12 => ?_
  refine XO.q (Q.lss rfl rfl) ?_
  refine XO.done ?_
  refine XK.if rfl (fun c1 => ?_) (fun c1 => ?_)
  ·skip
   have ai := aL i (by omega)
   refine XK.skip (XK.seq (XK.block (XK.seq (XK.region rfl (XO.q (Q.move rfl) ?_)))))
   refine XO.q (Q.move rfl) ?_
   refine XO.ix rfl rfl (by omega) (by omega) fun i18 => ?_
   refine XO.q (Q.ldEA [_, _, _, _, _, _] rfl (by first | assumption | omega) rfl rfl) ?_
   refine XO.call Tryz.call62 rfl rfl rfl (rightJ_spec (l.getD i default).2 (l.getD i default).1 K) fun v20 s20 R20 => ?_
   obtain ⟨rfl, rfl⟩ := R20
   dsimp only [lcA, lnA]
   refine XO.q (Q.not rfl) ?_
   refine XO.done ?_
   refine XK.if rfl (fun c2 => ?_) (fun c2 => ?_)
   ·skip
    refine XK.seq (XK.region rfl (XO.q (Q.assign rfl) (XO.q (Q.assign rfl) (XO.done ?_))))
    refine XK.rt [] Tryz.func91 Tryz.results91 (.t rfl (.t rfl .n)) ?_
    have ha : (l.map Prod.snd).any (fun j => !jobR j) = true := List.any_eq_true.2 ⟨(l.map Prod.snd).getD i default, getD_mem (by omega), by rw [map_snd_atP, Bool.eq_false_iff.2 c2]; rfl⟩
    exact ⟨by rw [listedG, if_neg (by omega), if_pos ha], rfl⟩
   ·skip
    refine XK.skip ?_
    refine XK.inBlock ?_
    refine XK.region rfl (XO.q (Q.move rfl) ?_)
    refine XO.q (Q.add rfl rfl ⟨by omega, by omega⟩) ?_
    refine XO.q (Q.assign rfl) (XO.done ?_)
    exact ih0 (i + 1) _ _ ⟨by omega, fun k hk => by
     by_cases h : k = i
     ·subst h; exact Decidable.of_not_not c2
     ·exact jr k (by omega)⟩ (by first | omega | (dsimp only; omega)) (.c rfl (.base 29 rfl rfl)) inferInstance
  ·skip
   have hJ : ∀ k, k < l.length → PJobOk (l.getD k default).2 := fun k hk => jobR_iff.1 (jr k (by omega))
   have hany : ¬ (l.map Prod.snd).any (fun j => !jobR j) = true := by
    rw [any_false_of fun k hk => by rw [map_snd_atP, jr k (by rw [lm] at hk; omega)]; rfl]; decide
   refine XK.exit rfl ?_
   refine XK.seq (XK.region rfl (XO.q (Q.assign rfl) (XO.done (XK.seq (XK.seq ?_)))))
   refine XK.region rfl (XO.q (Q.assign rfl) (XO.done (XK.block ?_)))
   refine XK.while (X := Nat) [2, 3, 5, 6, 22, 23, 24, 25, 26, 27, 28, 29, 30, 31, 32, 33, 34, 35, 36] (fun i => [(6, some (.int .i64 (i : Nat))), (5, some (.int .i64 (prodJ (l.map Prod.snd) i)))]) (fun i => []) (fun i => (i ≤ l.length ∧ (1 ≤ prodJ (l.map Prod.snd) i ∧ prodJ (l.map Prod.snd) i ≤ 1099511627776)) ∧ ∀ k, k < i → prodJ (l.map Prod.snd) (k + 1) ≤ 1099511627776) (fun i => l.length - i) (0) [] rfl ⟨⟨by omega, by (try unfold prodJ); omega⟩, fun k hk => by omega⟩ (.c rfl (.c rfl (.base 0 rfl rfl))) ?_
   rintro i ⟨⟨hi2, pp⟩, hp⟩ ih1
   dsimp only [lcA, lnA] at ih1 ⊢
   refine XK.seq (XK.seq (XK.region rfl (XO.q (Q.move rfl) (XO.q (Q.move rfl) ?_))))
   refine XO.len rfl fun l24 => ?_
   refine XO.q (Q.lss rfl rfl) ?_
   refine XO.done ?_
   refine XK.if rfl (fun c3 => ?_) (fun c3 => ?_)
   ·skip
    have ji := map_snd_atP l i
    have ai := aL i (by omega)
    have jok := hJ i (by omega)
    have pn := prod_next (l := l.map Prod.snd) (i := i) (by omega) (by rw [ji]; exact jok) pp
    rw [ji] at pn
    have tr := total_rng jok
    refine XK.skip (XK.seq (XK.block (XK.seq (XK.region rfl (XO.q (Q.move rfl) ?_)))))
    refine XO.q (Q.move rfl) (XO.q (Q.move rfl) ?_)
    refine XO.ix rfl rfl (by omega) (by omega) fun i31 => ?_
    refine XO.q (Q.ldEA [_, _, _, _, _, _] rfl (by first | assumption | omega) rfl rfl) ?_
    refine XO.call Tryz.call112 rfl rfl rfl (rtotal_spec (l.getD i default).2 (l.getD i default).1 K (hJ i (by omega))) fun v33 s33 R33 => ?_
    obtain ⟨rfl, rfl⟩ := R33
    dsimp only [lcA, lnA]
    refine XO.q (Q.mul rfl rfl ⟨by omega, by omega⟩) ?_
    refine XO.q (Q.assign rfl) (XO.done (XK.seq (XK.region rfl (XO.q (Q.move rfl) ?_))))
    refine XO.q (Q.gtr rfl rfl) ?_
    refine XO.done ?_
    refine XK.if rfl (fun c4 => ?_) (fun c4 => ?_)
    ·skip
     have mt := manyTo_true (l := l.map Prod.snd) (n := (l.map Prod.snd).length) (i := i) (by omega) (by rw [pn.1]; omega)
     refine XK.seq (XK.region rfl (XO.q (Q.assign rfl) (XO.q (Q.assign rfl) (XO.done ?_))))
     refine XK.rt [] Tryz.func91 Tryz.results91 (.t rfl (.t rfl .n)) ?_
     exact ⟨by rw [listedG, if_neg (by omega), if_neg hany, if_pos mt], rfl⟩
    ·skip
     refine XK.skip ?_
     refine XK.inBlock ?_
     refine XK.region rfl (XO.q (Q.move rfl) ?_)
     refine XO.q (Q.add rfl rfl ⟨by omega, by omega⟩) ?_
     refine XO.q (Q.assign rfl) (XO.done ?_)
     rw [← pn.1]
     exact ih1 (i + 1) _ _ ⟨⟨by omega, by rw [pn.1]; omega⟩, fun k hk => by
      by_cases h : k = i
      ·subst h; rw [pn.1]; omega
      ·exact hp k (by omega)⟩ (by first | omega | (dsimp only; omega)) (.c rfl (.c rfl (.base 38 rfl rfl))) inferInstance
   ·skip
    refine XK.exit rfl ?_
    refine XK.seq (XK.region rfl (XO.q (Q.move rfl) (XO.q (Q.assign rfl) (XO.q (Q.assign rfl) (XO.done ?_)))))
    refine XK.rt [] Tryz.func91 Tryz.results91 (.t rfl (.t rfl .n)) ?_
    have hil : i = (l.map Prod.snd).length := by omega
    exact ⟨by rw [listedG, if_neg (by omega), if_neg hany, if_neg (by rw [manyTo_false.2 fun k hk => hp k (by omega)]; decide), ← hil], rfl⟩
end Go.X

set_option linter.unusedSimpArgs false
set_option linter.unusedVariables false
set_option maxRecDepth 20000
namespace Go.X
open Go.Proofs
set_option maxHeartbeats 4000000 in
theorem counts_spec (l : List (Value × PJob)) (vl : Value) (hl K : PHeap) [jl : Arr vl encPJ 6 hl l] (aL : JobsK l K) (ok : ListOk (l.map Prod.snd)) : Spec Tryz.prog 92 #[vl] [] [hl, K] (fun v hs => ∃ k C, hs = [k] ∧ OArr v encI 1 3 k C ∧ CntIs C (combos (l.map Prod.snd)) ∧ C.length ≤ 8001) := by
 have ll := jl.le
 have lm : (l.map Prod.snd).length = l.length := List.length_map ..
 have few := ok.few
 refine Spec.intro (fn := Tryz.f92) (N := 83) Tryz.func92 rfl Tryz.ntmps92 rfl fun B => ?_
 refine XK.seq (XK.region rfl (XO.q (Q.assign rfl) (XO.done (XK.seq (XK.region rfl ?_)))))
 refine XO.lit [_] [_] [1] encI (by rfl) (by rfl) rfl (by rfl) (by exact .c 0 1 rfl rfl rfl (.n _)) (fun _ => rfl) (by rfl) rfl (by infer_instance) rfl fun v9 h9 O9 => ?_
 refine XO.q (Q.assign rfl) (XO.done (XK.seq (XK.seq (XK.region rfl (XO.q (Q.assign rfl) ?_)))))
 refine XO.done (XK.block ?_)
 refine XK.while (X := Nat × List Int × Value × PHeap) [3, 4, 5, 6, 7, 8, 10, 11, 12, 13, 14, 15, 16, 17, 18, 19, 20, 21, 22, 23, 24, 25, 26, 27, 28, 29, 30, 31, 32, 33, 34, 35, 36, 37, 38, 39, 40, 41, 42, 43, 44, 45, 46, 47, 48, 49, 50, 51, 52, 53, 54, 55, 56, 57, 58, 59, 60, 61, 62, 63, 64, 65, 66, 67, 68, 69, 70, 71, 72, 73, 74, 75, 76, 77, 78, 79, 80, 81] (fun ⟨i, C, vc, kc⟩ => [(4, some (.int .i64 (i : Nat))), (3, some (vc))]) (fun ⟨i, C, vc, kc⟩ => [kc]) (fun ⟨i, C, vc, kc⟩ => i ≤ l.length ∧ OArr vc encI 1 3 kc C ∧ CntIs C (combos ((l.map Prod.snd).take i)) ∧ C.length ≤ 1 + 1000 * i) (fun ⟨i, C, vc, kc⟩ => l.length - i) (0, [1], v9, h9) [h9] rfl ⟨by omega, O9, by rw [List.take_zero]; exact CntIs.one, by simp⟩ (.c rfl (.c rfl (.base 0 rfl rfl))) ?_
 rintro ⟨i, C, vc, kc⟩ ⟨hi, OC, hC, hlC⟩ ih0
 dsimp only [lcA, lnA] at ih0 ⊢
 refine XK.seq (XK.seq (XK.region rfl (XO.q (Q.move rfl) (XO.q (Q.move rfl) ?_))))
 refine XO.len rfl fun l12 => ?_
 refine XO.q (Q.lss rfl rfl) ?_
 refine XO.done ?_
 refine XK.if rfl (fun c0 => ?_) (fun c0 => ?_)
 ·skip
  have ji := map_snd_atP l i
  have ai := aL i (by omega)
  have sb := step_bound ok (i := i) (by omega)
  rw [ji] at sb
  have jok := ok.job i (by omega)
  rw [ji] at jok
  have jf := jok.few
  have lp := (mem_draws jok (getD_mem (show (l.getD i default).2.draws.length - 1 < (l.getD i default).2.draws.length by omega))).1
  refine XK.skip (XK.seq (XK.block (XK.seq (XK.region rfl (XO.q (Q.move rfl) ?_)))))
  refine XO.q (Q.move rfl) ?_
  refine XO.ix rfl rfl (by omega) (by omega) fun i18 => ?_
  refine XO.q (Q.fieldQ rfl (by first | assumption | omega)) ?_
  refine XO.q (Q.ldE rfl (by first | assumption | omega) rfl) ?_
  refine XO.q (Q.assign rfl) (XO.done (XK.seq (XK.region rfl (XO.q (Q.move rfl) ?_))))
  refine XO.len rfl fun l22 => ?_
  refine XO.q (Q.move rfl) (XO.q (Q.move rfl) ?_)
  refine XO.len rfl fun l25 => ?_
  refine XO.q (Q.sub rfl rfl ⟨by omega, by omega⟩) ?_
  refine XO.ix rfl rfl (by omega) (by omega) fun i27 => ?_
  refine XO.q (Q.fieldQ rfl (by first | assumption | omega)) ?_
  refine XO.q (Q.ldE rfl (by first | assumption | omega) rfl) ?_
  rw [show (((l.getD i default).2.draws.length : Int) - 1).toNat = (l.getD i default).2.draws.length - 1 by omega]
  refine XO.q (Q.add rfl rfl ⟨by omega, by omega⟩) ?_
  obtain ⟨N, eN⟩ : ∃ N : Nat, (C.length : Int) + ((l.getD i default).2.draws.getD ((l.getD i default).2.draws.length - 1) default).power = N := ⟨((C.length : Int) + ((l.getD i default).2.draws.getD ((l.getD i default).2.draws.length - 1) default).power).toNat, by omega⟩
  rw [eN]
  refine XO.make encI (0) rfl rfl rfl (by omega) (by omega) (fun _ => rfl) rfl rfl rfl (by dsimp only [encI]; infer_instance) fun v31 h31 O31 => ?_
  refine XO.q (Q.assign rfl) (XO.done (XK.seq (XK.seq (XK.region rfl (XO.q (Q.assign rfl) ?_)))))
  refine XO.done (XK.block ?_)
  refine XK.while (X := Nat × List Int × PHeap) [7, 8, 32, 33, 34, 35, 36, 37, 38, 39, 40, 41, 42, 43, 44, 45, 46, 47, 48, 49, 50, 51, 52, 53, 54, 55, 56, 57, 58, 59, 60, 61, 62, 63, 64, 65, 66, 67, 68, 69, 70, 71, 72, 73, 74, 75, 76, 77, 78, 79, 80] (fun ⟨s, D, kd⟩ => [(7, some (.int .i64 (s : Nat)))]) (fun ⟨s, D, kd⟩ => [kd]) (fun ⟨s, D, kd⟩ => (s ≤ C.length ∧ D.length = N) ∧ PartD C D (l.getD i default).2 s 0 ∧ OArr v31 encI 1 3 kd D) (fun ⟨s, D, kd⟩ => C.length - s) (0, List.replicate N 0, h31) [h31] rfl ⟨⟨by omega, by simp⟩, PartD.zero N, O31⟩ (.c rfl (.base 0 rfl rfl)) ?_
  rintro ⟨s, D, kd⟩ ⟨⟨hs, hlD⟩, hP, OD⟩ ih1
  dsimp only [lcA, lnA] at ih1 ⊢
  refine XK.seq (XK.seq (XK.region rfl (XO.q (Q.move rfl) (XO.q (Q.move rfl) ?_))))
  refine XO.len rfl fun l34 => ?_
  refine XO.q (Q.lss rfl rfl) ?_
  refine XO.done ?_
  refine XK.if rfl (fun c1 => ?_) (fun c1 => ?_)
  ·skip
   have cs : 0 ≤ C.getD s default ∧ C.getD s default ≤ 1099511627776 := by
    rw [hC.at' s (by omega)]
    have : (combos ((l.map Prod.snd).take i)).count (s : Int) ≤ (combos ((l.map Prod.snd).take i)).length := List.count_le_length
    omega
   refine XK.skip (XK.seq (XK.block (XK.seq (XK.region rfl (XO.q (Q.assign rfl) ?_)))))
   refine XO.done (XK.block ?_)
   refine XK.while (X := Nat × List Int × PHeap) [8, 38, 39, 40, 41, 42, 43, 44, 45, 46, 47, 48, 49, 50, 51, 52, 53, 54, 55, 56, 57, 58, 59, 60, 61, 62, 63, 64, 65, 66, 67, 68, 69, 70, 71, 72, 73, 74, 75, 76, 77, 78, 79, 80] (fun ⟨q, D2, kd2⟩ => [(8, some (.int .i64 (q : Nat)))]) (fun ⟨q, D2, kd2⟩ => [kd2]) (fun ⟨q, D2, kd2⟩ => (q ≤ (l.getD i default).2.draws.length ∧ D2.length = N) ∧ PartD C D2 (l.getD i default).2 s q ∧ OArr v31 encI 1 3 kd2 D2) (fun ⟨q, D2, kd2⟩ => (l.getD i default).2.draws.length - q) (0, D, kd) [kd] rfl ⟨⟨by omega, hlD⟩, hP, OD⟩ (.c rfl (.base 0 rfl rfl)) ?_
   rintro ⟨q, D2, kd2⟩ ⟨⟨hq, hlD2⟩, hP2, OD2⟩ ih2
   dsimp only [lcA, lnA] at ih2 ⊢
   refine XK.seq (XK.seq (XK.region rfl (XO.q (Q.move rfl) (XO.q (Q.move rfl) ?_))))
   refine XO.len rfl fun l40 => ?_
   refine XO.q (Q.lss rfl rfl) ?_
   refine XO.q (Q.move rfl) ?_
   refine XO.q (Quiet.guardT rfl rfl fun g43 p43 => Q.move rfl) ?_
   refine XO.q (Quiet.guardT rfl rfl fun g44 p44 => Q.move rfl) ?_
   refine XO.q (Quiet.guardT rfl rfl fun g45 p45 => Q.ix (lzv g45 rfl) (lzv g45 rfl) (by omega) (by omega)) ?_
   refine XO.q (Quiet.guardT rfl rfl fun g46 p46 => Q.ldE (lzv g46 rfl) (by first | assumption | omega) rfl) ?_
   refine XO.q (Quiet.guardT rfl rfl fun g47 p47 => Q.gtr (lzv g47 rfl) rfl) ?_
   refine XO.q (Q.and rfl (fun hp => lzv hp rfl)) ?_
   refine XO.done ?_
   refine XK.if rfl (fun c2 => ?_) (fun c2 => ?_)
   ·skip
    obtain ⟨c2a, c2b⟩ := c2
    have dk := mem_draws jok (getD_mem (show q < (l.getD i default).2.draws.length by omega))
    have lmo := last_most jok (i := q) (k := (l.getD i default).2.draws.length - 1) (by omega) (by omega)
    have pd := hP2 ((s : Int) + ((l.getD i default).2.draws.getD q default).power).toNat (by omega)
    have ar := addC_rng hC jok (by omega) ((((s : Int) + ((l.getD i default).2.draws.getD q default).power).toNat : Nat) : Int) s (by omega)
    have oj := oneJ_rng jok (((((s : Int) + ((l.getD i default).2.draws.getD q default).power).toNat : Nat) : Int) - s) q (by omega)
    have m1 := mulP (b := oneJ (l.getD i default).2 (((((s : Int) + ((l.getD i default).2.draws.getD q default).power).toNat : Nat) : Int) - s) q) (n := 512) cs (by omega)
    have m2 := mulP (b := ((l.getD i default).2.draws.getD q default).count) (n := 64) cs (by omega)
    refine XK.skip (XK.seq (XK.block ?_))
    refine XK.drawn [0, 1, 2, 3, 4, 5, 6, 7, 8, 9, 10, 11, 12, 13, 14, 15, 16, 18, 19, 20, 21, 22, 23, 24, 25, 26, 27, 28, 29] [] [kc] (.q 0 (.q 1 (.q 2 (.q 3 (.q 4 (.q 5 (.q 6 (.q 7 (.q 8 (.q 9 (.q 10 (.q 11 (.q 12 (.q 13 (.q 14 (.q 15 (.q 16 (.q 18 (.q 19 (.q 20 (.q 21 (.q 22 (.q 23 (.q 24 (.q 25 (.q 26 (.q 27 (.br 17 true (.q 28 (.q 29 (.br 30 false .done .stop))) .stop)))))))))))))))))))))))))))) Tryz.mixed rfl (by kernel_rfl) ?_
    refine XT.q rfl rfl (Q.move rfl) ?_
    refine XT.q rfl rfl (Q.move rfl) ?_
    refine XT.q rfl rfl (Q.move rfl) ?_
    refine XT.q rfl rfl (Q.move rfl) ?_
    refine XT.ix rfl rfl rfl rfl (by omega) (by omega) fun i55 => ?_
    refine XT.q rfl rfl (Q.fieldQ rfl (by first | assumption | omega)) ?_
    refine XT.q rfl rfl (Q.ldE rfl (by first | assumption | omega) rfl) ?_
    refine XT.q rfl rfl (Q.add rfl rfl ⟨by omega, by omega⟩) ?_
    refine XT.q rfl rfl (Q.move rfl) ?_
    refine XT.q rfl rfl (Q.move rfl) ?_
    refine XT.q rfl rfl (Q.move rfl) ?_
    refine XT.q rfl rfl (Q.move rfl) ?_
    refine XT.ix rfl rfl rfl rfl (by omega) (by omega) fun i63 => ?_
    refine XT.q rfl rfl (Q.fieldQ rfl (by first | assumption | omega)) ?_
    refine XT.q rfl rfl (Q.ldE rfl (by first | assumption | omega) rfl) ?_
    refine XT.q rfl rfl (Q.add rfl rfl ⟨by omega, by omega⟩) ?_
    refine XT.ix rfl rfl rfl rfl (by omega) (by omega) fun i67 => ?_
    refine XT.q rfl rfl (Q.move rfl) ?_
    refine XT.q rfl rfl (Q.move rfl) ?_
    refine XT.ix rfl rfl rfl rfl (by omega) (by omega) fun i71 => ?_
    refine XT.q rfl rfl (Q.ldE rfl (by first | assumption | omega) rfl) ?_
    refine XT.q rfl rfl (Q.move rfl) ?_
    refine XT.q rfl rfl (Q.move rfl) ?_
    refine XT.ix rfl rfl rfl rfl (by omega) (by omega) fun i75 => ?_
    refine XT.q rfl rfl (Q.fieldQ rfl (by first | assumption | omega)) ?_
    refine XT.q rfl rfl (Q.ldE rfl (by first | assumption | omega) rfl) ?_
    refine XT.q rfl rfl (Q.mul rfl rfl ⟨by omega, by omega⟩) ?_
    refine XT.qs rfl rfl (Q.ldE rfl (by first | assumption | omega) rfl) ⟨inferInstance, ?_⟩ XT.stop
    refine XT.q rfl rfl (Q.add rfl rfl ⟨by omega, by omega⟩) ?_
    refine XT.ix rfl rfl rfl rfl (by omega) (by omega) fun i80 => ?_
    refine XT.stE (D2.getD ((s : Int) + ((l.getD i default).2.draws.getD q default).power).toNat default + C.getD s default * ((l.getD i default).2.draws.getD q default).count) rfl rfl rfl rfl rfl (by assumption) rfl rfl (fun h13_30 O13_30 => ⟨inferInstance, ?_⟩) XT.stop
    refine XT.done ?_
    refine XK.inBlock ?_
    refine XK.region rfl (XO.q (Q.move rfl) ?_)
    refine XO.q (Q.add rfl rfl ⟨by omega, by omega⟩) ?_
    refine XO.q (Q.assign rfl) (XO.done ?_)
    exact ih2 (q + 1, _, h13_30) _ _ ⟨⟨by dsimp only; omega, by dsimp only; rw [List.length_set]; exact hlD2⟩, by dsimp only; exact hP2.add (by omega) (by omega), O13_30⟩ (by first | omega | (dsimp only; omega)) (.c rfl (.base 89 rfl rfl)) inferInstance
   ·skip
    have hq2 : q = (l.getD i default).2.draws.length ∨ C.getD s default = 0 := by
     by_cases hc : q < (l.getD i default).2.draws.length
     ·right
      have : ¬ 0 < C.getD s default := fun h => c2 ⟨by omega, h⟩
      omega
     ·left; omega
    refine XK.exit rfl ?_
    refine XK.inBlock ?_
    refine XK.region rfl (XO.q (Q.move rfl) ?_)
    refine XO.q (Q.add rfl rfl ⟨by omega, by omega⟩) ?_
    refine XO.q (Q.assign rfl) (XO.done ?_)
    exact ih1 (s + 1, D2, kd2) _ _ ⟨⟨by dsimp only; omega, by dsimp only; omega⟩, hP2.next hq2, OD2⟩ (by first | omega | (dsimp only; omega)) (.c rfl (.base 116 rfl rfl)) inferInstance
  ·skip
   have hsl : s = C.length := by omega
   subst hsl
   refine XK.exit rfl ?_
   refine XK.region rfl (XO.q (Q.move rfl) (XO.q (Q.assign rfl) (XO.done ?_)))
   refine XK.inBlock ?_
   refine XK.region rfl (XO.q (Q.move rfl) ?_)
   refine XO.q (Q.add rfl rfl ⟨by omega, by omega⟩) ?_
   refine XO.q (Q.assign rfl) (XO.done ?_)
   exact ih0 (i + 1, D, v31, kd) _ _ ⟨by dsimp only; omega, OD, by dsimp only; rw [combos_succ (by omega), ji]; exact hC.step jok (by omega) (fun x hx => by rw [hP x hx, oneJ, Int.mul_zero, Int.add_zero]), by dsimp only; omega⟩ (by first | omega | (dsimp only; omega)) (.c rfl (.c rfl (.base 164 rfl rfl))) inferInstance
 ·skip
  have hil : i = (l.map Prod.snd).length := by omega
  subst hil
  rw [List.take_length] at hC
  refine XK.exit rfl ?_
  refine XK.seq (XK.region rfl (XO.q (Q.move rfl) (XO.q (Q.assign rfl) (XO.done ?_))))
  refine XK.rt [kc] Tryz.func92 Tryz.results92 (.t rfl .n) ?_
  exact ⟨kc, C, rfl, OC, hC, by omega⟩
end Go.X

set_option linter.unusedSimpArgs false
set_option linter.unusedVariables false
set_option maxRecDepth 20000
namespace Go.X
open Go.Proofs
instance : KeyT Tryz.prog 176 encK2 := KeyT.pair Tryz.underlying176 inferInstance inferInstance inferInstance inferInstance
theorem apart_spec (l : List (Value × PJob)) (vl : Value) (hl K : PHeap) [jl : Arr vl encPJ 6 hl l] (aL : JobsK l K) (rs : List PRack) (vr : Value) (hr : PHeap) [jr : Arr vr encRack 5 hr rs] (m : PRat) (w : List Int) (vw : Value) (hw : PHeap) [jw : Arr vw encI 1 hw w] (ok : TaskOk (⟨(l.map Prod.snd), rs, m⟩ : PTask)) (wok : WOk (⟨(l.map Prod.snd), rs, m⟩ : PTask) w) : Spec Tryz.prog 105 #[.agg #[vl, vr, .int .i64 m.n, .int .i64 m.d], vw] [] [hl, K, hr, hw] (fun v hs => v = .bool (apartG (⟨(l.map Prod.snd), rs, m⟩ : PTask) w) ∧ hs = []) := by
 have ll := jl.le
 have lm : (l.map Prod.snd).length = l.length := List.length_map ..
 have hwl : w.length ≤ l.length := by have := wok.len; dsimp only at this; omega
 refine Spec.intro (fn := Tryz.f105) (N := 47) Tryz.func105 rfl Tryz.ntmps105 rfl fun B => ?_
 refine XK.seq (XK.region rfl ?_)
 refine XO.box rfl fun b2 => ?_
 refine XO.q (Q.assign rfl) (XO.done (XK.seq (XK.region rfl ?_)))
 refine XO.map encK2 fun b9 => ?_
 refine XO.q (Q.assign rfl) (XO.done (XK.seq (XK.seq (XK.region rfl (XO.q (Q.move rfl) ?_)))))
 refine XO.len rfl fun l11 => ?_
 refine XO.q (Q.move rfl) (XO.done (XK.block ?_))
 refine XK.while (X := Nat) [4, 6, 7, 8, 12, 13, 14, 15, 16, 17, 18, 19, 20, 21, 22, 23, 24, 25, 26, 27, 28, 29, 30, 31, 32, 33, 34, 35, 36, 37, 38, 39, 40, 41, 42, 43, 44, 45, 46] (fun i => [(12, some (.int .i64 (i : Nat)))]) (fun i => [mapH b9 encK2 (seenK (keysTo (⟨(l.map Prod.snd), rs, m⟩ : PTask) w i))]) (fun i => i ≤ w.length ∧ apartTo (⟨(l.map Prod.snd), rs, m⟩ : PTask) w i = true) (fun i => w.length - i) (0) [mapH b9 encK2 []] rfl ⟨by omega, rfl⟩ (.c rfl (.base 0 rfl rfl)) ?_
 rintro i ⟨hi, ha⟩ ih0
 dsimp only [lcA, lnA] at ih0 ⊢
 refine XK.seq (XK.region rfl ?_)
 refine XO.q (Q.lss rfl rfl) ?_
 refine XO.done (XK.seq ?_)
 refine XK.if rfl (fun c0 => ?_) (fun c0 => ?_)
 ·skip
  have ji := map_snd_atP l i
  have sk : skipK (⟨(l.map Prod.snd), rs, m⟩ : PTask) w i = (decide (w.getD i default < 0) || decide ((l.getD i default).2.group = 0)) := by rw [skipK]; dsimp only; rw [ji]
  refine XK.skip (XK.seq (XK.block (XK.seq (XK.region rfl (XO.q (Q.move rfl) ?_)))))
  refine XO.ix rfl rfl (by omega) (by omega) fun i15 => ?_
  refine XO.q (Q.ldE rfl (by first | assumption | omega) rfl) ?_
  refine XO.q (Q.assign rfl) (XO.q (Q.assign rfl) (XO.done (XK.seq (XK.seq (XK.region rfl ?_)))))
  refine XO.q (Q.move rfl) ?_
  refine XO.q (Q.lss rfl rfl) ?_
  refine XO.q (Q.move rfl) ?_
  refine XO.q (Quiet.guardF rfl rfl fun g20 p20 => Q.fieldAddr rfl) ?_
  refine XO.q (Quiet.guardF rfl rfl fun g21 p21 => Q.ld (lzv g21 rfl) rfl) ?_
  refine XO.q (Quiet.guardF rfl rfl fun g22 p22 => Q.move rfl) ?_
  refine XO.q (Quiet.guardF rfl rfl fun g23 p23 => Q.ix (lzv g23 rfl) (lzv g23 rfl) (by omega) (by omega)) ?_
  refine XO.q (Quiet.guardF rfl rfl fun g24 p24 => Q.fieldQ (lzv g24 rfl) (by first | assumption | omega)) ?_
  refine XO.q (Quiet.guardF rfl rfl fun g25 p25 => Q.ldE (lzv g25 rfl) (by first | assumption | omega) rfl) ?_
  refine XO.q (Quiet.guardF rfl rfl fun g26 p26 => Q.eql (lzv g26 rfl) rfl) ?_
  refine XO.q (Q.or rfl (fun hp => lzv hp rfl)) ?_
  refine XO.done ?_
  refine XK.if rfl (fun c1 => ?_) (fun c1 => ?_)
  ·skip
   have sk1 : skipK (⟨(l.map Prod.snd), rs, m⟩ : PTask) w i = true := by rw [sk, Bool.or_eq_true, decide_eq_true_eq, decide_eq_true_eq]; exact c1
   refine XK.exit rfl ?_
   refine XK.region rfl ?_
   refine XO.q (Q.add rfl rfl ⟨by omega, by omega⟩) ?_
   refine XO.q (Q.move rfl) (XO.done ?_)
   have e2 : (keysTo (⟨(l.map Prod.snd), rs, m⟩ : PTask) w (i + 1)) = (keysTo (⟨(l.map Prod.snd), rs, m⟩ : PTask) w i) := by rw [keysTo, if_pos sk1, List.append_nil]
   rw [← e2]
   exact ih0 (i + 1) _ _ ⟨by omega, by rw [apartTo, ha, sk1]; rfl⟩ (by first | omega | (dsimp only; omega)) (.c rfl (.base 59 rfl rfl)) inferInstance
  ·skip
   have sk0 : skipK (⟨(l.map Prod.snd), rs, m⟩ : PTask) w i = false := by rw [sk, Bool.or_eq_false_iff, decide_eq_false_iff_not, decide_eq_false_iff_not]; exact ⟨fun h => c1 (.inl h), fun h => c1 (.inr h)⟩
   rw [not_or] at c1
   have gr := getD_rackP wok (i := i) (by omega) c1.1
   dsimp only at gr
   have ek : (keyOf (⟨(l.map Prod.snd), rs, m⟩ : PTask) w i) = ((l.getD i default).2.group, (rs.getD (w.getD i default).toNat default).domain) := by rw [keyOf]; dsimp only; rw [ji]
   refine XK.skip (XK.seq ?_)
   refine XK.drawn [0, 1, 2, 3, 4, 5, 6, 7, 8, 9, 10, 11, 12] [b2] [] (.q 0 (.q 1 (.q 2 (.q 3 (.q 4 (.q 5 (.q 6 (.q 7 (.q 8 (.q 9 (.q 10 (.q 11 (.q 12 (.br 13 true (.br 14 false .done .stop) .stop)))))))))))))) Tryz.mixed rfl (by kernel_rfl) ?_
   refine XT.q rfl rfl (Q.fieldAddr rfl) ?_
   refine XT.q rfl rfl (Q.ld rfl rfl) ?_
   refine XT.q rfl rfl (Q.move rfl) ?_
   refine XT.ix rfl rfl rfl rfl (by omega) (by omega) fun i31 => ?_
   refine XT.q rfl rfl (Q.fieldQ rfl (by first | assumption | omega)) ?_
   refine XT.q rfl rfl (Q.ldE rfl (by first | assumption | omega) rfl) ?_
   refine XT.q rfl rfl (Q.fieldAddr rfl) ?_
   refine XT.q rfl rfl (Q.ld rfl rfl) ?_
   refine XT.q rfl rfl (Q.move rfl) ?_
   refine XT.ix rfl rfl rfl rfl (by omega) (by omega) fun i37 => ?_
   refine XT.q rfl rfl (Q.fieldQ rfl (by first | assumption | omega)) ?_
   refine XT.q rfl rfl (Q.ldE rfl (by first | assumption | omega) rfl) ?_
   refine XT.q rfl rfl (Q.build [_, _] (.c 0 1 rfl rfl rfl (.c 1 1 rfl rfl rfl (.n _)))) ?_
   refine XT.alloc rfl rfl (fun b8 => ⟨inferInstance, ?_⟩) XT.stop
   refine XT.st rfl rfl rfl rfl rfl ⟨inferInstance, ?_⟩ XT.stop
   refine XT.done ?_
   refine XK.seq (XK.seq (XK.region rfl (XO.q (Q.move rfl) ?_)))
   refine XO.q (Q.ldA [_, _] rfl rfl rfl) ?_
   refine XO.q (Q.lookup (enc := encK2) _ Tryz.zeroValue4 (((l.getD i default).2.group, (rs.getD (w.getD i default).toNat default).domain)) rfl rfl) ?_
   rw [← ek, get_seenK]
   refine XO.done ?_
   refine XK.if rfl (fun c2 => ?_) (fun c2 => ?_)
   ·skip
    refine XK.seq (XK.region rfl (XO.q (Q.assign rfl) (XO.done ?_)))
    refine XK.rt [] Tryz.func105 Tryz.results105 (.t rfl .n) ?_
    exact ⟨by rw [apartG, apartTo_false (n := i + 1) (by rw [apartTo, sk0, c2, ha]; rfl) _ (by omega)], rfl⟩
   ·skip
    have c2 := Bool.eq_false_iff.2 c2
    refine XK.skip (XK.region rfl (XO.q (Q.move rfl) ?_))
    refine XO.q (Q.ldA [_, _] rfl rfl rfl) ?_
    refine XO.mapUpdate (enc := encK2) (((l.getD i default).2.group, (rs.getD (w.getD i default).toNat default).domain)) rfl rfl rfl ?_
    rw [← ek, put_seenK c2]
    refine XO.done ?_
    refine XK.inBlock ?_
    refine XK.region rfl ?_
    refine XO.q (Q.add rfl rfl ⟨by omega, by omega⟩) ?_
    refine XO.q (Q.move rfl) (XO.done ?_)
    have e2 : (keysTo (⟨(l.map Prod.snd), rs, m⟩ : PTask) w (i + 1)) = (keysTo (⟨(l.map Prod.snd), rs, m⟩ : PTask) w i) ++ [(keyOf (⟨(l.map Prod.snd), rs, m⟩ : PTask) w i)] := by rw [keysTo, if_neg (by rw [sk0]; decide)]
    rw [← e2]
    exact ih0 (i + 1) _ _ ⟨by omega, by rw [apartTo, ha, c2]; simp⟩ (by first | omega | (dsimp only; omega)) (.c rfl (.base 78 rfl rfl)) inferInstance
 ·skip
  have hin : i = w.length := by omega
  subst hin
  refine XK.exit rfl ?_
  refine XK.seq (XK.region rfl (XO.q (Q.assign rfl) (XO.done ?_)))
  refine XK.rt [] Tryz.func105 Tryz.results105 (.t rfl .n) ?_
  exact ⟨by rw [apartG, ha], rfl⟩
end Go.X

set_option linter.unusedSimpArgs false
set_option linter.unusedVariables false
set_option maxRecDepth 20000
namespace Go.X
open Go.Proofs
theorem allowed_spec (l : List (Value × PJob)) (vl : Value) (hl K : PHeap) [jl : Arr vl encPJ 6 hl l] (aL : JobsK l K) (rs : List PRack) (vr : Value) (hr : PHeap) [jr : Arr vr encRack 5 hr rs] (m : PRat) (w : List Int) (vw : Value) (hw : PHeap) [jw : Arr vw encI 1 hw w] (ok : TaskOk (⟨(l.map Prod.snd), rs, m⟩ : PTask)) (wok : WOk (⟨(l.map Prod.snd), rs, m⟩ : PTask) w) (lok : ∀ r, r < rs.length → ListOk (inL (⟨(l.map Prod.snd), rs, m⟩ : PTask) w r)) : Spec Tryz.prog 66 #[.agg #[vl, vr, .int .i64 m.n, .int .i64 m.d], vw] [] [hl, K, hr, hw] (fun v hs => v = .bool (allowedB (⟨(l.map Prod.snd), rs, m⟩ : PTask) w) ∧ hs = []) := by
 have ll := jl.le
 have lm : (l.map Prod.snd).length = l.length := List.length_map ..
 have few := ok.few
 have few2 : l.length ≤ 8 := by rw [← lm]; exact few
 have hwl : w.length ≤ l.length := by have := wok.len; dsimp only at this; omega
 refine Spec.intro (fn := Tryz.f66) (N := 38) Tryz.func66 rfl Tryz.ntmps66 rfl fun B => ?_
 refine XK.seq (XK.region rfl ?_)
 refine XO.box rfl fun b2 => ?_
 refine XO.q (Q.assign rfl) (XO.done (XK.seq (XK.seq (XK.region rfl ?_))))
 refine XO.q (Q.fieldAddr rfl) ?_
 refine XO.q (Q.ld rfl rfl) ?_
 refine XO.len rfl fun l12 => ?_
 refine XO.q (Q.move rfl) (XO.done (XK.block ?_))
 refine XK.while (X := Nat) [4, 5, 6, 7, 8, 9, 13, 14, 15, 16, 17, 18, 19, 20, 21, 22, 23, 24, 25, 26, 27, 28, 29, 30, 31, 32, 33, 34] (fun r => [(13, some (.int .i64 (r : Nat)))]) (fun r => []) (fun r => r ≤ rs.length ∧ (fitTo (⟨(l.map Prod.snd), rs, m⟩ : PTask) w r) = true) (fun r => rs.length - r) (0) [] rfl ⟨by omega, rfl⟩ (.c rfl (.base 0 rfl rfl)) ?_
 rintro r ⟨hr_, ft⟩ ih0
 dsimp only [lcA, lnA] at ih0 ⊢
 refine XK.seq (XK.region rfl ?_)
 refine XO.q (Q.lss rfl rfl) ?_
 refine XO.done (XK.seq ?_)
 refine XK.if rfl (fun c0 => ?_) (fun c0 => ?_)
 ·skip
  refine XK.skip (XK.seq (XK.block (XK.seq (XK.region rfl (XO.q (Q.move rfl) ?_)))))
  refine XO.ix rfl rfl (by omega) (by omega) fun i16 => ?_
  refine XO.q (Q.ldEA [_, _, _, _, _] rfl (by first | assumption | omega) rfl rfl) ?_
  refine XO.alloc fun b6 => ?_
  refine XO.q (Q.assign rfl) ?_
  refine XO.st rfl rfl rfl ?_
  refine XO.done (XK.seq (XK.region rfl ?_))
  refine XO.q (Q.ldA [_, _, _, _] rfl rfl rfl) ?_
  refine XO.q (Q.move rfl) (XO.q (Q.move rfl) ?_)
  refine XO.call Tryz.call69 rfl rfl rfl (in_spec l vl hl K aL rs vr hr m w vw hw (r : Nat) (by omega) (by omega)) fun v21 s21 R21 => ?_
  obtain ⟨k21, rfl, O21⟩ := R21
  dsimp only [lcA, lnA]
  refine XO.q (Q.assign rfl) (XO.done (XK.seq (XK.region rfl (XO.q (Q.move rfl) ?_))))
  refine XO.call Tryz.call85 rfl rfl rfl (listed_spec (inTo l w (r : Nat) w.length) v21 k21 K (aL.inTo (by omega))) fun v24 s24 R24 => ?_
  obtain ⟨rfl, rfl⟩ := R24
  dsimp only [lcA, lnA]
  have lr := listed_rng (lok r (by omega))
  have em : ((inTo l w (r : Nat) w.length).map Prod.snd) = inL (⟨(l.map Prod.snd), rs, m⟩ : PTask) w r := in_mem _
  refine XO.q (Q.move rfl) ?_
  refine XO.q (Q.extract rfl rfl) ?_
  refine XO.q (Q.extract rfl rfl) ?_
  refine XO.q (Q.assign rfl) (XO.q (Q.assign rfl) (XO.done (XK.seq (XK.region rfl (XO.q (Q.move rfl) ?_)))))
  refine XO.q (Q.ldA [_, _, _, _, _] rfl rfl rfl) ?_
  refine XO.q (Q.fieldAddr rfl) ?_
  refine XO.q (Q.ldA [_, _] rfl rfl rfl) ?_
  refine XO.q (Q.move rfl) ?_
  refine XO.call Tryz.call94 rfl rfl rfl (fits_spec (inTo l w (r : Nat) w.length) v21 k21 K (aL.inTo (by omega)) (by rw [em]; exact lok r (by omega)) (rs.getD r default) m ok.most (listedG ((inTo l w (r : Nat) w.length).map Prod.snd)).1 (by rw [em, lr.1])) fun v32 s32 R32 => ?_
  obtain ⟨rfl, rfl⟩ := R32
  dsimp only [lcA, lnA]
  rw [show fitsG ((inTo l w (r : Nat) w.length).map Prod.snd) (rs.getD r default) m = fitAt (⟨(l.map Prod.snd), rs, m⟩ : PTask) w r by rw [em]; rfl]
  refine XO.q (Q.not rfl) ?_
  refine XO.done ?_
  refine XK.if rfl (fun c1 => ?_) (fun c1 => ?_)
  ·skip
   refine XK.seq (XK.region rfl (XO.q (Q.assign rfl) (XO.done ?_)))
   refine XK.rt [] Tryz.func66 Tryz.results66 (.t rfl .n) ?_
   exact ⟨by rw [allowedB, fitTo_false (n := r + 1) (by rw [fitTo, ft, Bool.eq_false_iff.2 c1]; rfl) _ (by dsimp only; omega)]; rfl, rfl⟩
  ·skip
   refine XK.skip ?_
   refine XK.inBlock ?_
   refine XK.region rfl ?_
   refine XO.q (Q.add rfl rfl ⟨by omega, by omega⟩) ?_
   refine XO.q (Q.move rfl) (XO.done ?_)
   exact ih0 (r + 1) _ _ ⟨by omega, by rw [fitTo, ft, Decidable.of_not_not c1]; rfl⟩ (by first | omega | (dsimp only; omega)) (.c rfl (.base 56 rfl rfl)) inferInstance
 ·skip
  have hrl : r = rs.length := by omega
  subst hrl
  refine XK.exit rfl ?_
  refine XK.seq (XK.region rfl ?_)
  refine XO.q (Q.ldA [_, _, _, _] rfl rfl rfl) ?_
  refine XO.q (Q.move rfl) ?_
  refine XO.call Tryz.call105 rfl rfl rfl (apart_spec l vl hl K aL rs vr hr m w vw hw ok wok) fun v37 s37 R37 => ?_
  obtain ⟨rfl, rfl⟩ := R37
  dsimp only [lcA, lnA]
  refine XO.q (Q.assign rfl) (XO.done ?_)
  refine XK.rt [] Tryz.func66 Tryz.results66 (.t rfl .n) ?_
  exact ⟨by rw [allowedB]; dsimp only; rw [ft]; rfl, rfl⟩
theorem Allowed_spec (l : List (Value × PJob)) (vl : Value) (hl K : PHeap) [jl : Arr vl encPJ 6 hl l] (aL : JobsK l K) (rs : List PRack) (vr : Value) (hr : PHeap) [jr : Arr vr encRack 5 hr rs] (m : PRat) (w : List Int) (vw : Value) (hw : PHeap) [jw : Arr vw encI 1 hw w] : Spec Tryz.prog 21 #[.agg #[vl, vr, .int .i64 m.n, .int .i64 m.d], vw] [] [hl, K, hr, hw] (fun v hs => v = .tuple #[.bool (allowedG (⟨(l.map Prod.snd), rs, m⟩ : PTask) w).1, .int .i64 (allowedG (⟨(l.map Prod.snd), rs, m⟩ : PTask) w).2] ∧ hs = []) := by
 refine Spec.intro (fn := Tryz.f21) (N := 16) Tryz.func21 rfl Tryz.ntmps21 rfl fun B => ?_
 refine XK.seq (XK.region rfl ?_)
 refine XO.box rfl fun b2 => ?_
 refine XO.q (Q.assign rfl) (XO.q (Q.assign rfl) (XO.done (XK.seq (XK.seq (XK.region rfl ?_)))))
 refine XO.q (Q.ldA [_, _, _, _] rfl rfl rfl) ?_
 refine XO.q (Q.move rfl) ?_
 refine XO.call Tryz.call65 rfl rfl rfl (formed_spec l vl hl K aL rs vr hr m w vw hw) fun v9 s9 R9 => ?_
 obtain ⟨rfl, rfl⟩ := R9
 dsimp only [lcA, lnA]
 refine XO.q (Q.assign rfl) (XO.done (XK.seq (XK.region rfl (XO.q (Q.move rfl) ?_))))
 refine XO.q (Q.neq rfl rfl) ?_
 refine XO.done ?_
 refine XK.if rfl (fun c0 => ?_) (fun c0 => ?_)
 ·skip
  refine XK.seq (XK.region rfl (XO.q (Q.move rfl) (XO.q (Q.assign rfl) (XO.q (Q.assign rfl) (XO.done ?_)))))
  refine XK.rt [] Tryz.func21 Tryz.results21 (.t rfl (.t rfl .n)) ?_
  exact ⟨by rw [allowedG, if_pos c0], rfl⟩
 ·skip
  have fk := formed_iff (Decidable.of_not_not c0)
  refine XK.skip (XK.seq (XK.region rfl ?_))
  refine XO.q (Q.ldA [_, _, _, _] rfl rfl rfl) ?_
  refine XO.q (Q.move rfl) ?_
  refine XO.call Tryz.call66 rfl rfl rfl (allowed_spec l vl hl K aL rs vr hr m w vw hw fk.1 fk.2.1 fk.2.2.2) fun v15 s15 R15 => ?_
  obtain ⟨rfl, rfl⟩ := R15
  dsimp only [lcA, lnA]
  refine XO.q (Q.assign rfl) (XO.q (Q.assign rfl) (XO.done ?_))
  refine XK.rt [] Tryz.func21 Tryz.results21 (.t rfl (.t rfl .n)) ?_
  exact ⟨by rw [allowedG, if_neg c0], rfl⟩
def fitsG0 (l : List PJob) (r : PRack) (m : PRat) : Bool × Int := if (listedG l).2 ≠ 0 then (false, (listedG l).2) else if ¬ rackR r = true then (false, 6) else if ¬ chanceR m = true then (false, 1) else (fitsG l r m, 0)
theorem Fits_spec (l : List (Value × PJob)) (vl : Value) (hl K : PHeap) [jl : Arr vl encPJ 6 hl l] (aL : JobsK l K) (r : PRack) (m : PRat) : Spec Tryz.prog 46 #[vl, .agg #[.int .i64 r.r0, .int .i64 r.r1, .int .i64 r.r2, .int .i64 r.cap, .int .i64 r.domain], .agg #[.int .i64 m.n, .int .i64 m.d]] [] [hl, K] (fun v hs => v = .tuple #[.bool (fitsG0 (l.map Prod.snd) r m).1, .int .i64 (fitsG0 (l.map Prod.snd) r m).2] ∧ hs = []) := by
 refine Spec.intro (fn := Tryz.f46) (N := 32) Tryz.func46 rfl Tryz.ntmps46 rfl fun B => ?_
 refine XK.seq (XK.region rfl ?_)
 refine XO.box rfl fun b4 => ?_
 refine XO.box rfl fun b5 => ?_
 refine XO.q (Q.assign rfl) (XO.q (Q.assign rfl) (XO.done (XK.seq (XK.region rfl (XO.q (Q.move rfl) ?_)))))
 refine XO.call Tryz.call85 rfl rfl rfl (listed_spec l vl hl K aL) fun v12 s12 R12 => ?_
 obtain ⟨rfl, rfl⟩ := R12
 dsimp only [lcA, lnA]
 refine XO.q (Q.move rfl) ?_
 refine XO.q (Q.extract rfl rfl) ?_
 refine XO.q (Q.extract rfl rfl) ?_
 refine XO.q (Q.assign rfl) (XO.q (Q.assign rfl) (XO.done (XK.seq (XK.block (XK.seq ?_)))))
 refine XK.region rfl (XO.q (Q.move rfl) ?_)
 refine XO.q (Q.neq rfl rfl) ?_
 refine XO.q (Q.assign rfl) (XO.done ?_)
 refine XK.if rfl (fun c0 => ?_) (fun c0 => ?_)
 ·skip
  refine XK.seq (XK.region rfl (XO.q (Q.move rfl) (XO.q (Q.assign rfl) (XO.q (Q.assign rfl) (XO.done ?_)))))
  refine XK.rt [] Tryz.func46 Tryz.results46 (.t rfl (.t rfl .n)) ?_
  exact ⟨by rw [fitsG0, if_pos c0], rfl⟩
 ·skip
  refine XK.seq (XK.region rfl ?_)
  refine XO.q (Q.ldA [_, _, _, _, _] rfl rfl rfl) ?_
  refine XO.call Tryz.call59 rfl rfl rfl (rackR_spec r) fun v21 s21 R21 => ?_
  obtain ⟨rfl, rfl⟩ := R21
  dsimp only [lcA, lnA]
  refine XO.q (Q.not rfl) ?_
  refine XO.q (Q.assign rfl) (XO.done ?_)
  refine XK.if rfl (fun c1 => ?_) (fun c1 => ?_)
  ·skip
   refine XK.seq (XK.region rfl (XO.q (Q.assign rfl) (XO.q (Q.assign rfl) (XO.done ?_))))
   refine XK.rt [] Tryz.func46 Tryz.results46 (.t rfl (.t rfl .n)) ?_
   exact ⟨by rw [fitsG0, if_neg c0, if_pos c1], rfl⟩
  ·skip
   refine XK.seq (XK.region rfl ?_)
   refine XO.q (Q.ldA [_, _] rfl rfl rfl) ?_
   refine XO.call Tryz.call60 rfl rfl rfl (chance_spec m) fun v25 s25 R25 => ?_
   obtain ⟨rfl, rfl⟩ := R25
   dsimp only [lcA, lnA]
   refine XO.q (Q.not rfl) ?_
   refine XO.q (Q.assign rfl) (XO.done ?_)
   refine XK.if rfl (fun c2 => ?_) (fun c2 => ?_)
   ·skip
    refine XK.seq (XK.region rfl (XO.q (Q.assign rfl) (XO.q (Q.assign rfl) (XO.done ?_))))
    refine XK.rt [] Tryz.func46 Tryz.results46 (.t rfl (.t rfl .n)) ?_
    exact ⟨by rw [fitsG0, if_neg c0, if_neg c1, if_pos c2], rfl⟩
   ·skip
    refine XK.skip ?_
    refine XK.inBlock ?_
    refine XK.seq (XK.region rfl (XO.q (Q.move rfl) ?_))
    refine XO.q (Q.ldA [_, _, _, _, _] rfl rfl rfl) ?_
    refine XO.q (Q.ldA [_, _] rfl rfl rfl) ?_
    refine XO.q (Q.move rfl) ?_
    refine XO.call Tryz.call94 rfl rfl rfl (fits_spec l vl hl K aL (listed_ok.1 (Decidable.of_not_not c0)) r m (Decidable.of_not_not c2) (listedG (l.map Prod.snd)).1 (by rw [listed_prod (listed_ok.1 (Decidable.of_not_not c0))])) fun v31 s31 R31 => ?_
    obtain ⟨rfl, rfl⟩ := R31
    dsimp only [lcA, lnA]
    refine XO.q (Q.assign rfl) (XO.q (Q.assign rfl) (XO.done ?_))
    refine XK.rt [] Tryz.func46 Tryz.results46 (.t rfl (.t rfl .n)) ?_
    exact ⟨by rw [fitsG0, if_neg c0, if_neg c1, if_neg c2], rfl⟩
def fillB (l : List PJob) (limit : Int) (m : PRat) (n : Nat) : Bool := atMostB (overG (l.take n) limit (prodJ (l.take n) (l.take n).length)) m
/-- The first number of jobs with one more of which the chance is too great. -/
def fillTo (l : List PJob) (limit : Int) (m : PRat) : Nat → Nat → Nat
 | 0, n => n
 | k + 1, n => if fillB l limit m (n + 1) = true then fillTo l limit m k (n + 1) else n
def fillG (l : List PJob) (limit : Int) (m : PRat) : Int × Int := if (listedG l).2 ≠ 0 then (0, (listedG l).2) else if ¬ chanceR m = true then (0, 1) else ((fillTo l limit m l.length 0 : Nat), 0)
theorem prodJ_take {l : List PJob} {n : Nat} : ∀ {i : Nat}, i ≤ n → prodJ (l.take n) i = prodJ l i
 | 0, _ => rfl
 | i + 1, h => by
  rw [prodJ, prodJ, prodJ_take (by omega), List.getD_eq_getElem?_getD, List.getElem?_take, if_pos (by omega), List.getD_eq_getElem?_getD]
theorem ListOk.take {l : List PJob} (ok : ListOk l) (n : Nat) : ListOk (l.take n) := by
 have hl : (l.take n).length ≤ n := by rw [List.length_take]; omega
 have hl2 : (l.take n).length ≤ l.length := by rw [List.length_take]; omega
 refine ⟨Nat.le_trans hl2 ok.few, fun i hi => ?_, fun i hi => ?_⟩
 ·rw [List.getD_eq_getElem?_getD, List.getElem?_take, if_pos (by omega), ← List.getD_eq_getElem?_getD]; exact ok.job i (by omega)
 ·rw [prodJ_take (by omega)]; exact ok.prod i (by omega)
theorem cut_map {l : List (Value × PJob)} {n : Nat} : (((l.drop 0).take ((n + 1) - 0)).map Prod.snd) = (l.map Prod.snd).take (n + 1) := by
 rw [List.drop_zero, Nat.sub_zero, List.map_take]
theorem JobsK.cut {l : List (Value × PJob)} {K : PHeap} (aL : JobsK l K) {n : Nat} (hn : n < l.length) : JobsK ((l.drop 0).take ((n + 1) - 0)) K := fun i hi => by
 have hl : ((l.drop 0).take ((n + 1) - 0)).length = n + 1 := by rw [List.drop_zero, Nat.sub_zero, List.length_take]; omega
 have e : (((l.drop 0).take ((n + 1) - 0))).getD i default = l.getD i default := by
  rw [List.drop_zero, Nat.sub_zero, List.getD_eq_getElem?_getD, List.getElem?_take, if_pos (by omega), ← List.getD_eq_getElem?_getD]
 rw [e]; exact aL i (by omega)
set_option maxHeartbeats 2000000 in
theorem Fill_spec (l : List (Value × PJob)) (vl : Value) (hl K : PHeap) [jl : Arr vl encPJ 6 hl l] (aL : JobsK l K) (limit : Int) (m : PRat) : Spec Tryz.prog 48 #[vl, .int .i64 limit, .agg #[.int .i64 m.n, .int .i64 m.d]] [] [hl, K] (fun v hs => v = .tuple #[.int .i64 (fillG (l.map Prod.snd) limit m).1, .int .i64 (fillG (l.map Prod.snd) limit m).2] ∧ hs = []) := by
 have ll := jl.le
 have lm : (l.map Prod.snd).length = l.length := List.length_map ..
 refine Spec.intro (fn := Tryz.f48) (N := 49) Tryz.func48 rfl Tryz.ntmps48 rfl fun B => ?_
 refine XK.seq (XK.region rfl ?_)
 refine XO.box rfl fun b5 => ?_
 refine XO.q (Q.assign rfl) (XO.q (Q.assign rfl) (XO.done (XK.seq (XK.seq (XK.region rfl ?_)))))
 refine XO.q (Q.move rfl) ?_
 refine XO.call Tryz.call85 rfl rfl rfl (listed_spec l vl hl K aL) fun v15 s15 R15 => ?_
 obtain ⟨rfl, rfl⟩ := R15
 dsimp only [lcA, lnA]
 refine XO.q (Q.move rfl) ?_
 refine XO.q (Q.extract rfl rfl) ?_
 refine XO.q (Q.extract rfl rfl) ?_
 refine XO.q (Q.assign rfl) (XO.q (Q.assign rfl) (XO.done (XK.seq (XK.region rfl (XO.q (Q.move rfl) ?_)))))
 refine XO.q (Q.neq rfl rfl) ?_
 refine XO.done ?_
 refine XK.if rfl (fun c0 => ?_) (fun c0 => ?_)
 ·skip
  refine XK.seq (XK.region rfl (XO.q (Q.move rfl) (XO.q (Q.assign rfl) (XO.q (Q.assign rfl) (XO.done ?_)))))
  refine XK.rt [] Tryz.func48 Tryz.results48 (.t rfl (.t rfl .n)) ?_
  exact ⟨by rw [fillG, if_pos c0], rfl⟩
 ·skip
  have ok := listed_ok.1 (Decidable.of_not_not c0)
  have few := ok.few
  rw [lm] at few
  refine XK.skip (XK.seq (XK.seq (XK.region rfl ?_)))
  refine XO.q (Q.ldA [_, _] rfl rfl rfl) ?_
  refine XO.call Tryz.call60 rfl rfl rfl (chance_spec m) fun v22 s22 R22 => ?_
  obtain ⟨rfl, rfl⟩ := R22
  dsimp only [lcA, lnA]
  refine XO.q (Q.not rfl) ?_
  refine XO.done ?_
  refine XK.if rfl (fun c1 => ?_) (fun c1 => ?_)
  ·skip
   refine XK.seq (XK.region rfl (XO.q (Q.assign rfl) (XO.q (Q.assign rfl) (XO.done ?_))))
   refine XK.rt [] Tryz.func48 Tryz.results48 (.t rfl (.t rfl .n)) ?_
   exact ⟨by rw [fillG, if_neg c0, if_pos c1], rfl⟩
  ·skip
   have hm : chanceR m = true := Decidable.of_not_not c1
   refine XK.skip (XK.seq (XK.region rfl (XO.q (Q.assign rfl) (XO.done (XK.seq ?_)))))
   refine XK.block ?_
   refine XK.while (X := Nat) [10, 11, 12, 24, 25, 26, 27, 28, 29, 30, 31, 32, 33, 34, 35, 36, 37, 38, 39, 40, 41, 42, 43, 44, 45, 46, 47] (fun n => [(10, some (.int .i64 (n : Nat)))]) (fun n => []) (fun n => n ≤ l.length ∧ fillTo (l.map Prod.snd) limit m (l.map Prod.snd).length 0 = fillTo (l.map Prod.snd) limit m (l.length - n) n) (fun n => l.length - n) (0) [] rfl ⟨by omega, by rw [lm]; rfl⟩ (.c rfl (.base 0 rfl rfl)) ?_
   rintro n ⟨hn, hf⟩ ih0
   dsimp only [lcA, lnA] at ih0 ⊢
   refine XK.seq (XK.seq (XK.region rfl (XO.q (Q.move rfl) (XO.q (Q.move rfl) ?_))))
   refine XO.len rfl fun l26 => ?_
   refine XO.q (Q.lss rfl rfl) ?_
   refine XO.done ?_
   refine XK.if rfl (fun c2 => ?_) (fun c2 => ?_)
   ·skip
    have lr := listed_rng (ok.take (n + 1))
    refine XK.skip (XK.block (XK.seq (XK.region rfl (XO.q (Q.move rfl) (XO.q (Q.move rfl) ?_)))))
    refine XO.q (Q.add rfl rfl ⟨by omega, by omega⟩) ?_
    rw [show ((n : Nat) : Int) + 1 = ((n + 1 : Nat) : Int) from rfl]
    refine XO.cut (i := 0) (j := n + 1) rfl .n (.s rfl (by omega)) (by omega) (by omega) fun v32 A32 => ?_
    refine XO.call Tryz.call85 rfl rfl rfl (listed_spec ((l.drop 0).take ((n + 1) - 0)) v32 hl K (aL.cut (by omega))) fun v33 s33 R33 => ?_
    obtain ⟨rfl, rfl⟩ := R33
    dsimp only [lcA, lnA]
    rw [cut_map]
    refine XO.q (Q.move rfl) ?_
    refine XO.q (Q.extract rfl rfl) ?_
    refine XO.q (Q.extract rfl rfl) ?_
    refine XO.q (Q.assign rfl) (XO.q (Q.assign rfl) (XO.done (XK.seq (XK.seq ?_))))
    refine XK.drawn [0, 1, 2, 3, 4, 5, 7, 9] [b5] [] (.q 0 (.q 1 (.q 2 (.q 3 (.q 4 (.q 5 (.q 7 (.br 6 true (.br 8 true (.q 9 .done) .stop) .stop)))))))) Tryz.mixed rfl (by kernel_rfl) ?_
    refine XT.q rfl rfl (Q.move rfl) ?_
    refine XT.q rfl rfl (Q.move rfl) ?_
    refine XT.q rfl rfl (Q.add rfl rfl ⟨by omega, by omega⟩) ?_
    rw [show ((n : Nat) : Int) + 1 = ((n + 1 : Nat) : Int) from rfl]
    refine XT.q rfl rfl (Q.cut (i := 0) (j := n + 1) rfl .n (.s rfl (by omega)) (by omega) (by omega)) ?_
    refine XT.q rfl rfl (Q.move rfl) ?_
    refine XT.q rfl rfl (Q.move rfl) ?_
    refine XT.q rfl rfl (Q.ldA [_, _] rfl rfl rfl) ?_
    refine XT.call rfl rfl Tryz.call89 rfl rfl rfl (by haveI := Arr.cut jl (i := 0) (j := n + 1) (by omega) (by omega); exact over_spec ((l.drop 0).take ((n + 1) - 0)) (cutv vl 6 0 (n + 1)) hl K (aL.cut (by omega)) (by rw [cut_map]; exact ok.take (n + 1)) limit (listedG ((l.map Prod.snd).take (n + 1))).1 (by rw [lr.1]; exact lr.2)) (fun v42 s42 R42 => ?_) XT.stop
    obtain ⟨rfl, rfl⟩ := R42
    dsimp only [lcA, lnA]
    refine ⟨inferInstance, ?_⟩
    rw [cut_map, lr.1]
    have orr := over_rng ((l.map Prod.snd).take (n + 1)) limit (all := prodJ ((l.map Prod.snd).take (n + 1)) ((l.map Prod.snd).take (n + 1)).length) lr.2 (by have := combos_len (ok.take (n + 1)) _ (Nat.le_refl _); rw [List.take_length] at this; exact this)
    refine XT.call rfl rfl Tryz.call96 rfl rfl rfl (atMost_spec (overG ((l.map Prod.snd).take (n + 1)) limit (prodJ ((l.map Prod.snd).take (n + 1)) ((l.map Prod.snd).take (n + 1)).length)) m orr (chanceR_rng hm)) (fun v44 s44 R44 => ?_) XT.stop
    obtain ⟨rfl, rfl⟩ := R44
    dsimp only [lcA, lnA]
    refine ⟨inferInstance, ?_⟩
    refine XT.q rfl rfl (Q.not rfl) ?_
    refine XT.done ?_
    refine XK.if rfl (fun c3 => ?_) (fun c3 => ?_)
    ·skip
     have e1 : fillTo (l.map Prod.snd) limit m (l.length - n) n = n := by rw [show l.length - n = (l.length - n - 1) + 1 by omega, fillTo, if_neg (show ¬ fillB (l.map Prod.snd) limit m (n + 1) = true from c3)]
     refine XK.exit rfl ?_
     refine XK.seq (XK.region rfl (XO.q (Q.move rfl) (XO.q (Q.assign rfl) (XO.q (Q.assign rfl) (XO.done ?_)))))
     refine XK.rt [] Tryz.func48 Tryz.results48 (.t rfl (.t rfl .n)) ?_
     exact ⟨by rw [fillG, if_neg c0, if_neg c1, hf, e1], rfl⟩
    ·skip
     have e1 : fillTo (l.map Prod.snd) limit m (l.length - n) n = fillTo (l.map Prod.snd) limit m (l.length - (n + 1)) (n + 1) := by rw [show l.length - n = (l.length - (n + 1)) + 1 by omega, fillTo, if_pos (show fillB (l.map Prod.snd) limit m (n + 1) = true from Decidable.of_not_not c3)]
     refine XK.skip (XK.region rfl (XO.q (Q.move rfl) ?_))
     refine XO.q (Q.add rfl rfl ⟨by omega, by omega⟩) ?_
     refine XO.q (Q.assign rfl) (XO.done ?_)
     refine XK.inBlock ?_
     exact ih0 (n + 1) _ _ ⟨by omega, by rw [hf, e1]⟩ (by first | omega | (dsimp only; omega)) (.c rfl (.base 55 rfl rfl)) inferInstance
   ·skip
    refine XK.exit rfl ?_
    refine XK.seq (XK.region rfl (XO.q (Q.move rfl) (XO.q (Q.assign rfl) (XO.q (Q.assign rfl) (XO.done ?_)))))
    refine XK.rt [] Tryz.func48 Tryz.results48 (.t rfl (.t rfl .n)) ?_
    exact ⟨by rw [fillG, if_neg c0, if_neg c1, hf, show l.length - n = 0 by omega, fillTo], rfl⟩
end Go.X

set_option linter.unusedSimpArgs false
set_option linter.unusedVariables false
set_option maxRecDepth 20000
namespace Go.X
open Go.Proofs
set_option maxHeartbeats 1000000 in
theorem rchance_spec (l : List (Value × PJob)) (vl : Value) (hl K : PHeap) [jl : Arr vl encPJ 6 hl l] (aL : JobsK l K) (limit : Int) : Spec Tryz.prog 45 #[vl, .int .i64 limit] [] [hl, K] (fun v hs => v = .tuple #[.agg #[.int .i64 (chanceG (l.map Prod.snd) limit).1.n, .int .i64 (chanceG (l.map Prod.snd) limit).1.d], .int .i64 (chanceG (l.map Prod.snd) limit).2] ∧ hs = []) := by
 refine Spec.intro (fn := Tryz.f45) (N := 48) Tryz.func45 rfl Tryz.ntmps45 rfl fun B => ?_
 refine XK.seq (XK.region rfl ?_)
 refine XO.alloc fun b4 => ?_
 refine XO.q (Q.assign rfl) (XO.done (XK.seq (XK.region rfl (XO.q (Q.move rfl) ?_))))
 refine XO.call Tryz.call91 rfl rfl rfl (rlisted_spec l vl hl K aL) fun v14 s14 R14 => ?_
 obtain ⟨rfl, rfl⟩ := R14
 dsimp only [lcA, lnA]
 refine XO.q (Q.move rfl) ?_
 refine XO.q (Q.extract rfl rfl) ?_
 refine XO.q (Q.extract rfl rfl) ?_
 refine XO.q (Q.assign rfl) (XO.q (Q.assign rfl) (XO.done (XK.seq (XK.seq (XK.region rfl ?_)))))
 refine XO.q (Q.move rfl) ?_
 refine XO.q (Q.neq rfl rfl) ?_
 refine XO.done ?_
 refine XK.if rfl (fun c0 => ?_) (fun c0 => ?_)
 ·skip
  refine XK.seq (XK.region rfl ?_)
  refine XO.q (Q.build [_, _] (.n _)) ?_
  refine XO.q (Q.move rfl) ?_
  refine XO.st rfl rfl rfl ?_
  refine XO.q (Q.assign rfl) (XO.done ?_)
  refine XK.rt [] Tryz.func45 Tryz.results45 (.cell [_, _] rfl rfl rfl (.t rfl .n)) ?_
  exact ⟨by rw [chanceG, if_pos c0], rfl⟩
 ·skip
  have ok := listed_ok.1 (Decidable.of_not_not c0)
  have lr := listed_rng ok
  have ca := combos_all ok
  have ol := over_len (combos (l.map Prod.snd)) limit
  have l1 : (listedG (l.map Prod.snd)).1 = prodJ (l.map Prod.snd) (l.map Prod.snd).length := by rw [lr.1]
  have gp := gcd_pos (n := (((overN (combos (l.map Prod.snd)) limit) : Nat) : Int)) (all := (listedG (l.map Prod.snd)).1) (by omega)
  refine XK.skip (XK.seq (XK.region rfl (XO.q (Q.assign rfl) (XO.done (XK.seq ?_)))))
  refine XK.region rfl (XO.q (Q.move rfl) ?_)
  refine XO.call Tryz.call92 rfl rfl rfl (counts_spec l vl hl K aL ok) fun v22 s22 R22 => ?_
  obtain ⟨kc, CC, rfl, OC, hC, hlC⟩ := R22
  dsimp only [lcA, lnA]
  refine XO.q (Q.assign rfl) (XO.done (XK.seq (XK.seq (XK.region rfl (XO.q (Q.assign rfl) ?_)))))
  refine XO.done (XK.block ?_)
  refine XK.while (X := Nat) [8, 10, 23, 24, 25, 26, 27, 28, 29, 30, 31, 32, 33, 34, 35, 36, 37] (fun i => [(10, some (.int .i64 (i : Nat))), (8, some (.int .i64 (ovC CC limit i)))]) (fun i => []) (fun i => i ≤ CC.length) (fun i => CC.length - i) (0) [] rfl (by omega) (.c rfl (.c rfl (.base 0 rfl rfl))) ?_
  rintro i hi ih0
  dsimp only [lcA, lnA] at ih0 ⊢
  refine XK.seq (XK.seq (XK.region rfl (XO.q (Q.move rfl) (XO.q (Q.move rfl) ?_))))
  refine XO.len rfl fun l25 => ?_
  refine XO.q (Q.lss rfl rfl) ?_
  refine XO.done ?_
  refine XK.if rfl (fun c1 => ?_) (fun c1 => ?_)
  ·skip
   have ovr := ovC_rng hC limit i (by omega)
   have cr := cnt_rng hC (i := i) (by omega)
   have mm := mulP (a := (i : Int)) (b := ((combos (l.map Prod.snd)).length : Int)) (m := 8001) (n := 1099511627776) (by omega) (by omega)
   refine XK.skip (XK.seq (XK.block (XK.seq (XK.region rfl (XO.q (Q.move rfl) ?_)))))
   refine XO.q (Q.move rfl) ?_
   refine XO.q (Q.gtr rfl rfl) ?_
   refine XO.done ?_
   refine XK.if rfl (fun c2 => ?_) (fun c2 => ?_)
   ·skip
    have e1 : ovC CC limit (i + 1) = ovC CC limit i + CC.getD i default := by rw [ovC, if_pos c2]
    refine XK.region rfl (XO.q (Q.move rfl) (XO.q (Q.move rfl) (XO.q (Q.move rfl) ?_)))
    refine XO.ix rfl rfl (by omega) (by omega) fun i35 => ?_
    refine XO.q (Q.ldE rfl (by first | assumption | omega) rfl) ?_
    refine XO.q (Q.add rfl rfl ⟨by omega, by omega⟩) ?_
    refine XO.q (Q.assign rfl) (XO.done ?_)
    refine XK.inBlock ?_
    refine XK.region rfl (XO.q (Q.move rfl) ?_)
    refine XO.q (Q.add rfl rfl ⟨by omega, by omega⟩) ?_
    refine XO.q (Q.assign rfl) (XO.done ?_)
    rw [← e1]
    exact ih0 (i + 1) _ _ (by omega) (by first | omega | (dsimp only; omega)) (.c rfl (.c rfl (.base 36 rfl rfl))) inferInstance
   ·skip
    have e1 : ovC CC limit (i + 1) = ovC CC limit i := by rw [ovC, if_neg c2, Int.add_zero]
    refine XK.skip ?_
    refine XK.inBlock ?_
    refine XK.region rfl (XO.q (Q.move rfl) ?_)
    refine XO.q (Q.add rfl rfl ⟨by omega, by omega⟩) ?_
    refine XO.q (Q.assign rfl) (XO.done ?_)
    rw [← e1]
    exact ih0 (i + 1) _ _ (by omega) (by first | omega | (dsimp only; omega)) (.c rfl (.c rfl (.base 29 rfl rfl))) inferInstance
  ·skip
   have hin : i = CC.length := by omega
   subst hin
   rw [ovC_all hC]
   refine XK.exit rfl ?_
   refine XK.seq (XK.region rfl (XO.q (Q.move rfl) (XO.q (Q.move rfl) ?_)))
   refine XO.call Tryz.call93 rfl rfl rfl ((by
    have q := rgcd_spec (listedG (l.map Prod.snd)).1.toNat (overN (combos (l.map Prod.snd)) limit) (by omega) (by omega)
    rw [show (((listedG (l.map Prod.snd)).1.toNat : Nat) : Int) = (listedG (l.map Prod.snd)).1 by omega] at q
    exact q)) fun v40 s40 R40 => ?_
   obtain ⟨rfl, rfl⟩ := R40
   dsimp only [lcA, lnA]
   rw [show (Nat.gcd (overN (combos (l.map Prod.snd)) limit) (listedG (l.map Prod.snd)).1.toNat : Nat) = Int.gcd (((overN (combos (l.map Prod.snd)) limit) : Nat) : Int) (listedG (l.map Prod.snd)).1 by unfold Int.gcd; rw [Int.natAbs_natCast, show (listedG (l.map Prod.snd)).1.natAbs = (listedG (l.map Prod.snd)).1.toNat by omega]]
   refine XO.q (Q.assign rfl) (XO.done (XK.seq ?_))
   refine XK.drawn [0, 1, 2, 3, 4, 5, 6, 8] [] [] (.q 0 (.q 1 (.q 2 (.q 3 (.q 4 (.q 5 (.q 6 (.br 7 true (.q 8 .done) .stop)))))))) Tryz.mixed rfl (by kernel_rfl) ?_
   refine XT.q rfl rfl (Q.move rfl) ?_
   refine XT.q rfl rfl (Q.move rfl) ?_
   refine XT.q rfl rfl (Q.quo rfl rfl (by omega) (by omega) (by omega)) ?_
   refine XT.q rfl rfl (Q.move rfl) ?_
   refine XT.q rfl rfl (Q.move rfl) ?_
   refine XT.q rfl rfl (Q.quo rfl rfl (by omega) (by omega) (by omega)) ?_
   refine XT.q rfl rfl (Q.build [_, _] (.c 0 1 rfl rfl rfl (.c 1 1 rfl rfl rfl (.n _)))) ?_
   refine XT.st rfl rfl rfl rfl rfl ⟨inferInstance, ?_⟩ XT.stop
   refine XT.q rfl rfl (Q.assign rfl) ?_
   refine XT.done ?_
   refine XK.rt [] Tryz.func45 Tryz.results45 (.cell [_, _] rfl rfl rfl (.t rfl .n)) ?_
   exact ⟨by rw [chanceG, if_neg c0]; rfl, rfl⟩
theorem rare_spec (l : List (Value × PJob)) (vl : Value) (hl K : PHeap) [jl : Arr vl encPJ 6 hl l] (aL : JobsK l K) (ok : ListOk (l.map Prod.snd)) (limit : Int) (m : PRat) (hm : chanceR m = true) : Spec Tryz.prog 97 #[vl, .int .i64 limit, .agg #[.int .i64 m.n, .int .i64 m.d]] [] [hl, K] (fun v hs => v = .bool (atMostB (overG (l.map Prod.snd) limit (prodJ (l.map Prod.snd) (l.map Prod.snd).length)) m) ∧ hs = []) := by
 have lr := listed_rng ok
 have orr := over_rng (l.map Prod.snd) limit (all := (prodJ (l.map Prod.snd) (l.map Prod.snd).length)) lr.2 (combos_all ok).1
 have mr := chanceR_rng hm
 have m1 := mulP orr.1 mr.2
 have m2 := mulP mr.1 orr.2
 have ce : chanceG (l.map Prod.snd) limit = (overG (l.map Prod.snd) limit (prodJ (l.map Prod.snd) (l.map Prod.snd).length), 0) := by rw [chanceG, if_neg (by rw [listed_ok.2 ok]; decide), lr.1]
 refine Spec.intro (fn := Tryz.f97) (N := 26) Tryz.func97 rfl Tryz.ntmps97 rfl fun B => ?_
 refine XK.seq (XK.region rfl ?_)
 refine XO.box rfl fun b5 => ?_
 refine XO.q (Q.assign rfl) (XO.done (XK.seq (XK.region rfl (XO.q (Q.move rfl) (XO.q (Q.move rfl) ?_)))))
 refine XO.call Tryz.call45 rfl rfl rfl (rchance_spec l vl hl K aL limit) fun v12 s12 R12 => ?_
 obtain ⟨rfl, rfl⟩ := R12
 dsimp only [lcA, lnA]
 rw [ce]
 dsimp only
 refine XO.q (Q.move rfl) ?_
 refine XO.q (Q.extract rfl rfl) ?_
 refine XO.q (Q.extract rfl rfl) ?_
 refine XO.alloc fun b7 => ?_
 refine XO.st rfl rfl rfl ?_
 refine XO.q (Q.assign rfl) (XO.done (XK.seq (XK.region rfl ?_)))
 refine XO.q (Q.fieldAddr rfl) ?_
 refine XO.q (Q.ld rfl rfl) ?_
 refine XO.q (Q.fieldAddr rfl) ?_
 refine XO.q (Q.ld rfl rfl) ?_
 refine XO.q (Q.mul rfl rfl ⟨by omega, by omega⟩) ?_
 refine XO.q (Q.fieldAddr rfl) ?_
 refine XO.q (Q.ld rfl rfl) ?_
 refine XO.q (Q.fieldAddr rfl) ?_
 refine XO.q (Q.ld rfl rfl) ?_
 refine XO.q (Q.mul rfl rfl ⟨by omega, by omega⟩) ?_
 refine XO.q (Q.leq rfl rfl) ?_
 refine XO.q (Q.assign rfl) (XO.done ?_)
 refine XK.rt [] Tryz.func97 Tryz.results97 (.t rfl .n) ?_
 exact ⟨rfl, rfl⟩
set_option maxHeartbeats 2000000 in
theorem rfits_spec (l : List (Value × PJob)) (vl : Value) (hl K : PHeap) [jl : Arr vl encPJ 6 hl l] (aL : JobsK l K) (ok : ListOk (l.map Prod.snd)) (r : PRack) (m : PRat) (hm : chanceR m = true) : Spec Tryz.prog 95 #[vl, .agg #[.int .i64 r.r0, .int .i64 r.r1, .int .i64 r.r2, .int .i64 r.cap, .int .i64 r.domain], .agg #[.int .i64 m.n, .int .i64 m.d]] [] [hl, K] (fun v hs => v = .bool (fitsG (l.map Prod.snd) r m) ∧ hs = []) := by
 have ll := jl.le
 have lm : (l.map Prod.snd).length = l.length := List.length_map ..
 have few := ok.few
 refine Spec.intro (fn := Tryz.f95) (N := 40) Tryz.func95 rfl Tryz.ntmps95 rfl fun B => ?_
 refine XK.seq (XK.region rfl ?_)
 refine XO.box rfl fun b4 => ?_
 refine XO.box rfl fun b5 => ?_
 refine XO.q (Q.assign rfl) (XO.done (XK.seq (XK.seq (XK.region rfl (XO.q (Q.assign rfl) ?_)))))
 refine XO.done (XK.block ?_)
 refine XK.loop' ?_
 refine XK.seq (XK.seq (XK.region rfl (XO.q (Q.move rfl) ?_)))
 refine XO.q (Q.lss rfl rfl) ?_
 refine XO.done ?_
 refine XK.if rfl (fun c0 => ?_) (fun c0 => ?_)
 ·skip
  refine XK.skip (XK.seq (XK.block (XK.seq (XK.region rfl (XO.q (Q.assign rfl) ?_)))))
  refine XO.done (XK.seq (XK.seq (XK.region rfl (XO.q (Q.assign rfl) (XO.done ?_)))))
  refine XK.block ?_
  refine XK.while (X := Nat) [8, 9, 14, 15, 16, 17, 18, 19, 20, 21, 22, 23, 24, 25, 26, 27, 28] (fun i => [(9, some (.int .i64 (i : Nat))), (8, some (.int .i64 (needK (l.map Prod.snd) 0 i)))]) (fun i => []) (fun i => i ≤ l.length) (fun i => l.length - i) (0) [] rfl (by omega) (.c rfl (.c rfl (.base 0 rfl rfl))) ?_
  rintro i hi ih1
  dsimp only [lcA, lnA] at ih1 ⊢
  refine XK.seq (XK.seq (XK.region rfl (XO.q (Q.move rfl) (XO.q (Q.move rfl) ?_))))
  refine XO.len rfl fun l16 => ?_
  refine XO.q (Q.lss rfl rfl) ?_
  refine XO.done ?_
  refine XK.if rfl (fun c1 => ?_) (fun c1 => ?_)
  ·skip
   have ji := map_snd_atP l i
   have ai := aL i (by omega)
   have jok := ok.job i (by omega)
   rw [ji] at jok
   have nr := pin_three.1 jok.need
   have na := need_succ (l := l.map Prod.snd) (i := i) (by omega)
   rw [ji] at na
   have nb := need_rng ok i (by omega)
   obtain ⟨na0, na1, na2⟩ := na
   refine XK.skip (XK.seq (XK.block (XK.region rfl (XO.q (Q.move rfl) (XO.q (Q.move rfl) ?_)))))
   refine XO.q (Q.move rfl) (XO.q (Q.move rfl) ?_)
   refine XO.ix rfl rfl (by omega) (by omega) fun i24 => ?_
   refine XO.q (Q.fieldQ rfl (by first | assumption | omega)) ?_
   refine XO.q (Q.ixE rfl (by first | assumption | omega) rfl (by omega) (by omega)) ?_
   (try rw [show (0 + Int.toNat 0 * 1 : Nat) = 0 from rfl])
   (try rw [show (0 + Int.toNat 1 * 1 : Nat) = 1 from rfl])
   (try rw [show (0 + Int.toNat 2 * 1 : Nat) = 2 from rfl])
   refine XO.q (Q.ldE rfl (by first | assumption | omega) rfl) ?_
   refine XO.q (Q.add rfl rfl ⟨by omega, by omega⟩) ?_
   refine XO.q (Q.assign rfl) (XO.done ?_)
   refine XK.inBlock ?_
   refine XK.region rfl (XO.q (Q.move rfl) ?_)
   refine XO.q (Q.add rfl rfl ⟨by omega, by omega⟩) ?_
   refine XO.q (Q.assign rfl) (XO.done ?_)
   rw [← na0]
   exact ih1 (i + 1) _ _ (by omega) (by first | omega | (dsimp only; omega)) (.c rfl (.c rfl (.base 36 rfl rfl))) inferInstance
  ·skip
   have hil : i = (l.map Prod.snd).length := by omega
   subst hil
   refine XK.exit rfl ?_
   refine XK.seq (XK.region rfl (XO.q (Q.move rfl) (XO.q (Q.move rfl) ?_)))
   refine XO.q (Q.fieldAddr rfl) ?_
   refine XO.q (Q.ixA rfl rfl (by omega) (by omega)) ?_
   (try rw [show (0 + Int.toNat 0 * 1 : Nat) = 0 from rfl])
   (try rw [show (0 + Int.toNat 1 * 1 : Nat) = 1 from rfl])
   (try rw [show (0 + Int.toNat 2 * 1 : Nat) = 2 from rfl])
   refine XO.q (Q.ld rfl rfl) ?_
   refine XO.q (Q.gtr rfl rfl) ?_
   refine XO.done ?_
   refine XK.if rfl (fun c2 => ?_) (fun c2 => ?_)
   ·skip
    refine XK.seq (XK.region rfl (XO.q (Q.assign rfl) (XO.done ?_)))
    refine XK.rt [] Tryz.func95 Tryz.results95 (.t rfl .n) ?_
    exact ⟨by rw [fitsG, decide_eq_false (by omega)]; simp, rfl⟩
   ·skip
    refine XK.skip ?_
    refine XK.inBlock ?_
    refine XK.region rfl (XO.q (Q.move rfl) ?_)
    refine XO.q (Q.add rfl rfl ⟨by omega, by omega⟩) ?_
    (try rw [show ((0 : Int) + 1) = 1 from rfl])
    (try rw [show ((1 : Int) + 1) = 2 from rfl])
    (try rw [show ((2 : Int) + 1) = 3 from rfl])
    refine XO.q (Q.assign rfl) (XO.done ?_)
    refine XK.inLoop' ?_
    refine XK.seq (XK.seq (XK.region rfl (XO.q (Q.move rfl) ?_)))
    refine XO.q (Q.lss rfl rfl) ?_
    refine XO.done ?_
    refine XK.if rfl (fun c3 => ?_) (fun c3 => ?_)
    ·skip
     refine XK.skip (XK.seq (XK.block (XK.seq (XK.region rfl (XO.q (Q.assign rfl) ?_)))))
     refine XO.done (XK.seq (XK.seq (XK.region rfl (XO.q (Q.assign rfl) (XO.done ?_)))))
     refine XK.block ?_
     refine XK.while (X := Nat) [8, 9, 14, 15, 16, 17, 18, 19, 20, 21, 22, 23, 24, 25, 26, 27, 28] (fun i => [(9, some (.int .i64 (i : Nat))), (8, some (.int .i64 (needK (l.map Prod.snd) 1 i)))]) (fun i => []) (fun i => i ≤ l.length) (fun i => l.length - i) (0) [] rfl (by omega) (.c rfl (.c rfl (.base 0 rfl rfl))) ?_
     rintro i hi ih2
     dsimp only [lcA, lnA] at ih2 ⊢
     refine XK.seq (XK.seq (XK.region rfl (XO.q (Q.move rfl) (XO.q (Q.move rfl) ?_))))
     refine XO.len rfl fun l16 => ?_
     refine XO.q (Q.lss rfl rfl) ?_
     refine XO.done ?_
     refine XK.if rfl (fun c4 => ?_) (fun c4 => ?_)
     ·skip
      have ji := map_snd_atP l i
      have ai := aL i (by omega)
      have jok := ok.job i (by omega)
      rw [ji] at jok
      have nr := pin_three.1 jok.need
      have na := need_succ (l := l.map Prod.snd) (i := i) (by omega)
      rw [ji] at na
      have nb := need_rng ok i (by omega)
      obtain ⟨na0, na1, na2⟩ := na
      refine XK.skip (XK.seq (XK.block (XK.region rfl (XO.q (Q.move rfl) (XO.q (Q.move rfl) ?_)))))
      refine XO.q (Q.move rfl) (XO.q (Q.move rfl) ?_)
      refine XO.ix rfl rfl (by omega) (by omega) fun i24 => ?_
      refine XO.q (Q.fieldQ rfl (by first | assumption | omega)) ?_
      refine XO.q (Q.ixE rfl (by first | assumption | omega) rfl (by omega) (by omega)) ?_
      (try rw [show (0 + Int.toNat 0 * 1 : Nat) = 0 from rfl])
      (try rw [show (0 + Int.toNat 1 * 1 : Nat) = 1 from rfl])
      (try rw [show (0 + Int.toNat 2 * 1 : Nat) = 2 from rfl])
      refine XO.q (Q.ldE rfl (by first | assumption | omega) rfl) ?_
      refine XO.q (Q.add rfl rfl ⟨by omega, by omega⟩) ?_
      refine XO.q (Q.assign rfl) (XO.done ?_)
      refine XK.inBlock ?_
      refine XK.region rfl (XO.q (Q.move rfl) ?_)
      refine XO.q (Q.add rfl rfl ⟨by omega, by omega⟩) ?_
      refine XO.q (Q.assign rfl) (XO.done ?_)
      rw [← na1]
      exact ih2 (i + 1) _ _ (by omega) (by first | omega | (dsimp only; omega)) (.c rfl (.c rfl (.base 36 rfl rfl))) inferInstance
     ·skip
      have hil : i = (l.map Prod.snd).length := by omega
      subst hil
      refine XK.exit rfl ?_
      refine XK.seq (XK.region rfl (XO.q (Q.move rfl) (XO.q (Q.move rfl) ?_)))
      refine XO.q (Q.fieldAddr rfl) ?_
      refine XO.q (Q.ixA rfl rfl (by omega) (by omega)) ?_
      (try rw [show (0 + Int.toNat 0 * 1 : Nat) = 0 from rfl])
      (try rw [show (0 + Int.toNat 1 * 1 : Nat) = 1 from rfl])
      (try rw [show (0 + Int.toNat 2 * 1 : Nat) = 2 from rfl])
      refine XO.q (Q.ld rfl rfl) ?_
      refine XO.q (Q.gtr rfl rfl) ?_
      refine XO.done ?_
      refine XK.if rfl (fun c5 => ?_) (fun c5 => ?_)
      ·skip
       refine XK.seq (XK.region rfl (XO.q (Q.assign rfl) (XO.done ?_)))
       refine XK.rt [] Tryz.func95 Tryz.results95 (.t rfl .n) ?_
       exact ⟨by rw [fitsG, decide_eq_false (show ¬ needK (l.map Prod.snd) 1 (l.map Prod.snd).length ≤ r.r1 by omega)]; simp, rfl⟩
      ·skip
       refine XK.skip ?_
       refine XK.inBlock ?_
       refine XK.region rfl (XO.q (Q.move rfl) ?_)
       refine XO.q (Q.add rfl rfl ⟨by omega, by omega⟩) ?_
       (try rw [show ((0 : Int) + 1) = 1 from rfl])
       (try rw [show ((1 : Int) + 1) = 2 from rfl])
       (try rw [show ((2 : Int) + 1) = 3 from rfl])
       refine XO.q (Q.assign rfl) (XO.done ?_)
       refine XK.inLoop' ?_
       refine XK.seq (XK.seq (XK.region rfl (XO.q (Q.move rfl) ?_)))
       refine XO.q (Q.lss rfl rfl) ?_
       refine XO.done ?_
       refine XK.if rfl (fun c6 => ?_) (fun c6 => ?_)
       ·skip
        refine XK.skip (XK.seq (XK.block (XK.seq (XK.region rfl (XO.q (Q.assign rfl) ?_)))))
        refine XO.done (XK.seq (XK.seq (XK.region rfl (XO.q (Q.assign rfl) (XO.done ?_)))))
        refine XK.block ?_
        refine XK.while (X := Nat) [8, 9, 14, 15, 16, 17, 18, 19, 20, 21, 22, 23, 24, 25, 26, 27, 28] (fun i => [(9, some (.int .i64 (i : Nat))), (8, some (.int .i64 (needK (l.map Prod.snd) 2 i)))]) (fun i => []) (fun i => i ≤ l.length) (fun i => l.length - i) (0) [] rfl (by omega) (.c rfl (.c rfl (.base 0 rfl rfl))) ?_
        rintro i hi ih3
        dsimp only [lcA, lnA] at ih3 ⊢
        refine XK.seq (XK.seq (XK.region rfl (XO.q (Q.move rfl) (XO.q (Q.move rfl) ?_))))
        refine XO.len rfl fun l16 => ?_
        refine XO.q (Q.lss rfl rfl) ?_
        refine XO.done ?_
        refine XK.if rfl (fun c7 => ?_) (fun c7 => ?_)
        ·skip
         have ji := map_snd_atP l i
         have ai := aL i (by omega)
         have jok := ok.job i (by omega)
         rw [ji] at jok
         have nr := pin_three.1 jok.need
         have na := need_succ (l := l.map Prod.snd) (i := i) (by omega)
         rw [ji] at na
         have nb := need_rng ok i (by omega)
         obtain ⟨na0, na1, na2⟩ := na
         refine XK.skip (XK.seq (XK.block (XK.region rfl (XO.q (Q.move rfl) (XO.q (Q.move rfl) ?_)))))
         refine XO.q (Q.move rfl) (XO.q (Q.move rfl) ?_)
         refine XO.ix rfl rfl (by omega) (by omega) fun i24 => ?_
         refine XO.q (Q.fieldQ rfl (by first | assumption | omega)) ?_
         refine XO.q (Q.ixE rfl (by first | assumption | omega) rfl (by omega) (by omega)) ?_
         (try rw [show (0 + Int.toNat 0 * 1 : Nat) = 0 from rfl])
         (try rw [show (0 + Int.toNat 1 * 1 : Nat) = 1 from rfl])
         (try rw [show (0 + Int.toNat 2 * 1 : Nat) = 2 from rfl])
         refine XO.q (Q.ldE rfl (by first | assumption | omega) rfl) ?_
         refine XO.q (Q.add rfl rfl ⟨by omega, by omega⟩) ?_
         refine XO.q (Q.assign rfl) (XO.done ?_)
         refine XK.inBlock ?_
         refine XK.region rfl (XO.q (Q.move rfl) ?_)
         refine XO.q (Q.add rfl rfl ⟨by omega, by omega⟩) ?_
         refine XO.q (Q.assign rfl) (XO.done ?_)
         rw [← na2]
         exact ih3 (i + 1) _ _ (by omega) (by first | omega | (dsimp only; omega)) (.c rfl (.c rfl (.base 36 rfl rfl))) inferInstance
        ·skip
         have hil : i = (l.map Prod.snd).length := by omega
         subst hil
         refine XK.exit rfl ?_
         refine XK.seq (XK.region rfl (XO.q (Q.move rfl) (XO.q (Q.move rfl) ?_)))
         refine XO.q (Q.fieldAddr rfl) ?_
         refine XO.q (Q.ixA rfl rfl (by omega) (by omega)) ?_
         (try rw [show (0 + Int.toNat 0 * 1 : Nat) = 0 from rfl])
         (try rw [show (0 + Int.toNat 1 * 1 : Nat) = 1 from rfl])
         (try rw [show (0 + Int.toNat 2 * 1 : Nat) = 2 from rfl])
         refine XO.q (Q.ld rfl rfl) ?_
         refine XO.q (Q.gtr rfl rfl) ?_
         refine XO.done ?_
         refine XK.if rfl (fun c8 => ?_) (fun c8 => ?_)
         ·skip
          refine XK.seq (XK.region rfl (XO.q (Q.assign rfl) (XO.done ?_)))
          refine XK.rt [] Tryz.func95 Tryz.results95 (.t rfl .n) ?_
          exact ⟨by rw [fitsG, decide_eq_false (show ¬ needK (l.map Prod.snd) 2 (l.map Prod.snd).length ≤ r.r2 by omega)]; simp, rfl⟩
         ·skip
          refine XK.skip ?_
          refine XK.inBlock ?_
          refine XK.region rfl (XO.q (Q.move rfl) ?_)
          refine XO.q (Q.add rfl rfl ⟨by omega, by omega⟩) ?_
          (try rw [show ((0 : Int) + 1) = 1 from rfl])
          (try rw [show ((1 : Int) + 1) = 2 from rfl])
          (try rw [show ((2 : Int) + 1) = 3 from rfl])
          refine XO.q (Q.assign rfl) (XO.done ?_)
          refine XK.inLoop' ?_
          refine XK.seq (XK.seq (XK.region rfl (XO.q (Q.move rfl) ?_)))
          refine XO.q (Q.lss rfl rfl) ?_
          refine XO.done ?_
          refine XK.if rfl (fun c9 => ?_) (fun c9 => ?_)
          ·skip
           exact absurd c9 (by first | decide | simp)
          ·skip
           refine XK.exit rfl ?_
           refine XK.seq (XK.region rfl (XO.q (Q.move rfl) ?_))
           refine XO.q (Q.fieldAddr rfl) ?_
           refine XO.q (Q.ld rfl rfl) ?_
           refine XO.q (Q.ldA [_, _] rfl rfl rfl) ?_
           refine XO.call Tryz.call97 rfl rfl rfl (rare_spec l vl hl K aL ok r.cap m hm) fun v39 s39 R39 => ?_
           obtain ⟨rfl, rfl⟩ := R39
           dsimp only [lcA, lnA]
           refine XO.q (Q.assign rfl) (XO.done ?_)
           refine XK.rt [] Tryz.func95 Tryz.results95 (.t rfl .n) ?_
           exact ⟨by rw [fitsG, decide_eq_true (show needK (l.map Prod.snd) 0 (l.map Prod.snd).length ≤ r.r0 by omega), decide_eq_true (show needK (l.map Prod.snd) 1 (l.map Prod.snd).length ≤ r.r1 by omega), decide_eq_true (show needK (l.map Prod.snd) 2 (l.map Prod.snd).length ≤ r.r2 by omega)]; simp, rfl⟩
       ·skip
        exact absurd (by first | decide | simp) c6
    ·skip
     exact absurd (by first | decide | simp) c3
 ·skip
  exact absurd (by first | decide | simp) c0
theorem rFits_spec (l : List (Value × PJob)) (vl : Value) (hl K : PHeap) [jl : Arr vl encPJ 6 hl l] (aL : JobsK l K) (r : PRack) (m : PRat) : Spec Tryz.prog 47 #[vl, .agg #[.int .i64 r.r0, .int .i64 r.r1, .int .i64 r.r2, .int .i64 r.cap, .int .i64 r.domain], .agg #[.int .i64 m.n, .int .i64 m.d]] [] [hl, K] (fun v hs => v = .tuple #[.bool (fitsG0 (l.map Prod.snd) r m).1, .int .i64 (fitsG0 (l.map Prod.snd) r m).2] ∧ hs = []) := by
 refine Spec.intro (fn := Tryz.f47) (N := 28) Tryz.func47 rfl Tryz.ntmps47 rfl fun B => ?_
 refine XK.seq (XK.region rfl ?_)
 refine XO.box rfl fun b4 => ?_
 refine XO.box rfl fun b5 => ?_
 refine XO.q (Q.assign rfl) (XO.q (Q.assign rfl) (XO.done (XK.seq (XK.seq (XK.region rfl ?_)))))
 refine XO.q (Q.move rfl) ?_
 refine XO.call Tryz.call91 rfl rfl rfl (rlisted_spec l vl hl K aL) fun v12 s12 R12 => ?_
 obtain ⟨rfl, rfl⟩ := R12
 dsimp only [lcA, lnA]
 refine XO.q (Q.move rfl) ?_
 refine XO.q (Q.extract rfl rfl) ?_
 refine XO.q (Q.extract rfl rfl) ?_
 refine XO.q (Q.assign rfl) (XO.q (Q.assign rfl) (XO.done (XK.seq (XK.region rfl (XO.q (Q.move rfl) ?_)))))
 refine XO.q (Q.neq rfl rfl) ?_
 refine XO.done ?_
 refine XK.if rfl (fun c0 => ?_) (fun c0 => ?_)
 ·skip
  refine XK.seq (XK.region rfl (XO.q (Q.move rfl) (XO.q (Q.assign rfl) (XO.q (Q.assign rfl) (XO.done ?_)))))
  refine XK.rt [] Tryz.func47 Tryz.results47 (.t rfl (.t rfl .n)) ?_
  exact ⟨by rw [fitsG0, if_pos c0], rfl⟩
 ·skip
  refine XK.skip (XK.seq (XK.seq (XK.region rfl ?_)))
  refine XO.q (Q.ldA [_, _, _, _, _] rfl rfl rfl) ?_
  refine XO.call Tryz.call63 rfl rfl rfl (rackRef_spec r) fun v19 s19 R19 => ?_
  obtain ⟨rfl, rfl⟩ := R19
  dsimp only [lcA, lnA]
  refine XO.q (Q.not rfl) ?_
  refine XO.done ?_
  refine XK.if rfl (fun c1 => ?_) (fun c1 => ?_)
  ·skip
   refine XK.seq (XK.region rfl (XO.q (Q.assign rfl) (XO.q (Q.assign rfl) (XO.done ?_))))
   refine XK.rt [] Tryz.func47 Tryz.results47 (.t rfl (.t rfl .n)) ?_
   exact ⟨by rw [fitsG0, if_neg c0, if_pos c1], rfl⟩
  ·skip
   refine XK.skip (XK.seq (XK.seq (XK.region rfl ?_)))
   refine XO.q (Q.ldA [_, _] rfl rfl rfl) ?_
   refine XO.call Tryz.call64 rfl rfl rfl (chanceRef_spec m) fun v22 s22 R22 => ?_
   obtain ⟨rfl, rfl⟩ := R22
   dsimp only [lcA, lnA]
   refine XO.q (Q.not rfl) ?_
   refine XO.done ?_
   refine XK.if rfl (fun c2 => ?_) (fun c2 => ?_)
   ·skip
    refine XK.seq (XK.region rfl (XO.q (Q.assign rfl) (XO.q (Q.assign rfl) (XO.done ?_))))
    refine XK.rt [] Tryz.func47 Tryz.results47 (.t rfl (.t rfl .n)) ?_
    exact ⟨by rw [fitsG0, if_neg c0, if_neg c1, if_pos c2], rfl⟩
   ·skip
    refine XK.skip (XK.seq (XK.region rfl (XO.q (Q.move rfl) ?_)))
    refine XO.q (Q.ldA [_, _, _, _, _] rfl rfl rfl) ?_
    refine XO.q (Q.ldA [_, _] rfl rfl rfl) ?_
    refine XO.call Tryz.call95 rfl rfl rfl (rfits_spec l vl hl K aL (listed_ok.1 (Decidable.of_not_not c0)) r m (Decidable.of_not_not c2)) fun v27 s27 R27 => ?_
    obtain ⟨rfl, rfl⟩ := R27
    dsimp only [lcA, lnA]
    refine XO.q (Q.assign rfl) (XO.q (Q.assign rfl) (XO.done ?_))
    refine XK.rt [] Tryz.func47 Tryz.results47 (.t rfl (.t rfl .n)) ?_
    exact ⟨by rw [fitsG0, if_neg c0, if_neg c1, if_neg c2], rfl⟩
end Go.X

/- The library's sort at this seat: its bodies are those that the library's contract speaks of. No condition. -/
namespace Go.X
open Go.Proofs Go.Shelf
def sortRen : Ren where
  f := fun x => match x with
    | 189 => 110
    | 125 => 117
    | 257 => 116
    | 128 => 127
    | 129 => 128
    | 294 => 118
    | 295 => 119
    | 296 => 120
    | 297 => 121
    | 298 => 122
    | 299 => 123
    | 216 => 124
    | 300 => 125
    | 301 => 126
    | 328 => 129
    | 329 => 130
    | 330 => 131
    | 331 => 132
    | 332 => 133
    | 215 => 134
    | 343 => 135
    | n => n
  t := fun x => match x with
    | 28 => 28
    | 3 => 3
    | 46 => 113
    | 0 => 0
    | 51 => 165
    | 53 => 168
    | 4 => 4
    | 183 => 184
    | 182 => 183
    | 131 => 189
    | 5 => 5
    | 9 => 9
    | 218 => 193
    | 222 => 51
    | 228 => 198
    | 229 => 143
    | n => n
  g := fun n => n
theorem sortLays : Lays.n189 Tryz.prog sortRen := {
  mixed := by kernel_rfl,
  f125 := by kernel_rfl,
  f128 := by kernel_rfl,
  f129 := by kernel_rfl,
  f189 := by kernel_rfl,
  f215 := by kernel_rfl,
  f216 := by kernel_rfl,
  f257 := by kernel_rfl,
  f294 := by kernel_rfl,
  f295 := by kernel_rfl,
  f296 := by kernel_rfl,
  f297 := by kernel_rfl,
  f298 := by kernel_rfl,
  f299 := by kernel_rfl,
  f300 := by kernel_rfl,
  f301 := by kernel_rfl,
  f328 := by kernel_rfl,
  f329 := by kernel_rfl,
  f330 := by kernel_rfl,
  f331 := by kernel_rfl,
  f332 := by kernel_rfl,
  f343 := by kernel_rfl,
  t0 := by kernel_rfl,
  a0 := fun _ => by kernel_rfl,
  z0 := fun _ => by kernel_rfl,
  v0 := fun _ => by kernel_rfl,
  t3 := by kernel_rfl,
  a3 := fun _ => by kernel_rfl,
  z3 := fun _ => by kernel_rfl,
  v3 := fun _ => by kernel_rfl,
  t4 := by kernel_rfl,
  a4 := fun _ => by kernel_rfl,
  z4 := fun _ => by kernel_rfl,
  v4 := fun _ => by kernel_rfl,
  t5 := by kernel_rfl,
  a5 := fun _ => by kernel_rfl,
  z5 := fun _ => by kernel_rfl,
  v5 := fun _ => by kernel_rfl,
  t9 := by kernel_rfl,
  a9 := fun _ => by kernel_rfl,
  z9 := fun _ => by kernel_rfl,
  v9 := fun _ => by kernel_rfl,
  t28 := by kernel_rfl,
  a28 := fun _ => by kernel_rfl,
  z28 := fun _ => by kernel_rfl,
  v28 := fun _ => by kernel_rfl,
  t46 := by kernel_rfl,
  a46 := fun _ => by kernel_rfl,
  z46 := fun _ => by kernel_rfl,
  v46 := fun _ => by kernel_rfl,
  t51 := by kernel_rfl,
  a51 := fun _ => by kernel_rfl,
  z51 := fun _ => by kernel_rfl,
  v51 := fun _ => by kernel_rfl,
  t53 := by kernel_rfl,
  a53 := fun _ => by kernel_rfl,
  z53 := fun _ => by kernel_rfl,
  v53 := fun _ => by kernel_rfl,
  t131 := by kernel_rfl,
  a131 := fun _ => by kernel_rfl,
  z131 := fun _ => by kernel_rfl,
  v131 := fun _ => by kernel_rfl,
  t182 := by kernel_rfl,
  a182 := fun _ => by kernel_rfl,
  z182 := fun _ => by kernel_rfl,
  v182 := fun _ => by kernel_rfl,
  t183 := by kernel_rfl,
  a183 := fun _ => by kernel_rfl,
  z183 := fun _ => by kernel_rfl,
  v183 := fun _ => by kernel_rfl,
  t218 := by kernel_rfl,
  a218 := fun _ => by kernel_rfl,
  z218 := fun _ => by kernel_rfl,
  v218 := fun _ => by kernel_rfl,
  t222 := by kernel_rfl,
  a222 := fun _ => by kernel_rfl,
  z222 := fun _ => by kernel_rfl,
  v222 := fun _ => by kernel_rfl,
  t228 := by kernel_rfl,
  a228 := fun _ => by kernel_rfl,
  z228 := fun _ => by kernel_rfl,
  v228 := fun _ => by kernel_rfl,
  t229 := by kernel_rfl,
  a229 := fun _ => by kernel_rfl,
  z229 := fun _ => by kernel_rfl,
  v229 := fun _ => by kernel_rfl }
end Go.X

set_option linter.unusedSimpArgs false
set_option linter.unusedVariables false
set_option maxRecDepth 20000
namespace Go.X
open Go.Proofs
theorem keys1 (b1 bm : Nat) (es : List (Int × Value)) (f : Value) (Hr : List PHeap) (Qc : List Nat → PHeap → Prop) (Xc : PHeap → Prop)
  (round : ∀ seen i, i < es.length → ¬ i ∈ seen → ∀ q, Qc seen q → VSpec Tryz.prog f [.int .i64 (es.getD i default).1] [q] Hr (fun v hs => ∃ b q', v = .bool b ∧ hs = [q'] ∧ (b = true → Qc (seen ++ [i]) q') ∧ (b = false → Xc q')))
  (q : PHeap) (hQ : Qc [] q) : Spec Tryz.prog 111 #[f, ptr b1 0] [q] (blk b1 [.map (some bm)] 150 :: mapH bm encK1 es :: Hr) (fun _ hs => ∃ q', hs = [q'] ∧ ((∃ seen : List Nat, seen.Nodup ∧ (∀ i, i ∈ seen ↔ i < es.length) ∧ Qc seen q') ∨ Xc q')) := by
 haveI := keyI
 refine Spec.intro (fn := Tryz.f111) (N := 14) Tryz.func111 rfl Tryz.ntmps111 rfl fun B => ?_
 refine XK.seq (XK.region rfl ?_)
 refine XO.q (Q.ld rfl rfl) ?_
 refine XO.range rfl fun q5 => ?_
 refine XO.done (XK.block ?_)
 refine XK.while (X := List Nat × PHeap) [3, 6, 7, 8, 9, 10, 11, 12, 13] (fun ⟨seen, q1⟩ => []) (fun ⟨seen, q1⟩ => [itH q5 bm es.length seen, q1]) (fun ⟨seen, q1⟩ => seen.Nodup ∧ (∀ i ∈ seen, i < es.length) ∧ Qc seen q1) (fun ⟨seen, q1⟩ => es.length - seen.length) ([], q) [itH q5 bm es.length [], q] rfl ⟨List.nodup_nil, fun i h => (by cases h), hQ⟩ (.base 0 rfl rfl) ?_
 rintro ⟨seen, q1⟩ ⟨hnd, hlt, hQ1⟩ ih0
 dsimp only [lcA, lnA] at ih0 ⊢
 refine XK.seq (XK.region rfl ?_)
 refine XO.next rfl rfl fun more6 nl6 seen6 out6 => ?_
 refine XO.q (Q.extract0 rfl) ?_
 refine XO.done (XK.seq ?_)
 refine XK.if rfl (fun c0 => ?_) (fun c0 => ?_)
 ·skip
  obtain ⟨p, hp, hps, rfl⟩ := (Out.next out6) c0
  refine XK.skip (XK.block (XK.seq (XK.region rfl ?_)))
  refine XO.q (Q.entry (i := p) rfl rfl hp) ?_
  refine XO.q (Q.extract rfl rfl) ?_
  refine XO.q (Q.assign rfl) (XO.done (XK.seq (XK.region rfl (XO.q (Q.move rfl) (XO.q (Q.move rfl) ?_)))))
  refine XO.vcall rfl rfl (round seen p hp hps q1 hQ1) fun v12 s12 R12 => ?_
  obtain ⟨bb, q2, rfl, rfl, hT, hF⟩ := R12
  dsimp only [lcA, lnA]
  refine XO.q (Q.not rfl) ?_
  refine XO.done ?_
  refine XK.if rfl (fun c1 => ?_) (fun c1 => ?_)
  ·skip
   refine XK.rt [q2] Tryz.func111 Tryz.results111 (.n) ?_
   exact ⟨q2, rfl, .inr (hF (by cases bb <;> simp_all))⟩
  ·skip
   refine XK.skip ?_
   refine XK.inBlock ?_
   exact ih0 (seen ++ [p], q2) _ _ ⟨nodup_snoc hnd hps, mem_snoc hlt hp, hT (by cases bb <;> simp_all)⟩ (by have := seen_few (nodup_snoc hnd hps) (mem_snoc hlt hp); rw [List.length_append, List.length_singleton] at this; dsimp only; rw [List.length_append, List.length_singleton]; omega) (.base 18 rfl rfl) inferInstance
 ·skip
  obtain ⟨rfl, hall⟩ := Out.done out6 (by simpa using c0)
  refine XK.exit rfl ?_
  refine XK.fn [q1] Tryz.func111 Tryz.results111 (.n) ?_
  exact ⟨q1, rfl, .inl ⟨_, hnd, fun i => ⟨hlt i, hall i⟩, hQ1⟩⟩
theorem keys_spec (bm : Nat) (es : List (Int × Value)) : Spec Tryz.prog 88 #[.map (some bm)] [] [] (fun v hs => ∃ b1, hs = [blk b1 [.map (some bm)] 150] ∧ One v ∧ ItM Tryz.prog v es.length (fun i => [.int .i64 (es.getD i default).1]) [blk b1 [.map (some bm)] 150, mapH bm encK1 es]) := by
 refine Spec.intro (fn := Tryz.f88) (N := 4) Tryz.func88 rfl Tryz.ntmps88 rfl fun B => ?_
 refine XK.seq (XK.region rfl ?_)
 refine XO.box rfl fun b1 => ?_
 refine XO.q (Q.assign rfl) (XO.done (XK.seq (XK.region rfl ?_)))
 refine XO.q (Q.func (fun _ he => rfl) (fun _ he => evs_rel he rfl)) ?_
 refine XO.q (Q.assign rfl) (XO.done ?_)
 refine XK.rt [blk b1 [.map (some bm)] 150] Tryz.func88 Tryz.results88 (.t rfl .n) ?_
 exact ⟨b1, rfl, inferInstance, fun f Hr Qc Xc round q hQ => VSpec.fn (fst := []) (cap := [ptr b1 0]) Tryz.call111 rfl (keys1 b1 bm es f Hr Qc Xc round q hQ)⟩
theorem appendSeq_spec (y : Value) [oy : One y] (es : List (Int × Value)) (Ha Hb : PHeap) (few : es.length ≤ 1000000) (hit : ItM Tryz.prog y es.length (fun i => [.int .i64 (es.getD i default).1]) [Ha, Hb]) : Spec Tryz.prog 115 #[.slice none 0 0, y] [] [Ha, Hb] (fun v hs => ∃ (k : PHeap) (seen : List Nat), hs = [k] ∧ seen.Nodup ∧ (∀ i, i ∈ seen ↔ i < es.length) ∧ OArr v encI 1 3 k (seen.map fun i => (es.getD i default).1)) := by
 have nI : OArr (.slice none 0 0) encI 1 3 emp ([] : List Int) := OArr.nil (fun _ => rfl)
 refine Spec.intro (fn := Tryz.f115) (N := 13) Tryz.func115 rfl Tryz.ntmps115 rfl fun B => ?_
 refine XK.seq (XK.region rfl ?_)
 refine XO.box rfl fun b2 => ?_
 refine XO.q (Q.assign rfl) (XO.done (XK.seq (XK.seq (XK.region rfl (XO.q (Q.move rfl) ?_)))))
 refine XO.done (XK.block ?_)
 refine XK.rangeM (X := Value × PHeap) (ps := [7]) ((fun i => [.int .i64 (es.getD i default).1])) (fun ⟨vo, ko⟩ => [blk b2 [vo] 28, ko]) (fun seen ⟨vo, ko⟩ => seen.Nodup ∧ (∀ i ∈ seen, i < es.length) ∧ OArr vo encI 1 3 ko (seen.map fun i => (es.getD i default).1)) (fun _ _ => False) (.slice none 0 0, emp) [blk b2 [.slice none 0 0] 28, emp] rfl ⟨List.nodup_nil, fun i h => (by cases h), nI⟩ rfl (hit) rfl (fun i hi => rfl) ?_ ?_ (fun _ _ hJ => hJ.elim)
 ·rintro lq rec B' seen i ⟨vo, ko⟩ hi hns ⟨hnd, hlt, OO⟩
  dsimp only [lcA, lnA]
  refine XK.region rfl (XO.q (Q.assign rfl) (XO.done ?_))
  refine XK.beginRound ?_
  refine XK.block (XK.region rfl ?_)
  refine XO.q (Q.ld rfl rfl) ?_
  refine XO.q (Q.move rfl) ?_
  refine XO.lit [_] [_] [(es.getD i default).1] encI (by rfl) (by rfl) rfl (by rfl) (by exact .c 0 1 rfl rfl rfl (.n _)) (fun _ => rfl) (by rfl) rfl (by infer_instance) rfl fun v10 h10 O10 => ?_
  refine XO.append rfl rfl rfl rfl (by have := seen_few hnd hlt; simp only [List.length_map, List.length_cons, List.length_nil]; omega) fun v11 h11 O11 => ?_
  refine XO.st rfl rfl rfl ?_
  refine XO.done ?_
  refine XK.inBlock ?_
  exact XK.leave (j := none) [blk b2 [v11] 28, h11] trivial ⟨(v11, h11), ⟨nodup_snoc hnd hns, mem_snoc hlt hi, by rw [List.map_append]; exact O11⟩, rfl⟩
 ·rintro ⟨vo, ko⟩ seen hnd hall ⟨hnd, hlt, OO⟩
  dsimp only [lcA, lnA]
  refine XK.inBlock ?_
  refine XK.seq (XK.region rfl ?_)
  refine XO.q (Q.ld rfl rfl) ?_
  refine XO.q (Q.assign rfl) (XO.done ?_)
  refine XK.rt [ko] Tryz.func115 Tryz.results115 (.t rfl .n) ?_
  exact ⟨ko, seen, rfl, hnd, hall, OO⟩
theorem collect_spec (y : Value) [oy : One y] (es : List (Int × Value)) (Ha Hb : PHeap) (few : es.length ≤ 1000000) (hit : ItM Tryz.prog y es.length (fun i => [.int .i64 (es.getD i default).1]) [Ha, Hb]) : Spec Tryz.prog 109 #[y] [] [Ha, Hb] (fun v hs => ∃ (k : PHeap) (seen : List Nat), hs = [k] ∧ seen.Nodup ∧ (∀ i, i ∈ seen ↔ i < es.length) ∧ OArr v encI 1 3 k (seen.map fun i => (es.getD i default).1)) := by
 refine Spec.intro (fn := Tryz.f109) (N := 5) Tryz.func109 rfl Tryz.ntmps109 rfl fun B => ?_
 refine XK.seq (XK.region rfl (XO.q (Q.assign rfl) (XO.done (XK.seq (XK.region rfl ?_)))))
 refine XO.q (Q.move rfl) ?_
 refine XO.call Tryz.call115 rfl rfl rfl (appendSeq_spec y es Ha Hb few hit) fun v4 s4 R4 => ?_
 obtain ⟨k4, seen, rfl, hnd, hall, O4⟩ := R4
 dsimp only [lcA, lnA]
 refine XO.q (Q.assign rfl) (XO.done ?_)
 refine XK.rt [k4] Tryz.func109 Tryz.results109 (.t rfl .n) ?_
 exact ⟨k4, seen, rfl, hnd, hall, O4⟩
theorem sort_spec (v : Value) (h : PHeap) (xs : List Int) [s : OArr v encI 1 3 h xs] : Spec Tryz.prog 110 #[v] [h] [] (fun _ hs => ∃ h', hs = [h'] ∧ OArr v encI 1 3 h' (sortL xs)) := sort_specG sortLays 3 v h xs
theorem sorted_spec (y : Value) [oy : One y] (es : List (Int × Value)) (L : List Int) (mi : MapIs es L) (Ha Hb : PHeap) (few : es.length ≤ 1000000) (hit : ItM Tryz.prog y es.length (fun i => [.int .i64 (es.getD i default).1]) [Ha, Hb]) : Spec Tryz.prog 87 #[y] [] [Ha, Hb] (fun v hs => ∃ k, hs = [k] ∧ OArr v encI 1 3 k (sortL (dd L))) := by
 refine Spec.intro (fn := Tryz.f87) (N := 9) Tryz.func87 rfl Tryz.ntmps87 rfl fun B => ?_
 refine XK.seq (XK.region rfl (XO.q (Q.assign rfl) (XO.done (XK.seq (XK.region rfl ?_)))))
 refine XO.q (Q.move rfl) ?_
 refine XO.call Tryz.call109 rfl rfl rfl (collect_spec y es Ha Hb few hit) fun v5 s5 R5 => ?_
 obtain ⟨k5, seen, rfl, hnd, hall, O5⟩ := R5
 dsimp only [lcA, lnA]
 refine XO.q (Q.assign rfl) (XO.done (XK.seq (XK.region rfl (XO.q (Q.move rfl) ?_))))
 refine XO.call Tryz.call110 rfl rfl rfl (sort_spec v5 k5 (seen.map fun i => (es.getD i default).1)) fun v7 s7 R7 => ?_
 obtain ⟨k7, rfl, O7⟩ := R7
 dsimp only [lcA, lnA]
 rw [sums_keys mi hnd hall] at O7
 refine XO.done (XK.seq (XK.region rfl (XO.q (Q.move rfl) (XO.q (Q.assign rfl) (XO.done ?_)))))
 refine XK.rt [k7] Tryz.func87 Tryz.results87 (.t rfl .n) ?_
 exact ⟨k7, rfl, O7⟩
set_option maxHeartbeats 1000000 in
theorem Sums_spec (l : List (Value × PJob)) (vl : Value) (hl K : PHeap) [jl : Arr vl encPJ 6 hl l] (aL : JobsK l K) : Spec Tryz.prog 37 #[vl] [] [hl, K] (fun v hs => ∃ vo ko, v = .tuple #[vo, .int .i64 (sumsG (l.map Prod.snd)).2.1, .int .i64 (sumsG (l.map Prod.snd)).2.2] ∧ hs = [ko] ∧ OArr vo encDraw 2 38 ko (sumsG (l.map Prod.snd)).1) := by
 haveI := keyI
 have nD : OArr (.slice none 0 0) encDraw 2 38 emp ([] : List PDraw) := OArr.nil (fun _ => rfl)
 have lm : (l.map Prod.snd).length = l.length := List.length_map ..
 refine Spec.intro (fn := Tryz.f37) (N := 40) Tryz.func37 rfl Tryz.ntmps37 rfl fun B => ?_
 refine XK.seq (XK.region rfl (XO.q (Q.assign rfl) (XO.q (Q.assign rfl) (XO.q (Q.assign rfl) (XO.done ?_)))))
 refine XK.seq (XK.region rfl (XO.q (Q.move rfl) ?_))
 refine XO.call Tryz.call85 rfl rfl rfl (listed_spec l vl hl K aL) fun v13 s13 R13 => ?_
 obtain ⟨rfl, rfl⟩ := R13
 dsimp only [lcA, lnA]
 refine XO.q (Q.move rfl) ?_
 refine XO.q (Q.extract rfl rfl) ?_
 refine XO.q (Q.extract rfl rfl) ?_
 refine XO.q (Q.assign rfl) (XO.q (Q.assign rfl) (XO.done (XK.seq (XK.seq (XK.region rfl ?_)))))
 refine XO.q (Q.move rfl) ?_
 refine XO.q (Q.neq rfl rfl) ?_
 refine XO.done ?_
 refine XK.if rfl (fun c0 => ?_) (fun c0 => ?_)
 ·skip
  refine XK.seq (XK.region rfl (XO.q (Q.move rfl) (XO.q (Q.assign rfl) (XO.q (Q.assign rfl) (XO.q (Q.assign rfl) ?_)))))
  refine XO.done ?_
  refine XK.rt [emp] Tryz.func37 Tryz.results37 (.t rfl (.t rfl (.t rfl .n))) ?_
  have hz : (sumsG (l.map Prod.snd)) = ([], 0, (listedG (l.map Prod.snd)).2) := by rw [sumsG, if_pos c0]
  rw [hz]
  exact ⟨.slice none 0 0, emp, rfl, rfl, nD⟩
 ·skip
  have ok := listed_ok.1 (Decidable.of_not_not c0)
  refine XK.skip (XK.seq (XK.region rfl (XO.q (Q.move rfl) ?_)))
  refine XO.call Tryz.call86 rfl rfl rfl (sums_spec l vl hl K aL ok) fun v20 s20 R20 => ?_
  obtain ⟨bm, es, rfl, rfl, mi⟩ := R20
  dsimp only [lcA, lnA]
  have fk := few_keys mi (n := 100000) (fun x hx => by have := combos_rng ok (l.map Prod.snd).length (Nat.le_refl _) x (by rw [List.take_length]; exact hx); have := ok.few; omega)
  refine XO.q (Q.assign rfl) (XO.done (XK.seq (XK.region rfl (XO.q (Q.assign rfl) (XO.done ?_)))))
  refine XK.seq (XK.seq (XK.region rfl (XO.q (Q.move rfl) ?_)))
  refine XO.call Tryz.call88 rfl rfl rfl (keys_spec bm es) fun v22 s22 R22 => ?_
  obtain ⟨bk, rfl, o22, hit⟩ := R22
  dsimp only [lcA, lnA]
  refine XO.call Tryz.call87 rfl rfl rfl (sorted_spec v22 es (combos (l.map Prod.snd)) mi _ _ (by omega) hit) fun v23 s23 R23 => ?_
  obtain ⟨k23, rfl, O23⟩ := R23
  dsimp only [lcA, lnA]
  have sl := sum_keys_len mi
  refine XO.len rfl fun l24 => ?_
  refine XO.q (Q.move rfl) (XO.done (XK.block ?_))
  refine XK.while (X := Nat × Value × PHeap) [8, 10, 25, 26, 27, 28, 29, 30, 31, 32, 33, 34, 35, 36, 37] (fun ⟨i, vo, ko⟩ => [(25, some (.int .i64 (i : Nat))), (8, some (vo))]) (fun ⟨i, vo, ko⟩ => [ko]) (fun ⟨i, vo, ko⟩ => i ≤ (sortL (dd (combos (l.map Prod.snd)))).length ∧ OArr vo encDraw 2 38 ko ((sumsL (combos (l.map Prod.snd))).take i)) (fun ⟨i, vo, ko⟩ => (sortL (dd (combos (l.map Prod.snd)))).length - i) (0, .slice none 0 0, emp) [emp] rfl ⟨by omega, nD⟩ (.c rfl (.c rfl (.base 0 rfl rfl))) ?_
  rintro ⟨i, vo, ko⟩ ⟨hi, OO⟩ ih0
  dsimp only [lcA, lnA] at ih0 ⊢
  refine XK.seq (XK.region rfl ?_)
  refine XO.q (Q.lss rfl rfl) ?_
  refine XO.done (XK.seq ?_)
  refine XK.if rfl (fun c1 => ?_) (fun c1 => ?_)
  ·skip
   have lsl : (sumsL (combos (l.map Prod.snd))).length = (sortL (dd (combos (l.map Prod.snd)))).length := List.length_map ..
   have esl : (sumsL (combos (l.map Prod.snd))).getD i default = ⟨(sortL (dd (combos (l.map Prod.snd)))).getD i default, (((combos (l.map Prod.snd)).count ((sortL (dd (combos (l.map Prod.snd)))).getD i default) : Nat) : Int)⟩ := by
    unfold sumsL
    rw [List.getD_eq_getElem?_getD, List.getElem?_map, List.getElem?_eq_getElem (by omega), List.getD_eq_getElem?_getD, List.getElem?_eq_getElem (by omega)]; rfl
   refine XK.skip (XK.seq (XK.block (XK.seq (XK.region rfl ?_))))
   refine XO.ix rfl rfl (by omega) (by omega) fun i27 => ?_
   refine XO.q (Q.ldE rfl (by first | assumption | omega) rfl) ?_
   refine XO.q (Q.assign rfl) (XO.done (XK.region rfl (XO.q (Q.move rfl) (XO.q (Q.move rfl) (XO.q (Q.move rfl) ?_)))))
   refine XO.q (Q.move rfl) ?_
   refine XO.q (Q.lookup (enc := encK1) _ Tryz.zeroValue3 (((sortL (dd (combos (l.map Prod.snd)))).getD i default)) rfl rfl) ?_
   rw [mi.get]
   refine XO.q (Q.build [_, _] (.c 0 1 rfl rfl rfl (.c 1 1 rfl rfl rfl (.n _)))) ?_
   refine XO.lit [_, _] [_, _] [⟨(sortL (dd (combos (l.map Prod.snd)))).getD i default, (((combos (l.map Prod.snd)).count ((sortL (dd (combos (l.map Prod.snd)))).getD i default) : Nat) : Int)⟩] encDraw (by rfl) (by rfl) rfl (by rfl) (by exact .c 0 2 rfl rfl rfl (.n _)) (fun _ => rfl) (by rfl) rfl (by infer_instance) rfl fun v35 h35 O35 => ?_
   refine XO.append rfl rfl rfl rfl (by simp only [List.length_take, List.length_cons, List.length_nil]; omega) fun v36 h36 O36 => ?_
   refine XO.q (Q.assign rfl) (XO.done ?_)
   refine XK.inBlock ?_
   refine XK.region rfl ?_
   refine XO.q (Q.add rfl rfl ⟨by omega, by omega⟩) ?_
   refine XO.q (Q.move rfl) (XO.done ?_)
   exact ih0 (i + 1, v36, h36) _ _ ⟨by dsimp only; omega, by dsimp only; rw [take_snocP (by omega), esl]; exact O36⟩ (by first | omega | (dsimp only; omega)) (.c rfl (.c rfl (.base 32 rfl rfl))) inferInstance
  ·skip
   refine XK.exit rfl ?_
   refine XK.seq (XK.region rfl (XO.q (Q.move rfl) (XO.q (Q.move rfl) (XO.q (Q.assign rfl) (XO.q (Q.assign rfl) ?_)))))
   refine XO.q (Q.assign rfl) (XO.done ?_)
   refine XK.rt [ko] Tryz.func37 Tryz.results37 (.t rfl (.t rfl (.t rfl .n))) ?_
   have hz : (sumsG (l.map Prod.snd)) = (sumsL (combos (l.map Prod.snd)), (listedG (l.map Prod.snd)).1, 0) := by rw [sumsG, if_neg c0]
   rw [hz]
   rw [List.take_of_length_le (by unfold sumsL; rw [List.length_map]; omega)] at OO
   exact ⟨vo, ko, rfl, rfl, OO⟩
end Go.X

set_option linter.unusedSimpArgs false
set_option linter.unusedVariables false
set_option maxRecDepth 20000
namespace Go.X
open Go.Proofs
theorem cloneI (v : Value) (h : PHeap) (xs : List Int) [s : Arr v encI 1 h xs] (hl : xs.length ≤ 68719476736) :
  Spec Tryz.prog 31 #[v] [] [h] (fun v' hs => ∃ h', hs = [h'] ∧ OArr v' encI 1 3 h' xs) := by
 refine Spec.intro (fn := Tryz.f31) (N := 8) Tryz.func31 rfl Tryz.ntmps31 rfl fun B => ?_
 refine XK.seq (XK.region rfl (XO.q (Q.assign rfl) (XO.done (XK.seq (XK.seq ?_)))))
 refine XK.region rfl (XO.q (Q.move rfl) ?_)
 refine XO.eqNil rfl fun z4 hz4 => ?_
 refine XO.done ?_
 refine XK.if rfl (fun c0 => ?_) (fun c0 => ?_)
 ·skip
  refine XK.seq (XK.region rfl (XO.q (Q.assign rfl) (XO.done ?_)))
  refine XK.rt [emp] Tryz.func31 Tryz.results31 (.t rfl .n) ?_
  exact ⟨emp, rfl, by rw [(hz4 c0).1]; exact OArr.nil (fun _ => rfl)⟩
 ·skip
  refine XK.skip (XK.seq (XK.region rfl ?_))
  refine XO.lit [] [] [] encI (by rfl) (by rfl) rfl (by rfl) (by exact .n _) (fun _ => rfl) (by rfl) rfl (by infer_instance) rfl fun v5 h5 O5 => ?_
  refine XO.q (Q.move rfl) ?_
  refine XO.append rfl rfl rfl rfl (by first | omega | (simp; omega)) fun v7 h7 O7 => ?_
  refine XO.q (Q.assign rfl) (XO.done ?_)
  refine XK.rt [h7] Tryz.func31 Tryz.results31 (.t rfl .n) ?_
  exact ⟨h7, rfl, O7⟩
/-- What sons yields. -/
def SonY (t : PTask) (w : List Int) (i : Nat) (g : PHeap) (vs : List Value) : Prop := ∃ v, vs = [v] ∧ OArr v encI 1 3 g ((psons t w).getD i [])
/-- What is known of sets of jobs. -/
def KnownS (t : PTask) (bm : Nat) (s : PHeap) : Prop := ∃ es, s = mapH bm encK2 es ∧ KnownP t es
set_option maxHeartbeats 4000000 in
theorem sons1 (l : List (Value × PJob)) (vl : Value) (hl K : PHeap) [jl : Arr vl encPJ 6 hl l] (aL : JobsK l K) (rs : List PRack) (vr : Value) (hr : PHeap) [jr : Arr vr encRack 5 hr rs] (m : PRat) (w : List Int) (vw : Value) (hw : PHeap) [jw : Arr vw encI 1 hw w] (ok : TaskOk (⟨(l.map Prod.snd), rs, m⟩ : PTask)) (lok : ListOk (l.map Prod.snd)) (hwl : w.length < l.length) (wok : WOk (⟨(l.map Prod.snd), rs, m⟩ : PTask) w) (b1 b2 bt bm : Nat) (f : Value) (Hr : List PHeap) (Qc : Nat → PHeap → Prop) (Xc : PHeap → Prop)
  (round : ∀ i, i < (psons (⟨(l.map Prod.snd), rs, m⟩ : PTask) w).length → ∀ g vs q s, SonY (⟨(l.map Prod.snd), rs, m⟩ : PTask) w i g vs → Qc i q → KnownS (⟨(l.map Prod.snd), rs, m⟩ : PTask) bm s → VSpec Tryz.prog f vs [q, s, g] Hr (fun v hs => ∃ b q' s', v = .bool b ∧ hs = [q', s'] ∧ KnownS (⟨(l.map Prod.snd), rs, m⟩ : PTask) bm s' ∧ (b = true → Qc (i + 1) q') ∧ (b = false → Xc q')))
  (q : PHeap) (hQ : Qc 0 q) (es : List ((Int × Int) × Value)) (kn : KnownP (⟨(l.map Prod.snd), rs, m⟩ : PTask) es) :
  Spec Tryz.prog 106 #[f, ptr b1 0, ptr b2 0] [q, mapH bm encK2 es] (blk b1 [ptr bt 0] 132 :: blk b2 [vw] 28 :: blk bt [vl, vr, .int .i64 m.n, .int .i64 m.d, .map (some bm)] 135 :: hl :: K :: hr :: hw :: Hr)
   (fun _ hs => ∃ q' s', hs = [q', s'] ∧ KnownS (⟨(l.map Prod.snd), rs, m⟩ : PTask) bm s' ∧ (Qc (psons (⟨(l.map Prod.snd), rs, m⟩ : PTask) w).length q' ∨ Xc q')) := by
 have ll := jl.le
 have lm : (l.map Prod.snd).length = l.length := List.length_map ..
 have few := ok.few
 have few2 : l.length ≤ 8 := by rw [← lm]; exact few
 have rk5 := ok.rk5
 have sl : ∀ r : Nat, (w ++ [((r : Nat) : Int)]).length = w.length + 1 := fun r => by rw [List.length_append]; rfl
 refine Spec.intro (fn := Tryz.f106) (N := 114) Tryz.func106 rfl Tryz.ntmps106 rfl fun B => ?_
 refine XK.seq (XK.seq (XK.region rfl ?_))
 refine XO.q (Q.ld rfl rfl) ?_
 refine XO.q (Q.nilCheck rfl) ?_
 refine XO.q (Q.fieldAddr rfl) ?_
 refine XO.q (Q.fieldAddr rfl) ?_
 refine XO.q (Q.ld rfl rfl) ?_
 refine XO.len rfl fun l19 => ?_
 refine XO.q (Q.move rfl) (XO.done (XK.block ?_))
 refine XK.while (X := Nat × PHeap × List ((Int × Int) × Value)) [4, 5, 6, 7, 8, 9, 10, 11, 12, 13, 20, 21, 22, 23, 24, 25, 26, 27, 28, 29, 30, 31, 32, 33, 34, 35, 36, 37, 38, 39, 40, 41, 42, 43, 44, 45, 46, 47, 48, 49, 50, 51, 52, 53, 54, 55, 56, 57, 58, 59, 60, 61, 62, 63, 64, 65, 66, 67, 68, 69, 70, 71, 72, 73, 74, 75, 76, 77, 78, 79, 80, 81, 82, 83, 84, 85, 86, 87, 88, 89, 90, 91, 92, 93, 94, 95, 96, 97, 98, 99, 100, 101, 102, 103, 104, 105, 106, 107] (fun ⟨r, q1, es1⟩ => [(20, some (.int .i64 (r : Nat)))]) (fun ⟨r, q1, es1⟩ => [q1, mapH bm encK2 es1]) (fun ⟨r, q1, es1⟩ => r ≤ rs.length ∧ KnownP (⟨(l.map Prod.snd), rs, m⟩ : PTask) es1 ∧ Qc (psonsTo (⟨(l.map Prod.snd), rs, m⟩ : PTask) w r).length q1) (fun ⟨r, q1, es1⟩ => rs.length - r) (0, q, es) [q, mapH bm encK2 es] rfl ⟨by omega, kn, hQ⟩ (.c rfl (.base 0 rfl rfl)) ?_
 rintro ⟨r, q1, es1⟩ ⟨hr0, kn1, hQ1⟩ ih0
 dsimp only [lcA, lnA] at ih0 ⊢
 refine XK.seq (XK.region rfl ?_)
 refine XO.q (Q.lss rfl rfl) ?_
 refine XO.done (XK.seq ?_)
 refine XK.if rfl (fun c0 => ?_) (fun c0 => ?_)
 ·skip
  have hr1 : r < rs.length := by omega
  have wok2 : WOk (⟨(l.map Prod.snd), rs, m⟩ : PTask) (w ++ [((r : Nat) : Int)]) := wok.snoc (by dsimp only; omega) (by omega) (by dsimp only; omega)
  have fs := fit_set (t := (⟨(l.map Prod.snd), rs, m⟩ : PTask)) (w := (w ++ [((r : Nat) : Int)])) (by dsimp only; rw [sl r]; omega) r
  have slr := sl r
  refine XK.skip (XK.seq (XK.block (XK.seq (XK.region rfl (XO.q (Q.move rfl) ?_)))))
  refine XO.q (Q.assign rfl) (XO.done (XK.seq (XK.region rfl ?_)))
  refine XO.q (Q.ld rfl rfl) ?_
  refine XO.call Tryz.call31 rfl rfl rfl (cloneI vw hw w (by omega)) fun v24 s24 R24 => ?_
  obtain ⟨k24, rfl, O24⟩ := R24
  dsimp only [lcA, lnA]
  refine XO.q (Q.move rfl) ?_
  refine XO.lit [_] [_] [((r : Nat) : Int)] encI (by rfl) (by rfl) rfl (by rfl) (by exact .c 0 1 rfl rfl rfl (.n _)) (fun _ => rfl) (by rfl) rfl (by infer_instance) rfl fun v26 h26 O26 => ?_
  refine XO.append rfl rfl rfl rfl (by simp only [List.length_cons, List.length_nil]; omega) fun v27 h27 O27 => ?_
  refine XO.q (Q.assign rfl) (XO.done (XK.seq (XK.region rfl (XO.q (Q.assign rfl) (XO.done ?_)))))
  refine XK.seq (XK.seq (XK.region rfl (XO.q (Q.move rfl) ?_)))
  refine XO.len rfl fun l29 => ?_
  rw [sl r]
  refine XO.q (Q.move rfl) (XO.done (XK.block ?_))
  refine XK.while (X := Nat) [6, 7, 8, 30, 31, 32, 33, 34, 35, 36, 37, 38, 39, 40, 41, 42] (fun i => [(30, some (.int .i64 (i : Nat))), (6, some (.int .i64 ((setTo (w ++ [((r : Nat) : Int)]) ((r : Nat) : Int) i) : Nat)))]) (fun i => []) (fun i => i ≤ w.length + 1) (fun i => w.length + 1 - i) (0) [] rfl (by omega) (.c rfl (.c rfl (.base 0 rfl rfl))) ?_
  rintro i hi ih1
  dsimp only [lcA, lnA] at ih1 ⊢
  refine XK.seq (XK.region rfl ?_)
  refine XO.q (Q.lss rfl rfl) ?_
  refine XO.done (XK.seq ?_)
  refine XK.if rfl (fun c1 => ?_) (fun c1 => ?_)
  ·skip
   have sb := set_lt (w ++ [((r : Nat) : Int)]) ((r : Nat) : Int) i (by omega)
   have pw : 2 ^ i < 1152921504606846976 := by
    have := Nat.pow_lt_pow_right (a := 2) (m := i) (n := 60) (by decide) (by omega)
    exact this
   refine XK.skip (XK.seq (XK.block (XK.seq (XK.region rfl (XO.q (Q.move rfl) ?_)))))
   refine XO.ix rfl rfl (by omega) (by omega) fun i33 => ?_
   refine XO.q (Q.ldE rfl (by first | assumption | omega) rfl) ?_
   refine XO.q (Q.assign rfl) (XO.q (Q.assign rfl) (XO.done (XK.seq (XK.region rfl (XO.q (Q.move rfl) ?_)))))
   refine XO.q (Q.move rfl) ?_
   refine XO.q (Q.eql rfl rfl) ?_
   refine XO.done ?_
   refine XK.if rfl (fun c2 => ?_) (fun c2 => ?_)
   ·skip
    refine XK.region rfl (XO.q (Q.move rfl) (XO.q (Q.move rfl) ?_))
    refine XO.q (Q.shlOne rfl rfl (by omega)) ?_
    refine XO.q (Q.orN (m := (setTo (w ++ [((r : Nat) : Int)]) ((r : Nat) : Int) i)) (n := 2 ^ i) rfl rfl (by omega) pw) ?_
    refine XO.q (Q.assign rfl) (XO.done ?_)
    refine XK.inBlock ?_
    refine XK.region rfl ?_
    refine XO.q (Q.add rfl rfl ⟨by omega, by omega⟩) ?_
    refine XO.q (Q.move rfl) (XO.done ?_)
    rw [show (setTo (w ++ [((r : Nat) : Int)]) ((r : Nat) : Int) i) ||| 2 ^ i = (setTo (w ++ [((r : Nat) : Int)]) ((r : Nat) : Int) (i + 1)) by rw [setTo, if_pos c2]]
    exact ih1 (i + 1) _ _ (by omega) (by first | omega | (dsimp only; omega)) (.c rfl (.c rfl (.base 34 rfl rfl))) inferInstance
   ·skip
    refine XK.skip ?_
    refine XK.inBlock ?_
    refine XK.region rfl ?_
    refine XO.q (Q.add rfl rfl ⟨by omega, by omega⟩) ?_
    refine XO.q (Q.move rfl) (XO.done ?_)
    rw [show (setTo (w ++ [((r : Nat) : Int)]) ((r : Nat) : Int) i) = (setTo (w ++ [((r : Nat) : Int)]) ((r : Nat) : Int) (i + 1)) by rw [setTo, if_neg c2]]
    exact ih1 (i + 1) _ _ (by omega) (by first | omega | (dsimp only; omega)) (.c rfl (.c rfl (.base 29 rfl rfl))) inferInstance
  ·skip
   have hin : i = w.length + 1 := by omega
   rw [hin, ← sl r]
   refine XK.exit rfl ?_
   refine XK.seq (XK.region rfl ?_)
   refine XO.q (Q.ld rfl rfl) ?_
   refine XO.q (Q.nilCheck rfl) ?_
   refine XO.q (Q.fieldAddr rfl) ?_
   refine XO.q (Q.ld rfl rfl) ?_
   refine XO.q (Q.move rfl) (XO.q (Q.move rfl) ?_)
   refine XO.q (Q.build [_, _] (.c 0 1 rfl rfl rfl (.c 1 1 rfl rfl rfl (.n _)))) ?_
   refine XO.q (Q.lookup2 (enc := encK2) _ Tryz.zeroValue4 ((((r : Nat) : Int), ((((setTo (w ++ [((r : Nat) : Int)]) ((r : Nat) : Int) (w ++ [((r : Nat) : Int)]).length) : Nat)) : Int))) rfl rfl) ?_
   obtain ⟨gv, egv⟩ : ∃ gv, gv = (getM (((r : Nat) : Int), ((((setTo (w ++ [((r : Nat) : Int)]) ((r : Nat) : Int) (w ++ [((r : Nat) : Int)]).length) : Nat)) : Int)) es1).getD (.bool false) := ⟨_, rfl⟩
   rw [← egv]
   obtain ⟨gb, egb⟩ : ∃ gb, gb = (getM (((r : Nat) : Int), ((((setTo (w ++ [((r : Nat) : Int)]) ((r : Nat) : Int) (w ++ [((r : Nat) : Int)]).length) : Nat)) : Int)) es1).isSome := ⟨_, rfl⟩
   rw [← egb]
   refine XO.q (Q.move rfl) ?_
   refine XO.q (Q.extract rfl rfl) ?_
   refine XO.q (Q.extract rfl rfl) ?_
   refine XO.q (Q.assign rfl) (XO.q (Q.assign rfl) (XO.done (XK.seq (XK.seq (XK.region rfl ?_)))))
   refine XO.q (Q.move rfl) ?_
   refine XO.q (Q.not rfl) ?_
   refine XO.done ?_
   refine XK.meet (X := List ((Int × Int) × Value)) [9, 11, 12, 13, 56, 57, 58, 59, 60, 61, 62, 63, 64, 65, 66, 67, 68, 69, 70, 71, 72, 73, 74, 75, 76, 77, 78, 79, 80, 81, 82, 83, 84, 85, 86, 87, 88, 89, 90, 91] (fun es2 => [(9, some (.bool (fitAt (⟨(l.map Prod.snd), rs, m⟩ : PTask) (w ++ [((r : Nat) : Int)]) r)))]) (fun es2 => [mapH bm encK2 es2]) (fun es2 => KnownP (⟨(l.map Prod.snd), rs, m⟩ : PTask) es2) [mapH bm encK2 es1] ?_ ?_
   ·rintro es2 kn2
    dsimp only [lcA, lnA]
    refine XK.seq (XK.region rfl (XO.q (Q.move rfl) (XO.q (Q.move rfl) ?_)))
    refine XO.q (Quiet.guardT rfl rfl fun g94 p94 => Q.ld rfl rfl) ?_
    refine XO.q (Quiet.guardT rfl rfl fun g95 p95 => Q.nilCheck (lzv g95 rfl)) ?_
    refine XO.q (Quiet.guardT rfl rfl fun g96 p96 => Q.fieldAddr (lzv g96 rfl)) ?_
    refine XO.q (Quiet.guardT rfl rfl fun g97 p97 => Q.ldA [_, _, _, _] (lzv g97 rfl) rfl rfl) ?_
    refine XO.q (Quiet.guardT rfl rfl fun g98 p98 => Q.move rfl) ?_
    refine XO.gcallT rfl rfl Tryz.call105 rfl (fun g99 => .c (lzv g99 rfl) (.c (lzv g99 rfl) .n)) rfl (fun g99 p99 => apart_spec l vl hl K aL rs vr hr m (w ++ [((r : Nat) : Int)]) v27 h27 ok wok2) ?_
    refine XO.q (Q.and rfl (fun hp => lzv hp rfl)) ?_
    refine XO.q (Q.move rfl) ?_
    refine XO.q (Quiet.guardT rfl rfl fun g102 p102 => Q.move rfl) ?_
    refine XO.q (Quiet.guardT rfl rfl fun g103 p103 => Q.move rfl) ?_
    refine XO.gvcall rfl rfl (fun g104 => lzv g104 rfl) (fun g104 => .c (lzv g104 rfl) .n) (fun g104 => round _ (psons_at (t := (⟨(l.map Prod.snd), rs, m⟩ : PTask)) (w := w) hr1 g104).2 h27 _ q1 _ ⟨v27, rfl, by rw [(psons_at (t := (⟨(l.map Prod.snd), rs, m⟩ : PTask)) (w := w) hr1 g104).1]; exact O27⟩ hQ1 ⟨es2, rfl, kn2⟩) (fun g104 v104 s104 R104 => ?_) (fun g104 => ?_)
    ·have _tb := True.intro
     obtain ⟨bb, q2, s2, rfl, rfl, ⟨es3, rfl, kn3⟩, hT, hF⟩ := R104
     dsimp only [lcA, lnA]
     refine XO.q (Quiet.guardT rfl rfl fun g105 p105 => Q.not rfl) ?_
     refine XO.q (Q.and rfl (fun hp => lzv hp rfl)) ?_
     refine XO.done ?_
     refine XK.if rfl (fun c4 => ?_) (fun c4 => ?_)
     ·skip
      refine XK.rt [q2, mapH bm encK2 es3] Tryz.func106 Tryz.results106 (.n) ?_
      exact ⟨q2, _, rfl, ⟨es3, rfl, kn3⟩, .inr (hF (by cases bb <;> simp_all))⟩
     ·skip
      refine XK.skip ?_
      refine XK.inBlock ?_
      refine XK.region rfl ?_
      refine XO.q (Q.add rfl rfl ⟨by omega, by omega⟩) ?_
      refine XO.q (Q.move rfl) (XO.done ?_)
      exact ih0 (r + 1, q2, es3) _ _ ⟨by dsimp only; omega, kn3, by dsimp only; rw [psons_step, if_pos (show sonOk (⟨(l.map Prod.snd), rs, m⟩ : PTask) w r = true from g104)]; exact hT (by cases bb <;> simp_all)⟩ (by first | omega | (dsimp only; omega)) (.c rfl (.base 204 rfl rfl)) inferInstance
    ·have _tb := True.intro
     refine XO.q (Quiet.guardT (v := .bool false) rfl rfl fun g105 p105 => absurd g105 g104) ?_
     refine XO.q (Q.and rfl (fun hp => lzv hp rfl)) ?_
     refine XO.done ?_
     refine XK.if rfl (fun c5 => ?_) (fun c5 => ?_)
     ·skip
      refine XK.rt [q1, mapH bm encK2 es2] Tryz.func106 Tryz.results106 (.n) ?_
      exact False.elim c5.2
     ·skip
      refine XK.skip ?_
      refine XK.inBlock ?_
      refine XK.region rfl ?_
      refine XO.q (Q.add rfl rfl ⟨by omega, by omega⟩) ?_
      refine XO.q (Q.move rfl) (XO.done ?_)
      exact ih0 (r + 1, q1, es2) _ _ ⟨by dsimp only; omega, kn2, by dsimp only; rw [psons_step, if_neg (show ¬ sonOk (⟨(l.map Prod.snd), rs, m⟩ : PTask) w r = true from g104)]; exact hQ1⟩ (by first | omega | (dsimp only; omega)) (.c rfl (.base 204 rfl rfl)) inferInstance
   ·intro mt3
    dsimp only [lcA, lnA] at mt3
    refine XK.if rfl (fun c3 => ?_) (fun c3 => ?_)
    ·skip
     refine XK.seq (XK.region rfl ?_)
     refine XO.q (Q.ld rfl rfl) ?_
     refine XO.q (Q.nilCheck rfl) ?_
     refine XO.q (Q.fieldAddr rfl) ?_
     refine XO.q (Q.ldA [_, _, _, _] rfl rfl rfl) ?_
     refine XO.q (Q.move rfl) (XO.q (Q.move rfl) ?_)
     refine XO.call Tryz.call69 rfl rfl rfl (in_spec l vl hl K aL rs vr hr m (w ++ [((r : Nat) : Int)]) v27 h27 (r : Nat) (by omega) (by omega)) fun v62 s62 R62 => ?_
     obtain ⟨k62, rfl, O62⟩ := R62
     dsimp only [lcA, lnA]
     refine XO.q (Q.assign rfl) (XO.done (XK.seq (XK.region rfl (XO.q (Q.move rfl) ?_))))
     refine XO.call Tryz.call85 rfl rfl rfl (listed_spec (inTo l (w ++ [((r : Nat) : Int)]) (r : Nat) (w ++ [((r : Nat) : Int)]).length) v62 k62 K (aL.inTo (by omega))) fun v65 s65 R65 => ?_
     obtain ⟨rfl, rfl⟩ := R65
     dsimp only [lcA, lnA]
     have em : (inTo l (w ++ [((r : Nat) : Int)]) (r : Nat) (w ++ [((r : Nat) : Int)]).length).map Prod.snd = inL (⟨(l.map Prod.snd), rs, m⟩ : PTask) (w ++ [((r : Nat) : Int)]) r := in_mem _
     have lin : ListOk (inL (⟨(l.map Prod.snd), rs, m⟩ : PTask) (w ++ [((r : Nat) : Int)]) r) := lok.inTo (w ++ [((r : Nat) : Int)]) (r : Nat) (by omega)
     have lr := listed_rng lin
     refine XO.q (Q.move rfl) ?_
     refine XO.q (Q.extract rfl rfl) ?_
     refine XO.q (Q.extract rfl rfl) ?_
     refine XO.q (Q.assign rfl) (XO.q (Q.assign rfl) (XO.done (XK.seq ?_)))
     refine XK.drawn [0, 1, 2, 3, 4, 5, 6, 7, 8, 9, 10, 11, 12, 13, 14, 16] [b1] [k62] (.q 0 (.q 1 (.q 2 (.q 3 (.q 4 (.q 5 (.q 6 (.q 7 (.q 8 (.q 9 (.q 10 (.q 11 (.q 12 (.q 13 (.q 14 (.br 15 true (.q 16 .done) .stop)))))))))))))))) Tryz.mixed rfl (by kernel_rfl) ?_
     refine XT.q rfl rfl (Q.move rfl) ?_
     refine XT.q rfl rfl (Q.ld rfl rfl) ?_
     refine XT.q rfl rfl (Q.nilCheck rfl) ?_
     refine XT.q rfl rfl (Q.fieldAddr rfl) ?_
     refine XT.q rfl rfl (Q.fieldAddr rfl) ?_
     refine XT.q rfl rfl (Q.ld rfl rfl) ?_
     refine XT.q rfl rfl (Q.move rfl) ?_
     refine XT.ix rfl rfl rfl rfl (by omega) (by omega) fun i75 => ?_
     refine XT.q rfl rfl (Q.ldEA [_, _, _, _, _] rfl (by first | assumption | omega) rfl rfl) ?_
     refine XT.q rfl rfl (Q.ld rfl rfl) ?_
     refine XT.q rfl rfl (Q.nilCheck rfl) ?_
     refine XT.q rfl rfl (Q.fieldAddr rfl) ?_
     refine XT.q rfl rfl (Q.fieldAddr rfl) ?_
     refine XT.q rfl rfl (Q.ldA [_, _] rfl rfl rfl) ?_
     refine XT.q rfl rfl (Q.move rfl) ?_
     refine XT.call rfl rfl Tryz.call94 rfl rfl rfl (fits_spec (inTo l (w ++ [((r : Nat) : Int)]) (r : Nat) (w ++ [((r : Nat) : Int)]).length) v62 k62 K (aL.inTo (by omega)) (by rw [em]; exact lin) (rs.getD r default) m ok.most _ (by rw [em, lr.1])) (fun v83 s83 R83 => ?_) XT.stop
     obtain ⟨rfl, rfl⟩ := R83
     dsimp only [lcA, lnA]
     refine ⟨inferInstance, ?_⟩
     rw [show fitsG ((inTo l (w ++ [((r : Nat) : Int)]) (r : Nat) (w ++ [((r : Nat) : Int)]).length).map Prod.snd) (rs.getD r default) m = fitAt (⟨(l.map Prod.snd), rs, m⟩ : PTask) (w ++ [((r : Nat) : Int)]) r by rw [em]; rfl]
     refine XT.q rfl rfl (Q.assign rfl) ?_
     refine XT.done ?_
     refine XK.region rfl ?_
     refine XO.q (Q.ld rfl rfl) ?_
     refine XO.q (Q.nilCheck rfl) ?_
     refine XO.q (Q.fieldAddr rfl) ?_
     refine XO.q (Q.ld rfl rfl) ?_
     refine XO.q (Q.move rfl) (XO.q (Q.move rfl) ?_)
     refine XO.q (Q.build [_, _] (.c 0 1 rfl rfl rfl (.c 1 1 rfl rfl rfl (.n _)))) ?_
     refine XO.q (Q.move rfl) ?_
     refine XO.mapUpdate (enc := encK2) ((((r : Nat) : Int), ((((setTo (w ++ [((r : Nat) : Int)]) ((r : Nat) : Int) (w ++ [((r : Nat) : Int)]).length) : Nat)) : Int))) rfl rfl rfl ?_
     refine XO.done ?_
     exact mt3 ((putM (((r : Nat) : Int), ((((setTo (w ++ [((r : Nat) : Int)]) ((r : Nat) : Int) (w ++ [((r : Nat) : Int)]).length) : Nat)) : Int)) (.bool (fitAt (⟨(l.map Prod.snd), rs, m⟩ : PTask) (w ++ [((r : Nat) : Int)]) r)) es1)) _ _ (by rw [fs]; exact kn1.put r (setTo (w ++ [((r : Nat) : Int)]) ((r : Nat) : Int) (w ++ [((r : Nat) : Int)]).length)) (.c rfl (.base 40 rfl rfl)) inferInstance
    ·skip
     refine XK.skip ?_
     have e1 : gv = .bool (fitAt (⟨(l.map Prod.snd), rs, m⟩ : PTask) (w ++ [((r : Nat) : Int)]) r) := by
      rw [egv]
      cases hg : getM (((r : Nat) : Int), ((((setTo (w ++ [((r : Nat) : Int)]) ((r : Nat) : Int) (w ++ [((r : Nat) : Int)]).length) : Nat)) : Int)) es1 with
      | none => rw [hg] at egb; subst egb; exact absurd (Decidable.of_not_not c3) (by decide)
      | some v => rw [fs]; exact kn1 r (setTo (w ++ [((r : Nat) : Int)]) ((r : Nat) : Int) (w ++ [((r : Nat) : Int)]).length) v hg
     subst e1
     exact mt3 (es1) _ _ kn1 (.c rfl (.base 0 rfl rfl)) inferInstance
 ·skip
  have hre : r = rs.length := by omega
  subst hre
  refine XK.exit rfl ?_
  refine XK.region rfl (XO.q (Q.move rfl) ?_)
  refine XO.q (Q.ld rfl rfl) ?_
  refine XO.call Tryz.call31 rfl rfl rfl (cloneI vw hw w (by omega)) fun v110 s110 R110 => ?_
  obtain ⟨k110, rfl, O110⟩ := R110
  dsimp only [lcA, lnA]
  refine XO.lit [_] [_] [-1] encI (by rfl) (by rfl) rfl (by rfl) (by exact .c 0 1 rfl rfl rfl (.n _)) (fun _ => rfl) (by rfl) rfl (by infer_instance) rfl fun v111 h111 O111 => ?_
  refine XO.append rfl rfl rfl rfl (by simp only [List.length_cons, List.length_nil]; omega) fun v112 h112 O112 => ?_
  refine XO.vcall rfl rfl (round _ (by rw [psons_len]; exact Nat.lt_succ_self _) h112 _ q1 _ ⟨v112, rfl, by rw [psons_last]; exact O112⟩ hQ1 ⟨es1, rfl, kn1⟩) fun v113 s113 R113 => ?_
  obtain ⟨bb, q2, s2, rfl, rfl, ks2, hT, hF⟩ := R113
  dsimp only [lcA, lnA]
  refine XO.done ?_
  refine XK.fn [q2, s2] Tryz.func106 Tryz.results106 (.n) ?_
  refine ⟨q2, s2, rfl, ks2, ?_⟩
  cases bb with
  | true => left; rw [psons_len]; exact hT rfl
  | false => right; exact hF rfl
end Go.X
