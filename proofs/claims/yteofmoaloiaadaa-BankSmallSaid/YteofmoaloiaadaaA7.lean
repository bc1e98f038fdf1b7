/- A part of the proof: a small program logic, plain laws and contracts of functions, each proved by a walk through its operations. No condition but those that stand in each theorem. -/
import Derived.Test.YteofmoaloiaadaaA6
set_option linter.unusedSimpArgs false
set_option linter.unusedVariables false
set_option maxRecDepth 20000
namespace Go.X
open Go.Proofs
theorem pat_one {v : Value} {α : Type} {enc : α → List Value} {sz : Nat} {h : PHeap} {xs : List α} (s : Arr v enc sz h xs) {i : Nat} (hi : i < xs.length) (off : Nat) : One (pat v sz i off) := by
  obtain ⟨b, k, cs, T, fr, c, _, _, hp, _⟩ := s.at' hi
  rw [hp off]; infer_instance
theorem smN {n : Nat} (h : n < 1152) : -1000 ≤ (n : Int) ∧ (n : Int) ≤ 10000 := by omega
set_option maxHeartbeats 16000000 in
set_option synthInstance.maxSize 1000 in
set_option synthInstance.maxHeartbeats 400000 in
theorem BankSmall_spec : Spec Try.prog 10 #[] [] [] (fun v hs => v = .bool true ∧ hs = []) := by
  have nB : ∀ h, Arr (.slice none 0 0) encBat 4 h ([] : List BBat) := fun h => Arr.nil (fun _ => rfl)
  have nG : ∀ h, Arr (.slice none 0 0) encGen 5 h ([] : List BGen) := fun h => Arr.nil (fun _ => rfl)
  have nS : ∀ h, Arr (.slice none 0 0) encSpan 2 h ([] : List BSpan) := fun h => Arr.nil (fun _ => rfl)
  have nI : ∀ h, Arr (.slice none 0 0) encI 1 h ([] : List Int) := fun h => Arr.nil (fun _ => rfl)
  refine Spec.intro (fn := Try.f10) (N := 317) Try.func10 rfl Try.ntmps10 rfl fun B => ?_
  refine XK.seq ?_
  refine XK.region rfl ?_
  refine XO.q (Q.assign rfl) ?_
  refine XO.done ?_
  refine XK.seq ?_
  refine XK.seq ?_
  refine XK.region rfl ?_
  refine XO.q (Q.move rfl) ?_
  refine XO.done ?_
  refine XK.block ?_
  refine XK.while (X := Nat) [0, 1, 2, 3, 4, 5, 6, 7, 8, 9, 10, 11, 12, 29, 30, 31, 32, 33, 34, 35, 36, 37, 38, 39, 40, 41, 42, 43, 44, 45, 46, 47, 48, 49, 50, 51, 52, 53, 54, 55, 56, 57, 58, 59, 60, 61, 62, 63, 64, 65, 66, 67, 68, 69, 70, 71, 72, 73, 74, 75, 76, 77, 78, 79, 80, 81, 82, 83, 84, 85, 86, 87, 88, 89, 90, 91, 92, 93, 94, 95, 96, 97, 98, 99, 100, 101, 102, 103, 104, 105, 106, 107, 108, 109, 110, 111, 112, 113, 114, 115, 116, 117, 118] (fun n => [(29, some (.int .i64 (n : Nat)))]) (fun n => []) (fun n => n ≤ 1152) (fun n => 1152 - n) (0) [] rfl (by omega) (.c rfl (.base 0 rfl rfl)) ?_
  rintro n hn ih0
  dsimp only [List.cons_append, List.nil_append] at ih0 ⊢
  refine XK.seq ?_
  refine XK.region rfl ?_
  refine XO.q (Q.lss rfl rfl) ?_
  refine XO.done ?_
  refine XK.seq ?_
  refine XK.if rfl (fun c0 => ?_) (fun c0 => ?_)
  · have _t0 := True.intro
    refine XK.skip ?_
    refine XK.seq ?_
    refine XK.block ?_
    refine XK.seq ?_
    refine XK.region rfl ?_
    refine XO.q (Q.move rfl) ?_
    refine XO.q (Q.assign rfl) ?_
    refine XO.done ?_
    refine XK.seq ?_
    refine XK.region rfl ?_
    refine XO.q (Q.move rfl) ?_
    refine XO.q (Q.rem rfl rfl (by omega) (by omega)) ?_
    refine XO.q (Q.move rfl) ?_
    refine XO.q (Q.rem rfl rfl (by omega) (by omega)) ?_
    refine XO.q (Q.add rfl rfl ⟨by omega, by omega⟩) ?_
    refine XO.q (Q.move rfl) ?_
    refine XO.q (Q.quo rfl rfl (by omega) (by omega) (by omega)) ?_
    refine XO.q (Q.rem rfl rfl (by omega) (by omega)) ?_
    refine XO.q (Q.build [_, _, _, _] (.c 0 1 rfl rfl rfl (.c 1 1 rfl rfl rfl (.c 2 1 rfl rfl rfl (.c 3 1 rfl rfl rfl (.n _)))))) ?_
    refine XO.q (Q.build [_, _, _, _] (.c 0 1 rfl rfl rfl (.c 1 1 rfl rfl rfl (.c 2 1 rfl rfl rfl (.c 3 1 rfl rfl rfl (.n _)))))) ?_
    refine XO.lit [_, _, _, _, _, _, _, _] [_, _, _, _, _, _, _, _] [⟨(n : Int) % 4, 3, 1 + (n : Int) % 2, (n : Int) / 4 % 3⟩, ⟨2, 4, 3, 1⟩] encBat (by rfl) (by rfl) rfl (by rfl) (by exact .c 0 4 rfl rfl rfl (.c 4 4 rfl rfl rfl (.n _))) (fun _ => rfl) (by rfl) rfl (by infer_instance) rfl fun v42 h42 O42 => ?_
    obtain ⟨B1, eB1⟩ : ∃ x : List BBat, x = [⟨(n : Int) % 4, 3, 1 + (n : Int) % 2, (n : Int) / 4 % 3⟩, ⟨2, 4, 3, 1⟩] := ⟨_, rfl⟩
    rw [← eB1] at O42
    have lB1 : B1.length = 2 := by rw [eB1]; rfl
    clear eB1
    refine XO.q (Q.move rfl) ?_
    refine XO.q (Q.quo rfl rfl (by omega) (by omega) (by omega)) ?_
    refine XO.q (Q.rem rfl rfl (by omega) (by omega)) ?_
    refine XO.q (Q.add rfl rfl ⟨by omega, by omega⟩) ?_
    refine XO.q (Q.move rfl) ?_
    refine XO.q (Q.quo rfl rfl (by omega) (by omega) (by omega)) ?_
    refine XO.q (Q.rem rfl rfl (by omega) (by omega)) ?_
    refine XO.q (Q.add rfl rfl ⟨by omega, by omega⟩) ?_
    refine XO.q (Q.move rfl) ?_
    refine XO.q (Q.quo rfl rfl (by omega) (by omega) (by omega)) ?_
    refine XO.q (Q.rem rfl rfl (by omega) (by omega)) ?_
    refine XO.q (Q.move rfl) ?_
    refine XO.q (Q.quo rfl rfl (by omega) (by omega) (by omega)) ?_
    refine XO.q (Q.rem rfl rfl (by omega) (by omega)) ?_
    refine XO.q (Q.move rfl) ?_
    refine XO.q (Q.quo rfl rfl (by omega) (by omega) (by omega)) ?_
    refine XO.q (Q.add rfl rfl ⟨by omega, by omega⟩) ?_
    refine XO.q (Q.build [_, _, _, _, _] (.c 0 1 rfl rfl rfl (.c 1 1 rfl rfl rfl (.c 2 1 rfl rfl rfl (.c 3 1 rfl rfl rfl (.c 4 1 rfl rfl rfl (.n _))))))) ?_
    refine XO.lit [_, _, _, _, _] [_, _, _, _, _] [⟨1 + (n : Int) / 4 % 4, 1 + (n : Int) / 16 % 3, (n : Int) / 48 % 3, (n : Int) / 144 % 4, 1 + (n : Int) / 576⟩] encGen (by rfl) (by rfl) rfl (by rfl) (by exact .c 0 5 rfl rfl rfl (.n _)) (fun _ => rfl) (by rfl) rfl (by infer_instance) rfl fun v61 h61 O61 => ?_
    obtain ⟨G1, eG1⟩ : ∃ x : List BGen, x = [⟨1 + (n : Int) / 4 % 4, 1 + (n : Int) / 16 % 3, (n : Int) / 48 % 3, (n : Int) / 144 % 4, 1 + (n : Int) / 576⟩] := ⟨_, rfl⟩
    rw [← eG1] at O61
    have lG1 : G1.length = 1 := by rw [eG1]; rfl
    clear eG1
    obtain ⟨b, eb⟩ : ∃ x : BBank, x = ⟨B1, G1⟩ := ⟨_, rfl⟩
    have e1 : B1 = b.bats := by rw [eb]
    have e2 : G1 = b.gens := by rw [eb]
    rw [e1] at O42 lB1
    rw [e2] at O61 lG1
    clear e1 e2 eb
    refine XO.q (Q.build [_, _] (.c 0 1 rfl rfl rfl (.c 1 1 rfl rfl rfl (.n _)))) ?_
    refine XO.alloc fun b2 => ?_
    refine XO.st rfl rfl rfl ?_
    refine XO.done ?_
    refine XK.seq ?_
    refine XK.region rfl ?_
    refine XO.q (Q.build [_, _] (.c 0 1 rfl rfl rfl (.c 1 1 rfl rfl rfl (.n _)))) ?_
    refine XO.q (Q.move rfl) ?_
    refine XO.q (Q.rem rfl rfl (by omega) (by omega)) ?_
    refine XO.q (Q.build [_, _] (.c 0 1 rfl rfl rfl (.c 1 1 rfl rfl rfl (.n _)))) ?_
    refine XO.q (Q.build [_, _] (.c 0 1 rfl rfl rfl (.c 1 1 rfl rfl rfl (.n _)))) ?_
    refine XO.lit [_, _, _, _, _, _] [_, _, _, _, _, _] [⟨3, 2⟩, ⟨4, (n : Int) % 5⟩, ⟨2, 4⟩] encSpan (by rfl) (by rfl) rfl (by rfl) (by exact .c 0 2 rfl rfl rfl (.c 2 2 rfl rfl rfl (.c 4 2 rfl rfl rfl (.n _)))) (fun _ => rfl) (by rfl) rfl (by infer_instance) rfl fun v68 h68 O68 => ?_
    obtain ⟨l, el⟩ : ∃ x : List BSpan, x = [⟨3, 2⟩, ⟨4, (n : Int) % 5⟩, ⟨2, 4⟩] := ⟨_, rfl⟩
    rw [← el] at O68
    have ll3 : l.length = 3 := by rw [el]; rfl
    clear el
    refine XO.q (Q.assign rfl) ?_
    refine XO.done ?_
    refine XK.seq ?_
    refine XK.seq ?_
    refine XK.region rfl ?_
    refine XO.q (Q.assign rfl) ?_
    refine XO.done ?_
    refine XK.block ?_
    refine XK.while (X := Int) [0, 4, 69, 70, 71, 72, 73, 74, 75, 76, 77, 78] (fun fl => [(4, some (.int .i64 fl))]) (fun fl => []) (fun fl => -1 ≤ fl ∧ fl ≤ 4) (fun fl => (4 - fl).toNat) (-1) [] rfl ⟨by omega, by omega⟩ (.c rfl (.base 0 rfl rfl)) ?_
    rintro fl ⟨hf1, hf2⟩ ih1
    dsimp only [List.cons_append, List.nil_append] at ih1 ⊢
    refine XK.seq ?_
    refine XK.seq ?_
    refine XK.region rfl ?_
    refine XO.q (Q.move rfl) ?_
    refine XO.q (Q.leq rfl rfl) ?_
    refine XO.done ?_
    refine XK.if rfl (fun c1 => ?_) (fun c1 => ?_)
    · have _t1 := True.intro
      refine XK.skip ?_
      refine XK.seq ?_
      refine XK.block ?_
      refine XK.seq ?_
      refine XK.region rfl ?_
      refine XO.q (Q.ldA [_, _] rfl rfl rfl) ?_
      refine XO.q (Q.move rfl) ?_
      refine XO.q (Q.move rfl) ?_
      refine XO.lit [_] [_] [_] encI (by rfl) (by rfl) rfl (by rfl) (by exact .c 0 1 rfl rfl rfl (.n _)) (fun _ => rfl) (by rfl) rfl (by infer_instance) rfl fun v76 h76 O76 => ?_
      refine XO.call Try.call46 rfl rfl rfl (runs06 b v42 v61 h42 h61 l v68 h68 [fl] v76 h76 (by first | omega | (dsimp only; omega) | decide) (by first | omega | (dsimp only; omega) | decide) (by first | omega | (dsimp only; omega) | decide)) fun v77 s77 R77 => ?_
      obtain ⟨rfl, rfl⟩ := R77
      dsimp only [List.cons_append, List.nil_append]
      refine XO.q (Q.not rfl) ?_
      refine XO.done ?_
      refine XK.if rfl (fun c2 => ?_) (fun c2 => ?_)
      · have _t2 := True.intro
        simp at c2
      · have _t2 := True.intro
        refine XK.skip ?_
        refine XK.inBlock ?_
        refine XK.region rfl ?_
        refine XO.q (Q.move rfl) ?_
        refine XO.q (Q.add rfl rfl ⟨by omega, by omega⟩) ?_
        refine XO.q (Q.assign rfl) ?_
        refine XO.done ?_
        exact ih1 (fl + 1) _ _ ⟨by omega, by omega⟩ (by first | omega | (dsimp only; omega)) (.c rfl (.base 24 rfl rfl)) inferInstance
    · have _t1 := True.intro
      refine XK.exit rfl ?_
      refine XK.seq ?_
      refine XK.region rfl ?_
      refine XO.q (Q.ldA [_, _] rfl rfl rfl) ?_
      refine XO.call Try.call15 rfl rfl rfl (copied06 b v42 v61 h42 h61 (by omega) (by omega)) fun v81 s81 R81 => ?_
      obtain ⟨vb1, vg1, vb2, vg2, kb1, kg1, kb2, kg2, rfl, rfl, OB1, OG1, OB2, OG2⟩ := R81
      dsimp only [List.cons_append, List.nil_append]
      refine XO.q (Q.move rfl) ?_
      refine XO.q (Q.extract rfl rfl) ?_
      refine XO.q (Q.extract rfl rfl) ?_
      refine XO.alloc fun b5 => ?_
      refine XO.alloc fun b6 => ?_
      refine XO.st rfl rfl rfl ?_
      refine XO.st rfl rfl rfl ?_
      refine XO.done ?_
      refine XK.seq ?_
      refine XK.region rfl ?_
      refine XO.q (Q.ldA [_, _] rfl rfl rfl) ?_
      refine XO.q (Q.move rfl) ?_
      refine XO.q (Q.move rfl) ?_
      refine XO.q (Q.rem rfl rfl (by omega) (by omega)) ?_
      refine XO.call Try.call17 rfl rfl rfl (Worst_spec b vb1 vg1 kb1 kg1 l v68 h68 ((n : Int) % 4) (by omega)) fun v89 s89 R89 => ?_
      obtain ⟨vw, ve, vn, K, ke, kn, rfl, rfl, ow, AW, OE, ON⟩ := R89
      dsimp only [List.cons_append, List.nil_append]
      obtain ⟨r, er⟩ : ∃ r, r = (if searchP b l ((n : Int) % 4) = 0 then worstP b (powers l) ((n : Int) % 4) else ([], ⟨0, [], [], 0⟩)) := ⟨_, rfl⟩
      rw [← er] at AW OE ON ⊢
      refine XO.q (Q.move rfl) ?_
      refine XO.q (Q.extract rfl rfl) ?_
      refine XO.q (Q.extract rfl rfl) ?_
      refine XO.q (Q.extract rfl rfl) ?_
      refine XO.alloc fun b8 => ?_
      refine XO.q (Q.assign rfl) ?_
      refine XO.st rfl rfl rfl ?_
      refine XO.q (Q.assign rfl) ?_
      refine XO.done ?_
      refine XK.seq ?_
      refine XK.meet (X := Nat × Value × Value × Value × PHeap × PHeap × PHeap) [10, 11, 12, 93, 94, 95, 96, 97, 98, 99, 100, 101, 102] (fun ⟨b11, vwb, veb, vnb, Kb, keb, knb⟩ => [(10, some (vwb)), (11, some (ptr b11 0)), (12, some (.int .i64 (searchP b l ((n : Int) % 4))))]) (fun ⟨b11, vwb, veb, vnb, Kb, keb, knb⟩ => [blk b11 [.int .i64 r.2.dark, veb, vnb, .int .i64 r.2.served] 45, Kb, keb, knb]) (fun ⟨b11, vwb, veb, vnb, Kb, keb, knb⟩ => One vwb ∧ Arr vwb encI 1 Kb r.1 ∧ OArr veb encI 1 3 keb r.2.energy ∧ OArr vnb encI 1 3 knb r.2.burnt) [] ?_ ?_
      · rintro ⟨b11, vwb, veb, vnb, Kb, keb, knb⟩ ⟨owb, AWb, OEb, ONb⟩
        dsimp only [List.cons_append, List.nil_append]
        refine XK.seq ?_
        refine XK.region rfl ?_
        refine XO.q (Q.move rfl) ?_
        refine XO.q (Q.move rfl) ?_
        refine XO.call Try.call24 rfl rfl rfl (equalI vw vwb K Kb r.1 r.1) fun v105 s105 R105 => ?_
        obtain ⟨rfl, rfl⟩ := R105
        dsimp only [List.cons_append, List.nil_append]
        refine XO.q (Q.not rfl) ?_
        refine XO.q (Q.move rfl) ?_
        refine XO.q (Quiet.guardF rfl rfl fun g108 p108 => Q.ldA [_, _, _, _] rfl rfl rfl) ?_
        refine XO.q (Quiet.guardF rfl rfl fun g109 p109 => Q.ldA [_, _, _, _] rfl rfl rfl) ?_
        refine XO.gcallF rfl rfl Try.call25 rfl (fun g110 => .c (lzv g110 rfl) (.c (lzv g110 rfl) .n)) rfl (fun g110 p110 => alike06 r.2 r.2 ve vn veb vnb ke kn keb knb) ?_
        refine XO.q (Quiet.guardF rfl rfl fun g111 p111 => Q.not (lzv g111 rfl)) ?_
        refine XO.q (Q.or rfl (fun hp => lzv hp rfl)) ?_
        refine XO.q (Q.move rfl) ?_
        refine XO.q (Quiet.guardF rfl rfl fun g114 p114 => Q.move rfl) ?_
        refine XO.q (Quiet.guardF rfl rfl fun g115 p115 => Q.move rfl) ?_
        refine XO.q (Quiet.guardF rfl rfl fun g116 p116 => Q.neq (lzv g116 rfl) (lzv g116 rfl)) ?_
        refine XO.q (Q.or rfl (fun hp => lzv hp rfl)) ?_
        refine XO.done ?_
        refine XK.if rfl (fun c3 => ?_) (fun c3 => ?_)
        · have _t3 := True.intro
          simp at c3
        · have _t3 := True.intro
          refine XK.skip ?_
          refine XK.inBlock ?_
          refine XK.region rfl ?_
          refine XO.q (Q.add rfl rfl ⟨by omega, by omega⟩) ?_
          refine XO.q (Q.move rfl) ?_
          refine XO.done ?_
          exact ih0 (n + 1) _ _ (by omega) (by first | omega | (dsimp only; omega)) (.c rfl (.base 214 rfl rfl)) inferInstance
      · intro mtr13
        dsimp only [List.cons_append, List.nil_append] at mtr13
        refine XK.drawn [0, 1, 3, 4, 6, 7, 8, 9, 11, 13] [b6] [] (.q 0 (.q 1 (.q 3 (.q 4 (.br 2 true (.br 5 true (.q 6 (.q 7 (.q 8 (.q 9 (.br 10 true (.q 11 (.br 12 true (.q 13 .done) .stop)) .stop))))) (.br 10 true (.br 5 true (.q 6 (.q 7 (.q 8 (.q 9 (.q 11 (.br 12 true (.q 13 .done) .stop)))))) .stop) .stop)) (.br 10 true (.br 2 true (.br 5 true (.q 6 (.q 7 (.q 8 (.q 9 (.q 11 (.br 12 true (.q 13 .done) .stop)))))) .stop) .stop) .stop)))))) Try.mixed rfl (by kernel_rfl) ?_
        refine XT.q rfl rfl (Q.ldA [_, _] rfl rfl rfl) ?_
        refine XT.q rfl rfl (Q.move rfl) ?_
        refine XT.q rfl rfl (Q.move rfl) ?_
        refine XT.q rfl rfl (Q.rem rfl rfl (by omega) (by omega)) ?_
        refine XT.call rfl rfl Try.call19 rfl rfl rfl (spans06 l v68 h68 (by omega)) (fun v96 s96 R96 => ?_) ?_
        · skip
          obtain ⟨k96, rfl, O96⟩ := R96
          dsimp only [List.cons_append, List.nil_append]
          refine ⟨inferInstance, ?_⟩
          refine XT.call rfl rfl Try.call18 rfl rfl rfl (RWorst_spec b vb2 vg2 kb2 kg2 l v96 k96 ((n : Int) % 4) (by omega)) (fun v99 s99 R99 => ?_) ?_
          · skip
            obtain ⟨vwb, veb, vnb, Kb, keb, knb, rfl, rfl, owb, AWb, OEb, ONb⟩ := R99
            dsimp only [List.cons_append, List.nil_append]
            refine ⟨inferInstance, ?_⟩
            rw [← er] at AWb OEb ONb ⊢
            refine XT.q rfl rfl (Q.move rfl) ?_
            refine XT.q rfl rfl (Q.extract rfl rfl) ?_
            refine XT.q rfl rfl (Q.extract rfl rfl) ?_
            refine XT.q rfl rfl (Q.extract rfl rfl) ?_
            refine XT.alloc rfl rfl (fun b11 => ⟨inferInstance, ?_⟩) XT.stop
            refine XT.q rfl rfl (Q.assign rfl) ?_
            refine XT.st rfl rfl rfl rfl rfl ⟨inferInstance, ?_⟩ XT.stop
            refine XT.q rfl rfl (Q.assign rfl) ?_
            refine XT.done ?_
            exact mtr13 ((b11, vwb, veb, vnb, Kb, keb, knb)) _ _ ⟨owb, AWb, OEb, ONb⟩ (.c rfl (.c rfl (.c rfl (.base 13 rfl rfl)))) inferInstance
          · skip
            refine XT.alloc rfl rfl (fun b11 => ⟨inferInstance, ?_⟩) XT.stop
            refine XT.call rfl rfl Try.call18 rfl rfl rfl (RWorst_spec b vb2 vg2 kb2 kg2 l v96 k96 ((n : Int) % 4) (by omega)) (fun v99 s99 R99 => ?_) XT.stop
            obtain ⟨vwb, veb, vnb, Kb, keb, knb, rfl, rfl, owb, AWb, OEb, ONb⟩ := R99
            dsimp only [List.cons_append, List.nil_append]
            refine ⟨inferInstance, ?_⟩
            rw [← er] at AWb OEb ONb ⊢
            refine XT.q rfl rfl (Q.move rfl) ?_
            refine XT.q rfl rfl (Q.extract rfl rfl) ?_
            refine XT.q rfl rfl (Q.extract rfl rfl) ?_
            refine XT.q rfl rfl (Q.extract rfl rfl) ?_
            refine XT.q rfl rfl (Q.assign rfl) ?_
            refine XT.st rfl rfl rfl rfl rfl ⟨inferInstance, ?_⟩ XT.stop
            refine XT.q rfl rfl (Q.assign rfl) ?_
            refine XT.done ?_
            exact mtr13 ((b11, vwb, veb, vnb, Kb, keb, knb)) _ _ ⟨owb, AWb, OEb, ONb⟩ (.c rfl (.c rfl (.c rfl (.base 13 rfl rfl)))) inferInstance
        · skip
          refine XT.alloc rfl rfl (fun b11 => ⟨inferInstance, ?_⟩) XT.stop
          refine XT.call rfl rfl Try.call19 rfl rfl rfl (spans06 l v68 h68 (by omega)) (fun v96 s96 R96 => ?_) XT.stop
          obtain ⟨k96, rfl, O96⟩ := R96
          dsimp only [List.cons_append, List.nil_append]
          refine ⟨inferInstance, ?_⟩
          refine XT.call rfl rfl Try.call18 rfl rfl rfl (RWorst_spec b vb2 vg2 kb2 kg2 l v96 k96 ((n : Int) % 4) (by omega)) (fun v99 s99 R99 => ?_) XT.stop
          obtain ⟨vwb, veb, vnb, Kb, keb, knb, rfl, rfl, owb, AWb, OEb, ONb⟩ := R99
          dsimp only [List.cons_append, List.nil_append]
          refine ⟨inferInstance, ?_⟩
          rw [← er] at AWb OEb ONb ⊢
          refine XT.q rfl rfl (Q.move rfl) ?_
          refine XT.q rfl rfl (Q.extract rfl rfl) ?_
          refine XT.q rfl rfl (Q.extract rfl rfl) ?_
          refine XT.q rfl rfl (Q.extract rfl rfl) ?_
          refine XT.q rfl rfl (Q.assign rfl) ?_
          refine XT.st rfl rfl rfl rfl rfl ⟨inferInstance, ?_⟩ XT.stop
          refine XT.q rfl rfl (Q.assign rfl) ?_
          refine XT.done ?_
          exact mtr13 ((b11, vwb, veb, vnb, Kb, keb, knb)) _ _ ⟨owb, AWb, OEb, ONb⟩ (.c rfl (.c rfl (.c rfl (.base 13 rfl rfl)))) inferInstance
  · have _t0 := True.intro
    refine XK.exit rfl ?_
    refine XK.seq ?_
    refine XK.region rfl ?_
    refine XO.call Try.call47 rfl rfl rfl (example06) fun v120 s120 R120 => ?_
    obtain ⟨vb, vg, vl, kb, kg, kl, rfl, rfl, OB, OG, OL⟩ := R120
    dsimp only [List.cons_append, List.nil_append]
    have xb1 : exB.bats.length = 1 := rfl
    have xg1 : exB.gens.length = 1 := rfl
    have xl1 : exL.length = 1 := rfl
    refine XO.q (Q.move rfl) ?_
    refine XO.q (Q.extract rfl rfl) ?_
    refine XO.q (Q.extract rfl rfl) ?_
    refine XO.alloc fun b13 => ?_
    refine XO.st rfl rfl rfl ?_
    refine XO.q (Q.assign rfl) ?_
    refine XO.done ?_
    refine XK.seq ?_
    refine XK.seq ?_
    refine XK.region rfl ?_
    refine XO.q (Q.move rfl) ?_
    refine XO.done ?_
    refine XK.block ?_
    refine XK.while (X := Nat) [0, 15, 17, 18, 19, 20, 123, 124, 125, 126, 127, 128, 129, 130, 131, 132, 133, 134, 135, 136, 137, 138, 139, 140, 141, 142, 143, 144, 145, 146, 147, 148, 149, 150, 151, 152, 153, 154, 155, 156, 157, 158, 159, 160, 161, 162, 163, 164, 165, 166, 167, 168, 169, 170, 171, 172, 173, 174, 175, 176, 177, 178, 179, 180, 181, 182, 183, 184, 185, 186] (fun i => [(123, some (.int .i64 (i : Nat)))]) (fun i => []) (fun i => i ≤ 9) (fun i => 9 - i) (0) [] rfl (by omega) (.c rfl (.base 0 rfl rfl)) ?_
    rintro i hi ih2
    dsimp only [List.cons_append, List.nil_append] at ih2 ⊢
    refine XK.seq ?_
    refine XK.region rfl ?_
    refine XO.q (Q.lss rfl rfl) ?_
    refine XO.done ?_
    refine XK.seq ?_
    refine XK.if rfl (fun c4 => ?_) (fun c4 => ?_)
    · have _t4 := True.intro
      refine XK.skip ?_
      refine XK.seq ?_
      refine XK.block ?_
      refine XK.seq ?_
      refine XK.region rfl ?_
      refine XO.q (Q.move rfl) ?_
      refine XO.q (Q.assign rfl) ?_
      refine XO.done ?_
      refine XK.seq ?_
      refine XK.region rfl ?_
      refine XO.lit [_, _, _, _, _, _, _, _, _, _, _] [_, _, _, _, _, _, _, _, _, _, _] [-1, 0, 1, 5, 6, 3600, 3601, 1000000, 1000001, 100000000000, 100000000001] encI (by rfl) (by rfl) rfl (by rfl) (by exact .c 0 1 rfl rfl rfl (.c 1 1 rfl rfl rfl (.c 2 1 rfl rfl rfl (.c 3 1 rfl rfl rfl (.c 4 1 rfl rfl rfl (.c 5 1 rfl rfl rfl (.c 6 1 rfl rfl rfl (.c 7 1 rfl rfl rfl (.c 8 1 rfl rfl rfl (.c 9 1 rfl rfl rfl (.c 10 1 rfl rfl rfl (.n _)))))))))))) (fun _ => rfl) (by rfl) rfl (by infer_instance) rfl fun v126 h126 O126 => ?_
      refine XO.len rfl fun l127 => ?_
      rw [show ((([-1, 0, 1, 5, 6, 3600, 3601, 1000000, 1000001, 100000000000, 100000000001] : List Int).length : Nat) : Int) = 11 from rfl]
      refine XO.q (Q.move rfl) ?_
      refine XO.done ?_
      refine XK.block ?_
      refine XK.while (X := Nat) [0, 17, 18, 19, 20, 128, 129, 130, 131, 132, 133, 134, 135, 136, 137, 138, 139, 140, 141, 142, 143, 144, 145, 146, 147, 148, 149, 150, 151, 152, 153, 154, 155, 156, 157, 158, 159, 160, 161, 162, 163, 164, 165, 166, 167, 168, 169, 170, 171, 172, 173, 174, 175, 176, 177, 178, 179, 180, 181, 182, 183, 184, 185] (fun k => [(128, some (.int .i64 (k : Nat)))]) (fun k => []) (fun k => k ≤ 11) (fun k => 11 - k) (0) [] rfl (by omega) (.c rfl (.base 0 rfl rfl)) ?_
      rintro k hk ih3
      dsimp only [List.cons_append, List.nil_append] at ih3 ⊢
      refine XK.seq ?_
      refine XK.region rfl ?_
      refine XO.q (Q.lss rfl rfl) ?_
      refine XO.done ?_
      refine XK.seq ?_
      refine XK.if rfl (fun c5 => ?_) (fun c5 => ?_)
      · have _t5 := True.intro
        refine XK.skip ?_
        refine XK.seq ?_
        refine XK.block ?_
        refine XK.seq ?_
        refine XK.region rfl ?_
        refine XO.ix rfl rfl (by omega) (by show (k : Int) < 11; omega) fun i130 => ?_
        refine XO.q (Q.ldE rfl (by first | assumption | omega) rfl) ?_
        obtain ⟨x, ex⟩ : ∃ x, x = ([-1, 0, 1, 5, 6, 3600, 3601, 1000000, 1000001, 100000000000, 100000000001] : List Int).getD k default := ⟨_, rfl⟩
        rw [← ex]
        clear ex
        refine XO.q (Q.assign rfl) ?_
        refine XO.done ?_
        refine XK.seq ?_
        refine XK.region rfl ?_
        refine XO.q (Q.ldA [_, _] rfl rfl rfl) ?_
        refine XO.call Try.call15 rfl rfl rfl (copied06 exB vb vg kb kg (by omega) (by omega)) fun v134 s134 R134 => ?_
        obtain ⟨vb1, vg1, vb2, vg2, kb1, kg1, kb2, kg2, rfl, rfl, OB1, OG1, OB2, OG2⟩ := R134
        dsimp only [List.cons_append, List.nil_append]
        have op1 : ∀ off, One (pat vb1 4 (Int.toNat 0) off) := fun off => pat_one (OArr.arr (s := OB1)) (i := 0) (by omega) off
        have op2 : ∀ off, One (pat vg1 5 (Int.toNat 0) off) := fun off => pat_one (OArr.arr (s := OG1)) (i := 0) (by omega) off
        refine XO.q (Q.move rfl) ?_
        refine XO.q (Q.extract rfl rfl) ?_
        refine XO.q (Q.extract rfl rfl) ?_
        refine XO.alloc fun b18 => ?_
        refine XO.alloc fun b19 => ?_
        refine XO.st rfl rfl rfl ?_
        refine XO.st rfl rfl rfl ?_
        refine XO.done ?_
        refine XK.seq ?_
        refine XK.drawn [0, 1, 2, 3, 4, 5, 6, 7, 8, 9, 10, 11, 12, 13, 14, 15, 16, 17, 18, 19, 20, 21, 22, 23, 24, 25, 26, 27, 28, 29, 30, 31, 32, 33, 34, 35, 37, 40] [b18] [kb1, kg1] (.q 0 (.q 1 (.q 2 (.q 3 (.q 4 (.q 5 (.q 6 (.q 7 (.q 8 (.q 9 (.q 10 (.q 11 (.q 12 (.q 13 (.q 14 (.q 15 (.q 16 (.q 17 (.q 18 (.q 19 (.q 20 (.q 21 (.q 22 (.q 23 (.q 24 (.q 25 (.q 26 (.q 27 (.q 28 (.q 29 (.q 30 (.q 31 (.q 32 (.q 33 (.q 34 (.q 35 (.q 37 (.br 36 true (.br 38 true (.br 39 true (.q 40 .done) .stop) .stop) .stop)))))))))))))))))))))))))))))))))))))) Try.mixed rfl (by kernel_rfl) ?_
        refine XT.q rfl rfl (Q.fieldAddr rfl) ?_
        refine XT.q rfl rfl (Q.ld rfl rfl) ?_
        refine XT.ix rfl rfl rfl rfl (by omega) (by omega) fun i139 => ?_
        refine XT.q rfl rfl (Q.fieldQ rfl (by first | assumption | omega)) ?_
        refine XT.q rfl rfl (Q.fieldAddr rfl) ?_
        refine XT.q rfl rfl (Q.ld rfl rfl) ?_
        refine XT.ix rfl rfl rfl rfl (by omega) (by omega) fun i143 => ?_
        refine XT.q rfl rfl (Q.fieldQ rfl (by first | assumption | omega)) ?_
        refine XT.q rfl rfl (Q.fieldAddr rfl) ?_
        refine XT.q rfl rfl (Q.ld rfl rfl) ?_
        refine XT.ix rfl rfl rfl rfl (by omega) (by omega) fun i147 => ?_
        refine XT.q rfl rfl (Q.fieldQ rfl (by first | assumption | omega)) ?_
        refine XT.q rfl rfl (Q.fieldAddr rfl) ?_
        refine XT.q rfl rfl (Q.ld rfl rfl) ?_
        refine XT.ix rfl rfl rfl rfl (by omega) (by omega) fun i151 => ?_
        refine XT.q rfl rfl (Q.fieldQ rfl (by first | assumption | omega)) ?_
        refine XT.q rfl rfl (Q.fieldAddr rfl) ?_
        refine XT.q rfl rfl (Q.ld rfl rfl) ?_
        refine XT.ix rfl rfl rfl rfl (by omega) (by omega) fun i155 => ?_
        refine XT.q rfl rfl (Q.fieldQ rfl (by first | assumption | omega)) ?_
        refine XT.q rfl rfl (Q.fieldAddr rfl) ?_
        refine XT.q rfl rfl (Q.ld rfl rfl) ?_
        refine XT.ix rfl rfl rfl rfl (by omega) (by omega) fun i159 => ?_
        refine XT.q rfl rfl (Q.fieldQ rfl (by first | assumption | omega)) ?_
        refine XT.q rfl rfl (Q.fieldAddr rfl) ?_
        refine XT.q rfl rfl (Q.ld rfl rfl) ?_
        refine XT.ix rfl rfl rfl rfl (by omega) (by omega) fun i163 => ?_
        refine XT.q rfl rfl (Q.fieldQ rfl (by first | assumption | omega)) ?_
        refine XT.q rfl rfl (Q.fieldAddr rfl) ?_
        refine XT.q rfl rfl (Q.ld rfl rfl) ?_
        refine XT.ix rfl rfl rfl rfl (by omega) (by omega) fun i167 => ?_
        refine XT.q rfl rfl (Q.fieldQ rfl (by first | assumption | omega)) ?_
        refine XT.q rfl rfl (Q.fieldAddr rfl) ?_
        refine XT.q rfl rfl (Q.ld rfl rfl) ?_
        refine XT.ix rfl rfl rfl rfl (by omega) (by omega) fun i171 => ?_
        refine XT.q rfl rfl (Q.fieldQ rfl (by first | assumption | omega)) ?_
        refine XT.q rfl rfl (Q.move rfl) ?_
        refine XT.lit [_, _, _, _, _, _, _, _, _] [_, _, _, _, _, _, _, _, _] [_, _, _, _, _, _, _, _, _] encV rfl rfl (by rfl) (by rfl) rfl (by rfl) (by exact .c 0 1 rfl rfl rfl (.c 1 1 rfl rfl rfl (.c 2 1 rfl rfl rfl (.c 3 1 rfl rfl rfl (.c 4 1 rfl rfl rfl (.c 5 1 rfl rfl rfl (.c 6 1 rfl rfl rfl (.c 7 1 rfl rfl rfl (.c 8 1 rfl rfl rfl (.n _)))))))))) (fun _ => rfl) (by rfl) rfl (by infer_instance) rfl (fun v173 h173 O173 => ⟨inferInstance, ?_⟩) XT.stop
        refine XT.qs rfl rfl (Q.ix rfl rfl (by omega) (by show (i : Int) < 9; omega)) ⟨inferInstance, ?_⟩ XT.stop
        refine XT.qs rfl rfl (Q.ldE rfl (by show (i : Nat) < 9; omega) rfl) ⟨inferInstance, ?_⟩ XT.stop
        refine XT.q rfl rfl (Q.assign rfl) ?_
        refine XT.done ?_
        refine XK.seq ?_
        refine XK.meet (X := List BBat × List BGen × PHeap × PHeap) [177, 178, 179] (fun ⟨B3, G3, kb3, kg3⟩ => []) (fun ⟨B3, G3, kb3, kg3⟩ => [kb3, kg3]) (fun ⟨B3, G3, kb3, kg3⟩ => (OArr vb1 encBat 4 73 kb3 B3 ∧ OArr vg1 encGen 5 85 kg3 G3) ∧ B3.length ≤ 1000 ∧ G3.length ≤ 1000) [kb1, kg1] ?_ ?_
        · rintro ⟨B3, G3, kb3, kg3⟩ ⟨⟨OB3, OG3⟩, lb3, lg3⟩
          dsimp only [List.cons_append, List.nil_append]
          refine XK.seq ?_
          refine XK.region rfl ?_
          refine XO.q (Q.ldA [_, _] rfl rfl rfl) ?_
          refine XO.q (Q.move rfl) ?_
          refine XO.lit [_] [_] [_] encI (by rfl) (by rfl) rfl (by rfl) (by exact .c 0 1 rfl rfl rfl (.n _)) (fun _ => rfl) (by rfl) rfl (by infer_instance) rfl fun v182 h182 O182 => ?_
          refine XO.call Try.call46 rfl rfl rfl (runs06 ⟨B3, G3⟩ vb1 vg1 kb3 kg3 exL vl kl [1] v182 h182 (by first | omega | (dsimp only; omega) | decide) (by first | omega | (dsimp only; omega) | decide) (by first | omega | (dsimp only; omega) | decide)) fun v183 s183 R183 => ?_
          obtain ⟨rfl, rfl⟩ := R183
          dsimp only [List.cons_append, List.nil_append]
          refine XO.q (Q.not rfl) ?_
          refine XO.done ?_
          refine XK.if rfl (fun c6 => ?_) (fun c6 => ?_)
          · have _t6 := True.intro
            simp at c6
          · have _t6 := True.intro
            refine XK.skip ?_
            refine XK.inBlock ?_
            refine XK.region rfl ?_
            refine XO.q (Q.add rfl rfl ⟨by omega, by omega⟩) ?_
            refine XO.q (Q.move rfl) ?_
            refine XO.done ?_
            exact ih3 (k + 1) _ _ (by omega) (by first | omega | (dsimp only; omega)) (.c rfl (.base 126 rfl rfl)) inferInstance
        · intro mtr26
          dsimp only [List.cons_append, List.nil_append] at mtr26
          refine XK.region rfl ?_
          rcases (show i = 0 ∨ i = 1 ∨ i = 2 ∨ i = 3 ∨ i = 4 ∨ i = 5 ∨ i = 6 ∨ i = 7 ∨ i = 8 by omega) with rfl | rfl | rfl | rfl | rfl | rfl | rfl | rfl | rfl
          · have _tb := True.intro
            refine XO.q (Q.move rfl) ?_
            refine XO.q (Q.move rfl) ?_
            refine XO.q (Q.nilCheckE rfl (by first | assumption | omega)) ?_
            refine XO.stE (⟨x, (exB.bats.getD 0 default).full, (exB.bats.getD 0 default).power, (exB.bats.getD 0 default).charge⟩ : BBat) rfl rfl rfl (by assumption) rfl rfl fun h26_3 O26_3 => ?_
            refine XO.done ?_
            exact mtr26 ((exB.bats.set 0 _, exB.gens, h26_3, kg1)) _ _ ⟨⟨O26_3, OG1⟩, by (try dsimp only); simp only [List.length_set]; omega, by (try dsimp only); omega⟩ (.base 3 rfl rfl) inferInstance
          · have _tb := True.intro
            refine XO.q (Q.move rfl) ?_
            refine XO.q (Q.move rfl) ?_
            refine XO.q (Q.nilCheckE rfl (by first | assumption | omega)) ?_
            refine XO.stE (⟨(exB.bats.getD 0 default).energy, x, (exB.bats.getD 0 default).power, (exB.bats.getD 0 default).charge⟩ : BBat) rfl rfl rfl (by assumption) rfl rfl fun h26_3 O26_3 => ?_
            refine XO.done ?_
            exact mtr26 ((exB.bats.set 0 _, exB.gens, h26_3, kg1)) _ _ ⟨⟨O26_3, OG1⟩, by (try dsimp only); simp only [List.length_set]; omega, by (try dsimp only); omega⟩ (.base 3 rfl rfl) inferInstance
          · have _tb := True.intro
            refine XO.q (Q.move rfl) ?_
            refine XO.q (Q.move rfl) ?_
            refine XO.q (Q.nilCheckE rfl (by first | assumption | omega)) ?_
            refine XO.stE (⟨(exB.bats.getD 0 default).energy, (exB.bats.getD 0 default).full, x, (exB.bats.getD 0 default).charge⟩ : BBat) rfl rfl rfl (by assumption) rfl rfl fun h26_3 O26_3 => ?_
            refine XO.done ?_
            exact mtr26 ((exB.bats.set 0 _, exB.gens, h26_3, kg1)) _ _ ⟨⟨O26_3, OG1⟩, by (try dsimp only); simp only [List.length_set]; omega, by (try dsimp only); omega⟩ (.base 3 rfl rfl) inferInstance
          · have _tb := True.intro
            refine XO.q (Q.move rfl) ?_
            refine XO.q (Q.move rfl) ?_
            refine XO.q (Q.nilCheckE rfl (by first | assumption | omega)) ?_
            refine XO.stE (⟨(exB.bats.getD 0 default).energy, (exB.bats.getD 0 default).full, (exB.bats.getD 0 default).power, x⟩ : BBat) rfl rfl rfl (by assumption) rfl rfl fun h26_3 O26_3 => ?_
            refine XO.done ?_
            exact mtr26 ((exB.bats.set 0 _, exB.gens, h26_3, kg1)) _ _ ⟨⟨O26_3, OG1⟩, by (try dsimp only); simp only [List.length_set]; omega, by (try dsimp only); omega⟩ (.base 3 rfl rfl) inferInstance
          · have _tb := True.intro
            refine XO.q (Q.move rfl) ?_
            refine XO.q (Q.move rfl) ?_
            refine XO.q (Q.nilCheckE rfl (by first | assumption | omega)) ?_
            refine XO.stE (⟨x, (exB.gens.getD 0 default).ramp, (exB.gens.getD 0 default).delay, (exB.gens.getD 0 default).pause, (exB.gens.getD 0 default).tries⟩ : BGen) rfl rfl rfl (by assumption) rfl rfl fun h26_3 O26_3 => ?_
            refine XO.done ?_
            exact mtr26 ((exB.bats, exB.gens.set 0 _, kb1, h26_3)) _ _ ⟨⟨OB1, O26_3⟩, by (try dsimp only); omega, by (try dsimp only); simp only [List.length_set]; omega⟩ (.base 3 rfl rfl) inferInstance
          · have _tb := True.intro
            refine XO.q (Q.move rfl) ?_
            refine XO.q (Q.move rfl) ?_
            refine XO.q (Q.nilCheckE rfl (by first | assumption | omega)) ?_
            refine XO.stE (⟨(exB.gens.getD 0 default).power, x, (exB.gens.getD 0 default).delay, (exB.gens.getD 0 default).pause, (exB.gens.getD 0 default).tries⟩ : BGen) rfl rfl rfl (by assumption) rfl rfl fun h26_3 O26_3 => ?_
            refine XO.done ?_
            exact mtr26 ((exB.bats, exB.gens.set 0 _, kb1, h26_3)) _ _ ⟨⟨OB1, O26_3⟩, by (try dsimp only); omega, by (try dsimp only); simp only [List.length_set]; omega⟩ (.base 3 rfl rfl) inferInstance
          · have _tb := True.intro
            refine XO.q (Q.move rfl) ?_
            refine XO.q (Q.move rfl) ?_
            refine XO.q (Q.nilCheckE rfl (by first | assumption | omega)) ?_
            refine XO.stE (⟨(exB.gens.getD 0 default).power, (exB.gens.getD 0 default).ramp, x, (exB.gens.getD 0 default).pause, (exB.gens.getD 0 default).tries⟩ : BGen) rfl rfl rfl (by assumption) rfl rfl fun h26_3 O26_3 => ?_
            refine XO.done ?_
            exact mtr26 ((exB.bats, exB.gens.set 0 _, kb1, h26_3)) _ _ ⟨⟨OB1, O26_3⟩, by (try dsimp only); omega, by (try dsimp only); simp only [List.length_set]; omega⟩ (.base 3 rfl rfl) inferInstance
          · have _tb := True.intro
            refine XO.q (Q.move rfl) ?_
            refine XO.q (Q.move rfl) ?_
            refine XO.q (Q.nilCheckE rfl (by first | assumption | omega)) ?_
            refine XO.stE (⟨(exB.gens.getD 0 default).power, (exB.gens.getD 0 default).ramp, (exB.gens.getD 0 default).delay, x, (exB.gens.getD 0 default).tries⟩ : BGen) rfl rfl rfl (by assumption) rfl rfl fun h26_3 O26_3 => ?_
            refine XO.done ?_
            exact mtr26 ((exB.bats, exB.gens.set 0 _, kb1, h26_3)) _ _ ⟨⟨OB1, O26_3⟩, by (try dsimp only); omega, by (try dsimp only); simp only [List.length_set]; omega⟩ (.base 3 rfl rfl) inferInstance
          · have _tb := True.intro
            refine XO.q (Q.move rfl) ?_
            refine XO.q (Q.move rfl) ?_
            refine XO.q (Q.nilCheckE rfl (by first | assumption | omega)) ?_
            refine XO.stE (⟨(exB.gens.getD 0 default).power, (exB.gens.getD 0 default).ramp, (exB.gens.getD 0 default).delay, (exB.gens.getD 0 default).pause, x⟩ : BGen) rfl rfl rfl (by assumption) rfl rfl fun h26_3 O26_3 => ?_
            refine XO.done ?_
            exact mtr26 ((exB.bats, exB.gens.set 0 _, kb1, h26_3)) _ _ ⟨⟨OB1, O26_3⟩, by (try dsimp only); omega, by (try dsimp only); simp only [List.length_set]; omega⟩ (.base 3 rfl rfl) inferInstance
      · have _t5 := True.intro
        refine XK.exit rfl ?_
        refine XK.inBlock ?_
        refine XK.region rfl ?_
        refine XO.q (Q.add rfl rfl ⟨by omega, by omega⟩) ?_
        refine XO.q (Q.move rfl) ?_
        refine XO.done ?_
        exact ih2 (i + 1) _ _ (by omega) (by first | omega | (dsimp only; omega)) (.c rfl (.base 144 rfl rfl)) inferInstance
    · have _t4 := True.intro
      refine XK.exit rfl ?_
      refine XK.seq ?_
      refine XK.region rfl ?_
      refine XO.q (Q.build [_, _] (.c 0 1 rfl rfl rfl (.c 1 1 rfl rfl rfl (.n _)))) ?_
      refine XO.lit [_, _] [_, _] [⟨3600, 1⟩] encSpan (by rfl) (by rfl) rfl (by rfl) (by exact .c 0 2 rfl rfl rfl (.n _)) (fun _ => rfl) (by rfl) rfl (by infer_instance) rfl fun v188 h188 O188 => ?_
      refine XO.call Try.call48 rfl rfl rfl (repeatS v188 h188 ⟨3600, 1⟩ 5 (by omega)) fun v189 s189 R189 => ?_
      obtain ⟨h189, rfl, O189⟩ := R189
      dsimp only [List.cons_append, List.nil_append]
      refine XO.q (Q.build [_, _] (.c 0 1 rfl rfl rfl (.c 1 1 rfl rfl rfl (.n _)))) ?_
      refine XO.lit [_, _] [_, _] [⟨2000, 1⟩] encSpan (by rfl) (by rfl) rfl (by rfl) (by exact .c 0 2 rfl rfl rfl (.n _)) (fun _ => rfl) (by rfl) rfl (by infer_instance) rfl fun v191 h191 O191 => ?_
      refine XO.append rfl rfl rfl rfl (by rw [List.length_replicate]; simp only [List.length_cons, List.length_nil]; omega) fun v192 h192 O192 => ?_
      obtain ⟨lo, elo⟩ : ∃ x : List BSpan, x = List.replicate 5 ⟨3600, 1⟩ ++ [⟨2000, 1⟩] := ⟨_, rfl⟩
      rw [← elo] at O192
      have llo : lo.length = 6 := by rw [elo]; rfl
      clear elo
      refine XO.q (Q.assign rfl) ?_
      refine XO.done ?_
      refine XK.seq ?_
      refine XK.seq ?_
      refine XK.drawNet [0, 2, 4, 6, 8, 10, 11, 13, 19, 18] [] [0, 2, 4, 6, 8, 10, 11, 13, 19] [([12, 14, 15], 15, (.br 12 false (.br 14 false (.br 15 false .done .stop) .stop) (.br 14 false (.br 12 false (.br 15 false .done .stop) .stop) .stop))), ([1], 1, (.br 1 false .done .stop)), ([3], 3, (.br 3 false .done .stop)), ([5], 5, (.br 5 false .done .stop)), ([7], 7, (.br 7 false .done .stop)), ([9], 9, (.br 9 false .done .stop)), ([16], 16, (.br 16 false .done .stop))] [205, 207, 208, 194, 196, 198, 200, 202, 209] (.br 17 true (.q 18 .done) .stop) Try.mixed rfl (by kernel_rfl) inferInstance ?_
      refine XQ.q rfl rfl (Q.build [_, _] (.c 0 1 rfl rfl rfl (.c 1 1 rfl rfl rfl (.n _)))) ?_
      refine XQ.q rfl rfl (Q.build [_, _] (.c 0 1 rfl rfl rfl (.c 1 1 rfl rfl rfl (.n _)))) ?_
      refine XQ.q rfl rfl (Q.build [_, _] (.c 0 1 rfl rfl rfl (.c 1 1 rfl rfl rfl (.n _)))) ?_
      refine XQ.q rfl rfl (Q.build [_, _] (.c 0 1 rfl rfl rfl (.c 1 1 rfl rfl rfl (.n _)))) ?_
      refine XQ.q rfl rfl (Q.build [_, _] (.c 0 1 rfl rfl rfl (.c 1 1 rfl rfl rfl (.n _)))) ?_
      refine XQ.q rfl rfl (Q.move rfl) ?_
      refine XQ.q rfl rfl (Q.move rfl) ?_
      refine XQ.q rfl rfl (Q.build [_, _] (.c 0 1 rfl rfl rfl (.c 1 1 rfl rfl rfl (.n _)))) ?_
      refine XQ.q rfl rfl (Q.move rfl) ?_
      refine XQ.nil ?_
      refine XN.intro [fun el ol => ∃ v h h2, Gives [205, 207, 208] 208 v el ∧ ol = [h, h2] ∧ OArr v encSpan 2 38 h (lo ++ [⟨1, 1⟩]), fun el ol => ∃ v h, el = [(194, some v)] ∧ ol = [h] ∧ OArr v encSpan 2 38 h [⟨0, 1⟩], fun el ol => ∃ v h, el = [(196, some v)] ∧ ol = [h] ∧ OArr v encSpan 2 38 h [⟨1, -1⟩], fun el ol => ∃ v h, el = [(198, some v)] ∧ ol = [h] ∧ OArr v encSpan 2 38 h [⟨1, 1000000⟩], fun el ol => ∃ v h, el = [(200, some v)] ∧ ol = [h] ∧ OArr v encSpan 2 38 h [⟨1, 1000001⟩], fun el ol => ∃ v h, el = [(202, some v)] ∧ ol = [h] ∧ OArr v encSpan 2 38 h [⟨3601, 1⟩], fun el ol => ∃ v h, el = [(209, some v)] ∧ ol = [h] ∧ OArr v encSpan 2 38 h (List.replicate 65 (⟨0, 0⟩ : BSpan))] (CTs.cons ?_ (CTs.cons ?_ (CTs.cons ?_ (CTs.cons ?_ (CTs.cons ?_ (CTs.cons ?_ (CTs.cons ?_ (CTs.nil)))))))) ?_
      · have _tn := True.intro
        dsimp only [List.cons_append, List.nil_append, List.append_nil]
        refine CT.call rfl rfl Try.call16 rfl rfl rfl (cloneS v192 h192 lo (by omega)) (fun v205 s205 R205 => ?_) ?_
        · skip
          obtain ⟨h205, rfl, O205⟩ := R205
          dsimp only [List.cons_append, List.nil_append]
          skip
          refine CT.lit [_, _] [_, _] [⟨1, 1⟩] encSpan rfl rfl (by rfl) (by rfl) rfl (by rfl) (by exact .c 0 2 rfl rfl rfl (.n _)) (fun _ => rfl) (by rfl) rfl (by infer_instance) rfl (fun v207 h207 O207 => ?_) CT.stop
          refine CT.append rfl rfl rfl rfl rfl rfl (by simp only [List.length_cons, List.length_nil]; omega) (fun v208 h208 O208 => ?_) CT.stop
          refine CT.done ?_
          exact ⟨v208, h208, h207, Gives.of rfl rfl, rfl, O208⟩
        refine CT.lit [_, _] [_, _] [⟨1, 1⟩] encSpan rfl rfl (by rfl) (by rfl) rfl (by rfl) (by exact .c 0 2 rfl rfl rfl (.n _)) (fun _ => rfl) (by rfl) rfl (by infer_instance) rfl (fun v207 h207 O207 => ?_) CT.stop
        refine CT.call rfl rfl Try.call16 rfl rfl rfl (cloneS v192 h192 lo (by omega)) (fun v205 s205 R205 => ?_) CT.stop
        obtain ⟨h205, rfl, O205⟩ := R205
        dsimp only [List.cons_append, List.nil_append]
        skip
        refine CT.append rfl rfl rfl rfl rfl rfl (by simp only [List.length_cons, List.length_nil]; omega) (fun v208 h208 O208 => ?_) CT.stop
        refine CT.done ?_
        exact ⟨v208, h208, h207, Gives.of rfl rfl, rfl, O208⟩
      · have _tn := True.intro
        dsimp only [List.cons_append, List.nil_append, List.append_nil]
        refine CT.lit [_, _] [_, _] [⟨0, 1⟩] encSpan rfl rfl (by rfl) (by rfl) rfl (by rfl) (by exact .c 0 2 rfl rfl rfl (.n _)) (fun _ => rfl) (by rfl) rfl (by infer_instance) rfl (fun v194 h194 O194 => ?_) CT.stop
        refine CT.done ?_
        exact ⟨v194, h194, rfl, rfl, O194⟩
      · have _tn := True.intro
        dsimp only [List.cons_append, List.nil_append, List.append_nil]
        refine CT.lit [_, _] [_, _] [⟨1, -1⟩] encSpan rfl rfl (by rfl) (by rfl) rfl (by rfl) (by exact .c 0 2 rfl rfl rfl (.n _)) (fun _ => rfl) (by rfl) rfl (by infer_instance) rfl (fun v196 h196 O196 => ?_) CT.stop
        refine CT.done ?_
        exact ⟨v196, h196, rfl, rfl, O196⟩
      · have _tn := True.intro
        dsimp only [List.cons_append, List.nil_append, List.append_nil]
        refine CT.lit [_, _] [_, _] [⟨1, 1000000⟩] encSpan rfl rfl (by rfl) (by rfl) rfl (by rfl) (by exact .c 0 2 rfl rfl rfl (.n _)) (fun _ => rfl) (by rfl) rfl (by infer_instance) rfl (fun v198 h198 O198 => ?_) CT.stop
        refine CT.done ?_
        exact ⟨v198, h198, rfl, rfl, O198⟩
      · have _tn := True.intro
        dsimp only [List.cons_append, List.nil_append, List.append_nil]
        refine CT.lit [_, _] [_, _] [⟨1, 1000001⟩] encSpan rfl rfl (by rfl) (by rfl) rfl (by rfl) (by exact .c 0 2 rfl rfl rfl (.n _)) (fun _ => rfl) (by rfl) rfl (by infer_instance) rfl (fun v200 h200 O200 => ?_) CT.stop
        refine CT.done ?_
        exact ⟨v200, h200, rfl, rfl, O200⟩
      · have _tn := True.intro
        dsimp only [List.cons_append, List.nil_append, List.append_nil]
        refine CT.lit [_, _] [_, _] [⟨3601, 1⟩] encSpan rfl rfl (by rfl) (by rfl) rfl (by rfl) (by exact .c 0 2 rfl rfl rfl (.n _)) (fun _ => rfl) (by rfl) rfl (by infer_instance) rfl (fun v202 h202 O202 => ?_) CT.stop
        refine CT.done ?_
        exact ⟨v202, h202, rfl, rfl, O202⟩
      · have _tn := True.intro
        dsimp only [List.cons_append, List.nil_append, List.append_nil]
        refine CT.make encSpan ((⟨0, 0⟩ : BSpan)) rfl rfl rfl rfl rfl (by omega) (by omega) (fun _ => rfl) rfl rfl rfl (by dsimp only [encSpan]; infer_instance) (fun v209 h209 O209 => ?_) CT.stop
        refine CT.done ?_
        exact ⟨v209, h209, rfl, rfl, O209⟩
      rintro el208 _ ⟨v208, h208, h207, g208, rfl, O208⟩
      rintro _ _ ⟨v194, h194, rfl, rfl, O194⟩
      rintro _ _ ⟨v196, h196, rfl, rfl, O196⟩
      rintro _ _ ⟨v198, h198, rfl, rfl, O198⟩
      rintro _ _ ⟨v200, h200, rfl, rfl, O200⟩
      rintro _ _ ⟨v202, h202, rfl, rfl, O202⟩
      rintro _ _ ⟨v209, h209, rfl, rfl, O209⟩
      dsimp only [FinAll, List.cons_append, List.nil_append, List.append_nil]
      refine XT.gives2 g208 rfl ?_
      dsimp only [List.cons_append, List.nil_append]
      refine XT.lit [_, _, _, _, _, _, _, _, _] [_, _, _, _, _, _, _, _, _] ([(.slice none 0 0), v194, v196, v198, v200, v202, v192, v208, v209] : List Value) encV rfl rfl (by rfl) (by rfl) rfl (by rfl) (by exact .c 0 1 rfl rfl rfl (.c 1 1 rfl rfl rfl (.c 2 1 rfl rfl rfl (.c 3 1 rfl rfl rfl (.c 4 1 rfl rfl rfl (.c 5 1 rfl rfl rfl (.c 6 1 rfl rfl rfl (.c 7 1 rfl rfl rfl (.c 8 1 rfl rfl rfl (.n _)))))))))) (fun _ => rfl) (by rfl) rfl (by infer_instance) rfl (fun v210 h210 O210 => ⟨inferInstance, ?_⟩) XT.stop
      refine XT.q rfl rfl (Q.len rfl) ?_
      rw [show ((([(.slice none 0 0), v194, v196, v198, v200, v202, v192, v208, v209] : List Value).length : Nat) : Int) = 9 from rfl]
      refine XT.done ?_
      refine XK.block ?_
      refine XK.while (X := Nat) [0, 23, 212, 213, 214, 215, 216, 217, 218, 219, 220, 221, 222, 223, 224, 225, 226, 227, 228, 229, 230, 231, 232, 233, 234, 235, 236, 237, 238, 239, 240] (fun k => [(212, some (.int .i64 (k : Nat)))]) (fun k => []) (fun k => k ≤ 9) (fun k => 9 - k) (0) [] rfl (by omega) (.c rfl (.base 0 rfl rfl)) ?_
      rintro k hk9 ih4
      dsimp only [List.cons_append, List.nil_append] at ih4 ⊢
      refine XK.seq ?_
      refine XK.region rfl ?_
      refine XO.q (Q.lss rfl rfl) ?_
      refine XO.done ?_
      refine XK.seq ?_
      refine XK.if rfl (fun c7 => ?_) (fun c7 => ?_)
      · have _t7 := True.intro
        refine XK.skip ?_
        refine XK.seq ?_
        refine XK.block ?_
        refine XK.seq ?_
        refine XK.region rfl ?_
        refine XO.ix rfl rfl (by omega) (by show (k : Int) < 9; omega) fun i214 => ?_
        refine XO.q (Q.ldE rfl (by first | assumption | omega) rfl) ?_
        rcases (show k = 0 ∨ k = 1 ∨ k = 2 ∨ k = 3 ∨ k = 4 ∨ k = 5 ∨ k = 6 ∨ k = 7 ∨ k = 8 by omega) with hk | hk | hk | hk | hk | hk | hk | hk | hk
        · have _tb := True.intro
          rw [show ([(.slice none 0 0), v194, v196, v198, v200, v202, v192, v208, v209] : List Value).getD k default = (.slice none 0 0) by rw [hk]; rfl]
          refine XO.q (Q.assign rfl) ?_
          refine XO.done ?_
          refine XK.seq ?_
          refine XK.region rfl ?_
          refine XO.q (Q.ldA [_, _] rfl rfl rfl) ?_
          refine XO.q (Q.move rfl) ?_
          refine XO.lit [_] [_] [_] encI (by rfl) (by rfl) rfl (by rfl) (by exact .c 0 1 rfl rfl rfl (.n _)) (fun _ => rfl) (by rfl) rfl (by infer_instance) rfl fun v218 h218 O218 => ?_
          refine XO.call Try.call46 rfl rfl rfl (runs06 (il := nS h210) exB vb vg kb kg ([] : List BSpan) (.slice none 0 0) h210 [0] v218 h218 (by first | omega | decide | (rw [List.length_append]; simp only [List.length_cons, List.length_nil]; omega) | (rw [List.length_replicate]; omega)) (by first | omega | decide | (rw [List.length_append]; simp only [List.length_cons, List.length_nil]; omega) | (rw [List.length_replicate]; omega)) (by first | omega | decide | (rw [List.length_append]; simp only [List.length_cons, List.length_nil]; omega) | (rw [List.length_replicate]; omega))) fun v219 s219 R219 => ?_
          obtain ⟨rfl, rfl⟩ := R219
          dsimp only [List.cons_append, List.nil_append]
          refine XO.q (Q.not rfl) ?_
          refine XO.q (Q.move rfl) ?_
          refine XO.q (Quiet.guardF rfl rfl fun g222 p222 => Q.ldA [_, _] rfl rfl rfl) ?_
          refine XO.q (Quiet.guardF rfl rfl fun g223 p223 => Q.move rfl) ?_
          refine XO.callS rfl rfl rfl Try.call46 rfl (.c (lzv rfl rfl) (.c (lzv rfl rfl) (.c rfl .n))) rfl (runs06 (il := nS h210) (jf := nI h210) exB vb vg kb kg ([] : List BSpan) (.slice none 0 0) h210 ([] : List Int) (.slice none 0 0) h210 (by first | omega | decide | (rw [List.length_append]; simp only [List.length_cons, List.length_nil]; omega) | (rw [List.length_replicate]; omega)) (by first | omega | decide | (rw [List.length_append]; simp only [List.length_cons, List.length_nil]; omega) | (rw [List.length_replicate]; omega)) (by first | omega | decide | (rw [List.length_append]; simp only [List.length_cons, List.length_nil]; omega) | (rw [List.length_replicate]; omega))) fun v224 s224 R224 => ?_
          obtain ⟨rfl, rfl⟩ := R224
          dsimp only [List.cons_append, List.nil_append]
          refine XO.q (Quiet.guardF rfl rfl fun g225 p225 => Q.not rfl) ?_
          refine XO.q (Q.or rfl (fun hp => lzv hp rfl)) ?_
          refine XO.q (Q.move rfl) ?_
          refine XO.q (Quiet.guardF rfl rfl fun g228 p228 => Q.ldA [_, _] rfl rfl rfl) ?_
          refine XO.q (Quiet.guardF rfl rfl fun g229 p229 => Q.move rfl) ?_
          refine XO.litG [_, _] [_, _] [_, _] encI rfl rfl rfl (by rfl) (by rfl) rfl (by rfl) (by exact .c 0 1 rfl rfl rfl (.c 1 1 rfl rfl rfl (.n _))) (fun _ => rfl) (by rfl) rfl (by infer_instance) rfl fun v230 h230 O230 => ?_
          refine XO.callS rfl rfl rfl Try.call46 rfl (.c (lzv rfl rfl) (.c (lzv rfl rfl) (.c rfl .n))) rfl (runs06 (il := nS h210) exB vb vg kb kg ([] : List BSpan) (.slice none 0 0) h210 [0, 0] v230 h230 (by first | omega | decide | (rw [List.length_append]; simp only [List.length_cons, List.length_nil]; omega) | (rw [List.length_replicate]; omega)) (by first | omega | decide | (rw [List.length_append]; simp only [List.length_cons, List.length_nil]; omega) | (rw [List.length_replicate]; omega)) (by first | omega | decide | (rw [List.length_append]; simp only [List.length_cons, List.length_nil]; omega) | (rw [List.length_replicate]; omega))) fun v231 s231 R231 => ?_
          obtain ⟨rfl, rfl⟩ := R231
          dsimp only [List.cons_append, List.nil_append]
          refine XO.q (Quiet.guardF rfl rfl fun g232 p232 => Q.not rfl) ?_
          refine XO.q (Q.or rfl (fun hp => lzv hp rfl)) ?_
          refine XO.q (Q.move rfl) ?_
          refine XO.q (Quiet.guardF rfl rfl fun g235 p235 => Q.build [_, _] (.n _)) ?_
          refine XO.q (Quiet.guardF rfl rfl fun g236 p236 => Q.move rfl) ?_
          refine XO.callS rfl rfl rfl Try.call46 rfl (.c (lzv rfl rfl) (.c (lzv rfl rfl) (.c rfl .n))) rfl (runs06 (il := nS h210) (ib := nB h210) (ig := nG h210) (jf := nI h210) ⟨[], []⟩ (.slice none 0 0) (.slice none 0 0) h210 h210 ([] : List BSpan) (.slice none 0 0) h210 ([] : List Int) (.slice none 0 0) h210 (by first | omega | decide | (rw [List.length_append]; simp only [List.length_cons, List.length_nil]; omega) | (rw [List.length_replicate]; omega)) (by first | omega | decide | (rw [List.length_append]; simp only [List.length_cons, List.length_nil]; omega) | (rw [List.length_replicate]; omega)) (by first | omega | decide | (rw [List.length_append]; simp only [List.length_cons, List.length_nil]; omega) | (rw [List.length_replicate]; omega))) fun v237 s237 R237 => ?_
          obtain ⟨rfl, rfl⟩ := R237
          dsimp only [List.cons_append, List.nil_append]
          refine XO.q (Quiet.guardF rfl rfl fun g238 p238 => Q.not rfl) ?_
          refine XO.q (Q.or rfl (fun hp => lzv hp rfl)) ?_
          refine XO.done ?_
          refine XK.if rfl (fun c8 => ?_) (fun c8 => ?_)
          · have _t8 := True.intro
            simp at c8
          · have _t8 := True.intro
            refine XK.skip ?_
            refine XK.inBlock ?_
            refine XK.region rfl ?_
            refine XO.q (Q.add rfl rfl ⟨by omega, by omega⟩) ?_
            refine XO.q (Q.move rfl) ?_
            refine XO.done ?_
            exact ih4 (k + 1) _ _ (by omega) (by first | omega | (dsimp only; omega)) (.c rfl (.base 62 rfl rfl)) inferInstance
        · have _tb := True.intro
          rw [show ([(.slice none 0 0), v194, v196, v198, v200, v202, v192, v208, v209] : List Value).getD k default = v194 by rw [hk]; rfl]
          refine XO.q (Q.assign rfl) ?_
          refine XO.done ?_
          refine XK.seq ?_
          refine XK.region rfl ?_
          refine XO.q (Q.ldA [_, _] rfl rfl rfl) ?_
          refine XO.q (Q.move rfl) ?_
          refine XO.lit [_] [_] [_] encI (by rfl) (by rfl) rfl (by rfl) (by exact .c 0 1 rfl rfl rfl (.n _)) (fun _ => rfl) (by rfl) rfl (by infer_instance) rfl fun v218 h218 O218 => ?_
          refine XO.call Try.call46 rfl rfl rfl (runs06 exB vb vg kb kg [⟨0, 1⟩] v194 h194 [0] v218 h218 (by first | omega | decide | (rw [List.length_append]; simp only [List.length_cons, List.length_nil]; omega) | (rw [List.length_replicate]; omega)) (by first | omega | decide | (rw [List.length_append]; simp only [List.length_cons, List.length_nil]; omega) | (rw [List.length_replicate]; omega)) (by first | omega | decide | (rw [List.length_append]; simp only [List.length_cons, List.length_nil]; omega) | (rw [List.length_replicate]; omega))) fun v219 s219 R219 => ?_
          obtain ⟨rfl, rfl⟩ := R219
          dsimp only [List.cons_append, List.nil_append]
          refine XO.q (Q.not rfl) ?_
          refine XO.q (Q.move rfl) ?_
          refine XO.q (Quiet.guardF rfl rfl fun g222 p222 => Q.ldA [_, _] rfl rfl rfl) ?_
          refine XO.q (Quiet.guardF rfl rfl fun g223 p223 => Q.move rfl) ?_
          refine XO.callS rfl rfl rfl Try.call46 rfl (.c (lzv rfl rfl) (.c (lzv rfl rfl) (.c rfl .n))) rfl (runs06 (jf := nI h210) exB vb vg kb kg [⟨0, 1⟩] v194 h194 ([] : List Int) (.slice none 0 0) h210 (by first | omega | decide | (rw [List.length_append]; simp only [List.length_cons, List.length_nil]; omega) | (rw [List.length_replicate]; omega)) (by first | omega | decide | (rw [List.length_append]; simp only [List.length_cons, List.length_nil]; omega) | (rw [List.length_replicate]; omega)) (by first | omega | decide | (rw [List.length_append]; simp only [List.length_cons, List.length_nil]; omega) | (rw [List.length_replicate]; omega))) fun v224 s224 R224 => ?_
          obtain ⟨rfl, rfl⟩ := R224
          dsimp only [List.cons_append, List.nil_append]
          refine XO.q (Quiet.guardF rfl rfl fun g225 p225 => Q.not rfl) ?_
          refine XO.q (Q.or rfl (fun hp => lzv hp rfl)) ?_
          refine XO.q (Q.move rfl) ?_
          refine XO.q (Quiet.guardF rfl rfl fun g228 p228 => Q.ldA [_, _] rfl rfl rfl) ?_
          refine XO.q (Quiet.guardF rfl rfl fun g229 p229 => Q.move rfl) ?_
          refine XO.litG [_, _] [_, _] [_, _] encI rfl rfl rfl (by rfl) (by rfl) rfl (by rfl) (by exact .c 0 1 rfl rfl rfl (.c 1 1 rfl rfl rfl (.n _))) (fun _ => rfl) (by rfl) rfl (by infer_instance) rfl fun v230 h230 O230 => ?_
          refine XO.callS rfl rfl rfl Try.call46 rfl (.c (lzv rfl rfl) (.c (lzv rfl rfl) (.c rfl .n))) rfl (runs06 exB vb vg kb kg [⟨0, 1⟩] v194 h194 [0, 0] v230 h230 (by first | omega | decide | (rw [List.length_append]; simp only [List.length_cons, List.length_nil]; omega) | (rw [List.length_replicate]; omega)) (by first | omega | decide | (rw [List.length_append]; simp only [List.length_cons, List.length_nil]; omega) | (rw [List.length_replicate]; omega)) (by first | omega | decide | (rw [List.length_append]; simp only [List.length_cons, List.length_nil]; omega) | (rw [List.length_replicate]; omega))) fun v231 s231 R231 => ?_
          obtain ⟨rfl, rfl⟩ := R231
          dsimp only [List.cons_append, List.nil_append]
          refine XO.q (Quiet.guardF rfl rfl fun g232 p232 => Q.not rfl) ?_
          refine XO.q (Q.or rfl (fun hp => lzv hp rfl)) ?_
          refine XO.q (Q.move rfl) ?_
          refine XO.q (Quiet.guardF rfl rfl fun g235 p235 => Q.build [_, _] (.n _)) ?_
          refine XO.q (Quiet.guardF rfl rfl fun g236 p236 => Q.move rfl) ?_
          refine XO.callS rfl rfl rfl Try.call46 rfl (.c (lzv rfl rfl) (.c (lzv rfl rfl) (.c rfl .n))) rfl (runs06 (ib := nB h210) (ig := nG h210) (jf := nI h210) ⟨[], []⟩ (.slice none 0 0) (.slice none 0 0) h210 h210 [⟨0, 1⟩] v194 h194 ([] : List Int) (.slice none 0 0) h210 (by first | omega | decide | (rw [List.length_append]; simp only [List.length_cons, List.length_nil]; omega) | (rw [List.length_replicate]; omega)) (by first | omega | decide | (rw [List.length_append]; simp only [List.length_cons, List.length_nil]; omega) | (rw [List.length_replicate]; omega)) (by first | omega | decide | (rw [List.length_append]; simp only [List.length_cons, List.length_nil]; omega) | (rw [List.length_replicate]; omega))) fun v237 s237 R237 => ?_
          obtain ⟨rfl, rfl⟩ := R237
          dsimp only [List.cons_append, List.nil_append]
          refine XO.q (Quiet.guardF rfl rfl fun g238 p238 => Q.not rfl) ?_
          refine XO.q (Q.or rfl (fun hp => lzv hp rfl)) ?_
          refine XO.done ?_
          refine XK.if rfl (fun c9 => ?_) (fun c9 => ?_)
          · have _t9 := True.intro
            simp at c9
          · have _t9 := True.intro
            refine XK.skip ?_
            refine XK.inBlock ?_
            refine XK.region rfl ?_
            refine XO.q (Q.add rfl rfl ⟨by omega, by omega⟩) ?_
            refine XO.q (Q.move rfl) ?_
            refine XO.done ?_
            exact ih4 (k + 1) _ _ (by omega) (by first | omega | (dsimp only; omega)) (.c rfl (.base 62 rfl rfl)) inferInstance
        · have _tb := True.intro
          rw [show ([(.slice none 0 0), v194, v196, v198, v200, v202, v192, v208, v209] : List Value).getD k default = v196 by rw [hk]; rfl]
          refine XO.q (Q.assign rfl) ?_
          refine XO.done ?_
          refine XK.seq ?_
          refine XK.region rfl ?_
          refine XO.q (Q.ldA [_, _] rfl rfl rfl) ?_
          refine XO.q (Q.move rfl) ?_
          refine XO.lit [_] [_] [_] encI (by rfl) (by rfl) rfl (by rfl) (by exact .c 0 1 rfl rfl rfl (.n _)) (fun _ => rfl) (by rfl) rfl (by infer_instance) rfl fun v218 h218 O218 => ?_
          refine XO.call Try.call46 rfl rfl rfl (runs06 exB vb vg kb kg [⟨1, -1⟩] v196 h196 [0] v218 h218 (by first | omega | decide | (rw [List.length_append]; simp only [List.length_cons, List.length_nil]; omega) | (rw [List.length_replicate]; omega)) (by first | omega | decide | (rw [List.length_append]; simp only [List.length_cons, List.length_nil]; omega) | (rw [List.length_replicate]; omega)) (by first | omega | decide | (rw [List.length_append]; simp only [List.length_cons, List.length_nil]; omega) | (rw [List.length_replicate]; omega))) fun v219 s219 R219 => ?_
          obtain ⟨rfl, rfl⟩ := R219
          dsimp only [List.cons_append, List.nil_append]
          refine XO.q (Q.not rfl) ?_
          refine XO.q (Q.move rfl) ?_
          refine XO.q (Quiet.guardF rfl rfl fun g222 p222 => Q.ldA [_, _] rfl rfl rfl) ?_
          refine XO.q (Quiet.guardF rfl rfl fun g223 p223 => Q.move rfl) ?_
          refine XO.callS rfl rfl rfl Try.call46 rfl (.c (lzv rfl rfl) (.c (lzv rfl rfl) (.c rfl .n))) rfl (runs06 (jf := nI h210) exB vb vg kb kg [⟨1, -1⟩] v196 h196 ([] : List Int) (.slice none 0 0) h210 (by first | omega | decide | (rw [List.length_append]; simp only [List.length_cons, List.length_nil]; omega) | (rw [List.length_replicate]; omega)) (by first | omega | decide | (rw [List.length_append]; simp only [List.length_cons, List.length_nil]; omega) | (rw [List.length_replicate]; omega)) (by first | omega | decide | (rw [List.length_append]; simp only [List.length_cons, List.length_nil]; omega) | (rw [List.length_replicate]; omega))) fun v224 s224 R224 => ?_
          obtain ⟨rfl, rfl⟩ := R224
          dsimp only [List.cons_append, List.nil_append]
          refine XO.q (Quiet.guardF rfl rfl fun g225 p225 => Q.not rfl) ?_
          refine XO.q (Q.or rfl (fun hp => lzv hp rfl)) ?_
          refine XO.q (Q.move rfl) ?_
          refine XO.q (Quiet.guardF rfl rfl fun g228 p228 => Q.ldA [_, _] rfl rfl rfl) ?_
          refine XO.q (Quiet.guardF rfl rfl fun g229 p229 => Q.move rfl) ?_
          refine XO.litG [_, _] [_, _] [_, _] encI rfl rfl rfl (by rfl) (by rfl) rfl (by rfl) (by exact .c 0 1 rfl rfl rfl (.c 1 1 rfl rfl rfl (.n _))) (fun _ => rfl) (by rfl) rfl (by infer_instance) rfl fun v230 h230 O230 => ?_
          refine XO.callS rfl rfl rfl Try.call46 rfl (.c (lzv rfl rfl) (.c (lzv rfl rfl) (.c rfl .n))) rfl (runs06 exB vb vg kb kg [⟨1, -1⟩] v196 h196 [0, 0] v230 h230 (by first | omega | decide | (rw [List.length_append]; simp only [List.length_cons, List.length_nil]; omega) | (rw [List.length_replicate]; omega)) (by first | omega | decide | (rw [List.length_append]; simp only [List.length_cons, List.length_nil]; omega) | (rw [List.length_replicate]; omega)) (by first | omega | decide | (rw [List.length_append]; simp only [List.length_cons, List.length_nil]; omega) | (rw [List.length_replicate]; omega))) fun v231 s231 R231 => ?_
          obtain ⟨rfl, rfl⟩ := R231
          dsimp only [List.cons_append, List.nil_append]
          refine XO.q (Quiet.guardF rfl rfl fun g232 p232 => Q.not rfl) ?_
          refine XO.q (Q.or rfl (fun hp => lzv hp rfl)) ?_
          refine XO.q (Q.move rfl) ?_
          refine XO.q (Quiet.guardF rfl rfl fun g235 p235 => Q.build [_, _] (.n _)) ?_
          refine XO.q (Quiet.guardF rfl rfl fun g236 p236 => Q.move rfl) ?_
          refine XO.callS rfl rfl rfl Try.call46 rfl (.c (lzv rfl rfl) (.c (lzv rfl rfl) (.c rfl .n))) rfl (runs06 (ib := nB h210) (ig := nG h210) (jf := nI h210) ⟨[], []⟩ (.slice none 0 0) (.slice none 0 0) h210 h210 [⟨1, -1⟩] v196 h196 ([] : List Int) (.slice none 0 0) h210 (by first | omega | decide | (rw [List.length_append]; simp only [List.length_cons, List.length_nil]; omega) | (rw [List.length_replicate]; omega)) (by first | omega | decide | (rw [List.length_append]; simp only [List.length_cons, List.length_nil]; omega) | (rw [List.length_replicate]; omega)) (by first | omega | decide | (rw [List.length_append]; simp only [List.length_cons, List.length_nil]; omega) | (rw [List.length_replicate]; omega))) fun v237 s237 R237 => ?_
          obtain ⟨rfl, rfl⟩ := R237
          dsimp only [List.cons_append, List.nil_append]
          refine XO.q (Quiet.guardF rfl rfl fun g238 p238 => Q.not rfl) ?_
          refine XO.q (Q.or rfl (fun hp => lzv hp rfl)) ?_
          refine XO.done ?_
          refine XK.if rfl (fun c10 => ?_) (fun c10 => ?_)
          · have _t10 := True.intro
            simp at c10
          · have _t10 := True.intro
            refine XK.skip ?_
            refine XK.inBlock ?_
            refine XK.region rfl ?_
            refine XO.q (Q.add rfl rfl ⟨by omega, by omega⟩) ?_
            refine XO.q (Q.move rfl) ?_
            refine XO.done ?_
            exact ih4 (k + 1) _ _ (by omega) (by first | omega | (dsimp only; omega)) (.c rfl (.base 62 rfl rfl)) inferInstance
        · have _tb := True.intro
          rw [show ([(.slice none 0 0), v194, v196, v198, v200, v202, v192, v208, v209] : List Value).getD k default = v198 by rw [hk]; rfl]
          refine XO.q (Q.assign rfl) ?_
          refine XO.done ?_
          refine XK.seq ?_
          refine XK.region rfl ?_
          refine XO.q (Q.ldA [_, _] rfl rfl rfl) ?_
          refine XO.q (Q.move rfl) ?_
          refine XO.lit [_] [_] [_] encI (by rfl) (by rfl) rfl (by rfl) (by exact .c 0 1 rfl rfl rfl (.n _)) (fun _ => rfl) (by rfl) rfl (by infer_instance) rfl fun v218 h218 O218 => ?_
          refine XO.call Try.call46 rfl rfl rfl (runs06 exB vb vg kb kg [⟨1, 1000000⟩] v198 h198 [0] v218 h218 (by first | omega | decide | (rw [List.length_append]; simp only [List.length_cons, List.length_nil]; omega) | (rw [List.length_replicate]; omega)) (by first | omega | decide | (rw [List.length_append]; simp only [List.length_cons, List.length_nil]; omega) | (rw [List.length_replicate]; omega)) (by first | omega | decide | (rw [List.length_append]; simp only [List.length_cons, List.length_nil]; omega) | (rw [List.length_replicate]; omega))) fun v219 s219 R219 => ?_
          obtain ⟨rfl, rfl⟩ := R219
          dsimp only [List.cons_append, List.nil_append]
          refine XO.q (Q.not rfl) ?_
          refine XO.q (Q.move rfl) ?_
          refine XO.q (Quiet.guardF rfl rfl fun g222 p222 => Q.ldA [_, _] rfl rfl rfl) ?_
          refine XO.q (Quiet.guardF rfl rfl fun g223 p223 => Q.move rfl) ?_
          refine XO.callS rfl rfl rfl Try.call46 rfl (.c (lzv rfl rfl) (.c (lzv rfl rfl) (.c rfl .n))) rfl (runs06 (jf := nI h210) exB vb vg kb kg [⟨1, 1000000⟩] v198 h198 ([] : List Int) (.slice none 0 0) h210 (by first | omega | decide | (rw [List.length_append]; simp only [List.length_cons, List.length_nil]; omega) | (rw [List.length_replicate]; omega)) (by first | omega | decide | (rw [List.length_append]; simp only [List.length_cons, List.length_nil]; omega) | (rw [List.length_replicate]; omega)) (by first | omega | decide | (rw [List.length_append]; simp only [List.length_cons, List.length_nil]; omega) | (rw [List.length_replicate]; omega))) fun v224 s224 R224 => ?_
          obtain ⟨rfl, rfl⟩ := R224
          dsimp only [List.cons_append, List.nil_append]
          refine XO.q (Quiet.guardF rfl rfl fun g225 p225 => Q.not rfl) ?_
          refine XO.q (Q.or rfl (fun hp => lzv hp rfl)) ?_
          refine XO.q (Q.move rfl) ?_
          refine XO.q (Quiet.guardF rfl rfl fun g228 p228 => Q.ldA [_, _] rfl rfl rfl) ?_
          refine XO.q (Quiet.guardF rfl rfl fun g229 p229 => Q.move rfl) ?_
          refine XO.litG [_, _] [_, _] [_, _] encI rfl rfl rfl (by rfl) (by rfl) rfl (by rfl) (by exact .c 0 1 rfl rfl rfl (.c 1 1 rfl rfl rfl (.n _))) (fun _ => rfl) (by rfl) rfl (by infer_instance) rfl fun v230 h230 O230 => ?_
          refine XO.callS rfl rfl rfl Try.call46 rfl (.c (lzv rfl rfl) (.c (lzv rfl rfl) (.c rfl .n))) rfl (runs06 exB vb vg kb kg [⟨1, 1000000⟩] v198 h198 [0, 0] v230 h230 (by first | omega | decide | (rw [List.length_append]; simp only [List.length_cons, List.length_nil]; omega) | (rw [List.length_replicate]; omega)) (by first | omega | decide | (rw [List.length_append]; simp only [List.length_cons, List.length_nil]; omega) | (rw [List.length_replicate]; omega)) (by first | omega | decide | (rw [List.length_append]; simp only [List.length_cons, List.length_nil]; omega) | (rw [List.length_replicate]; omega))) fun v231 s231 R231 => ?_
          obtain ⟨rfl, rfl⟩ := R231
          dsimp only [List.cons_append, List.nil_append]
          refine XO.q (Quiet.guardF rfl rfl fun g232 p232 => Q.not rfl) ?_
          refine XO.q (Q.or rfl (fun hp => lzv hp rfl)) ?_
          refine XO.q (Q.move rfl) ?_
          refine XO.q (Quiet.guardF rfl rfl fun g235 p235 => Q.build [_, _] (.n _)) ?_
          refine XO.q (Quiet.guardF rfl rfl fun g236 p236 => Q.move rfl) ?_
          refine XO.callS rfl rfl rfl Try.call46 rfl (.c (lzv rfl rfl) (.c (lzv rfl rfl) (.c rfl .n))) rfl (runs06 (ib := nB h210) (ig := nG h210) (jf := nI h210) ⟨[], []⟩ (.slice none 0 0) (.slice none 0 0) h210 h210 [⟨1, 1000000⟩] v198 h198 ([] : List Int) (.slice none 0 0) h210 (by first | omega | decide | (rw [List.length_append]; simp only [List.length_cons, List.length_nil]; omega) | (rw [List.length_replicate]; omega)) (by first | omega | decide | (rw [List.length_append]; simp only [List.length_cons, List.length_nil]; omega) | (rw [List.length_replicate]; omega)) (by first | omega | decide | (rw [List.length_append]; simp only [List.length_cons, List.length_nil]; omega) | (rw [List.length_replicate]; omega))) fun v237 s237 R237 => ?_
          obtain ⟨rfl, rfl⟩ := R237
          dsimp only [List.cons_append, List.nil_append]
          refine XO.q (Quiet.guardF rfl rfl fun g238 p238 => Q.not rfl) ?_
          refine XO.q (Q.or rfl (fun hp => lzv hp rfl)) ?_
          refine XO.done ?_
          refine XK.if rfl (fun c11 => ?_) (fun c11 => ?_)
          · have _t11 := True.intro
            simp at c11
          · have _t11 := True.intro
            refine XK.skip ?_
            refine XK.inBlock ?_
            refine XK.region rfl ?_
            refine XO.q (Q.add rfl rfl ⟨by omega, by omega⟩) ?_
            refine XO.q (Q.move rfl) ?_
            refine XO.done ?_
            exact ih4 (k + 1) _ _ (by omega) (by first | omega | (dsimp only; omega)) (.c rfl (.base 62 rfl rfl)) inferInstance
        · have _tb := True.intro
          rw [show ([(.slice none 0 0), v194, v196, v198, v200, v202, v192, v208, v209] : List Value).getD k default = v200 by rw [hk]; rfl]
          refine XO.q (Q.assign rfl) ?_
          refine XO.done ?_
          refine XK.seq ?_
          refine XK.region rfl ?_
          refine XO.q (Q.ldA [_, _] rfl rfl rfl) ?_
          refine XO.q (Q.move rfl) ?_
          refine XO.lit [_] [_] [_] encI (by rfl) (by rfl) rfl (by rfl) (by exact .c 0 1 rfl rfl rfl (.n _)) (fun _ => rfl) (by rfl) rfl (by infer_instance) rfl fun v218 h218 O218 => ?_
          refine XO.call Try.call46 rfl rfl rfl (runs06 exB vb vg kb kg [⟨1, 1000001⟩] v200 h200 [0] v218 h218 (by first | omega | decide | (rw [List.length_append]; simp only [List.length_cons, List.length_nil]; omega) | (rw [List.length_replicate]; omega)) (by first | omega | decide | (rw [List.length_append]; simp only [List.length_cons, List.length_nil]; omega) | (rw [List.length_replicate]; omega)) (by first | omega | decide | (rw [List.length_append]; simp only [List.length_cons, List.length_nil]; omega) | (rw [List.length_replicate]; omega))) fun v219 s219 R219 => ?_
          obtain ⟨rfl, rfl⟩ := R219
          dsimp only [List.cons_append, List.nil_append]
          refine XO.q (Q.not rfl) ?_
          refine XO.q (Q.move rfl) ?_
          refine XO.q (Quiet.guardF rfl rfl fun g222 p222 => Q.ldA [_, _] rfl rfl rfl) ?_
          refine XO.q (Quiet.guardF rfl rfl fun g223 p223 => Q.move rfl) ?_
          refine XO.callS rfl rfl rfl Try.call46 rfl (.c (lzv rfl rfl) (.c (lzv rfl rfl) (.c rfl .n))) rfl (runs06 (jf := nI h210) exB vb vg kb kg [⟨1, 1000001⟩] v200 h200 ([] : List Int) (.slice none 0 0) h210 (by first | omega | decide | (rw [List.length_append]; simp only [List.length_cons, List.length_nil]; omega) | (rw [List.length_replicate]; omega)) (by first | omega | decide | (rw [List.length_append]; simp only [List.length_cons, List.length_nil]; omega) | (rw [List.length_replicate]; omega)) (by first | omega | decide | (rw [List.length_append]; simp only [List.length_cons, List.length_nil]; omega) | (rw [List.length_replicate]; omega))) fun v224 s224 R224 => ?_
          obtain ⟨rfl, rfl⟩ := R224
          dsimp only [List.cons_append, List.nil_append]
          refine XO.q (Quiet.guardF rfl rfl fun g225 p225 => Q.not rfl) ?_
          refine XO.q (Q.or rfl (fun hp => lzv hp rfl)) ?_
          refine XO.q (Q.move rfl) ?_
          refine XO.q (Quiet.guardF rfl rfl fun g228 p228 => Q.ldA [_, _] rfl rfl rfl) ?_
          refine XO.q (Quiet.guardF rfl rfl fun g229 p229 => Q.move rfl) ?_
          refine XO.litG [_, _] [_, _] [_, _] encI rfl rfl rfl (by rfl) (by rfl) rfl (by rfl) (by exact .c 0 1 rfl rfl rfl (.c 1 1 rfl rfl rfl (.n _))) (fun _ => rfl) (by rfl) rfl (by infer_instance) rfl fun v230 h230 O230 => ?_
          refine XO.callS rfl rfl rfl Try.call46 rfl (.c (lzv rfl rfl) (.c (lzv rfl rfl) (.c rfl .n))) rfl (runs06 exB vb vg kb kg [⟨1, 1000001⟩] v200 h200 [0, 0] v230 h230 (by first | omega | decide | (rw [List.length_append]; simp only [List.length_cons, List.length_nil]; omega) | (rw [List.length_replicate]; omega)) (by first | omega | decide | (rw [List.length_append]; simp only [List.length_cons, List.length_nil]; omega) | (rw [List.length_replicate]; omega)) (by first | omega | decide | (rw [List.length_append]; simp only [List.length_cons, List.length_nil]; omega) | (rw [List.length_replicate]; omega))) fun v231 s231 R231 => ?_
          obtain ⟨rfl, rfl⟩ := R231
          dsimp only [List.cons_append, List.nil_append]
          refine XO.q (Quiet.guardF rfl rfl fun g232 p232 => Q.not rfl) ?_
          refine XO.q (Q.or rfl (fun hp => lzv hp rfl)) ?_
          refine XO.q (Q.move rfl) ?_
          refine XO.q (Quiet.guardF rfl rfl fun g235 p235 => Q.build [_, _] (.n _)) ?_
          refine XO.q (Quiet.guardF rfl rfl fun g236 p236 => Q.move rfl) ?_
          refine XO.callS rfl rfl rfl Try.call46 rfl (.c (lzv rfl rfl) (.c (lzv rfl rfl) (.c rfl .n))) rfl (runs06 (ib := nB h210) (ig := nG h210) (jf := nI h210) ⟨[], []⟩ (.slice none 0 0) (.slice none 0 0) h210 h210 [⟨1, 1000001⟩] v200 h200 ([] : List Int) (.slice none 0 0) h210 (by first | omega | decide | (rw [List.length_append]; simp only [List.length_cons, List.length_nil]; omega) | (rw [List.length_replicate]; omega)) (by first | omega | decide | (rw [List.length_append]; simp only [List.length_cons, List.length_nil]; omega) | (rw [List.length_replicate]; omega)) (by first | omega | decide | (rw [List.length_append]; simp only [List.length_cons, List.length_nil]; omega) | (rw [List.length_replicate]; omega))) fun v237 s237 R237 => ?_
          obtain ⟨rfl, rfl⟩ := R237
          dsimp only [List.cons_append, List.nil_append]
          refine XO.q (Quiet.guardF rfl rfl fun g238 p238 => Q.not rfl) ?_
          refine XO.q (Q.or rfl (fun hp => lzv hp rfl)) ?_
          refine XO.done ?_
          refine XK.if rfl (fun c12 => ?_) (fun c12 => ?_)
          · have _t12 := True.intro
            simp at c12
          · have _t12 := True.intro
            refine XK.skip ?_
            refine XK.inBlock ?_
            refine XK.region rfl ?_
            refine XO.q (Q.add rfl rfl ⟨by omega, by omega⟩) ?_
            refine XO.q (Q.move rfl) ?_
            refine XO.done ?_
            exact ih4 (k + 1) _ _ (by omega) (by first | omega | (dsimp only; omega)) (.c rfl (.base 62 rfl rfl)) inferInstance
        · have _tb := True.intro
          rw [show ([(.slice none 0 0), v194, v196, v198, v200, v202, v192, v208, v209] : List Value).getD k default = v202 by rw [hk]; rfl]
          refine XO.q (Q.assign rfl) ?_
          refine XO.done ?_
          refine XK.seq ?_
          refine XK.region rfl ?_
          refine XO.q (Q.ldA [_, _] rfl rfl rfl) ?_
          refine XO.q (Q.move rfl) ?_
          refine XO.lit [_] [_] [_] encI (by rfl) (by rfl) rfl (by rfl) (by exact .c 0 1 rfl rfl rfl (.n _)) (fun _ => rfl) (by rfl) rfl (by infer_instance) rfl fun v218 h218 O218 => ?_
          refine XO.call Try.call46 rfl rfl rfl (runs06 exB vb vg kb kg [⟨3601, 1⟩] v202 h202 [0] v218 h218 (by first | omega | decide | (rw [List.length_append]; simp only [List.length_cons, List.length_nil]; omega) | (rw [List.length_replicate]; omega)) (by first | omega | decide | (rw [List.length_append]; simp only [List.length_cons, List.length_nil]; omega) | (rw [List.length_replicate]; omega)) (by first | omega | decide | (rw [List.length_append]; simp only [List.length_cons, List.length_nil]; omega) | (rw [List.length_replicate]; omega))) fun v219 s219 R219 => ?_
          obtain ⟨rfl, rfl⟩ := R219
          dsimp only [List.cons_append, List.nil_append]
          refine XO.q (Q.not rfl) ?_
          refine XO.q (Q.move rfl) ?_
          refine XO.q (Quiet.guardF rfl rfl fun g222 p222 => Q.ldA [_, _] rfl rfl rfl) ?_
          refine XO.q (Quiet.guardF rfl rfl fun g223 p223 => Q.move rfl) ?_
          refine XO.callS rfl rfl rfl Try.call46 rfl (.c (lzv rfl rfl) (.c (lzv rfl rfl) (.c rfl .n))) rfl (runs06 (jf := nI h210) exB vb vg kb kg [⟨3601, 1⟩] v202 h202 ([] : List Int) (.slice none 0 0) h210 (by first | omega | decide | (rw [List.length_append]; simp only [List.length_cons, List.length_nil]; omega) | (rw [List.length_replicate]; omega)) (by first | omega | decide | (rw [List.length_append]; simp only [List.length_cons, List.length_nil]; omega) | (rw [List.length_replicate]; omega)) (by first | omega | decide | (rw [List.length_append]; simp only [List.length_cons, List.length_nil]; omega) | (rw [List.length_replicate]; omega))) fun v224 s224 R224 => ?_
          obtain ⟨rfl, rfl⟩ := R224
          dsimp only [List.cons_append, List.nil_append]
          refine XO.q (Quiet.guardF rfl rfl fun g225 p225 => Q.not rfl) ?_
          refine XO.q (Q.or rfl (fun hp => lzv hp rfl)) ?_
          refine XO.q (Q.move rfl) ?_
          refine XO.q (Quiet.guardF rfl rfl fun g228 p228 => Q.ldA [_, _] rfl rfl rfl) ?_
          refine XO.q (Quiet.guardF rfl rfl fun g229 p229 => Q.move rfl) ?_
          refine XO.litG [_, _] [_, _] [_, _] encI rfl rfl rfl (by rfl) (by rfl) rfl (by rfl) (by exact .c 0 1 rfl rfl rfl (.c 1 1 rfl rfl rfl (.n _))) (fun _ => rfl) (by rfl) rfl (by infer_instance) rfl fun v230 h230 O230 => ?_
          refine XO.callS rfl rfl rfl Try.call46 rfl (.c (lzv rfl rfl) (.c (lzv rfl rfl) (.c rfl .n))) rfl (runs06 exB vb vg kb kg [⟨3601, 1⟩] v202 h202 [0, 0] v230 h230 (by first | omega | decide | (rw [List.length_append]; simp only [List.length_cons, List.length_nil]; omega) | (rw [List.length_replicate]; omega)) (by first | omega | decide | (rw [List.length_append]; simp only [List.length_cons, List.length_nil]; omega) | (rw [List.length_replicate]; omega)) (by first | omega | decide | (rw [List.length_append]; simp only [List.length_cons, List.length_nil]; omega) | (rw [List.length_replicate]; omega))) fun v231 s231 R231 => ?_
          obtain ⟨rfl, rfl⟩ := R231
          dsimp only [List.cons_append, List.nil_append]
          refine XO.q (Quiet.guardF rfl rfl fun g232 p232 => Q.not rfl) ?_
          refine XO.q (Q.or rfl (fun hp => lzv hp rfl)) ?_
          refine XO.q (Q.move rfl) ?_
          refine XO.q (Quiet.guardF rfl rfl fun g235 p235 => Q.build [_, _] (.n _)) ?_
          refine XO.q (Quiet.guardF rfl rfl fun g236 p236 => Q.move rfl) ?_
          refine XO.callS rfl rfl rfl Try.call46 rfl (.c (lzv rfl rfl) (.c (lzv rfl rfl) (.c rfl .n))) rfl (runs06 (ib := nB h210) (ig := nG h210) (jf := nI h210) ⟨[], []⟩ (.slice none 0 0) (.slice none 0 0) h210 h210 [⟨3601, 1⟩] v202 h202 ([] : List Int) (.slice none 0 0) h210 (by first | omega | decide | (rw [List.length_append]; simp only [List.length_cons, List.length_nil]; omega) | (rw [List.length_replicate]; omega)) (by first | omega | decide | (rw [List.length_append]; simp only [List.length_cons, List.length_nil]; omega) | (rw [List.length_replicate]; omega)) (by first | omega | decide | (rw [List.length_append]; simp only [List.length_cons, List.length_nil]; omega) | (rw [List.length_replicate]; omega))) fun v237 s237 R237 => ?_
          obtain ⟨rfl, rfl⟩ := R237
          dsimp only [List.cons_append, List.nil_append]
          refine XO.q (Quiet.guardF rfl rfl fun g238 p238 => Q.not rfl) ?_
          refine XO.q (Q.or rfl (fun hp => lzv hp rfl)) ?_
          refine XO.done ?_
          refine XK.if rfl (fun c13 => ?_) (fun c13 => ?_)
          · have _t13 := True.intro
            simp at c13
          · have _t13 := True.intro
            refine XK.skip ?_
            refine XK.inBlock ?_
            refine XK.region rfl ?_
            refine XO.q (Q.add rfl rfl ⟨by omega, by omega⟩) ?_
            refine XO.q (Q.move rfl) ?_
            refine XO.done ?_
            exact ih4 (k + 1) _ _ (by omega) (by first | omega | (dsimp only; omega)) (.c rfl (.base 62 rfl rfl)) inferInstance
        · have _tb := True.intro
          rw [show ([(.slice none 0 0), v194, v196, v198, v200, v202, v192, v208, v209] : List Value).getD k default = v192 by rw [hk]; rfl]
          refine XO.q (Q.assign rfl) ?_
          refine XO.done ?_
          refine XK.seq ?_
          refine XK.region rfl ?_
          refine XO.q (Q.ldA [_, _] rfl rfl rfl) ?_
          refine XO.q (Q.move rfl) ?_
          refine XO.lit [_] [_] [_] encI (by rfl) (by rfl) rfl (by rfl) (by exact .c 0 1 rfl rfl rfl (.n _)) (fun _ => rfl) (by rfl) rfl (by infer_instance) rfl fun v218 h218 O218 => ?_
          refine XO.call Try.call46 rfl rfl rfl (runs06 exB vb vg kb kg lo v192 h192 [0] v218 h218 (by first | omega | decide | (rw [List.length_append]; simp only [List.length_cons, List.length_nil]; omega) | (rw [List.length_replicate]; omega)) (by first | omega | decide | (rw [List.length_append]; simp only [List.length_cons, List.length_nil]; omega) | (rw [List.length_replicate]; omega)) (by first | omega | decide | (rw [List.length_append]; simp only [List.length_cons, List.length_nil]; omega) | (rw [List.length_replicate]; omega))) fun v219 s219 R219 => ?_
          obtain ⟨rfl, rfl⟩ := R219
          dsimp only [List.cons_append, List.nil_append]
          refine XO.q (Q.not rfl) ?_
          refine XO.q (Q.move rfl) ?_
          refine XO.q (Quiet.guardF rfl rfl fun g222 p222 => Q.ldA [_, _] rfl rfl rfl) ?_
          refine XO.q (Quiet.guardF rfl rfl fun g223 p223 => Q.move rfl) ?_
          refine XO.callS rfl rfl rfl Try.call46 rfl (.c (lzv rfl rfl) (.c (lzv rfl rfl) (.c rfl .n))) rfl (runs06 (jf := nI h210) exB vb vg kb kg lo v192 h192 ([] : List Int) (.slice none 0 0) h210 (by first | omega | decide | (rw [List.length_append]; simp only [List.length_cons, List.length_nil]; omega) | (rw [List.length_replicate]; omega)) (by first | omega | decide | (rw [List.length_append]; simp only [List.length_cons, List.length_nil]; omega) | (rw [List.length_replicate]; omega)) (by first | omega | decide | (rw [List.length_append]; simp only [List.length_cons, List.length_nil]; omega) | (rw [List.length_replicate]; omega))) fun v224 s224 R224 => ?_
          obtain ⟨rfl, rfl⟩ := R224
          dsimp only [List.cons_append, List.nil_append]
          refine XO.q (Quiet.guardF rfl rfl fun g225 p225 => Q.not rfl) ?_
          refine XO.q (Q.or rfl (fun hp => lzv hp rfl)) ?_
          refine XO.q (Q.move rfl) ?_
          refine XO.q (Quiet.guardF rfl rfl fun g228 p228 => Q.ldA [_, _] rfl rfl rfl) ?_
          refine XO.q (Quiet.guardF rfl rfl fun g229 p229 => Q.move rfl) ?_
          refine XO.litG [_, _] [_, _] [_, _] encI rfl rfl rfl (by rfl) (by rfl) rfl (by rfl) (by exact .c 0 1 rfl rfl rfl (.c 1 1 rfl rfl rfl (.n _))) (fun _ => rfl) (by rfl) rfl (by infer_instance) rfl fun v230 h230 O230 => ?_
          refine XO.callS rfl rfl rfl Try.call46 rfl (.c (lzv rfl rfl) (.c (lzv rfl rfl) (.c rfl .n))) rfl (runs06 exB vb vg kb kg lo v192 h192 [0, 0] v230 h230 (by first | omega | decide | (rw [List.length_append]; simp only [List.length_cons, List.length_nil]; omega) | (rw [List.length_replicate]; omega)) (by first | omega | decide | (rw [List.length_append]; simp only [List.length_cons, List.length_nil]; omega) | (rw [List.length_replicate]; omega)) (by first | omega | decide | (rw [List.length_append]; simp only [List.length_cons, List.length_nil]; omega) | (rw [List.length_replicate]; omega))) fun v231 s231 R231 => ?_
          obtain ⟨rfl, rfl⟩ := R231
          dsimp only [List.cons_append, List.nil_append]
          refine XO.q (Quiet.guardF rfl rfl fun g232 p232 => Q.not rfl) ?_
          refine XO.q (Q.or rfl (fun hp => lzv hp rfl)) ?_
          refine XO.q (Q.move rfl) ?_
          refine XO.q (Quiet.guardF rfl rfl fun g235 p235 => Q.build [_, _] (.n _)) ?_
          refine XO.q (Quiet.guardF rfl rfl fun g236 p236 => Q.move rfl) ?_
          refine XO.callS rfl rfl rfl Try.call46 rfl (.c (lzv rfl rfl) (.c (lzv rfl rfl) (.c rfl .n))) rfl (runs06 (ib := nB h210) (ig := nG h210) (jf := nI h210) ⟨[], []⟩ (.slice none 0 0) (.slice none 0 0) h210 h210 lo v192 h192 ([] : List Int) (.slice none 0 0) h210 (by first | omega | decide | (rw [List.length_append]; simp only [List.length_cons, List.length_nil]; omega) | (rw [List.length_replicate]; omega)) (by first | omega | decide | (rw [List.length_append]; simp only [List.length_cons, List.length_nil]; omega) | (rw [List.length_replicate]; omega)) (by first | omega | decide | (rw [List.length_append]; simp only [List.length_cons, List.length_nil]; omega) | (rw [List.length_replicate]; omega))) fun v237 s237 R237 => ?_
          obtain ⟨rfl, rfl⟩ := R237
          dsimp only [List.cons_append, List.nil_append]
          refine XO.q (Quiet.guardF rfl rfl fun g238 p238 => Q.not rfl) ?_
          refine XO.q (Q.or rfl (fun hp => lzv hp rfl)) ?_
          refine XO.done ?_
          refine XK.if rfl (fun c14 => ?_) (fun c14 => ?_)
          · have _t14 := True.intro
            simp at c14
          · have _t14 := True.intro
            refine XK.skip ?_
            refine XK.inBlock ?_
            refine XK.region rfl ?_
            refine XO.q (Q.add rfl rfl ⟨by omega, by omega⟩) ?_
            refine XO.q (Q.move rfl) ?_
            refine XO.done ?_
            exact ih4 (k + 1) _ _ (by omega) (by first | omega | (dsimp only; omega)) (.c rfl (.base 62 rfl rfl)) inferInstance
        · have _tb := True.intro
          rw [show ([(.slice none 0 0), v194, v196, v198, v200, v202, v192, v208, v209] : List Value).getD k default = v208 by rw [hk]; rfl]
          refine XO.q (Q.assign rfl) ?_
          refine XO.done ?_
          refine XK.seq ?_
          refine XK.region rfl ?_
          refine XO.q (Q.ldA [_, _] rfl rfl rfl) ?_
          refine XO.q (Q.move rfl) ?_
          refine XO.lit [_] [_] [_] encI (by rfl) (by rfl) rfl (by rfl) (by exact .c 0 1 rfl rfl rfl (.n _)) (fun _ => rfl) (by rfl) rfl (by infer_instance) rfl fun v218 h218 O218 => ?_
          refine XO.call Try.call46 rfl rfl rfl (runs06 exB vb vg kb kg (lo ++ [⟨1, 1⟩]) v208 h208 [0] v218 h218 (by first | omega | decide | (rw [List.length_append]; simp only [List.length_cons, List.length_nil]; omega) | (rw [List.length_replicate]; omega)) (by first | omega | decide | (rw [List.length_append]; simp only [List.length_cons, List.length_nil]; omega) | (rw [List.length_replicate]; omega)) (by first | omega | decide | (rw [List.length_append]; simp only [List.length_cons, List.length_nil]; omega) | (rw [List.length_replicate]; omega))) fun v219 s219 R219 => ?_
          obtain ⟨rfl, rfl⟩ := R219
          dsimp only [List.cons_append, List.nil_append]
          refine XO.q (Q.not rfl) ?_
          refine XO.q (Q.move rfl) ?_
          refine XO.q (Quiet.guardF rfl rfl fun g222 p222 => Q.ldA [_, _] rfl rfl rfl) ?_
          refine XO.q (Quiet.guardF rfl rfl fun g223 p223 => Q.move rfl) ?_
          refine XO.callS rfl rfl rfl Try.call46 rfl (.c (lzv rfl rfl) (.c (lzv rfl rfl) (.c rfl .n))) rfl (runs06 (jf := nI h210) exB vb vg kb kg (lo ++ [⟨1, 1⟩]) v208 h208 ([] : List Int) (.slice none 0 0) h210 (by first | omega | decide | (rw [List.length_append]; simp only [List.length_cons, List.length_nil]; omega) | (rw [List.length_replicate]; omega)) (by first | omega | decide | (rw [List.length_append]; simp only [List.length_cons, List.length_nil]; omega) | (rw [List.length_replicate]; omega)) (by first | omega | decide | (rw [List.length_append]; simp only [List.length_cons, List.length_nil]; omega) | (rw [List.length_replicate]; omega))) fun v224 s224 R224 => ?_
          obtain ⟨rfl, rfl⟩ := R224
          dsimp only [List.cons_append, List.nil_append]
          refine XO.q (Quiet.guardF rfl rfl fun g225 p225 => Q.not rfl) ?_
          refine XO.q (Q.or rfl (fun hp => lzv hp rfl)) ?_
          refine XO.q (Q.move rfl) ?_
          refine XO.q (Quiet.guardF rfl rfl fun g228 p228 => Q.ldA [_, _] rfl rfl rfl) ?_
          refine XO.q (Quiet.guardF rfl rfl fun g229 p229 => Q.move rfl) ?_
          refine XO.litG [_, _] [_, _] [_, _] encI rfl rfl rfl (by rfl) (by rfl) rfl (by rfl) (by exact .c 0 1 rfl rfl rfl (.c 1 1 rfl rfl rfl (.n _))) (fun _ => rfl) (by rfl) rfl (by infer_instance) rfl fun v230 h230 O230 => ?_
          refine XO.callS rfl rfl rfl Try.call46 rfl (.c (lzv rfl rfl) (.c (lzv rfl rfl) (.c rfl .n))) rfl (runs06 exB vb vg kb kg (lo ++ [⟨1, 1⟩]) v208 h208 [0, 0] v230 h230 (by first | omega | decide | (rw [List.length_append]; simp only [List.length_cons, List.length_nil]; omega) | (rw [List.length_replicate]; omega)) (by first | omega | decide | (rw [List.length_append]; simp only [List.length_cons, List.length_nil]; omega) | (rw [List.length_replicate]; omega)) (by first | omega | decide | (rw [List.length_append]; simp only [List.length_cons, List.length_nil]; omega) | (rw [List.length_replicate]; omega))) fun v231 s231 R231 => ?_
          obtain ⟨rfl, rfl⟩ := R231
          dsimp only [List.cons_append, List.nil_append]
          refine XO.q (Quiet.guardF rfl rfl fun g232 p232 => Q.not rfl) ?_
          refine XO.q (Q.or rfl (fun hp => lzv hp rfl)) ?_
          refine XO.q (Q.move rfl) ?_
          refine XO.q (Quiet.guardF rfl rfl fun g235 p235 => Q.build [_, _] (.n _)) ?_
          refine XO.q (Quiet.guardF rfl rfl fun g236 p236 => Q.move rfl) ?_
          refine XO.callS rfl rfl rfl Try.call46 rfl (.c (lzv rfl rfl) (.c (lzv rfl rfl) (.c rfl .n))) rfl (runs06 (ib := nB h210) (ig := nG h210) (jf := nI h210) ⟨[], []⟩ (.slice none 0 0) (.slice none 0 0) h210 h210 (lo ++ [⟨1, 1⟩]) v208 h208 ([] : List Int) (.slice none 0 0) h210 (by first | omega | decide | (rw [List.length_append]; simp only [List.length_cons, List.length_nil]; omega) | (rw [List.length_replicate]; omega)) (by first | omega | decide | (rw [List.length_append]; simp only [List.length_cons, List.length_nil]; omega) | (rw [List.length_replicate]; omega)) (by first | omega | decide | (rw [List.length_append]; simp only [List.length_cons, List.length_nil]; omega) | (rw [List.length_replicate]; omega))) fun v237 s237 R237 => ?_
          obtain ⟨rfl, rfl⟩ := R237
          dsimp only [List.cons_append, List.nil_append]
          refine XO.q (Quiet.guardF rfl rfl fun g238 p238 => Q.not rfl) ?_
          refine XO.q (Q.or rfl (fun hp => lzv hp rfl)) ?_
          refine XO.done ?_
          refine XK.if rfl (fun c15 => ?_) (fun c15 => ?_)
          · have _t15 := True.intro
            simp at c15
          · have _t15 := True.intro
            refine XK.skip ?_
            refine XK.inBlock ?_
            refine XK.region rfl ?_
            refine XO.q (Q.add rfl rfl ⟨by omega, by omega⟩) ?_
            refine XO.q (Q.move rfl) ?_
            refine XO.done ?_
            exact ih4 (k + 1) _ _ (by omega) (by first | omega | (dsimp only; omega)) (.c rfl (.base 62 rfl rfl)) inferInstance
        · have _tb := True.intro
          rw [show ([(.slice none 0 0), v194, v196, v198, v200, v202, v192, v208, v209] : List Value).getD k default = v209 by rw [hk]; rfl]
          refine XO.q (Q.assign rfl) ?_
          refine XO.done ?_
          refine XK.seq ?_
          refine XK.region rfl ?_
          refine XO.q (Q.ldA [_, _] rfl rfl rfl) ?_
          refine XO.q (Q.move rfl) ?_
          refine XO.lit [_] [_] [_] encI (by rfl) (by rfl) rfl (by rfl) (by exact .c 0 1 rfl rfl rfl (.n _)) (fun _ => rfl) (by rfl) rfl (by infer_instance) rfl fun v218 h218 O218 => ?_
          refine XO.call Try.call46 rfl rfl rfl (runs06 exB vb vg kb kg (List.replicate 65 (⟨0, 0⟩ : BSpan)) v209 h209 [0] v218 h218 (by first | omega | decide | (rw [List.length_append]; simp only [List.length_cons, List.length_nil]; omega) | (rw [List.length_replicate]; omega)) (by first | omega | decide | (rw [List.length_append]; simp only [List.length_cons, List.length_nil]; omega) | (rw [List.length_replicate]; omega)) (by first | omega | decide | (rw [List.length_append]; simp only [List.length_cons, List.length_nil]; omega) | (rw [List.length_replicate]; omega))) fun v219 s219 R219 => ?_
          obtain ⟨rfl, rfl⟩ := R219
          dsimp only [List.cons_append, List.nil_append]
          refine XO.q (Q.not rfl) ?_
          refine XO.q (Q.move rfl) ?_
          refine XO.q (Quiet.guardF rfl rfl fun g222 p222 => Q.ldA [_, _] rfl rfl rfl) ?_
          refine XO.q (Quiet.guardF rfl rfl fun g223 p223 => Q.move rfl) ?_
          refine XO.callS rfl rfl rfl Try.call46 rfl (.c (lzv rfl rfl) (.c (lzv rfl rfl) (.c rfl .n))) rfl (runs06 (jf := nI h210) exB vb vg kb kg (List.replicate 65 (⟨0, 0⟩ : BSpan)) v209 h209 ([] : List Int) (.slice none 0 0) h210 (by first | omega | decide | (rw [List.length_append]; simp only [List.length_cons, List.length_nil]; omega) | (rw [List.length_replicate]; omega)) (by first | omega | decide | (rw [List.length_append]; simp only [List.length_cons, List.length_nil]; omega) | (rw [List.length_replicate]; omega)) (by first | omega | decide | (rw [List.length_append]; simp only [List.length_cons, List.length_nil]; omega) | (rw [List.length_replicate]; omega))) fun v224 s224 R224 => ?_
          obtain ⟨rfl, rfl⟩ := R224
          dsimp only [List.cons_append, List.nil_append]
          refine XO.q (Quiet.guardF rfl rfl fun g225 p225 => Q.not rfl) ?_
          refine XO.q (Q.or rfl (fun hp => lzv hp rfl)) ?_
          refine XO.q (Q.move rfl) ?_
          refine XO.q (Quiet.guardF rfl rfl fun g228 p228 => Q.ldA [_, _] rfl rfl rfl) ?_
          refine XO.q (Quiet.guardF rfl rfl fun g229 p229 => Q.move rfl) ?_
          refine XO.litG [_, _] [_, _] [_, _] encI rfl rfl rfl (by rfl) (by rfl) rfl (by rfl) (by exact .c 0 1 rfl rfl rfl (.c 1 1 rfl rfl rfl (.n _))) (fun _ => rfl) (by rfl) rfl (by infer_instance) rfl fun v230 h230 O230 => ?_
          refine XO.callS rfl rfl rfl Try.call46 rfl (.c (lzv rfl rfl) (.c (lzv rfl rfl) (.c rfl .n))) rfl (runs06 exB vb vg kb kg (List.replicate 65 (⟨0, 0⟩ : BSpan)) v209 h209 [0, 0] v230 h230 (by first | omega | decide | (rw [List.length_append]; simp only [List.length_cons, List.length_nil]; omega) | (rw [List.length_replicate]; omega)) (by first | omega | decide | (rw [List.length_append]; simp only [List.length_cons, List.length_nil]; omega) | (rw [List.length_replicate]; omega)) (by first | omega | decide | (rw [List.length_append]; simp only [List.length_cons, List.length_nil]; omega) | (rw [List.length_replicate]; omega))) fun v231 s231 R231 => ?_
          obtain ⟨rfl, rfl⟩ := R231
          dsimp only [List.cons_append, List.nil_append]
          refine XO.q (Quiet.guardF rfl rfl fun g232 p232 => Q.not rfl) ?_
          refine XO.q (Q.or rfl (fun hp => lzv hp rfl)) ?_
          refine XO.q (Q.move rfl) ?_
          refine XO.q (Quiet.guardF rfl rfl fun g235 p235 => Q.build [_, _] (.n _)) ?_
          refine XO.q (Quiet.guardF rfl rfl fun g236 p236 => Q.move rfl) ?_
          refine XO.callS rfl rfl rfl Try.call46 rfl (.c (lzv rfl rfl) (.c (lzv rfl rfl) (.c rfl .n))) rfl (runs06 (ib := nB h210) (ig := nG h210) (jf := nI h210) ⟨[], []⟩ (.slice none 0 0) (.slice none 0 0) h210 h210 (List.replicate 65 (⟨0, 0⟩ : BSpan)) v209 h209 ([] : List Int) (.slice none 0 0) h210 (by first | omega | decide | (rw [List.length_append]; simp only [List.length_cons, List.length_nil]; omega) | (rw [List.length_replicate]; omega)) (by first | omega | decide | (rw [List.length_append]; simp only [List.length_cons, List.length_nil]; omega) | (rw [List.length_replicate]; omega)) (by first | omega | decide | (rw [List.length_append]; simp only [List.length_cons, List.length_nil]; omega) | (rw [List.length_replicate]; omega))) fun v237 s237 R237 => ?_
          obtain ⟨rfl, rfl⟩ := R237
          dsimp only [List.cons_append, List.nil_append]
          refine XO.q (Quiet.guardF rfl rfl fun g238 p238 => Q.not rfl) ?_
          refine XO.q (Q.or rfl (fun hp => lzv hp rfl)) ?_
          refine XO.done ?_
          refine XK.if rfl (fun c16 => ?_) (fun c16 => ?_)
          · have _t16 := True.intro
            simp at c16
          · have _t16 := True.intro
            refine XK.skip ?_
            refine XK.inBlock ?_
            refine XK.region rfl ?_
            refine XO.q (Q.add rfl rfl ⟨by omega, by omega⟩) ?_
            refine XO.q (Q.move rfl) ?_
            refine XO.done ?_
            exact ih4 (k + 1) _ _ (by omega) (by first | omega | (dsimp only; omega)) (.c rfl (.base 62 rfl rfl)) inferInstance
      · have _t7 := True.intro
        refine XK.exit rfl ?_
        refine XK.seq ?_
        refine XK.region rfl ?_
        refine XO.make encBat ((⟨0, 0, 0, 0⟩ : BBat)) rfl rfl rfl (by omega) (by omega) (fun _ => rfl) rfl rfl rfl (by dsimp only [encBat]; infer_instance) fun v241 h241 O241 => ?_
        refine XO.q (Q.build [_, _] (.c 0 1 rfl rfl rfl (.n _))) ?_
        refine XO.alloc fun b24 => ?_
        refine XO.st rfl rfl rfl ?_
        refine XO.done ?_
        refine XK.seq ?_
        refine XK.region rfl ?_
        refine XO.q (Q.fieldAddr rfl) ?_
        refine XO.q (Q.ld rfl rfl) ?_
        refine XO.call Try.call49 rfl rfl rfl (by haveI : Arr vg encGen 5 kg [(⟨100, 20, 5, 2, 2⟩ : BGen)] := OArr.arr (s := OG); exact repeatG vg kg (⟨100, 20, 5, 2, 2⟩ : BGen) 7 (by omega)) fun v245 s245 R245 => ?_
        obtain ⟨h245, rfl, O245⟩ := R245
        dsimp only [List.cons_append, List.nil_append]
        have l9 : (List.replicate (Int.toNat 9) (⟨0, 0, 0, 0⟩ : BBat)).length = 9 := rfl
        have l7 : (List.replicate 7 (⟨100, 20, 5, 2, 2⟩ : BGen)).length = 7 := rfl
        have cb := Arr.cut (OArr.arr (s := O241)) (i := 0) (j := 8) (by omega) (by omega)
        have cg := Arr.cut (OArr.arr (s := O245)) (i := 0) (j := 6) (by omega) (by omega)
        refine XO.q (Q.build [_, _] (.c 1 1 rfl rfl rfl (.n _))) ?_
        refine XO.alloc fun b25 => ?_
        refine XO.st rfl rfl rfl ?_
        refine XO.done ?_
        refine XK.seq ?_
        refine XK.drawn [0, 1, 2, 3, 4, 5, 6] [b24, b25] [] (.q 0 (.q 1 (.q 2 (.q 3 (.q 4 (.q 5 (.q 6 (.br 7 true (.br 8 false .done .stop) .stop)))))))) Try.mixed rfl (by kernel_rfl) ?_
        refine XT.q rfl rfl (Q.fieldAddr rfl) ?_
        refine XT.q rfl rfl (Q.ld rfl rfl) ?_
        refine XT.q rfl rfl (Q.cut (i := 0) (j := 8) rfl .n (.s rfl (by omega)) (by omega) (by omega)) ?_
        refine XT.q rfl rfl (Q.fieldAddr rfl) ?_
        refine XT.q rfl rfl (Q.ld rfl rfl) ?_
        refine XT.q rfl rfl (Q.cut (i := 0) (j := 6) rfl .n (.s rfl (by omega)) (by omega) (by omega)) ?_
        refine XT.q rfl rfl (Q.build [_, _] (.c 0 1 rfl rfl rfl (.c 1 1 rfl rfl rfl (.n _)))) ?_
        refine XT.alloc rfl rfl (fun b26 => ⟨inferInstance, ?_⟩) XT.stop
        refine XT.st rfl rfl rfl rfl rfl ⟨inferInstance, ?_⟩ XT.stop
        refine XT.done ?_
        refine XK.seq ?_
        refine XK.region rfl ?_
        refine XO.q (Q.build [_, _, _, _, _] (.c 4 1 rfl rfl rfl (.n _))) ?_
        refine XO.lit [_, _, _, _, _] [_, _, _, _, _] [⟨0, 0, 0, 0, 5⟩] encGen (by rfl) (by rfl) rfl (by rfl) (by exact .c 0 5 rfl rfl rfl (.n _)) (fun _ => rfl) (by rfl) rfl (by infer_instance) rfl fun v255 h255 O255 => ?_
        refine XO.call Try.call49 rfl rfl rfl (repeatG v255 h255 ⟨0, 0, 0, 0, 5⟩ 6 (by omega)) fun v256 s256 R256 => ?_
        obtain ⟨h256, rfl, O256⟩ := R256
        dsimp only [List.cons_append, List.nil_append]
        refine XO.q (Q.build [_, _] (.c 1 1 rfl rfl rfl (.n _))) ?_
        refine XO.alloc fun b27 => ?_
        refine XO.st rfl rfl rfl ?_
        refine XO.done ?_
        refine XK.seq ?_
        refine XK.seq ?_
        refine XK.region rfl ?_
        refine XO.q (Q.assign rfl) ?_
        refine XO.done ?_
        refine XK.block ?_
        refine XK.while (X := Int) [0, 28, 258, 259, 260, 261, 262, 263, 264, 265, 266, 267, 268, 269, 270, 271, 272, 273, 274, 275, 276, 277, 278, 279, 280, 281, 282, 283, 284, 285, 286, 287, 288, 289, 290, 291, 292, 293, 294, 295, 296, 297, 298] (fun m => [(28, some (.int .i64 m))]) (fun m => []) (fun m => -1 ≤ m ∧ m ≤ 2) (fun m => (2 - m).toNat) (-1) [] rfl ⟨by omega, by omega⟩ (.c rfl (.base 0 rfl rfl)) ?_
        rintro m ⟨hm1, hm2⟩ ih5
        dsimp only [List.cons_append, List.nil_append] at ih5 ⊢
        refine XK.seq ?_
        refine XK.seq ?_
        refine XK.region rfl ?_
        refine XO.q (Q.move rfl) ?_
        refine XO.q (Q.leq rfl rfl) ?_
        refine XO.done ?_
        refine XK.if rfl (fun c17 => ?_) (fun c17 => ?_)
        · have _t17 := True.intro
          refine XK.skip ?_
          refine XK.seq ?_
          refine XK.block ?_
          refine XK.seq ?_
          refine XK.drawn [0, 1, 2, 4, 5, 6, 7, 8, 10, 11, 12, 13, 14, 16, 17, 20, 22, 23, 24, 25, 26, 28, 29, 30, 31, 33, 35, 36] [b27, b24, b13] [] (.q 0 (.q 1 (.q 2 (.br 3 true (.q 4 (.q 5 (.q 6 (.q 7 (.q 8 (.br 9 true (.q 10 (.q 11 (.q 12 (.q 13 (.q 14 (.q 16 (.q 17 (.q 20 (.br 15 true (.br 18 true (.br 19 true (.br 21 true (.q 22 (.q 23 (.q 24 (.q 25 (.q 26 (.br 27 true (.q 28 (.q 29 (.q 30 (.q 31 (.q 33 (.br 32 true (.br 34 true (.q 35 (.q 36 .done)) .stop) .stop)))))) .stop)))))) .stop) .stop) .stop) .stop))))))))) .stop)))))) .stop)))) Try.mixed rfl (by kernel_rfl) ?_
          refine XT.q rfl rfl (Q.ldA [_, _] rfl rfl rfl) ?_
          refine XT.q rfl rfl (Q.move rfl) ?_
          refine XT.q rfl rfl (Q.move rfl) ?_
          refine XT.call rfl rfl Try.call3 rfl rfl rfl (BankWorst_spec (ib := nB h256) (⟨[], List.replicate 6 ⟨0, 0, 0, 0, 5⟩⟩ : BBank) (.slice none 0 0) v256 h256 h256 exL vl kl 1 m (by omega)) (fun v265 s265 R265 => ?_) XT.stop
          obtain ⟨rfl, rfl⟩ := R265
          dsimp only [List.cons_append, List.nil_append]
          refine ⟨inferInstance, ?_⟩
          refine XT.q rfl rfl (Q.not rfl) ?_
          refine XT.q rfl rfl (Q.move rfl) ?_
          refine XT.q rfl rfl (Quiet.guardF rfl rfl fun g268 p268 => Q.ldA [_, _] rfl rfl rfl) ?_
          refine XT.q rfl rfl (Quiet.guardF rfl rfl fun g269 p269 => Q.move rfl) ?_
          refine XT.q rfl rfl (Quiet.guardF rfl rfl fun g270 p270 => Q.move rfl) ?_
          refine XT.callS rfl rfl rfl rfl rfl Try.call3 rfl (.c (lzv rfl rfl) (.c (lzv rfl rfl) (.c rfl (.c (lzv rfl rfl) .n)))) rfl (BankWorst_spec (ig := nG h241) (⟨List.replicate 9 ⟨0, 0, 0, 0⟩, []⟩ : BBank) v241 (.slice none 0 0) h241 h241 exL vl kl 1 m (by omega)) (fun v271 s271 R271 => ?_) XT.stop
          obtain ⟨rfl, rfl⟩ := R271
          dsimp only [List.cons_append, List.nil_append]
          refine ⟨inferInstance, ?_⟩
          refine XT.q rfl rfl (Quiet.guardF rfl rfl fun g272 p272 => Q.not rfl) ?_
          refine XT.q rfl rfl (Q.or rfl (fun hp => lzv hp rfl)) ?_
          refine XT.q rfl rfl (Q.move rfl) ?_
          refine XT.q rfl rfl (Quiet.guardF rfl rfl fun g275 p275 => Q.ldA [_, _] rfl rfl rfl) ?_
          refine XT.q rfl rfl (Quiet.guardF rfl rfl fun g276 p276 => Q.move rfl) ?_
          refine XT.q rfl rfl (Quiet.guardF rfl rfl fun g278 p278 => Q.move rfl) ?_
          refine XT.q rfl rfl (Quiet.guardF rfl rfl fun g279 p279 => Q.add (lzv rfl rfl) rfl ⟨by omega, by omega⟩) ?_
          refine XT.q rfl rfl (Quiet.guardF rfl rfl fun g282 p282 => Q.move rfl) ?_
          refine XT.litS [_, _, _] [_, _, _] [_, _, _] encI rfl rfl rfl rfl rfl (by rfl) (by rfl) rfl (by rfl) (by exact .c 0 1 rfl rfl rfl (.c 1 1 rfl rfl rfl (.c 2 1 rfl rfl rfl (.n _)))) (fun _ => rfl) (by rfl) rfl (by infer_instance) rfl (fun v277 h277 O277 => ⟨inferInstance, ?_⟩) XT.stop
          refine XT.qs rfl rfl (Quiet.guardF rfl rfl fun g280 p280 => Q.ix rfl (lzv rfl rfl) (by omega) (by show m + 1 < 3; omega)) ⟨inferInstance, ?_⟩ XT.stop
          refine XT.qs rfl rfl (Quiet.guardF rfl rfl fun g281 p281 => Q.ldE (lzv g281 rfl) (by show (m + 1).toNat < 3; omega) rfl) ⟨inferInstance, ?_⟩ XT.stop
          refine XT.callS rfl rfl rfl rfl rfl Try.call3 rfl (.c (lzv rfl rfl) (.c (lzv rfl rfl) (.c (lzv rfl rfl) (.c (lzv rfl rfl) .n)))) rfl (BankWorst_spec exB vb vg kb kg exL vl kl _ m (by omega)) (fun v283 s283 R283 => ?_) XT.stop
          obtain ⟨rfl, rfl⟩ := R283
          dsimp only [List.cons_append, List.nil_append]
          refine ⟨inferInstance, ?_⟩
          refine XT.q rfl rfl (Quiet.guardF rfl rfl fun g284 p284 => Q.not rfl) ?_
          refine XT.q rfl rfl (Q.or rfl (fun hp => lzv hp rfl)) ?_
          refine XT.q rfl rfl (Q.move rfl) ?_
          refine XT.q rfl rfl (Quiet.guardF rfl rfl fun g287 p287 => Q.ldA [_, _] rfl rfl rfl) ?_
          refine XT.q rfl rfl (Quiet.guardF rfl rfl fun g288 p288 => Q.move rfl) ?_
          refine XT.callS rfl rfl rfl rfl rfl Try.call3 rfl (.c (lzv rfl rfl) (.c rfl (.c rfl (.c (lzv rfl rfl) .n)))) rfl (BankWorst_spec (il := nS kl) exB vb vg kb kg [] (.slice none 0 0) kl 0 m (by omega)) (fun v289 s289 R289 => ?_) XT.stop
          obtain ⟨rfl, rfl⟩ := R289
          dsimp only [List.cons_append, List.nil_append]
          refine ⟨inferInstance, ?_⟩
          refine XT.q rfl rfl (Quiet.guardF rfl rfl fun g290 p290 => Q.not rfl) ?_
          refine XT.q rfl rfl (Q.or rfl (fun hp => lzv hp rfl)) ?_
          refine XT.q rfl rfl (Q.move rfl) ?_
          refine XT.q rfl rfl (Quiet.guardF rfl rfl fun g293 p293 => Q.ldA [_, _] rfl rfl rfl) ?_
          refine XT.q rfl rfl (Quiet.guardF rfl rfl fun g295 p295 => Q.move rfl) ?_
          refine XT.makeS encSpan ((⟨0, 0⟩ : BSpan)) rfl rfl rfl rfl rfl rfl rfl rfl (by omega) (by omega) (fun _ => rfl) rfl rfl rfl (by dsimp only [encSpan]; infer_instance) (fun v294 h294 O294 => ⟨inferInstance, ?_⟩) XT.stop
          refine XT.callS rfl rfl rfl rfl rfl Try.call3 rfl (.c (lzv rfl rfl) (.c rfl (.c rfl (.c (lzv rfl rfl) .n)))) rfl (BankWorst_spec exB vb vg kb kg (List.replicate 65 (⟨0, 0⟩ : BSpan)) v294 h294 0 m (by omega)) (fun v296 s296 R296 => ?_) XT.stop
          obtain ⟨rfl, rfl⟩ := R296
          dsimp only [List.cons_append, List.nil_append]
          refine ⟨inferInstance, ?_⟩
          refine XT.q rfl rfl (Quiet.guardF rfl rfl fun g297 p297 => Q.not rfl) ?_
          refine XT.q rfl rfl (Q.or rfl (fun hp => lzv hp rfl)) ?_
          refine XT.done ?_
          refine XK.if rfl (fun c18 => ?_) (fun c18 => ?_)
          · have _t18 := True.intro
            simp at c18
          · have _t18 := True.intro
            refine XK.skip ?_
            refine XK.inBlock ?_
            refine XK.region rfl ?_
            refine XO.q (Q.move rfl) ?_
            refine XO.q (Q.add rfl rfl ⟨by omega, by omega⟩) ?_
            refine XO.q (Q.assign rfl) ?_
            refine XO.done ?_
            exact ih5 (m + 1) _ _ ⟨by omega, by omega⟩ (by first | omega | (dsimp only; omega)) (.c rfl (.base 86 rfl rfl)) inferInstance
        · have _t17 := True.intro
          refine XK.exit rfl ?_
          refine XK.seq ?_
          refine XK.drawn [0, 1, 3, 4, 5, 8, 9, 10, 11, 14, 15, 17, 18] [b24, b25, b26] [] (.q 0 (.q 1 (.br 2 true (.q 3 (.q 4 (.q 5 (.br 6 true (.br 7 true (.q 8 (.q 9 (.q 10 (.q 11 (.br 12 true (.br 13 true (.q 14 (.q 15 (.br 16 true (.q 17 (.q 18 .done)) .stop))) .stop) .stop))))) .stop) .stop)))) .stop))) Try.mixed rfl (by kernel_rfl) ?_
          refine XT.q rfl rfl (Q.ldA [_, _] rfl rfl rfl) ?_
          refine XT.q rfl rfl (Q.move rfl) ?_
          refine XT.call rfl rfl Try.call46 rfl rfl rfl (by exact runs06 (ig := nG h241) (jf := nI h241) (⟨List.replicate 9 ⟨0, 0, 0, 0⟩, []⟩ : BBank) v241 (.slice none 0 0) h241 h241 exL vl kl ([] : List Int) (.slice none 0 0) h241 (by first | omega | decide | (simp only [List.length_replicate]; omega) | (simp only [List.length_take, List.length_drop, List.length_replicate]; omega)) (by first | omega | decide | (simp only [List.length_replicate]; omega) | (simp only [List.length_take, List.length_drop, List.length_replicate]; omega)) (by first | omega | decide | (simp only [List.length_replicate]; omega) | (simp only [List.length_take, List.length_drop, List.length_replicate]; omega))) (fun v301 s301 R301 => ?_) XT.stop
          obtain ⟨rfl, rfl⟩ := R301
          dsimp only [List.cons_append, List.nil_append]
          refine ⟨inferInstance, ?_⟩
          refine XT.q rfl rfl (Q.move rfl) ?_
          refine XT.q rfl rfl (Quiet.guardT rfl rfl fun g303 p303 => Q.ldA [_, _] rfl rfl rfl) ?_
          refine XT.q rfl rfl (Quiet.guardT rfl rfl fun g304 p304 => Q.move rfl) ?_
          refine XT.makeS encI (0) rfl rfl rfl rfl rfl rfl rfl rfl (by omega) (by omega) (fun _ => rfl) rfl rfl rfl (by dsimp only [encI]; infer_instance) (fun v305 h305 O305 => ⟨inferInstance, ?_⟩) XT.stop
          refine XT.callS rfl rfl rfl rfl rfl Try.call46 rfl (.c (lzv rfl rfl) (.c (lzv rfl rfl) (.c rfl .n))) rfl (by exact runs06 (ib := nB h245) (⟨[], List.replicate 7 (⟨100, 20, 5, 2, 2⟩ : BGen)⟩ : BBank) (.slice none 0 0) v245 h245 h245 exL vl kl (List.replicate 7 0) v305 h305 (by first | omega | decide | (simp only [List.length_replicate]; omega) | (simp only [List.length_take, List.length_drop, List.length_replicate]; omega)) (by first | omega | decide | (simp only [List.length_replicate]; omega) | (simp only [List.length_take, List.length_drop, List.length_replicate]; omega)) (by first | omega | decide | (simp only [List.length_replicate]; omega) | (simp only [List.length_take, List.length_drop, List.length_replicate]; omega))) (fun v306 s306 R306 => ?_) XT.stop
          obtain ⟨rfl, rfl⟩ := R306
          dsimp only [List.cons_append, List.nil_append]
          refine ⟨inferInstance, ?_⟩
          refine XT.q rfl rfl (Q.and rfl (fun _ => rfl)) ?_
          refine XT.q rfl rfl (Q.move rfl) ?_
          refine XT.q rfl rfl (Quiet.guardT rfl rfl fun g309 p309 => Q.ldA [_, _] rfl rfl rfl) ?_
          refine XT.q rfl rfl (Quiet.guardT rfl rfl fun g310 p310 => Q.move rfl) ?_
          refine XT.litS [_, _, _, _, _, _] [_, _, _, _, _, _] [_, _, _, _, _, _] encI rfl rfl rfl rfl rfl (by rfl) (by rfl) rfl (by rfl) (by exact .c 0 1 rfl rfl rfl (.c 1 1 rfl rfl rfl (.c 2 1 rfl rfl rfl (.c 3 1 rfl rfl rfl (.c 4 1 rfl rfl rfl (.c 5 1 rfl rfl rfl (.n _))))))) (fun _ => rfl) (by rfl) rfl (by infer_instance) rfl (fun v311 h311 O311 => ⟨inferInstance, ?_⟩) XT.stop
          refine XT.callS rfl rfl rfl rfl rfl Try.call46 rfl (.c (lzv rfl rfl) (.c (lzv rfl rfl) (.c rfl .n))) rfl (by haveI : Arr (cutv v241 4 0 8) encBat 4 h241 (((List.replicate 9 (⟨0, 0, 0, 0⟩ : BBat)).drop 0).take (8 - 0)) := Arr.cut (OArr.arr (s := O241)) (by omega) (by rw [List.length_replicate]; omega); haveI : Arr (cutv v245 5 0 6) encGen 5 h245 (((List.replicate 7 (⟨100, 20, 5, 2, 2⟩ : BGen)).drop 0).take (6 - 0)) := Arr.cut (OArr.arr (s := O245)) (by omega) (by rw [List.length_replicate]; omega); exact runs06 (⟨((List.replicate 9 (⟨0, 0, 0, 0⟩ : BBat)).drop 0).take (8 - 0), ((List.replicate 7 (⟨100, 20, 5, 2, 2⟩ : BGen)).drop 0).take (6 - 0)⟩ : BBank) (cutv v241 4 0 8) (cutv v245 5 0 6) h241 h245 exL vl kl [0, 1, 2, 0, 1, 2] v311 h311 (by first | omega | decide | (simp only [List.length_replicate]; omega) | (simp only [List.length_take, List.length_drop, List.length_replicate]; omega)) (by first | omega | decide | (simp only [List.length_replicate]; omega) | (simp only [List.length_take, List.length_drop, List.length_replicate]; omega)) (by first | omega | decide | (simp only [List.length_replicate]; omega) | (simp only [List.length_take, List.length_drop, List.length_replicate]; omega))) (fun v312 s312 R312 => ?_) XT.stop
          obtain ⟨rfl, rfl⟩ := R312
          dsimp only [List.cons_append, List.nil_append]
          refine ⟨inferInstance, ?_⟩
          refine XT.q rfl rfl (Q.and rfl (fun _ => rfl)) ?_
          refine XT.q rfl rfl (Q.move rfl) ?_
          refine XT.callS rfl rfl rfl rfl rfl Try.call14 rfl (.n) rfl (awake06) (fun v315 s315 R315 => ?_) XT.stop
          obtain ⟨rfl, rfl⟩ := R315
          dsimp only [List.cons_append, List.nil_append]
          refine ⟨inferInstance, ?_⟩
          refine XT.q rfl rfl (Q.and rfl (fun _ => rfl)) ?_
          refine XT.q rfl rfl (Q.assign rfl) ?_
          refine XT.done ?_
          refine XK.rt [] Try.func10 Try.results10 (.t rfl .n) ?_
          exact ⟨by simp, rfl⟩
end Go.X
