/- Contracts of functions of the program, each proved by a walk through its operations. No condition but those that stand in each theorem. -/
import Derived.Test.YtfenlpoaphbfgaaK7
import Derived.Test.YtfenlpoaphbfgaaP5
set_option linter.unusedSimpArgs false
set_option linter.unusedVariables false
set_option maxRecDepth 20000
namespace Go.X
open Go.Proofs
theorem refProduct (a b : G) (vn vg wn wg : Value) (hn hg kn kg : PHeap) [sn : Arr vn encI 1 hn a.next] [sg : Arr vg encB 1 hg a.good] [tn : Arr wn encI 1 kn b.next] [tg : Arr wg encB 1 kg b.good] : Spec Try.prog 14 #[.agg #[.int .i64 a.S, .int .i64 a.C, .int .i64 a.K, vn, vg], .agg #[.int .i64 b.S, .int .i64 b.C, .int .i64 b.K, wn, wg]] [] [hn, hg, kn, kg] (fun v hs => ∃ v1 v2 k1 k2, v = .tuple #[.agg #[.int .i64 (product a b).1.S, .int .i64 (product a b).1.C, .int .i64 (product a b).1.K, v1, v2], .int .i64 (product a b).2] ∧ hs = [k1, k2] ∧
      OArr v1 encI 1 3 k1 (product a b).1.next ∧ OArr v2 encB 1 4 k2 (product a b).1.good) := by
  refine Spec.intro (fn := Try.f14) (N := 181) Try.func14 rfl Try.ntmps14 rfl fun B => ?_
  refine XK.seq ?_
  refine XK.region rfl ?_
  refine XO.box rfl fun b2 => ?_
  refine XO.box rfl fun b3 => ?_
  refine XO.alloc fun b4 => ?_
  refine XO.q (Q.assign rfl) ?_
  refine XO.done ?_
  refine XK.seq ?_
  refine XK.seq ?_
  refine XK.region rfl ?_
  refine XO.q (Q.ldA [_, _, _, _, _] rfl rfl rfl) ?_
  refine XO.call Try.call41 rfl rfl rfl (refCheck _ _ _ _ _) fun v20 s20 R20 => ?_
  obtain ⟨rfl, rfl⟩ := R20
  dsimp only [List.cons_append, List.nil_append]
  refine XO.q (Q.assign rfl) ?_
  refine XO.done ?_
  refine XK.seq ?_
  refine XK.region rfl ?_
  refine XO.q (Q.move rfl) ?_
  refine XO.q (Q.neq rfl rfl) ?_
  refine XO.done ?_
  refine XK.if rfl (fun c0 => ?_) (fun c0 => ?_)
  · have _t0 := True.intro
    refine XK.seq ?_
    refine XK.region rfl ?_
    refine XO.q (Q.build [_, _, _, _, _] (.n _)) ?_
    refine XO.q (Q.move rfl) ?_
    refine XO.st rfl rfl rfl ?_
    refine XO.q (Q.assign rfl) ?_
    refine XO.done ?_
    refine XK.rt [emp, emp] Try.func14 Try.results14 (.cell [_, _, _, _, _] rfl rfl rfl (.t rfl .n)) ?_
    have hw := (show product a b = (zeroG, gcheck a) by rw [product, if_pos c0])
    rw [hw]
    exact ⟨.slice none 0 0, .slice none 0 0, emp, emp, rfl, rfl, OArr.nil (fun _ => rfl), OArr.nil (fun _ => rfl)⟩
  · have _t0 := True.intro
    have ea := Decidable.of_not_not c0
    refine XK.skip ?_
    refine XK.seq ?_
    refine XK.seq ?_
    refine XK.region rfl ?_
    refine XO.q (Q.ldA [_, _, _, _, _] rfl rfl rfl) ?_
    refine XO.call Try.call41 rfl rfl rfl (refCheck _ _ _ _ _) fun v26 s26 R26 => ?_
    obtain ⟨rfl, rfl⟩ := R26
    dsimp only [List.cons_append, List.nil_append]
    refine XO.q (Q.assign rfl) ?_
    refine XO.done ?_
    refine XK.seq ?_
    refine XK.region rfl ?_
    refine XO.q (Q.move rfl) ?_
    refine XO.q (Q.neq rfl rfl) ?_
    refine XO.done ?_
    refine XK.if rfl (fun c1 => ?_) (fun c1 => ?_)
    · have _t1 := True.intro
      refine XK.seq ?_
      refine XK.region rfl ?_
      refine XO.q (Q.build [_, _, _, _, _] (.n _)) ?_
      refine XO.q (Q.move rfl) ?_
      refine XO.st rfl rfl rfl ?_
      refine XO.q (Q.assign rfl) ?_
      refine XO.done ?_
      refine XK.rt [emp, emp] Try.func14 Try.results14 (.cell [_, _, _, _, _] rfl rfl rfl (.t rfl .n)) ?_
      have hw := (show product a b = (zeroG, gcheck b) by rw [product, if_neg c0, if_pos c1])
      rw [hw]
      exact ⟨.slice none 0 0, .slice none 0 0, emp, emp, rfl, rfl, OArr.nil (fun _ => rfl), OArr.nil (fun _ => rfl)⟩
    · have _t1 := True.intro
      have eb := Decidable.of_not_not c1
      obtain ⟨Sa, Ca, Ka, hSa, hCa, hKa, oka⟩ := gcheck_ok ea
      obtain ⟨gSa, gCa, gKa, an, ag⟩ := a
      dsimp only at *
      subst hSa hCa hKa
      obtain ⟨Sb, Cb, Kb, hSb, hCb, hKb, okb⟩ := gcheck_ok eb
      obtain ⟨gSb, gCb, gKb, bn, bg⟩ := b
      dsimp only at *
      subst hSb hCb hKb
      have hs3 : Sa * Sb ≤ 400 * 400 := Nat.mul_le_mul oka.s2 okb.s2
      have hu3 : Ca * Cb ≤ 16 * 16 := Nat.mul_le_mul oka.c2 okb.c2
      have hw3 : Ka * Kb ≤ 16 * 16 := Nat.mul_le_mul oka.k2 okb.k2
      obtain ⟨S, hS⟩ : ∃ S, S = Sa * Sb := ⟨_, rfl⟩
      obtain ⟨C, hC⟩ : ∃ C, C = Ca * Cb := ⟨_, rfl⟩
      obtain ⟨K, hK⟩ : ∃ K, K = Ka * Kb := ⟨_, rfl⟩
      have hSi : (Sa : Int) * (Sb : Int) = (S : Int) := by rw [hS]; simp
      have hCi : (Ca : Int) * (Cb : Int) = (C : Int) := by rw [hC]; simp
      have hKi : (Ka : Int) * (Kb : Int) = (K : Int) := by rw [hK]; simp
      have hsb := okb.s1
      have q1 := oka.s2
      have q2 := okb.s2
      have q3 := oka.c2
      have q4 := okb.c2
      have q5 := oka.k2
      have q6 := okb.k2
      have oklb := okb.len
      have okla := oka.len
      have okga := oka.glen
      have okgb := okb.glen
      refine XK.skip ?_
      refine XK.seq ?_
      refine XK.region rfl ?_
      refine XO.q (Q.fieldAddr rfl) ?_
      refine XO.q (Q.ld rfl rfl) ?_
      refine XO.q (Q.fieldAddr rfl) ?_
      refine XO.q (Q.ld rfl rfl) ?_
      refine XO.q (Q.mul rfl rfl ⟨by omega, by omega⟩) ?_
      refine XO.q (Q.fieldAddr rfl) ?_
      refine XO.q (Q.ld rfl rfl) ?_
      refine XO.q (Q.fieldAddr rfl) ?_
      refine XO.q (Q.ld rfl rfl) ?_
      refine XO.q (Q.mul rfl rfl ⟨by omega, by omega⟩) ?_
      refine XO.q (Q.fieldAddr rfl) ?_
      refine XO.q (Q.ld rfl rfl) ?_
      refine XO.q (Q.fieldAddr rfl) ?_
      refine XO.q (Q.ld rfl rfl) ?_
      refine XO.q (Q.mul rfl rfl ⟨by omega, by omega⟩) ?_
      refine XO.q (Q.build [_, _, _, _, _] (.c 0 1 rfl rfl rfl (.c 1 1 rfl rfl rfl (.c 2 1 rfl rfl rfl (.n _))))) ?_
      refine XO.alloc fun b8 => ?_
      refine XO.st rfl rfl rfl ?_
      rw [hSi, hCi, hKi]
      refine XO.done ?_
      refine XK.seq ?_
      refine XK.seq ?_
      refine XK.region rfl ?_
      refine XO.q (Q.fieldAddr rfl) ?_
      refine XO.q (Q.ld rfl rfl) ?_
      refine XO.q (Q.gtr rfl rfl) ?_
      refine XO.q (Q.move rfl) ?_
      refine XO.q (Quiet.guardF rfl rfl fun g51 p51 => Q.fieldAddr rfl) ?_
      refine XO.q (Quiet.guardF rfl rfl fun g52 p52 => Q.ld (lzv g52 rfl) rfl) ?_
      refine XO.q (Quiet.guardF rfl rfl fun g53 p53 => Q.gtr (lzv g53 rfl) rfl) ?_
      refine XO.q (Q.or rfl (fun hp => lzv hp rfl)) ?_
      refine XO.q (Q.move rfl) ?_
      refine XO.q (Quiet.guardF rfl rfl fun g56 p56 => Q.fieldAddr rfl) ?_
      refine XO.q (Quiet.guardF rfl rfl fun g57 p57 => Q.ld (lzv g57 rfl) rfl) ?_
      refine XO.q (Quiet.guardF rfl rfl fun g58 p58 => Q.gtr (lzv g58 rfl) rfl) ?_
      refine XO.q (Q.or rfl (fun hp => lzv hp rfl)) ?_
      refine XO.done ?_
      refine XK.if rfl (fun c2 => ?_) (fun c2 => ?_)
      · have _t2 := True.intro
        refine XK.seq ?_
        refine XK.region rfl ?_
        refine XO.q (Q.build [_, _, _, _, _] (.n _)) ?_
        refine XO.st rfl rfl rfl ?_
        refine XO.q (Q.assign rfl) ?_
        refine XO.done ?_
        refine XK.rt [emp, emp] Try.func14 Try.results14 (.cell [_, _, _, _, _] rfl rfl rfl (.t rfl .n)) ?_
        have hw := (show product ⟨Sa, Ca, Ka, an, ag⟩ ⟨Sb, Cb, Kb, bn, bg⟩ = (zeroG, 2) by rw [product, if_neg (by simpa using ea), if_neg (by simpa using eb), if_pos (by dsimp only; omega)])
        rw [hw]
        exact ⟨.slice none 0 0, .slice none 0 0, emp, emp, rfl, rfl, OArr.nil (fun _ => rfl), OArr.nil (fun _ => rfl)⟩
      · have _t2 := True.intro
        have hS4 : S * C ≤ 400 * 16 := Nat.mul_le_mul (by omega) (by omega)
        have hS5 : S * C * K ≤ 6400 * 16 := Nat.mul_le_mul (by omega) (by omega)
        refine XK.skip ?_
        refine XK.seq ?_
        refine XK.region rfl ?_
        refine XO.q (Q.fieldAddr rfl) ?_
        refine XO.q (Q.ld rfl rfl) ?_
        refine XO.q (Q.fieldAddr rfl) ?_
        refine XO.q (Q.ld rfl rfl) ?_
        refine XO.q (Q.mul rfl rfl ⟨by omega, by omega⟩) ?_
        rw [show ((S : Int) * (C : Int) : Int) = ((S * C : Nat) : Int) from by simp]
        refine XO.q (Q.fieldAddr rfl) ?_
        refine XO.q (Q.ld rfl rfl) ?_
        refine XO.q (Q.mul rfl rfl ⟨by omega, by omega⟩) ?_
        rw [show (((S * C : Nat) : Int) * (K : Int) : Int) = ((S * C * K : Nat) : Int) from by simp]
        refine XO.make encI (0) rfl rfl rfl (by omega) (by omega) (fun _ => rfl) rfl rfl rfl (by dsimp only [encI]; infer_instance) fun v69 h69 O69 => ?_
        refine XO.q (Q.fieldAddr rfl) ?_
        refine XO.st rfl rfl rfl ?_
        refine XO.done ?_
        refine XK.seq ?_
        refine XK.region rfl ?_
        refine XO.q (Q.fieldAddr rfl) ?_
        refine XO.q (Q.ld rfl rfl) ?_
        refine XO.make encB (false) rfl rfl rfl (by omega) (by omega) (fun _ => rfl) rfl rfl rfl (by dsimp only [encB]; infer_instance) fun v73 h73 O73 => ?_
        refine XO.q (Q.fieldAddr rfl) ?_
        refine XO.st rfl rfl rfl ?_
        refine XO.done ?_
        refine XK.seq ?_
        refine XK.seq ?_
        refine XK.region rfl ?_
        refine XO.q (Q.assign rfl) ?_
        refine XO.done ?_
        refine XK.block ?_
        refine XK.while (X := Nat × PHeap × PHeap) [9, 10, 11, 12, 13, 14, 15, 16, 17, 18, 75, 76, 77, 78, 79, 80, 81, 82, 83, 84, 85, 86, 87, 88, 89, 90, 91, 92, 93, 94, 95, 96, 97, 98, 99, 100, 101, 102, 103, 104, 105, 106, 107, 108, 109, 110, 111, 112, 113, 114, 115, 116, 117, 118, 119, 120, 121, 122, 123, 124, 125, 126, 127, 128, 129, 130, 131, 132, 133, 134, 135, 136, 137, 138, 139, 140, 141, 142, 143, 144, 145, 146, 147, 148, 149, 150, 151, 152, 153, 154, 155, 156, 157, 158, 159, 160, 161, 162, 163, 164, 165, 166, 167, 168, 169, 170, 171, 172, 173, 174, 175, 176, 177, 178, 179] (fun ⟨s, hN, hG⟩ => [(9, some (.int .i64 (s : Nat)))]) (fun ⟨s, hN, hG⟩ => [hN, hG]) (fun ⟨s, hN, hG⟩ => s ≤ Sa ∧ OArr v69 encI 1 3 hN (fillTo 0 (pnext an bn Ca Ka Sb Cb Kb C K) (S * C * K) (s * Sb * C * K)) ∧ OArr v73 encB 1 4 hG (fillTo false (pgood ag bg Sb) S (s * Sb))) (fun ⟨s, hN, hG⟩ => Sa - s) (0, h69, h73) [h69, h73] rfl ⟨by omega, by rw [Nat.zero_mul, Nat.zero_mul, Nat.zero_mul, fillTo_zero]; exact O69, by rw [Nat.zero_mul, fillTo_zero]; exact O73⟩ (.c rfl (.base 0 rfl rfl)) ?_
        rintro ⟨s, hN, hG⟩ ⟨hs, ON, OG⟩ ih0
        dsimp only [List.cons_append, List.nil_append] at ih0 ⊢
        refine XK.seq ?_
        refine XK.seq ?_
        refine XK.region rfl ?_
        refine XO.q (Q.move rfl) ?_
        refine XO.q (Q.fieldAddr rfl) ?_
        refine XO.q (Q.ld rfl rfl) ?_
        refine XO.q (Q.lss rfl rfl) ?_
        refine XO.done ?_
        refine XK.if rfl (fun c3 => ?_) (fun c3 => ?_)
        · have _t3 := True.intro
          refine XK.skip ?_
          refine XK.seq ?_
          refine XK.block ?_
          refine XK.seq ?_
          refine XK.region rfl ?_
          refine XO.q (Q.assign rfl) ?_
          refine XO.done ?_
          refine XK.block ?_
          refine XK.while (X := Nat × PHeap × PHeap) [10, 11, 12, 13, 14, 15, 16, 17, 18, 81, 82, 83, 84, 85, 86, 87, 88, 89, 90, 91, 92, 93, 94, 95, 96, 97, 98, 99, 100, 101, 102, 103, 104, 105, 106, 107, 108, 109, 110, 111, 112, 113, 114, 115, 116, 117, 118, 119, 120, 121, 122, 123, 124, 125, 126, 127, 128, 129, 130, 131, 132, 133, 134, 135, 136, 137, 138, 139, 140, 141, 142, 143, 144, 145, 146, 147, 148, 149, 150, 151, 152, 153, 154, 155, 156, 157, 158, 159, 160, 161, 162, 163, 164, 165, 166, 167, 168, 169, 170, 171, 172, 173, 174, 175, 176, 177, 178, 179] (fun ⟨t, hM, hH⟩ => [(10, some (.int .i64 (t : Nat)))]) (fun ⟨t, hM, hH⟩ => [hM, hH]) (fun ⟨t, hM, hH⟩ => t ≤ Sb ∧ OArr v69 encI 1 3 hM (fillTo 0 (pnext an bn Ca Ka Sb Cb Kb C K) (S * C * K) ((s * Sb + t) * C * K)) ∧ OArr v73 encB 1 4 hH (fillTo false (pgood ag bg Sb) S (s * Sb + t))) (fun ⟨t, hM, hH⟩ => Sb - t) (0, hN, hG) [hN, hG] rfl ⟨by omega, by simpa using ON, by simpa using OG⟩ (.c rfl (.base 0 rfl rfl)) ?_
          rintro ⟨t, hM, hH⟩ ⟨ht, OM, OH⟩ ih1
          dsimp only [List.cons_append, List.nil_append] at ih1 ⊢
          refine XK.seq ?_
          refine XK.seq ?_
          refine XK.region rfl ?_
          refine XO.q (Q.move rfl) ?_
          refine XO.q (Q.fieldAddr rfl) ?_
          refine XO.q (Q.ld rfl rfl) ?_
          refine XO.q (Q.lss rfl rfl) ?_
          refine XO.done ?_
          refine XK.if rfl (fun c4 => ?_) (fun c4 => ?_)
          · have _t4 := True.intro
            have hst := pair_lt (s := s) (Sa := Sa) (t := t) (Sb := Sb) (by omega) (by omega)
            obtain ⟨st, est⟩ : ∃ st, st = s * Sb + t := ⟨_, rfl⟩
            have esti : (s : Int) * (Sb : Int) + (t : Int) = (st : Int) := by rw [est]; simp
            have hsm : s * Sb ≤ Sa * Sb := Nat.mul_le_mul_right _ (by omega)
            rw [← est] at hst
            refine XK.skip ?_
            refine XK.seq ?_
            refine XK.block ?_
            refine XK.seq ?_
            refine XK.region rfl ?_
            refine XO.q (Q.move rfl) ?_
            refine XO.q (Q.fieldAddr rfl) ?_
            refine XO.q (Q.ld rfl rfl) ?_
            refine XO.q (Q.mul rfl rfl ⟨by omega, by omega⟩) ?_
            refine XO.q (Q.move rfl) ?_
            refine XO.q (Q.add rfl rfl ⟨by omega, by omega⟩) ?_
            rw [esti]
            refine XO.q (Q.assign rfl) ?_
            refine XO.done ?_
            refine XK.seq ?_
            refine XK.drawn [0, 1, 2, 3, 4, 5, 6, 7, 8, 9, 10, 11, 12, 13, 14, 15] [b8, b2, b3] [] (.q 0 (.q 1 (.q 2 (.q 3 (.q 4 (.q 5 (.q 6 (.q 7 (.q 8 (.q 9 (.q 10 (.q 11 (.q 12 (.q 13 (.q 14 (.q 15 (.br 16 false .done .stop))))))))))))))))) Try.mixed rfl (by kernel_rfl) ?_
            refine XT.q rfl rfl (Q.fieldAddr rfl) ?_
            refine XT.q rfl rfl (Q.ld rfl rfl) ?_
            refine XT.q rfl rfl (Q.move rfl) ?_
            refine XT.q rfl rfl (Q.fieldAddr rfl) ?_
            refine XT.q rfl rfl (Q.ld rfl rfl) ?_
            refine XT.q rfl rfl (Q.move rfl) ?_
            refine XT.ix rfl rfl rfl rfl (by omega) (by omega) fun i99 => ?_
            refine XT.q rfl rfl (Q.ldE rfl (by first | assumption | omega) rfl) ?_
            refine XT.q rfl rfl (Q.move rfl) ?_
            refine XT.q rfl rfl (Quiet.guardT rfl rfl fun g102 p102 => Q.fieldAddr rfl) ?_
            refine XT.q rfl rfl (Quiet.guardT rfl rfl fun g103 p103 => Q.ld (lzv g103 rfl) rfl) ?_
            refine XT.q rfl rfl (Quiet.guardT rfl rfl fun g104 p104 => Q.move rfl) ?_
            refine XT.q rfl rfl (Quiet.guardT rfl rfl fun g105 p105 => Q.ix (lzv g105 rfl) (lzv g105 rfl) (by omega) (by omega)) ?_
            refine XT.q rfl rfl (Quiet.guardT rfl rfl fun g106 p106 => Q.ldE (lzv g106 rfl) (by first | assumption | omega) rfl) ?_
            refine XT.q rfl rfl (Q.and rfl (fun hp => lzv hp rfl)) ?_
            refine XT.ix rfl rfl rfl rfl (by omega) (by rw [fillTo_len]; omega) fun i108 => ?_
            refine XT.stE _ rfl rfl rfl rfl rfl (by assumption) rfl rfl (fun h19_16 O19_16 => ⟨inferInstance, ?_⟩) XT.stop
            have O19 : OArr v73 encB 1 4 h19_16 (fillTo false (pgood ag bg Sb) S (st + 1)) := by
              rw [← fillTo_set, est, pgood_at (by omega)]; rw [est] at O19_16; exact O19_16
            refine XT.done ?_
            refine XK.seq ?_
            refine XK.region rfl ?_
            refine XO.q (Q.assign rfl) ?_
            refine XO.done ?_
            refine XK.block ?_
            refine XK.while (X := Nat × PHeap) [12, 13, 14, 15, 16, 17, 18, 109, 110, 111, 112, 113, 114, 115, 116, 117, 118, 119, 120, 121, 122, 123, 124, 125, 126, 127, 128, 129, 130, 131, 132, 133, 134, 135, 136, 137, 138, 139, 140, 141, 142, 143, 144, 145, 146, 147, 148, 149, 150, 151, 152, 153, 154, 155, 156, 157, 158, 159, 160, 161, 162, 163, 164, 165, 166, 167, 168, 169, 170, 171, 172, 173, 174, 175, 176, 177, 178, 179] (fun ⟨u, hP⟩ => [(12, some (.int .i64 (u : Nat)))]) (fun ⟨u, hP⟩ => [hP]) (fun ⟨u, hP⟩ => u ≤ Ca ∧ OArr v69 encI 1 3 hP (fillTo 0 (pnext an bn Ca Ka Sb Cb Kb C K) (S * C * K) ((st * C + u * Cb) * K))) (fun ⟨u, hP⟩ => Ca - u) (0, hM) [hM] rfl ⟨by omega, by rw [est]; simpa using OM⟩ (.c rfl (.base 0 rfl rfl)) ?_
            rintro ⟨u, hP⟩ ⟨hu, OP⟩ ih2
            dsimp only [List.cons_append, List.nil_append] at ih2 ⊢
            refine XK.seq ?_
            refine XK.seq ?_
            refine XK.region rfl ?_
            refine XO.q (Q.move rfl) ?_
            refine XO.q (Q.fieldAddr rfl) ?_
            refine XO.q (Q.ld rfl rfl) ?_
            refine XO.q (Q.lss rfl rfl) ?_
            refine XO.done ?_
            refine XK.if rfl (fun c5 => ?_) (fun c5 => ?_)
            · have _t5 := True.intro
              refine XK.skip ?_
              refine XK.seq ?_
              refine XK.block ?_
              refine XK.seq ?_
              refine XK.region rfl ?_
              refine XO.q (Q.assign rfl) ?_
              refine XO.done ?_
              refine XK.block ?_
              refine XK.while (X := Nat × PHeap) [13, 14, 15, 16, 17, 18, 115, 116, 117, 118, 119, 120, 121, 122, 123, 124, 125, 126, 127, 128, 129, 130, 131, 132, 133, 134, 135, 136, 137, 138, 139, 140, 141, 142, 143, 144, 145, 146, 147, 148, 149, 150, 151, 152, 153, 154, 155, 156, 157, 158, 159, 160, 161, 162, 163, 164, 165, 166, 167, 168, 169, 170, 171, 172, 173, 174, 175, 176, 177, 178, 179] (fun ⟨v, hQ⟩ => [(13, some (.int .i64 (v : Nat)))]) (fun ⟨v, hQ⟩ => [hQ]) (fun ⟨v, hQ⟩ => v ≤ Cb ∧ OArr v69 encI 1 3 hQ (fillTo 0 (pnext an bn Ca Ka Sb Cb Kb C K) (S * C * K) ((st * C + (u * Cb + v)) * K))) (fun ⟨v, hQ⟩ => Cb - v) (0, hP) [hP] rfl ⟨by omega, by simpa using OP⟩ (.c rfl (.base 0 rfl rfl)) ?_
              rintro ⟨v, hQ⟩ ⟨hv, OQ⟩ ih3
              dsimp only [List.cons_append, List.nil_append] at ih3 ⊢
              refine XK.seq ?_
              refine XK.seq ?_
              refine XK.region rfl ?_
              refine XO.q (Q.move rfl) ?_
              refine XO.q (Q.fieldAddr rfl) ?_
              refine XO.q (Q.ld rfl rfl) ?_
              refine XO.q (Q.lss rfl rfl) ?_
              refine XO.done ?_
              refine XK.if rfl (fun c6 => ?_) (fun c6 => ?_)
              · have _t6 := True.intro
                refine XK.skip ?_
                refine XK.seq ?_
                refine XK.block ?_
                refine XK.seq ?_
                refine XK.region rfl ?_
                refine XO.q (Q.assign rfl) ?_
                refine XO.done ?_
                refine XK.block ?_
                refine XK.while (X := Nat × PHeap) [14, 15, 16, 17, 18, 121, 122, 123, 124, 125, 126, 127, 128, 129, 130, 131, 132, 133, 134, 135, 136, 137, 138, 139, 140, 141, 142, 143, 144, 145, 146, 147, 148, 149, 150, 151, 152, 153, 154, 155, 156, 157, 158, 159, 160, 161, 162, 163, 164, 165, 166, 167, 168, 169, 170, 171, 172, 173, 174, 175, 176, 177, 178, 179] (fun ⟨w, hR⟩ => [(14, some (.int .i64 (w : Nat)))]) (fun ⟨w, hR⟩ => [hR]) (fun ⟨w, hR⟩ => w ≤ Ka ∧ OArr v69 encI 1 3 hR (fillTo 0 (pnext an bn Ca Ka Sb Cb Kb C K) (S * C * K) ((st * C + (u * Cb + v)) * K + w * Kb))) (fun ⟨w, hR⟩ => Ka - w) (0, hQ) [hQ] rfl ⟨by omega, by simpa using OQ⟩ (.c rfl (.base 0 rfl rfl)) ?_
                rintro ⟨w, hR⟩ ⟨hw, OR⟩ ih4
                dsimp only [List.cons_append, List.nil_append] at ih4 ⊢
                refine XK.seq ?_
                refine XK.seq ?_
                refine XK.region rfl ?_
                refine XO.q (Q.move rfl) ?_
                refine XO.q (Q.fieldAddr rfl) ?_
                refine XO.q (Q.ld rfl rfl) ?_
                refine XO.q (Q.lss rfl rfl) ?_
                refine XO.done ?_
                refine XK.if rfl (fun c7 => ?_) (fun c7 => ?_)
                · have _t7 := True.intro
                  refine XK.skip ?_
                  refine XK.seq ?_
                  refine XK.block ?_
                  refine XK.seq ?_
                  refine XK.region rfl ?_
                  refine XO.q (Q.assign rfl) ?_
                  refine XO.done ?_
                  refine XK.block ?_
                  refine XK.while (X := Nat × PHeap) [15, 16, 17, 18, 127, 128, 129, 130, 131, 132, 133, 134, 135, 136, 137, 138, 139, 140, 141, 142, 143, 144, 145, 146, 147, 148, 149, 150, 151, 152, 153, 154, 155, 156, 157, 158, 159, 160, 161, 162, 163, 164, 165, 166, 167, 168, 169, 170, 171, 172, 173, 174, 175, 176, 177, 178, 179] (fun ⟨x, hT⟩ => [(15, some (.int .i64 (x : Nat)))]) (fun ⟨x, hT⟩ => [hT]) (fun ⟨x, hT⟩ => x ≤ Kb ∧ OArr v69 encI 1 3 hT (fillTo 0 (pnext an bn Ca Ka Sb Cb Kb C K) (S * C * K) ((st * C + (u * Cb + v)) * K + (w * Kb + x)))) (fun ⟨x, hT⟩ => Kb - x) (0, hR) [hR] rfl ⟨by omega, by simpa using OR⟩ (.c rfl (.base 0 rfl rfl)) ?_
                  rintro ⟨x, hT⟩ ⟨hx, OT⟩ ih5
                  dsimp only [List.cons_append, List.nil_append] at ih5 ⊢
                  refine XK.seq ?_
                  refine XK.seq ?_
                  refine XK.region rfl ?_
                  refine XO.q (Q.move rfl) ?_
                  refine XO.q (Q.fieldAddr rfl) ?_
                  refine XO.q (Q.ld rfl rfl) ?_
                  refine XO.q (Q.lss rfl rfl) ?_
                  refine XO.done ?_
                  refine XK.if rfl (fun c8 => ?_) (fun c8 => ?_)
                  · have _t8 := True.intro
                    have huv := pair_lt (s := u) (Sa := Ca) (t := v) (Sb := Cb) (by omega) (by omega)
                    obtain ⟨uv, euv⟩ : ∃ uv, uv = u * Cb + v := ⟨_, rfl⟩
                    have hwx := pair_lt (s := w) (Sa := Ka) (t := x) (Sb := Kb) (by omega) (by omega)
                    obtain ⟨wx, ewx⟩ : ∃ wx, wx = w * Kb + x := ⟨_, rfl⟩
                    rw [← euv, ← hC] at huv
                    rw [← ewx, ← hK] at hwx
                    have hlk := lead_le (K := K) (C := C) (S := S) (s := st) (u := uv) (by omega) huv
                    obtain ⟨n, en⟩ : ∃ n, n = (st * C + uv) * K + wx := ⟨_, rfl⟩
                    have hxa := oka.get ((s * Ca + u) * Ka + w)
                    have hxb := okb.get ((t * Cb + v) * Kb + x)
                    have hmb := mul_bd2 hxa.1 hxa.2 oka.s2 okb.s2
                    have hsb2 := okb.s2
                    have hcb := okb.c2
                    have m1 : st * C ≤ 400 * 16 := Nat.mul_le_mul (by omega) (by omega)
                    have m2 : u * Cb ≤ 16 * 16 := Nat.mul_le_mul (by have := oka.c2; omega) (by omega)
                    have m4 : w * Kb ≤ 16 * 16 := Nat.mul_le_mul (by have := oka.k2; omega) (by have := okb.k2; omega)
                    have m3 : ((st : Int) * (C : Int) + (u : Int) * (Cb : Int) + (v : Int)) * (K : Int) = (((st * C + uv) * K : Nat) : Int) := by rw [euv]; simp [Int.add_assoc]
                    have m5 : ((st : Int) * (C : Int) + (u : Int) * (Cb : Int) + (v : Int)) * (K : Int) + (w : Int) * (Kb : Int) + (x : Int) = (n : Int) := by rw [m3, en, ewx]; simp [Int.add_assoc]
                    have hpc : pnext an bn Ca Ka Sb Cb Kb C K n = if an.getD ((s * Ca + u) * Ka + w) 0 < 0 ∨ bn.getD ((t * Cb + v) * Kb + x) 0 < 0 then -1 else an.getD ((s * Ca + u) * Ka + w) 0 * Sb + bn.getD ((t * Cb + v) * Kb + x) 0 := by
                      rw [en, pnext_at huv hwx, est, euv, ewx]; exact pcell_at (by omega) (by omega) (by omega)
                    refine XK.skip ?_
                    refine XK.seq ?_
                    refine XK.block ?_
                    refine XK.seq ?_
                    refine XK.drawn [0, 1, 2, 3, 5, 6, 7, 8, 10, 11] [b2, b3] [] (.q 0 (.q 1 (.q 2 (.q 3 (.q 5 (.q 6 (.q 7 (.q 8 (.br 4 true (.br 9 true (.q 10 (.q 11 .done)) .stop) .stop))))))))) Try.mixed rfl (by kernel_rfl) ?_
                    refine XT.q rfl rfl (Q.ldA [_, _, _, _, _] rfl rfl rfl) ?_
                    refine XT.q rfl rfl (Q.move rfl) ?_
                    refine XT.q rfl rfl (Q.move rfl) ?_
                    refine XT.q rfl rfl (Q.move rfl) ?_
                    refine XT.q rfl rfl (Q.ldA [_, _, _, _, _] rfl rfl rfl) ?_
                    refine XT.q rfl rfl (Q.move rfl) ?_
                    refine XT.q rfl rfl (Q.move rfl) ?_
                    refine XT.q rfl rfl (Q.move rfl) ?_
                    refine XT.call rfl rfl Try.call42 rfl rfl rfl (refLeads Sa Ca Ka an ag oka vn vg hn s u w (by omega) (by omega) (by omega)) (fun v137 s137 R137 => ?_) XT.stop
                    obtain ⟨rfl, rfl⟩ := R137
                    dsimp only [List.cons_append, List.nil_append]
                    refine ⟨inferInstance, ?_⟩
                    refine XT.call rfl rfl Try.call42 rfl rfl rfl (refLeads Sb Cb Kb bn bg okb wn wg kn t v x (by omega) (by omega) (by omega)) (fun v142 s142 R142 => ?_) XT.stop
                    obtain ⟨rfl, rfl⟩ := R142
                    dsimp only [List.cons_append, List.nil_append]
                    refine ⟨inferInstance, ?_⟩
                    refine XT.q rfl rfl (Q.assign rfl) ?_
                    refine XT.q rfl rfl (Q.assign rfl) ?_
                    refine XT.done ?_
                    refine XK.seq ?_
                    refine XK.region rfl ?_
                    refine XO.q (Q.move rfl) ?_
                    refine XO.q (Q.fieldAddr rfl) ?_
                    refine XO.q (Q.ld rfl rfl) ?_
                    refine XO.q (Q.mul rfl rfl ⟨by omega, by omega⟩) ?_
                    refine XO.q (Q.move rfl) ?_
                    refine XO.q (Q.add rfl rfl ⟨by omega, by omega⟩) ?_
                    refine XO.q (Q.assign rfl) ?_
                    refine XO.done ?_
                    refine XK.seq ?_
                    refine XK.seq ?_
                    refine XK.region rfl ?_
                    refine XO.q (Q.move rfl) ?_
                    refine XO.q (Q.lss rfl rfl) ?_
                    refine XO.q (Q.move rfl) ?_
                    refine XO.q (Quiet.guardF rfl rfl fun g152 p152 => Q.move rfl) ?_
                    refine XO.q (Quiet.guardF rfl rfl fun g153 p153 => Q.lss (lzv g153 rfl) rfl) ?_
                    refine XO.q (Q.or rfl (fun hp => lzv hp rfl)) ?_
                    refine XO.done ?_
                    refine XK.meet (X := Int) [18] (fun y => [(18, some (.int .i64 y))]) (fun y => []) (fun y => y = (pnext an bn Ca Ka Sb Cb Kb C K) n) [] ?_ ?_
                    · rintro y ey
                      dsimp only [List.cons_append, List.nil_append]
                      subst ey
                      rw [← euv, ← ewx, ← en] at OT
                      refine XK.region rfl ?_
                      refine XO.q (Q.fieldAddr rfl) ?_
                      refine XO.q (Q.ld rfl rfl) ?_
                      refine XO.q (Q.move rfl) ?_
                      refine XO.q (Q.fieldAddr rfl) ?_
                      refine XO.q (Q.ld rfl rfl) ?_
                      refine XO.q (Q.mul rfl rfl ⟨by omega, by omega⟩) ?_
                      refine XO.q (Q.move rfl) ?_
                      refine XO.q (Q.fieldAddr rfl) ?_
                      refine XO.q (Q.ld rfl rfl) ?_
                      refine XO.q (Q.mul rfl rfl ⟨by omega, by omega⟩) ?_
                      refine XO.q (Q.add rfl rfl ⟨by omega, by omega⟩) ?_
                      refine XO.q (Q.move rfl) ?_
                      refine XO.q (Q.add rfl rfl ⟨by omega, by omega⟩) ?_
                      refine XO.q (Q.fieldAddr rfl) ?_
                      refine XO.q (Q.ld rfl rfl) ?_
                      refine XO.q (Q.mul rfl rfl ⟨by omega, by omega⟩) ?_
                      refine XO.q (Q.move rfl) ?_
                      refine XO.q (Q.fieldAddr rfl) ?_
                      refine XO.q (Q.ld rfl rfl) ?_
                      refine XO.q (Q.mul rfl rfl ⟨by omega, by omega⟩) ?_
                      refine XO.q (Q.add rfl rfl ⟨by omega, by omega⟩) ?_
                      refine XO.q (Q.move rfl) ?_
                      refine XO.q (Q.add rfl rfl ⟨by omega, by omega⟩) ?_
                      rw [m5]
                      refine XO.q (Q.move rfl) ?_
                      refine XO.ix rfl rfl (by omega) (by rw [fillTo_len]; omega) fun i179 => ?_
                      refine XO.stE _ rfl rfl rfl (by assumption) rfl rfl fun h36_25 O36_25 => ?_
                      have O36 : OArr v69 encI 1 3 h36_25 (fillTo 0 (pnext an bn Ca Ka Sb Cb Kb C K) (S * C * K) (n + 1)) := by
                        rw [← fillTo_set]; exact O36_25
                      refine XO.done ?_
                      refine XK.inBlock ?_
                      refine XK.region rfl ?_
                      refine XO.q (Q.move rfl) ?_
                      refine XO.q (Q.add rfl rfl ⟨by omega, by omega⟩) ?_
                      refine XO.q (Q.assign rfl) ?_
                      refine XO.done ?_
                      exact ih5 (x + 1, h36_25) _ _ ⟨by omega, by rw [← Nat.add_assoc (w * Kb), ← Nat.add_assoc, ← euv, ← ewx, ← en]; exact O36⟩ (by first | omega | (dsimp only; omega)) (.c rfl (.base 117 rfl rfl)) inferInstance
                    · intro mt9
                      dsimp only [List.cons_append, List.nil_append] at mt9
                      refine XK.if rfl (fun c9 => ?_) (fun c9 => ?_)
                      · have _t9 := True.intro
                        refine XK.region rfl ?_
                        refine XO.q (Q.assign rfl) ?_
                        refine XO.done ?_
                        exact mt9 (-1) _ _ (by rw [hpc, if_pos c9]) (.c rfl (.base 1 rfl rfl)) inferInstance
                      · have _t9 := True.intro
                        refine XK.skip ?_
                        exact mt9 (an.getD ((s * Ca + u) * Ka + w) 0 * Sb + bn.getD ((t * Cb + v) * Kb + x) 0) _ _ (by rw [hpc, if_neg c9]) (.c rfl (.base 0 rfl rfl)) inferInstance
                  · have _t8 := True.intro
                    refine XK.exit rfl ?_
                    refine XK.inBlock ?_
                    refine XK.region rfl ?_
                    refine XO.q (Q.move rfl) ?_
                    refine XO.q (Q.add rfl rfl ⟨by omega, by omega⟩) ?_
                    refine XO.q (Q.assign rfl) ?_
                    refine XO.done ?_
                    exact ih4 (w + 1, hT) _ _ ⟨by omega, by rw [Nat.add_mul w 1 Kb, Nat.one_mul]; simpa [show x = Kb by omega] using OT⟩ (by first | omega | (dsimp only; omega)) (.c rfl (.base 135 rfl rfl)) inferInstance
                · have _t7 := True.intro
                  refine XK.exit rfl ?_
                  refine XK.inBlock ?_
                  refine XK.region rfl ?_
                  refine XO.q (Q.move rfl) ?_
                  refine XO.q (Q.add rfl rfl ⟨by omega, by omega⟩) ?_
                  refine XO.q (Q.assign rfl) ?_
                  refine XO.done ?_
                  exact ih3 (v + 1, hR) _ _ ⟨by omega, by rw [← Nat.add_assoc (u * Cb), ← Nat.add_assoc (st * C), Nat.add_mul _ 1 K, Nat.one_mul]; simpa [show w = Ka by omega, ← hK] using OR⟩ (by first | omega | (dsimp only; omega)) (.c rfl (.base 149 rfl rfl)) inferInstance
              · have _t6 := True.intro
                refine XK.exit rfl ?_
                refine XK.inBlock ?_
                refine XK.region rfl ?_
                refine XO.q (Q.move rfl) ?_
                refine XO.q (Q.add rfl rfl ⟨by omega, by omega⟩) ?_
                refine XO.q (Q.assign rfl) ?_
                refine XO.done ?_
                exact ih2 (u + 1, hQ) _ _ ⟨by omega, by rw [Nat.add_mul u 1 Cb, Nat.one_mul, show Cb = v by omega]; rw [show v = Cb by omega] at OQ ⊢; exact OQ⟩ (by first | omega | (dsimp only; omega)) (.c rfl (.base 163 rfl rfl)) inferInstance
            · have _t5 := True.intro
              refine XK.exit rfl ?_
              refine XK.inBlock ?_
              refine XK.region rfl ?_
              refine XO.q (Q.move rfl) ?_
              refine XO.q (Q.add rfl rfl ⟨by omega, by omega⟩) ?_
              refine XO.q (Q.assign rfl) ?_
              refine XO.done ?_
              exact ih1 (t + 1, hP, h19_16) _ _ ⟨by omega, by rw [← Nat.add_assoc, ← est, Nat.add_mul st 1 C, Nat.one_mul]; simpa [show u = Ca by omega, ← hC] using OP, by rw [← Nat.add_assoc, ← est]; exact O19⟩ (by first | omega | (dsimp only; omega)) (.c rfl (.base 223 rfl rfl)) inferInstance
          · have _t4 := True.intro
            refine XK.exit rfl ?_
            refine XK.inBlock ?_
            refine XK.region rfl ?_
            refine XO.q (Q.move rfl) ?_
            refine XO.q (Q.add rfl rfl ⟨by omega, by omega⟩) ?_
            refine XO.q (Q.assign rfl) ?_
            refine XO.done ?_
            exact ih0 (s + 1, hM, hH) _ _ ⟨by omega, by rw [Nat.add_mul s 1 Sb, Nat.one_mul]; simpa [show t = Sb by omega] using OM, by rw [Nat.add_mul s 1 Sb, Nat.one_mul]; simpa [show t = Sb by omega] using OH⟩ (by first | omega | (dsimp only; omega)) (.c rfl (.base 237 rfl rfl)) inferInstance
        · have _t3 := True.intro
          refine XK.exit rfl ?_
          refine XK.seq ?_
          refine XK.region rfl ?_
          refine XO.q (Q.ldA [_, _, _, _, _] rfl rfl rfl) ?_
          refine XO.st rfl rfl rfl ?_
          refine XO.q (Q.assign rfl) ?_
          refine XO.done ?_
          refine XK.rt [hN, hG] Try.func14 Try.results14 (.cell [_, _, _, _, _] rfl rfl rfl (.t rfl .n)) ?_
          have hw : product ⟨Sa, Ca, Ka, an, ag⟩ ⟨Sb, Cb, Kb, bn, bg⟩ = (⟨S, C, K, (List.range (S * C * K)).map (pnext an bn Ca Ka Sb Cb Kb C K), (List.range S).map (pgood ag bg Sb)⟩, 0) := by
            rw [product, if_neg (by simpa using ea), if_neg (by simpa using eb), if_neg (by dsimp only; omega)]; dsimp only; rw [hSi, hCi, hKi]; simp only [Int.toNat_natCast]
          rw [hw]
          have hsS : s * Sb = S := by rw [show s = Sa by omega, hS]
          rw [hsS, fillTo_full (Nat.le_refl _)] at ON OG
          exact ⟨v69, v73, hN, hG, rfl, rfl, ON, OG⟩
end Go.X
