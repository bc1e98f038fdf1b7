/- Contracts of functions of the program, each proved by a walk through its operations. No condition but those that stand in each theorem. -/
import Derived.Test.YtfenlpoaphbfgaaK5
import Derived.Test.YtfenlpoaphbfgaaP3
set_option linter.unusedSimpArgs false
set_option linter.unusedVariables false
namespace Go.X
open Go.Proofs
theorem refWithout (g : G) (vn vg : Value) (hn hg : PHeap) [sn : Arr vn encI 1 hn g.next] [sg : Arr vg encB 1 hg g.good] (u : Int) : Spec Try.prog 17 #[.agg #[.int .i64 g.S, .int .i64 g.C, .int .i64 g.K, vn, vg], .int .i64 u] [] [hn, hg] (fun v hs => ∃ v1 v2 k1 k2, v = .tuple #[.agg #[.int .i64 (without g u).1.S, .int .i64 (without g u).1.C, .int .i64 (without g u).1.K, v1, v2], .int .i64 (without g u).2] ∧ hs = [k1, k2] ∧
      OArr v1 encI 1 3 k1 (without g u).1.next ∧ OArr v2 encB 1 4 k2 (without g u).1.good) := by
  refine Spec.intro (fn := Try.f17) (N := 75) Try.func17 rfl Try.ntmps17 rfl fun B => ?_
  have hnil : OArr (.slice none 0 0) encI 1 3 emp ([] : List Int) := OArr.nil (fun _ => rfl)
  refine XK.seq ?_
  refine XK.region rfl ?_
  refine XO.box rfl fun b2 => ?_
  refine XO.alloc fun b4 => ?_
  refine XO.q (Q.assign rfl) ?_
  refine XO.done ?_
  refine XK.seq ?_
  refine XK.seq ?_
  refine XK.region rfl ?_
  refine XO.q (Q.ldA [_, _, _, _, _] rfl rfl rfl) ?_
  refine XO.call Try.call41 rfl rfl rfl (refCheck _ _ _ _ _) fun v13 s13 R13 => ?_
  obtain ⟨rfl, rfl⟩ := R13
  dsimp only [List.cons_append, List.nil_append]
  refine XO.q (Q.assign rfl) ?_
  refine XO.done ?_
  refine XK.seq ?_
  refine XK.region rfl ?_
  refine XO.q (Q.move rfl) ?_
  refine XO.q (Q.neq rfl rfl) ?_
  refine XO.done ?_
  refine XK.if rfl (fun c0 => ?_) (fun c0 => ?_)
  · have _t0 := True.intro
    refine XK.seq ?_
    refine XK.region rfl ?_
    refine XO.q (Q.build [_, _, _, _, _] (.n _)) ?_
    refine XO.q (Q.move rfl) ?_
    refine XO.st rfl rfl rfl ?_
    refine XO.q (Q.assign rfl) ?_
    refine XO.done ?_
    refine XK.rt [emp, emp] Try.func17 Try.results17 (.cell [_, _, _, _, _] rfl rfl rfl (.t rfl .n)) ?_
    have hw := without_bad (u := u) c0
    rw [hw]
    exact ⟨.slice none 0 0, .slice none 0 0, emp, emp, rfl, rfl, OArr.nil (fun _ => rfl), OArr.nil (fun _ => rfl)⟩
  · have _t0 := True.intro
    obtain ⟨S, C, K, hS, hC, hK, ok⟩ := gcheck_ok (Decidable.of_not_not c0)
    obtain ⟨gS, gC, gK, next, good⟩ := g
    dsimp only at hS hC hK ok sn sg ⊢
    subst hS hC hK
    have okb := ok.sc
    have okl := ok.len
    have okg := ok.glen
    have okc := ok.c1
    have okc2 := ok.c2
    have oks := ok.s2
    have okk := ok.k2
    refine XK.skip ?_
    refine XK.seq ?_
    refine XK.seq ?_
    refine XK.region rfl ?_
    refine XO.q (Q.move rfl) ?_
    refine XO.q (Q.fieldAddr rfl) ?_
    refine XO.q (Q.ld rfl rfl) ?_
    refine XO.q (Q.sub rfl rfl ⟨by omega, by omega⟩) ?_
    refine XO.call Try.call44 rfl rfl rfl (refIn _ _ _) fun v22 s22 R22 => ?_
    obtain ⟨rfl, rfl⟩ := R22
    dsimp only [List.cons_append, List.nil_append]
    refine XO.q (Q.not rfl) ?_
    refine XO.done ?_
    refine XK.if rfl (fun c1 => ?_) (fun c1 => ?_)
    · have _t1 := True.intro
      simp at c1
      refine XK.seq ?_
      refine XK.region rfl ?_
      refine XO.q (Q.build [_, _, _, _, _] (.n _)) ?_
      refine XO.st rfl rfl rfl ?_
      refine XO.q (Q.assign rfl) ?_
      refine XO.done ?_
      refine XK.rt [emp, emp] Try.func17 Try.results17 (.cell [_, _, _, _, _] rfl rfl rfl (.t rfl .n)) ?_
      have hw := (show without ⟨S, C, K, next, good⟩ u = (zeroG, 1) by rw [without, if_neg c0, if_pos (by dsimp only; omega)])
      rw [hw]
      exact ⟨.slice none 0 0, .slice none 0 0, emp, emp, rfl, rfl, OArr.nil (fun _ => rfl), OArr.nil (fun _ => rfl)⟩
    · have _t1 := True.intro
      simp at c1
      obtain ⟨un, hu⟩ := Int.eq_ofNat_of_zero_le (a := u) (by omega)
      subst hu
      refine XK.skip ?_
      refine XK.seq ?_
      refine XK.seq ?_
      refine XK.region rfl ?_
      refine XO.q (Q.fieldAddr rfl) ?_
      refine XO.q (Q.ld rfl rfl) ?_
      refine XO.q (Q.eql rfl rfl) ?_
      refine XO.done ?_
      refine XK.if rfl (fun c2 => ?_) (fun c2 => ?_)
      · have _t2 := True.intro
        refine XK.seq ?_
        refine XK.region rfl ?_
        refine XO.q (Q.build [_, _, _, _, _] (.n _)) ?_
        refine XO.st rfl rfl rfl ?_
        refine XO.q (Q.assign rfl) ?_
        refine XO.done ?_
        refine XK.rt [emp, emp] Try.func17 Try.results17 (.cell [_, _, _, _, _] rfl rfl rfl (.t rfl .n)) ?_
        have hw := (show without ⟨S, C, K, next, good⟩ un = (zeroG, 2) by rw [without, if_neg c0, if_neg (by dsimp only; omega), if_pos (by dsimp only; omega)])
        rw [hw]
        exact ⟨.slice none 0 0, .slice none 0 0, emp, emp, rfl, rfl, OArr.nil (fun _ => rfl), OArr.nil (fun _ => rfl)⟩
      · have _t2 := True.intro
        refine XK.skip ?_
        refine XK.seq ?_
        refine XK.meet (X := Nat × Value × PHeap) [7, 29, 30, 31, 32, 33, 34, 35, 36, 37, 38, 39] (fun ⟨b7, v38, h38⟩ => [(7, some (ptr b7 0))]) (fun ⟨b7, v38, h38⟩ => [blk b7 [.int .i64 (S : Nat), .int .i64 ((C : Nat) - 1 : Int), .int .i64 (K : Nat), .slice none 0 0, v38] 28, h38]) (fun ⟨b7, v38, h38⟩ => OArr v38 encB 1 4 h38 good) [] ?_ ?_
        · rintro ⟨b7, v38, h38⟩ O38
          dsimp only [List.cons_append, List.nil_append]
          refine XK.seq ?_
          refine XK.seq ?_
          refine XK.region rfl ?_
          refine XO.q (Q.assign rfl) ?_
          refine XO.done ?_
          refine XK.block ?_
          refine XK.while (X := Nat × Value × PHeap) [8, 9, 10, 11, 40, 41, 42, 43, 44, 45, 46, 47, 48, 49, 50, 51, 52, 53, 54, 55, 56, 57, 58, 59, 60, 61, 62, 63, 64, 65, 66, 67, 68, 69, 70, 71, 72, 73] (fun ⟨s, vN, hN⟩ => [(8, some (.int .i64 (s : Nat)))]) (fun ⟨s, vN, hN⟩ => [blk b7 [.int .i64 (S : Nat), .int .i64 ((C : Nat) - 1 : Int), .int .i64 (K : Nat), vN, v38] 28, hN]) (fun ⟨s, vN, hN⟩ => s ≤ S ∧ OArr vN encI 1 3 hN (rowsW next C K un s)) (fun ⟨s, vN, hN⟩ => S - s) (0, .slice none 0 0, emp) [blk b7 [.int .i64 (S : Nat), .int .i64 ((C : Nat) - 1 : Int), .int .i64 (K : Nat), .slice none 0 0, v38] 28, emp] rfl ⟨by omega, by simpa [rowsW] using hnil⟩ (.c rfl (.base 0 rfl rfl)) ?_
          rintro ⟨s, vN, hN⟩ ⟨hs, ON⟩ ih0
          dsimp only [List.cons_append, List.nil_append] at ih0 ⊢
          refine XK.seq ?_
          refine XK.seq ?_
          refine XK.region rfl ?_
          refine XO.q (Q.move rfl) ?_
          refine XO.q (Q.fieldAddr rfl) ?_
          refine XO.q (Q.ld rfl rfl) ?_
          refine XO.q (Q.lss rfl rfl) ?_
          refine XO.done ?_
          refine XK.if rfl (fun c3 => ?_) (fun c3 => ?_)
          · have _t3 := True.intro
            refine XK.skip ?_
            refine XK.seq ?_
            refine XK.block ?_
            refine XK.seq ?_
            refine XK.region rfl ?_
            refine XO.q (Q.assign rfl) ?_
            refine XO.done ?_
            refine XK.block ?_
            refine XK.while (X := Nat × Value × PHeap) [9, 10, 11, 46, 47, 48, 49, 50, 51, 52, 53, 54, 55, 56, 57, 58, 59, 60, 61, 62, 63, 64, 65, 66, 67, 68, 69, 70, 71, 72, 73] (fun ⟨v, vM, hM⟩ => [(9, some (.int .i64 (v : Nat)))]) (fun ⟨v, vM, hM⟩ => [blk b7 [.int .i64 (S : Nat), .int .i64 ((C : Nat) - 1 : Int), .int .i64 (K : Nat), vM, v38] 28, hM]) (fun ⟨v, vM, hM⟩ => v ≤ C ∧ OArr vM encI 1 3 hM (rowsW next C K un s ++ (List.range v).flatMap (cellW next C K un s))) (fun ⟨v, vM, hM⟩ => C - v) (0, vN, hN) [blk b7 [.int .i64 (S : Nat), .int .i64 ((C : Nat) - 1 : Int), .int .i64 (K : Nat), vN, v38] 28, hN] rfl ⟨by omega, by simpa using ON⟩ (.c rfl (.base 0 rfl rfl)) ?_
            rintro ⟨v, vM, hM⟩ ⟨hv, OM⟩ ih1
            dsimp only [List.cons_append, List.nil_append] at ih1 ⊢
            refine XK.seq ?_
            refine XK.seq ?_
            refine XK.region rfl ?_
            refine XO.q (Q.move rfl) ?_
            refine XO.q (Q.fieldAddr rfl) ?_
            refine XO.q (Q.ld rfl rfl) ?_
            refine XO.q (Q.lss rfl rfl) ?_
            refine XO.done ?_
            refine XK.if rfl (fun c4 => ?_) (fun c4 => ?_)
            · have _t4 := True.intro
              refine XK.skip ?_
              refine XK.seq ?_
              refine XK.block ?_
              refine XK.seq ?_
              refine XK.region rfl ?_
              refine XO.q (Q.assign rfl) ?_
              refine XO.done ?_
              refine XK.block ?_
              refine XK.while (X := Nat × Value × PHeap) [10, 11, 52, 53, 54, 55, 56, 57, 58, 59, 60, 61, 62, 63, 64, 65, 66, 67, 68, 69, 70, 71, 72, 73] (fun ⟨w, vL, hL⟩ => [(10, some (.int .i64 (w : Nat)))]) (fun ⟨w, vL, hL⟩ => [blk b7 [.int .i64 (S : Nat), .int .i64 ((C : Nat) - 1 : Int), .int .i64 (K : Nat), vL, v38] 28, hL]) (fun ⟨w, vL, hL⟩ => w ≤ K ∧ (v = un → w = 0) ∧ OArr vL encI 1 3 hL (rowsW next C K un s ++ (List.range v).flatMap (cellW next C K un s) ++ (leads next C K s v).take w)) (fun ⟨w, vL, hL⟩ => K - w) (0, vM, hM) [blk b7 [.int .i64 (S : Nat), .int .i64 ((C : Nat) - 1 : Int), .int .i64 (K : Nat), vM, v38] 28, hM] rfl ⟨by omega, fun _ => rfl, by simpa using OM⟩ (.c rfl (.base 0 rfl rfl)) ?_
              rintro ⟨w, vL, hL⟩ ⟨hw, hwu, OL⟩ ih2
              dsimp only [List.cons_append, List.nil_append] at ih2 ⊢
              refine XK.seq ?_
              refine XK.seq ?_
              refine XK.region rfl ?_
              refine XO.q (Q.move rfl) ?_
              refine XO.q (Q.fieldAddr rfl) ?_
              refine XO.q (Q.ld rfl rfl) ?_
              refine XO.q (Q.lss rfl rfl) ?_
              refine XO.q (Q.move rfl) ?_
              refine XO.q (Quiet.guardT rfl rfl fun g57 p57 => Q.move rfl) ?_
              refine XO.q (Quiet.guardT rfl rfl fun g58 p58 => Q.move rfl) ?_
              refine XO.q (Quiet.guardT rfl rfl fun g59 p59 => Q.neq (lzv g59 rfl) (lzv g59 rfl)) ?_
              refine XO.q (Q.and rfl (fun hp => lzv hp rfl)) ?_
              refine XO.done ?_
              refine XK.if rfl (fun c5 => ?_) (fun c5 => ?_)
              · have _t5 := True.intro
                refine XK.skip ?_
                refine XK.seq ?_
                refine XK.block ?_
                refine XK.seq ?_
                refine XK.region rfl ?_
                refine XO.q (Q.fieldAddr rfl) ?_
                refine XO.q (Q.ld rfl rfl) ?_
                refine XO.q (Q.assign rfl) ?_
                refine XO.done ?_
                refine XK.region rfl ?_
                refine XO.q (Q.move rfl) ?_
                refine XO.q (Q.ldA [_, _, _, _, _] rfl rfl rfl) ?_
                refine XO.q (Q.move rfl) ?_
                refine XO.q (Q.move rfl) ?_
                refine XO.q (Q.move rfl) ?_
                refine XO.call Try.call42 rfl rfl rfl (refLeads S C K next good ok vn vg hn s v w (by omega) (by omega) (by omega)) fun v70 s70 R70 => ?_
                obtain ⟨rfl, rfl⟩ := R70
                dsimp only [List.cons_append, List.nil_append]
                refine XO.lit [_] [_] [_] encI (by rfl) (by rfl) rfl (by rfl) (by exact .c 0 1 rfl rfl rfl (.n _)) (fun _ => rfl) (by rfl) rfl (by infer_instance) rfl fun v71 h71 O71 => ?_
                refine XO.append rfl rfl rfl rfl (by have h1 := partW_len ok un (s := s) (v := v) (by omega) (by omega); have h2 := leads_len next C K s v; have h3 := List.length_take_le w (leads next C K s v); simp only [List.length_append, List.length_cons, List.length_nil] at h1 h3 ⊢; omega) fun v72 h72 O72 => ?_
                refine XO.q (Q.fieldAddr rfl) ?_
                refine XO.st rfl rfl rfl ?_
                refine XO.done ?_
                refine XK.inBlock ?_
                refine XK.region rfl ?_
                refine XO.q (Q.move rfl) ?_
                refine XO.q (Q.add rfl rfl ⟨by omega, by omega⟩) ?_
                refine XO.q (Q.assign rfl) ?_
                refine XO.done ?_
                exact ih2 (w + 1, v72, h72) _ _ ⟨by omega, by omega, by rw [leads_succ (by omega) (by have := lead_le (K := K) (C := C) (S := S) (s := s) (u := v) (by omega) (by omega); omega), ← List.append_assoc]; exact O72⟩ (by first | omega | (dsimp only; omega)) (.c rfl (.base 49 rfl rfl)) inferInstance
              · have _t5 := True.intro
                refine XK.exit rfl ?_
                refine XK.inBlock ?_
                refine XK.region rfl ?_
                refine XO.q (Q.move rfl) ?_
                refine XO.q (Q.add rfl rfl ⟨by omega, by omega⟩) ?_
                refine XO.q (Q.assign rfl) ?_
                refine XO.done ?_
                have hcell : (leads next C K s v).take w = cellW next C K un s v := by
                  unfold cellW
                  split
                  · rename_i hvu; rw [hwu hvu]; rfl
                  · rw [show w = K by omega, leads_full]
                rw [hcell] at OL
                exact ih1 (v + 1, vL, hL) _ _ ⟨by omega, by rw [flat_succ, ← List.append_assoc]; exact OL⟩ (by first | omega | (dsimp only; omega)) (.c rfl (.base 74 rfl rfl)) inferInstance
            · have _t4 := True.intro
              refine XK.exit rfl ?_
              refine XK.inBlock ?_
              refine XK.region rfl ?_
              refine XO.q (Q.move rfl) ?_
              refine XO.q (Q.add rfl rfl ⟨by omega, by omega⟩) ?_
              refine XO.q (Q.assign rfl) ?_
              refine XO.done ?_
              exact ih0 (s + 1, vM, hM) _ _ ⟨by omega, by rw [rowsW, flat_succ, ← rowsW, rowW]; simpa [show ¬ v < C by omega, show v = C by omega] using OM⟩ (by first | omega | (dsimp only; omega)) (.c rfl (.base 83 rfl rfl)) inferInstance
          · have _t3 := True.intro
            refine XK.exit rfl ?_
            refine XK.seq ?_
            refine XK.region rfl ?_
            refine XO.q (Q.ldA [_, _, _, _, _] rfl rfl rfl) ?_
            refine XO.st rfl rfl rfl ?_
            refine XO.q (Q.assign rfl) ?_
            refine XO.done ?_
            refine XK.rt [hN, h38] Try.func17 Try.results17 (.cell [_, _, _, _, _] rfl rfl rfl (.t rfl .n)) ?_
            have hw : without ⟨S, C, K, next, good⟩ un = (⟨S, C - 1, K, rowsW next C K un S, good⟩, 0) := by rw [without, if_neg c0, if_neg (by dsimp only; omega), if_neg (by dsimp only; omega)]; simp
            rw [hw]
            have hsS : s = S := by omega
            subst hsS
            exact ⟨vN, v38, hN, h38, rfl, rfl, ON, O38⟩
        · intro mtr8
          dsimp only [List.cons_append, List.nil_append] at mtr8
          refine XK.drawn [0, 1, 2, 3, 4, 5, 6, 7, 8, 10] [b2] [] (.q 0 (.q 1 (.q 2 (.q 3 (.q 4 (.q 5 (.q 6 (.q 7 (.q 8 (.br 9 true (.q 10 (.br 11 true (.br 12 false .done .stop) .stop)) (.br 11 true (.br 9 true (.q 10 (.br 12 false .done .stop)) .stop) .stop))))))))))) Try.mixed rfl (by kernel_rfl) ?_
          refine XT.q rfl rfl (Q.fieldAddr rfl) ?_
          refine XT.q rfl rfl (Q.ld rfl rfl) ?_
          refine XT.q rfl rfl (Q.fieldAddr rfl) ?_
          refine XT.q rfl rfl (Q.ld rfl rfl) ?_
          refine XT.q rfl rfl (Q.sub rfl rfl ⟨by omega, by omega⟩) ?_
          refine XT.q rfl rfl (Q.fieldAddr rfl) ?_
          refine XT.q rfl rfl (Q.ld rfl rfl) ?_
          refine XT.q rfl rfl (Q.fieldAddr rfl) ?_
          refine XT.q rfl rfl (Q.ld rfl rfl) ?_
          refine XT.call rfl rfl Try.call45 rfl rfl rfl (copyTruths _ _ _ (by omega)) (fun v38 s38 R38 => ?_) ?_
          · skip
            obtain ⟨h38, rfl, O38⟩ := R38
            dsimp only [List.cons_append, List.nil_append]
            refine ⟨inferInstance, ?_⟩
            refine XT.q rfl rfl (Q.build [_, _, _, _, _] (.c 0 1 rfl rfl rfl (.c 1 1 rfl rfl rfl (.c 2 1 rfl rfl rfl (.c 4 1 rfl rfl rfl (.n _)))))) ?_
            refine XT.alloc rfl rfl (fun b7 => ⟨inferInstance, ?_⟩) XT.stop
            refine XT.st rfl rfl rfl rfl rfl ⟨inferInstance, ?_⟩ XT.stop
            refine XT.done ?_
            exact mtr8 ((b7, v38, h38)) _ _ O38 (.c rfl (.base 12 rfl rfl)) inferInstance
          · skip
            refine XT.alloc rfl rfl (fun b7 => ⟨inferInstance, ?_⟩) XT.stop
            refine XT.call rfl rfl Try.call45 rfl rfl rfl (copyTruths _ _ _ (by omega)) (fun v38 s38 R38 => ?_) XT.stop
            obtain ⟨h38, rfl, O38⟩ := R38
            dsimp only [List.cons_append, List.nil_append]
            refine ⟨inferInstance, ?_⟩
            refine XT.q rfl rfl (Q.build [_, _, _, _, _] (.c 0 1 rfl rfl rfl (.c 1 1 rfl rfl rfl (.c 2 1 rfl rfl rfl (.c 4 1 rfl rfl rfl (.n _)))))) ?_
            refine XT.st rfl rfl rfl rfl rfl ⟨inferInstance, ?_⟩ XT.stop
            refine XT.done ?_
            exact mtr8 ((b7, v38, h38)) _ _ O38 (.c rfl (.base 12 rfl rfl)) inferInstance
end Go.X
