/- A part of the proof: a small program logic, plain laws and contracts of functions, each proved by a walk through its operations. No condition but those that stand in each theorem. -/
import Derived.Test.YteofmoaloiaadaaA3
set_option linter.unusedSimpArgs false
set_option linter.unusedVariables false
set_option maxRecDepth 20000
namespace Go.X
open Go.Proofs
end Go.X

set_option linter.unusedSimpArgs false
set_option linter.unusedVariables false
set_option maxRecDepth 20000
namespace Go.X
open Go.Proofs
theorem split_set {l : List BSpan} {i : Nat} (hi : i < l.length) (q : Int) : (l.take i ++ [(⟨q, (l.getD i default).power⟩ : BSpan)] ++ l.drop i).set (i + 1) (⟨(l.getD i default).seconds - q, (l.getD i default).power⟩ : BSpan) = splitL l i q := by
  have e : l.drop i = l.getD i default :: l.drop (i + 1) := by
    rw [List.getD_eq_getElem?_getD, List.getElem?_eq_getElem hi]
    exact List.drop_eq_getElem_cons hi
  have l1 : (l.take i).length = i := by rw [List.length_take]; omega
  unfold splitL
  rw [e, List.append_assoc, List.append_assoc, List.set_append_right _ _ (by omega), l1, show i + 1 - i = 1 by omega]
  rfl
theorem split_atB {l : List BSpan} {i : Nat} (hi : i < l.length) (x : BSpan) : (l.take i ++ [x] ++ l.drop i).getD (i + 1) default = l.getD i default := by
  have e : l.drop i = l.getD i default :: l.drop (i + 1) := by
    rw [List.getD_eq_getElem?_getD, List.getElem?_eq_getElem hi]
    exact List.drop_eq_getElem_cons hi
  have l1 : (l.take i ++ [x]).length = i + 1 := by rw [List.length_append, List.length_take]; simp only [List.length_cons, List.length_nil]; omega
  rw [List.getD_eq_getElem?_getD, List.getElem?_append_right (by omega), l1, Nat.sub_self, e]
  rfl
set_option maxHeartbeats 4000000 in
set_option synthInstance.maxSize 1000 in
theorem BankSplits_spec (v0 : Value) (h0 : PHeap) (x0 : List UInt8) [i0 : Arr v0 encU8 1 h0 x0] (v1 : Value) (h1 : PHeap) (x1 : List UInt8) [i1 : Arr v1 encU8 1 h1 x1] (v2 : Value) (h2 : PHeap) (x2 : List UInt8) [i2 : Arr v2 encU8 1 h2 x2] (n3 n4 : Nat) (hn3 : n3 < 256) (hn4 : n4 < 256) (v5 : Value) (h5 : PHeap) (x5 : List UInt8) [i5 : Arr v5 encU8 1 h5 x5] : Spec Try.prog 11 #[v0, v1, v2, .int .u8 (n3 : Nat), .int .u8 (n4 : Nat), v5] [] [h0, h1, h2, h5] (fun v hs => v = .bool true ∧ hs = []) := by
  refine Spec.intro (fn := Try.f11) (N := 160) Try.func11 rfl Try.ntmps11 rfl fun B => ?_
  refine XK.seq ?_
  refine XK.region rfl ?_
  refine XO.q (Q.assign rfl) ?_
  refine XO.done ?_
  refine XK.seq ?_
  refine XK.region rfl ?_
  refine XO.q (Q.move rfl) ?_
  refine XO.call Try.call28 rfl rfl rfl (made06 v0 h0 x0) fun v25 s25 R25 => ?_
  obtain ⟨vb, vg, kb, kg, rfl, rfl, OB, OG⟩ := R25
  dsimp only [List.cons_append, List.nil_append]
  obtain ⟨b, eb⟩ : ∃ b, b = madeP x0 := ⟨_, rfl⟩
  obtain ⟨ok, nb4, ng3⟩ := made_ok x0
  rw [← eb] at OB OG ok nb4 ng3
  clear eb
  refine XO.alloc fun b13 => ?_
  refine XO.st rfl rfl rfl ?_
  refine XO.done ?_
  refine XK.seq ?_
  refine XK.drawn [0, 2, 3, 5, 6] [b13] [] (.q 0 (.q 2 (.q 3 (.br 1 true (.br 4 true (.q 5 (.q 6 .done)) .stop) .stop)))) Try.mixed rfl (by kernel_rfl) ?_
  refine XT.q rfl rfl (Q.move rfl) ?_
  refine XT.q rfl rfl (Q.ldA [_, _] rfl rfl rfl) ?_
  refine XT.q rfl rfl (Q.move rfl) ?_
  refine XT.call rfl rfl Try.call31 rfl rfl rfl (loaded06 v1 h1 x1) (fun v27 s27 R27 => ?_) XT.stop
  obtain ⟨kl, rfl, OL⟩ := R27
  dsimp only [List.cons_append, List.nil_append]
  refine ⟨inferInstance, ?_⟩
  obtain ⟨l, el⟩ : ∃ l, l = loadP x1 := ⟨_, rfl⟩
  obtain ⟨lk, lsp, l8, lp⟩ := load_ok x1
  rw [← el] at OL lk lsp l8 lp
  have hw := pwOk lk
  clear el
  refine XT.call rfl rfl Try.call29 rfl rfl rfl (failed06 b vb vg kb kg ok v2 h2 x2) (fun v30 s30 R30 => ?_) XT.stop
  obtain ⟨kf, rfl, OF⟩ := R30
  dsimp only [List.cons_append, List.nil_append]
  refine ⟨inferInstance, ?_⟩
  obtain ⟨f, ef⟩ : ∃ f, f = failP b x2 := ⟨_, rfl⟩
  have fk := fail_ok ok x2
  rw [← ef] at OF fk
  clear ef
  refine XT.q rfl rfl (Q.assign rfl) ?_
  refine XT.q rfl rfl (Q.assign rfl) ?_
  refine XT.done ?_
  refine XK.seq ?_
  refine XK.region rfl ?_
  refine XO.q (Q.ldA [_, _] rfl rfl rfl) ?_
  refine XO.q (Q.move rfl) ?_
  refine XO.q (Q.move rfl) ?_
  have rd : readyP b l f = 0 := readyP_iff.2 ⟨ok, lk, fk⟩
  refine XO.call Try.call30 rfl rfl rfl (Run_spec b vb vg kb kg l v27 kl f v30 kf) fun v35 s35 R35 => ?_
  obtain ⟨ve, vn, ke, kn, rfl, rfl, OE, ON⟩ := R35
  dsimp only [List.cons_append, List.nil_append]
  rw [if_pos rd] at OE ON
  rw [rd, if_pos rfl]
  obtain ⟨r, er⟩ : ∃ r, r = runP b (powers l) f := ⟨_, rfl⟩
  rw [← er] at OE ON ⊢
  refine XO.q (Q.move rfl) ?_
  refine XO.q (Q.extract rfl rfl) ?_
  refine XO.q (Q.extract rfl rfl) ?_
  refine XO.alloc fun b16 => ?_
  refine XO.st rfl rfl rfl ?_
  refine XO.q (Q.assign rfl) ?_
  refine XO.done ?_
  refine XK.seq ?_
  refine XK.seq ?_
  refine XK.region rfl ?_
  refine XO.q (Q.move rfl) ?_
  refine XO.q (Q.neq rfl rfl) ?_
  refine XO.done ?_
  refine XK.if rfl (fun c0 => ?_) (fun c0 => ?_)
  · have _t0 := True.intro
    exact absurd c0 (by omega)
  · have _t0 := True.intro
    refine XK.skip ?_
    refine XK.seq ?_
    refine XK.seq ?_
    refine XK.region rfl ?_
    refine XO.q (Q.move rfl) ?_
    refine XO.len rfl fun l41 => ?_
    refine XO.q (Q.gtr rfl rfl) ?_
    refine XO.done ?_
    refine XK.meet (X := Unit) [12, 18, 19, 20, 21, 22, 43, 44, 45, 46, 47, 48, 49, 50, 51, 52, 53, 54, 55, 56, 57, 58, 59, 60, 61, 62, 63, 64, 65, 66, 67, 68, 69, 70, 71, 72, 73, 74, 75, 76, 77, 78, 79, 80, 81, 82, 83, 84, 85, 86, 87, 88, 89, 90, 91, 92, 93, 94, 95, 96, 97, 98, 99, 100, 101, 102, 103, 104, 105, 106, 107, 108, 109, 110, 111, 112, 113, 114, 115, 116, 117, 118] (fun _u => []) (fun _u => []) (fun _u => True) [] ?_ ?_
    · rintro _u _
      dsimp only [List.cons_append, List.nil_append]
      refine XK.seq ?_
      refine XK.seq ?_
      refine XK.region rfl ?_
      refine XO.q (Q.fieldAddr rfl) ?_
      refine XO.q (Q.ld rfl rfl) ?_
      refine XO.q (Q.lss rfl rfl) ?_
      refine XO.done ?_
      refine XK.if rfl (fun c2 => ?_) (fun c2 => ?_)
      · have _t2 := True.intro
        refine XK.seq ?_
        refine XK.region rfl ?_
        refine XO.call Try.call14 rfl rfl rfl (awake06) fun v122 s122 R122 => ?_
        obtain ⟨rfl, rfl⟩ := R122
        dsimp only [List.cons_append, List.nil_append]
        refine XO.q (Q.assign rfl) ?_
        refine XO.done ?_
        refine XK.rt [] Try.func11 Try.results11 (.t rfl .n) ?_
        exact ⟨by simp, rfl⟩
      · have _t2 := True.intro
        refine XK.skip ?_
        refine XK.seq ?_
        refine XK.drawn [0, 1, 3, 6, 8, 9, 10, 13] [b13] [] (.q 0 (.q 1 (.q 3 (.q 6 (.br 2 true (.br 4 true (.br 5 true (.br 7 true (.q 8 (.q 9 (.q 10 (.br 11 true (.br 12 true (.q 13 .done) .stop) .stop)))) (.br 11 true (.br 7 true (.q 8 (.q 9 (.q 10 (.br 12 true (.q 13 .done) .stop)))) .stop) .stop)) (.br 11 true (.br 5 true (.br 7 true (.q 8 (.q 9 (.q 10 (.br 12 true (.q 13 .done) .stop)))) .stop) .stop) .stop)) (.br 11 true (.br 4 true (.br 5 true (.br 7 true (.q 8 (.q 9 (.q 10 (.br 12 true (.q 13 .done) .stop)))) .stop) .stop) .stop) .stop)) (.br 11 true (.br 2 true (.br 4 true (.br 5 true (.br 7 true (.q 8 (.q 9 (.q 10 (.br 12 true (.q 13 .done) .stop)))) .stop) .stop) .stop) .stop) .stop)))))) Try.mixed rfl (by kernel_rfl) ?_
        refine XT.q rfl rfl (Q.ldA [_, _] rfl rfl rfl) ?_
        refine XT.q rfl rfl (Q.move rfl) ?_
        refine XT.q rfl rfl (Q.move rfl) ?_
        refine XT.q rfl rfl (Q.move rfl) ?_
        refine XT.call rfl rfl Try.call16 rfl rfl rfl (cloneS v27 kl l (by omega)) (fun v126 s126 R126 => ?_) ?_
        · skip
          obtain ⟨k126, rfl, O126⟩ := R126
          dsimp only [List.cons_append, List.nil_append]
          refine ⟨inferInstance, ?_⟩
          refine XT.call rfl rfl Try.call31 rfl rfl rfl (loaded06 v5 h5 x5) (fun v128 s128 R128 => ?_) ?_
          · skip
            obtain ⟨kl5, rfl, OL5⟩ := R128
            dsimp only [List.cons_append, List.nil_append]
            refine ⟨inferInstance, ?_⟩
            obtain ⟨l5, el5⟩ : ∃ l, l = loadP x5 := ⟨_, rfl⟩
            obtain ⟨lk5, lsp5, l85, lp5⟩ := load_ok x5
            rw [← el5] at OL5 lk5 lsp5 l85 lp5
            clear el5
            refine XT.append rfl rfl rfl rfl rfl rfl (by omega) (fun v129 h129 O129 => ⟨inferInstance, ?_⟩) ?_
            · skip
              have lk6 : LOk (l ++ l5) := lok_of (fun x hx => (List.mem_append.1 hx).elim (lsp x) (lsp5 x)) (by rw [List.length_append]; omega)
              have rd6 : readyP b (l ++ l5) f = 0 := readyP_iff.2 ⟨ok, lk6, fk⟩
              refine XT.call rfl rfl Try.call30 rfl rfl rfl (Run_spec b vb vg kb kg (l ++ l5) v129 h129 f v30 kf) (fun v131 s131 R131 => ?_) ?_
              · skip
                obtain ⟨ve6, vn6, ke6, kn6, rfl, rfl, OE6, ON6⟩ := R131
                dsimp only [List.cons_append, List.nil_append]
                refine ⟨inferInstance, ?_⟩
                rw [if_pos rd6] at OE6 ON6
                rw [rd6, if_pos rfl]
                obtain ⟨r6, er6⟩ : ∃ r, r = runP b (powers (l ++ l5)) f := ⟨_, rfl⟩
                rw [← er6] at OE6 ON6 ⊢
                have e6 : r6 = r := by rw [er6, er, powers_append, run_after b (by rw [er] at c2; exact Int.not_lt.1 c2)]
                subst e6
                refine XT.q rfl rfl (Q.move rfl) ?_
                refine XT.q rfl rfl (Q.extract rfl rfl) ?_
                refine XT.q rfl rfl (Q.extract rfl rfl) ?_
                refine XT.alloc rfl rfl (fun b23 => ⟨inferInstance, ?_⟩) XT.stop
                refine XT.st rfl rfl rfl rfl rfl ⟨inferInstance, ?_⟩ XT.stop
                refine XT.q rfl rfl (Q.assign rfl) ?_
                refine XT.done ?_
                refine XK.seq ?_
                refine XK.region rfl ?_
                refine XO.q (Q.move rfl) ?_
                refine XO.q (Q.eql rfl rfl) ?_
                first | rw [decide_eq_true (show (0 : Int) = (0 : Int) from rfl)] | skip
                refine XO.q (Q.move rfl) ?_
                refine XO.q (Quiet.guardT rfl rfl fun g137 p137 => Q.fieldAddr rfl) ?_
                refine XO.q (Quiet.guardT rfl rfl fun g138 p138 => Q.ld (lzv rfl rfl) rfl) ?_
                refine XO.q (Quiet.guardT rfl rfl fun g139 p139 => Q.fieldAddr rfl) ?_
                refine XO.q (Quiet.guardT rfl rfl fun g140 p140 => Q.ld (lzv rfl rfl) rfl) ?_
                refine XO.q (Quiet.guardT rfl rfl fun g141 p141 => Q.eql (lzv rfl rfl) (lzv rfl rfl)) ?_
                first | rw [decide_eq_true (show r6.dark = r6.dark from rfl)] | skip
                refine XO.q (Q.and rfl (fun hp => lzv hp rfl)) ?_
                refine XO.q (Q.move rfl) ?_
                refine XO.q (Quiet.guardT rfl rfl fun g144 p144 => Q.fieldAddr rfl) ?_
                refine XO.q (Quiet.guardT rfl rfl fun g145 p145 => Q.ld (lzv rfl rfl) rfl) ?_
                refine XO.q (Quiet.guardT rfl rfl fun g146 p146 => Q.fieldAddr rfl) ?_
                refine XO.q (Quiet.guardT rfl rfl fun g147 p147 => Q.ld (lzv rfl rfl) rfl) ?_
                refine XO.q (Quiet.guardT rfl rfl fun g148 p148 => Q.eql (lzv rfl rfl) (lzv rfl rfl)) ?_
                first | rw [decide_eq_true (show r6.served = r6.served from rfl)] | skip
                refine XO.q (Q.and rfl (fun hp => lzv hp rfl)) ?_
                refine XO.q (Q.move rfl) ?_
                refine XO.q (Quiet.guardT rfl rfl fun g151 p151 => Q.fieldAddr rfl) ?_
                refine XO.q (Quiet.guardT rfl rfl fun g152 p152 => Q.ld (lzv rfl rfl) rfl) ?_
                refine XO.q (Quiet.guardT rfl rfl fun g153 p153 => Q.fieldAddr rfl) ?_
                refine XO.q (Quiet.guardT rfl rfl fun g154 p154 => Q.ld (lzv rfl rfl) rfl) ?_
                refine XO.callS rfl rfl rfl Try.call24 rfl (.c (lzv rfl rfl) (.c (lzv rfl rfl) .n)) rfl (equalI ve6 ve ke6 ke r6.energy r6.energy) fun v155 s155 R155 => ?_
                obtain ⟨rfl, rfl⟩ := R155
                dsimp only [List.cons_append, List.nil_append]
                rw [decide_eq_true (show r6.energy = r6.energy from rfl)]
                refine XO.q (Q.and rfl (fun _ => rfl)) ?_
                refine XO.q (Q.move rfl) ?_
                refine XO.callS rfl rfl rfl Try.call14 rfl (.n) rfl (awake06) fun v158 s158 R158 => ?_
                obtain ⟨rfl, rfl⟩ := R158
                dsimp only [List.cons_append, List.nil_append]
                refine XO.q (Q.and rfl (fun _ => rfl)) ?_
                refine XO.q (Q.assign rfl) ?_
                refine XO.done ?_
                refine XK.rt [] Try.func11 Try.results11 (.t rfl .n) ?_
                exact ⟨by simp, rfl⟩
              · skip
                refine XT.alloc rfl rfl (fun b23 => ⟨inferInstance, ?_⟩) XT.stop
                have lk6 : LOk (l ++ l5) := lok_of (fun x hx => (List.mem_append.1 hx).elim (lsp x) (lsp5 x)) (by rw [List.length_append]; omega)
                have rd6 : readyP b (l ++ l5) f = 0 := readyP_iff.2 ⟨ok, lk6, fk⟩
                refine XT.call rfl rfl Try.call30 rfl rfl rfl (Run_spec b vb vg kb kg (l ++ l5) v129 h129 f v30 kf) (fun v131 s131 R131 => ?_) XT.stop
                obtain ⟨ve6, vn6, ke6, kn6, rfl, rfl, OE6, ON6⟩ := R131
                dsimp only [List.cons_append, List.nil_append]
                refine ⟨inferInstance, ?_⟩
                rw [if_pos rd6] at OE6 ON6
                rw [rd6, if_pos rfl]
                obtain ⟨r6, er6⟩ : ∃ r, r = runP b (powers (l ++ l5)) f := ⟨_, rfl⟩
                rw [← er6] at OE6 ON6 ⊢
                have e6 : r6 = r := by rw [er6, er, powers_append, run_after b (by rw [er] at c2; exact Int.not_lt.1 c2)]
                subst e6
                refine XT.q rfl rfl (Q.move rfl) ?_
                refine XT.q rfl rfl (Q.extract rfl rfl) ?_
                refine XT.q rfl rfl (Q.extract rfl rfl) ?_
                refine XT.st rfl rfl rfl rfl rfl ⟨inferInstance, ?_⟩ XT.stop
                refine XT.q rfl rfl (Q.assign rfl) ?_
                refine XT.done ?_
                refine XK.seq ?_
                refine XK.region rfl ?_
                refine XO.q (Q.move rfl) ?_
                refine XO.q (Q.eql rfl rfl) ?_
                first | rw [decide_eq_true (show (0 : Int) = (0 : Int) from rfl)] | skip
                refine XO.q (Q.move rfl) ?_
                refine XO.q (Quiet.guardT rfl rfl fun g137 p137 => Q.fieldAddr rfl) ?_
                refine XO.q (Quiet.guardT rfl rfl fun g138 p138 => Q.ld (lzv rfl rfl) rfl) ?_
                refine XO.q (Quiet.guardT rfl rfl fun g139 p139 => Q.fieldAddr rfl) ?_
                refine XO.q (Quiet.guardT rfl rfl fun g140 p140 => Q.ld (lzv rfl rfl) rfl) ?_
                refine XO.q (Quiet.guardT rfl rfl fun g141 p141 => Q.eql (lzv rfl rfl) (lzv rfl rfl)) ?_
                first | rw [decide_eq_true (show r6.dark = r6.dark from rfl)] | skip
                refine XO.q (Q.and rfl (fun hp => lzv hp rfl)) ?_
                refine XO.q (Q.move rfl) ?_
                refine XO.q (Quiet.guardT rfl rfl fun g144 p144 => Q.fieldAddr rfl) ?_
                refine XO.q (Quiet.guardT rfl rfl fun g145 p145 => Q.ld (lzv rfl rfl) rfl) ?_
                refine XO.q (Quiet.guardT rfl rfl fun g146 p146 => Q.fieldAddr rfl) ?_
                refine XO.q (Quiet.guardT rfl rfl fun g147 p147 => Q.ld (lzv rfl rfl) rfl) ?_
                refine XO.q (Quiet.guardT rfl rfl fun g148 p148 => Q.eql (lzv rfl rfl) (lzv rfl rfl)) ?_
                first | rw [decide_eq_true (show r6.served = r6.served from rfl)] | skip
                refine XO.q (Q.and rfl (fun hp => lzv hp rfl)) ?_
                refine XO.q (Q.move rfl) ?_
                refine XO.q (Quiet.guardT rfl rfl fun g151 p151 => Q.fieldAddr rfl) ?_
                refine XO.q (Quiet.guardT rfl rfl fun g152 p152 => Q.ld (lzv rfl rfl) rfl) ?_
                refine XO.q (Quiet.guardT rfl rfl fun g153 p153 => Q.fieldAddr rfl) ?_
                refine XO.q (Quiet.guardT rfl rfl fun g154 p154 => Q.ld (lzv rfl rfl) rfl) ?_
                refine XO.callS rfl rfl rfl Try.call24 rfl (.c (lzv rfl rfl) (.c (lzv rfl rfl) .n)) rfl (equalI ve6 ve ke6 ke r6.energy r6.energy) fun v155 s155 R155 => ?_
                obtain ⟨rfl, rfl⟩ := R155
                dsimp only [List.cons_append, List.nil_append]
                rw [decide_eq_true (show r6.energy = r6.energy from rfl)]
                refine XO.q (Q.and rfl (fun _ => rfl)) ?_
                refine XO.q (Q.move rfl) ?_
                refine XO.callS rfl rfl rfl Try.call14 rfl (.n) rfl (awake06) fun v158 s158 R158 => ?_
                obtain ⟨rfl, rfl⟩ := R158
                dsimp only [List.cons_append, List.nil_append]
                refine XO.q (Q.and rfl (fun _ => rfl)) ?_
                refine XO.q (Q.assign rfl) ?_
                refine XO.done ?_
                refine XK.rt [] Try.func11 Try.results11 (.t rfl .n) ?_
                exact ⟨by simp, rfl⟩
            · skip
              refine XT.alloc rfl rfl (fun b23 => ⟨inferInstance, ?_⟩) XT.stop
              refine XT.append rfl rfl rfl rfl rfl rfl (by omega) (fun v129 h129 O129 => ⟨inferInstance, ?_⟩) XT.stop
              have lk6 : LOk (l ++ l5) := lok_of (fun x hx => (List.mem_append.1 hx).elim (lsp x) (lsp5 x)) (by rw [List.length_append]; omega)
              have rd6 : readyP b (l ++ l5) f = 0 := readyP_iff.2 ⟨ok, lk6, fk⟩
              refine XT.call rfl rfl Try.call30 rfl rfl rfl (Run_spec b vb vg kb kg (l ++ l5) v129 h129 f v30 kf) (fun v131 s131 R131 => ?_) XT.stop
              obtain ⟨ve6, vn6, ke6, kn6, rfl, rfl, OE6, ON6⟩ := R131
              dsimp only [List.cons_append, List.nil_append]
              refine ⟨inferInstance, ?_⟩
              rw [if_pos rd6] at OE6 ON6
              rw [rd6, if_pos rfl]
              obtain ⟨r6, er6⟩ : ∃ r, r = runP b (powers (l ++ l5)) f := ⟨_, rfl⟩
              rw [← er6] at OE6 ON6 ⊢
              have e6 : r6 = r := by rw [er6, er, powers_append, run_after b (by rw [er] at c2; exact Int.not_lt.1 c2)]
              subst e6
              refine XT.q rfl rfl (Q.move rfl) ?_
              refine XT.q rfl rfl (Q.extract rfl rfl) ?_
              refine XT.q rfl rfl (Q.extract rfl rfl) ?_
              refine XT.st rfl rfl rfl rfl rfl ⟨inferInstance, ?_⟩ XT.stop
              refine XT.q rfl rfl (Q.assign rfl) ?_
              refine XT.done ?_
              refine XK.seq ?_
              refine XK.region rfl ?_
              refine XO.q (Q.move rfl) ?_
              refine XO.q (Q.eql rfl rfl) ?_
              first | rw [decide_eq_true (show (0 : Int) = (0 : Int) from rfl)] | skip
              refine XO.q (Q.move rfl) ?_
              refine XO.q (Quiet.guardT rfl rfl fun g137 p137 => Q.fieldAddr rfl) ?_
              refine XO.q (Quiet.guardT rfl rfl fun g138 p138 => Q.ld (lzv rfl rfl) rfl) ?_
              refine XO.q (Quiet.guardT rfl rfl fun g139 p139 => Q.fieldAddr rfl) ?_
              refine XO.q (Quiet.guardT rfl rfl fun g140 p140 => Q.ld (lzv rfl rfl) rfl) ?_
              refine XO.q (Quiet.guardT rfl rfl fun g141 p141 => Q.eql (lzv rfl rfl) (lzv rfl rfl)) ?_
              first | rw [decide_eq_true (show r6.dark = r6.dark from rfl)] | skip
              refine XO.q (Q.and rfl (fun hp => lzv hp rfl)) ?_
              refine XO.q (Q.move rfl) ?_
              refine XO.q (Quiet.guardT rfl rfl fun g144 p144 => Q.fieldAddr rfl) ?_
              refine XO.q (Quiet.guardT rfl rfl fun g145 p145 => Q.ld (lzv rfl rfl) rfl) ?_
              refine XO.q (Quiet.guardT rfl rfl fun g146 p146 => Q.fieldAddr rfl) ?_
              refine XO.q (Quiet.guardT rfl rfl fun g147 p147 => Q.ld (lzv rfl rfl) rfl) ?_
              refine XO.q (Quiet.guardT rfl rfl fun g148 p148 => Q.eql (lzv rfl rfl) (lzv rfl rfl)) ?_
              first | rw [decide_eq_true (show r6.served = r6.served from rfl)] | skip
              refine XO.q (Q.and rfl (fun hp => lzv hp rfl)) ?_
              refine XO.q (Q.move rfl) ?_
              refine XO.q (Quiet.guardT rfl rfl fun g151 p151 => Q.fieldAddr rfl) ?_
              refine XO.q (Quiet.guardT rfl rfl fun g152 p152 => Q.ld (lzv rfl rfl) rfl) ?_
              refine XO.q (Quiet.guardT rfl rfl fun g153 p153 => Q.fieldAddr rfl) ?_
              refine XO.q (Quiet.guardT rfl rfl fun g154 p154 => Q.ld (lzv rfl rfl) rfl) ?_
              refine XO.callS rfl rfl rfl Try.call24 rfl (.c (lzv rfl rfl) (.c (lzv rfl rfl) .n)) rfl (equalI ve6 ve ke6 ke r6.energy r6.energy) fun v155 s155 R155 => ?_
              obtain ⟨rfl, rfl⟩ := R155
              dsimp only [List.cons_append, List.nil_append]
              rw [decide_eq_true (show r6.energy = r6.energy from rfl)]
              refine XO.q (Q.and rfl (fun _ => rfl)) ?_
              refine XO.q (Q.move rfl) ?_
              refine XO.callS rfl rfl rfl Try.call14 rfl (.n) rfl (awake06) fun v158 s158 R158 => ?_
              obtain ⟨rfl, rfl⟩ := R158
              dsimp only [List.cons_append, List.nil_append]
              refine XO.q (Q.and rfl (fun _ => rfl)) ?_
              refine XO.q (Q.assign rfl) ?_
              refine XO.done ?_
              refine XK.rt [] Try.func11 Try.results11 (.t rfl .n) ?_
              exact ⟨by simp, rfl⟩
          · skip
            refine XT.alloc rfl rfl (fun b23 => ⟨inferInstance, ?_⟩) XT.stop
            refine XT.call rfl rfl Try.call31 rfl rfl rfl (loaded06 v5 h5 x5) (fun v128 s128 R128 => ?_) XT.stop
            obtain ⟨kl5, rfl, OL5⟩ := R128
            dsimp only [List.cons_append, List.nil_append]
            refine ⟨inferInstance, ?_⟩
            obtain ⟨l5, el5⟩ : ∃ l, l = loadP x5 := ⟨_, rfl⟩
            obtain ⟨lk5, lsp5, l85, lp5⟩ := load_ok x5
            rw [← el5] at OL5 lk5 lsp5 l85 lp5
            clear el5
            refine XT.append rfl rfl rfl rfl rfl rfl (by omega) (fun v129 h129 O129 => ⟨inferInstance, ?_⟩) XT.stop
            have lk6 : LOk (l ++ l5) := lok_of (fun x hx => (List.mem_append.1 hx).elim (lsp x) (lsp5 x)) (by rw [List.length_append]; omega)
            have rd6 : readyP b (l ++ l5) f = 0 := readyP_iff.2 ⟨ok, lk6, fk⟩
            refine XT.call rfl rfl Try.call30 rfl rfl rfl (Run_spec b vb vg kb kg (l ++ l5) v129 h129 f v30 kf) (fun v131 s131 R131 => ?_) XT.stop
            obtain ⟨ve6, vn6, ke6, kn6, rfl, rfl, OE6, ON6⟩ := R131
            dsimp only [List.cons_append, List.nil_append]
            refine ⟨inferInstance, ?_⟩
            rw [if_pos rd6] at OE6 ON6
            rw [rd6, if_pos rfl]
            obtain ⟨r6, er6⟩ : ∃ r, r = runP b (powers (l ++ l5)) f := ⟨_, rfl⟩
            rw [← er6] at OE6 ON6 ⊢
            have e6 : r6 = r := by rw [er6, er, powers_append, run_after b (by rw [er] at c2; exact Int.not_lt.1 c2)]
            subst e6
            refine XT.q rfl rfl (Q.move rfl) ?_
            refine XT.q rfl rfl (Q.extract rfl rfl) ?_
            refine XT.q rfl rfl (Q.extract rfl rfl) ?_
            refine XT.st rfl rfl rfl rfl rfl ⟨inferInstance, ?_⟩ XT.stop
            refine XT.q rfl rfl (Q.assign rfl) ?_
            refine XT.done ?_
            refine XK.seq ?_
            refine XK.region rfl ?_
            refine XO.q (Q.move rfl) ?_
            refine XO.q (Q.eql rfl rfl) ?_
            first | rw [decide_eq_true (show (0 : Int) = (0 : Int) from rfl)] | skip
            refine XO.q (Q.move rfl) ?_
            refine XO.q (Quiet.guardT rfl rfl fun g137 p137 => Q.fieldAddr rfl) ?_
            refine XO.q (Quiet.guardT rfl rfl fun g138 p138 => Q.ld (lzv rfl rfl) rfl) ?_
            refine XO.q (Quiet.guardT rfl rfl fun g139 p139 => Q.fieldAddr rfl) ?_
            refine XO.q (Quiet.guardT rfl rfl fun g140 p140 => Q.ld (lzv rfl rfl) rfl) ?_
            refine XO.q (Quiet.guardT rfl rfl fun g141 p141 => Q.eql (lzv rfl rfl) (lzv rfl rfl)) ?_
            first | rw [decide_eq_true (show r6.dark = r6.dark from rfl)] | skip
            refine XO.q (Q.and rfl (fun hp => lzv hp rfl)) ?_
            refine XO.q (Q.move rfl) ?_
            refine XO.q (Quiet.guardT rfl rfl fun g144 p144 => Q.fieldAddr rfl) ?_
            refine XO.q (Quiet.guardT rfl rfl fun g145 p145 => Q.ld (lzv rfl rfl) rfl) ?_
            refine XO.q (Quiet.guardT rfl rfl fun g146 p146 => Q.fieldAddr rfl) ?_
            refine XO.q (Quiet.guardT rfl rfl fun g147 p147 => Q.ld (lzv rfl rfl) rfl) ?_
            refine XO.q (Quiet.guardT rfl rfl fun g148 p148 => Q.eql (lzv rfl rfl) (lzv rfl rfl)) ?_
            first | rw [decide_eq_true (show r6.served = r6.served from rfl)] | skip
            refine XO.q (Q.and rfl (fun hp => lzv hp rfl)) ?_
            refine XO.q (Q.move rfl) ?_
            refine XO.q (Quiet.guardT rfl rfl fun g151 p151 => Q.fieldAddr rfl) ?_
            refine XO.q (Quiet.guardT rfl rfl fun g152 p152 => Q.ld (lzv rfl rfl) rfl) ?_
            refine XO.q (Quiet.guardT rfl rfl fun g153 p153 => Q.fieldAddr rfl) ?_
            refine XO.q (Quiet.guardT rfl rfl fun g154 p154 => Q.ld (lzv rfl rfl) rfl) ?_
            refine XO.callS rfl rfl rfl Try.call24 rfl (.c (lzv rfl rfl) (.c (lzv rfl rfl) .n)) rfl (equalI ve6 ve ke6 ke r6.energy r6.energy) fun v155 s155 R155 => ?_
            obtain ⟨rfl, rfl⟩ := R155
            dsimp only [List.cons_append, List.nil_append]
            rw [decide_eq_true (show r6.energy = r6.energy from rfl)]
            refine XO.q (Q.and rfl (fun _ => rfl)) ?_
            refine XO.q (Q.move rfl) ?_
            refine XO.callS rfl rfl rfl Try.call14 rfl (.n) rfl (awake06) fun v158 s158 R158 => ?_
            obtain ⟨rfl, rfl⟩ := R158
            dsimp only [List.cons_append, List.nil_append]
            refine XO.q (Q.and rfl (fun _ => rfl)) ?_
            refine XO.q (Q.assign rfl) ?_
            refine XO.done ?_
            refine XK.rt [] Try.func11 Try.results11 (.t rfl .n) ?_
            exact ⟨by simp, rfl⟩
        · skip
          refine XT.alloc rfl rfl (fun b23 => ⟨inferInstance, ?_⟩) XT.stop
          refine XT.call rfl rfl Try.call16 rfl rfl rfl (cloneS v27 kl l (by omega)) (fun v126 s126 R126 => ?_) XT.stop
          obtain ⟨k126, rfl, O126⟩ := R126
          dsimp only [List.cons_append, List.nil_append]
          refine ⟨inferInstance, ?_⟩
          refine XT.call rfl rfl Try.call31 rfl rfl rfl (loaded06 v5 h5 x5) (fun v128 s128 R128 => ?_) XT.stop
          obtain ⟨kl5, rfl, OL5⟩ := R128
          dsimp only [List.cons_append, List.nil_append]
          refine ⟨inferInstance, ?_⟩
          obtain ⟨l5, el5⟩ : ∃ l, l = loadP x5 := ⟨_, rfl⟩
          obtain ⟨lk5, lsp5, l85, lp5⟩ := load_ok x5
          rw [← el5] at OL5 lk5 lsp5 l85 lp5
          clear el5
          refine XT.append rfl rfl rfl rfl rfl rfl (by omega) (fun v129 h129 O129 => ⟨inferInstance, ?_⟩) XT.stop
          have lk6 : LOk (l ++ l5) := lok_of (fun x hx => (List.mem_append.1 hx).elim (lsp x) (lsp5 x)) (by rw [List.length_append]; omega)
          have rd6 : readyP b (l ++ l5) f = 0 := readyP_iff.2 ⟨ok, lk6, fk⟩
          refine XT.call rfl rfl Try.call30 rfl rfl rfl (Run_spec b vb vg kb kg (l ++ l5) v129 h129 f v30 kf) (fun v131 s131 R131 => ?_) XT.stop
          obtain ⟨ve6, vn6, ke6, kn6, rfl, rfl, OE6, ON6⟩ := R131
          dsimp only [List.cons_append, List.nil_append]
          refine ⟨inferInstance, ?_⟩
          rw [if_pos rd6] at OE6 ON6
          rw [rd6, if_pos rfl]
          obtain ⟨r6, er6⟩ : ∃ r, r = runP b (powers (l ++ l5)) f := ⟨_, rfl⟩
          rw [← er6] at OE6 ON6 ⊢
          have e6 : r6 = r := by rw [er6, er, powers_append, run_after b (by rw [er] at c2; exact Int.not_lt.1 c2)]
          subst e6
          refine XT.q rfl rfl (Q.move rfl) ?_
          refine XT.q rfl rfl (Q.extract rfl rfl) ?_
          refine XT.q rfl rfl (Q.extract rfl rfl) ?_
          refine XT.st rfl rfl rfl rfl rfl ⟨inferInstance, ?_⟩ XT.stop
          refine XT.q rfl rfl (Q.assign rfl) ?_
          refine XT.done ?_
          refine XK.seq ?_
          refine XK.region rfl ?_
          refine XO.q (Q.move rfl) ?_
          refine XO.q (Q.eql rfl rfl) ?_
          first | rw [decide_eq_true (show (0 : Int) = (0 : Int) from rfl)] | skip
          refine XO.q (Q.move rfl) ?_
          refine XO.q (Quiet.guardT rfl rfl fun g137 p137 => Q.fieldAddr rfl) ?_
          refine XO.q (Quiet.guardT rfl rfl fun g138 p138 => Q.ld (lzv rfl rfl) rfl) ?_
          refine XO.q (Quiet.guardT rfl rfl fun g139 p139 => Q.fieldAddr rfl) ?_
          refine XO.q (Quiet.guardT rfl rfl fun g140 p140 => Q.ld (lzv rfl rfl) rfl) ?_
          refine XO.q (Quiet.guardT rfl rfl fun g141 p141 => Q.eql (lzv rfl rfl) (lzv rfl rfl)) ?_
          first | rw [decide_eq_true (show r6.dark = r6.dark from rfl)] | skip
          refine XO.q (Q.and rfl (fun hp => lzv hp rfl)) ?_
          refine XO.q (Q.move rfl) ?_
          refine XO.q (Quiet.guardT rfl rfl fun g144 p144 => Q.fieldAddr rfl) ?_
          refine XO.q (Quiet.guardT rfl rfl fun g145 p145 => Q.ld (lzv rfl rfl) rfl) ?_
          refine XO.q (Quiet.guardT rfl rfl fun g146 p146 => Q.fieldAddr rfl) ?_
          refine XO.q (Quiet.guardT rfl rfl fun g147 p147 => Q.ld (lzv rfl rfl) rfl) ?_
          refine XO.q (Quiet.guardT rfl rfl fun g148 p148 => Q.eql (lzv rfl rfl) (lzv rfl rfl)) ?_
          first | rw [decide_eq_true (show r6.served = r6.served from rfl)] | skip
          refine XO.q (Q.and rfl (fun hp => lzv hp rfl)) ?_
          refine XO.q (Q.move rfl) ?_
          refine XO.q (Quiet.guardT rfl rfl fun g151 p151 => Q.fieldAddr rfl) ?_
          refine XO.q (Quiet.guardT rfl rfl fun g152 p152 => Q.ld (lzv rfl rfl) rfl) ?_
          refine XO.q (Quiet.guardT rfl rfl fun g153 p153 => Q.fieldAddr rfl) ?_
          refine XO.q (Quiet.guardT rfl rfl fun g154 p154 => Q.ld (lzv rfl rfl) rfl) ?_
          refine XO.callS rfl rfl rfl Try.call24 rfl (.c (lzv rfl rfl) (.c (lzv rfl rfl) .n)) rfl (equalI ve6 ve ke6 ke r6.energy r6.energy) fun v155 s155 R155 => ?_
          obtain ⟨rfl, rfl⟩ := R155
          dsimp only [List.cons_append, List.nil_append]
          rw [decide_eq_true (show r6.energy = r6.energy from rfl)]
          refine XO.q (Q.and rfl (fun _ => rfl)) ?_
          refine XO.q (Q.move rfl) ?_
          refine XO.callS rfl rfl rfl Try.call14 rfl (.n) rfl (awake06) fun v158 s158 R158 => ?_
          obtain ⟨rfl, rfl⟩ := R158
          dsimp only [List.cons_append, List.nil_append]
          refine XO.q (Q.and rfl (fun _ => rfl)) ?_
          refine XO.q (Q.assign rfl) ?_
          refine XO.done ?_
          refine XK.rt [] Try.func11 Try.results11 (.t rfl .n) ?_
          exact ⟨by simp, rfl⟩
    · intro mt1
      dsimp only [List.cons_append, List.nil_append] at mt1
      refine XK.if rfl (fun c1 => ?_) (fun c1 => ?_)
      · have _t1 := True.intro
        refine XK.seq ?_
        refine XK.region rfl ?_
        refine XO.q (Q.move rfl) ?_
        refine XO.q (Q.conv rfl) ?_
        rw [wrap64_of ⟨by omega, by omega⟩]
        refine XO.q (Q.move rfl) ?_
        refine XO.len rfl fun l46 => ?_
        refine XO.q (Q.rem rfl rfl (by omega) (by omega)) ?_
        rw [show ((n3 : Int) % (l.length : Int)) = ((n3 % l.length : Nat) : Int) from rfl]
        obtain ⟨i, ei, hi⟩ : ∃ i, i = n3 % l.length ∧ i < l.length := ⟨_, rfl, Nat.mod_lt _ (by omega)⟩
        rw [← ei]
        have si := lsp _ (getD_memB hi)
        refine XO.q (Q.assign rfl) ?_
        refine XO.done ?_
        refine XK.seq ?_
        refine XK.region rfl ?_
        refine XO.q (Q.move rfl) ?_
        refine XO.q (Q.conv rfl) ?_
        rw [wrap64_of ⟨by omega, by omega⟩]
        refine XO.q (Q.move rfl) ?_
        refine XO.q (Q.move rfl) ?_
        refine XO.ix rfl rfl (by omega) (by omega) fun i52 => ?_
        refine XO.q (Q.fieldQ rfl (by first | assumption | omega)) ?_
        refine XO.q (Q.ldE rfl (by first | assumption | omega) rfl) ?_
        refine XO.q (Q.rem rfl rfl (by omega) (by omega)) ?_
        obtain ⟨q, eq, q0, q1⟩ : ∃ q, q = (n4 : Int) % (l.getD i default).seconds ∧ 0 ≤ q ∧ q < (l.getD i default).seconds := ⟨_, rfl, Int.emod_nonneg _ (by omega), Int.emod_lt_of_pos _ (by omega)⟩
        rw [← eq]
        clear eq
        refine XO.q (Q.assign rfl) ?_
        refine XO.done ?_
        refine XK.seq ?_
        refine XK.region rfl ?_
        refine XO.q (Q.move rfl) ?_
        refine XO.q (Q.gtr rfl rfl) ?_
        refine XO.done ?_
        refine XK.if rfl (fun c3 => ?_) (fun c3 => ?_)
        · have _t3 := True.intro
          refine XK.seq ?_
          refine XK.meet (X := Value × PHeap) [20, 58, 59, 60, 61, 62, 63, 64, 65, 66, 67, 68, 69] (fun ⟨v69, kt⟩ => [(20, some (v69))]) (fun ⟨v69, kt⟩ => [kt]) (fun ⟨v69, kt⟩ => OArr v69 encSpan 2 38 kt (l.take i ++ [(⟨q, (l.getD i default).power⟩ : BSpan)] ++ l.drop i)) [] ?_ ?_
          · rintro ⟨v69, kt⟩ OT
            dsimp only [List.cons_append, List.nil_append]
            have l69 : (l.take i ++ [(⟨q, (l.getD i default).power⟩ : BSpan)] ++ l.drop i).length = l.length + 1 := by simp only [List.length_append, List.length_take, List.length_drop, List.length_cons, List.length_nil]; omega
            refine XK.seq ?_
            refine XK.region rfl ?_
            refine XO.q (Q.move rfl) ?_
            refine XO.q (Q.move rfl) ?_
            refine XO.q (Q.add rfl rfl ⟨by omega, by omega⟩) ?_
            rw [show (((i : Nat) : Int) + 1) = ((i + 1 : Nat) : Int) from rfl]
            refine XO.ix rfl rfl (by omega) (by omega) fun i73 => ?_
            refine XO.q (Q.fieldQ rfl (by first | assumption | omega)) ?_
            refine XO.q (Q.ldE rfl (by first | assumption | omega) rfl) ?_
            rw [split_atB hi]
            refine XO.q (Q.move rfl) ?_
            refine XO.q (Q.sub rfl rfl ⟨by omega, by omega⟩) ?_
            refine XO.ix rfl rfl (by omega) (by omega) fun i78 => ?_
            refine XO.q (Q.fieldQ rfl (by first | assumption | omega)) ?_
            refine XO.stE (⟨(l.getD i default).seconds - q, ((l.take i ++ [(⟨q, (l.getD i default).power⟩ : BSpan)] ++ l.drop i).getD (i + 1) default).power⟩ : BSpan) rfl rfl rfl (by assumption) rfl rfl fun h11_10 O11_10 => ?_
            rw [split_atB hi, split_set hi] at O11_10
            refine XO.done ?_
            refine XK.seq ?_
            refine XK.region rfl ?_
            refine XO.q (Q.ldA [_, _] rfl rfl rfl) ?_
            refine XO.q (Q.move rfl) ?_
            refine XO.q (Q.move rfl) ?_
            have so := split_ok lsp hi (n := q) (by omega) (by omega)
            have sl := split_len hi q
            have lk2 := lok_of so (by omega)
            have rd2 : readyP b (splitL l i q) f = 0 := readyP_iff.2 ⟨ok, lk2, fk⟩
            refine XO.call Try.call30 rfl rfl rfl (Run_spec b vb vg kb kg (splitL l i q) v69 h11_10 f v30 kf) fun v84 s84 R84 => ?_
            obtain ⟨ve2, vn2, ke2, kn2, rfl, rfl, OE2, ON2⟩ := R84
            dsimp only [List.cons_append, List.nil_append]
            rw [if_pos rd2] at OE2 ON2
            rw [rd2, if_pos rfl]
            obtain ⟨r2, er2⟩ : ∃ r, r = runP b (powers (splitL l i q)) f := ⟨_, rfl⟩
            rw [← er2] at OE2 ON2 ⊢
            have e2 : r2 = r := by rw [er2, er, split_powers hi (by omega) (by omega)]
            subst e2
            refine XO.q (Q.move rfl) ?_
            refine XO.q (Q.extract rfl rfl) ?_
            refine XO.q (Q.extract rfl rfl) ?_
            refine XO.alloc fun b21 => ?_
            refine XO.st rfl rfl rfl ?_
            refine XO.q (Q.assign rfl) ?_
            refine XO.done ?_
            refine XK.seq ?_
            refine XK.region rfl ?_
            refine XO.q (Q.move rfl) ?_
            refine XO.q (Q.neq rfl rfl) ?_
            first | rw [decide_eq_false (show ¬ (0 : Int) ≠ (0 : Int) from fun h => h rfl)] | skip
            refine XO.q (Q.move rfl) ?_
            refine XO.q (Quiet.guardF rfl rfl fun g90 p90 => Q.fieldAddr rfl) ?_
            refine XO.q (Quiet.guardF rfl rfl fun g91 p91 => Q.ld (lzv rfl rfl) rfl) ?_
            refine XO.q (Quiet.guardF rfl rfl fun g92 p92 => Q.fieldAddr rfl) ?_
            refine XO.q (Quiet.guardF rfl rfl fun g93 p93 => Q.ld (lzv rfl rfl) rfl) ?_
            refine XO.q (Quiet.guardF rfl rfl fun g94 p94 => Q.neq (lzv rfl rfl) (lzv rfl rfl)) ?_
            first | rw [decide_eq_false (show ¬ r2.dark ≠ r2.dark from fun h => h rfl)] | skip
            refine XO.q (Q.or rfl (fun hp => lzv hp rfl)) ?_
            refine XO.q (Q.move rfl) ?_
            refine XO.q (Quiet.guardF rfl rfl fun g97 p97 => Q.fieldAddr rfl) ?_
            refine XO.q (Quiet.guardF rfl rfl fun g98 p98 => Q.ld (lzv rfl rfl) rfl) ?_
            refine XO.q (Quiet.guardF rfl rfl fun g99 p99 => Q.fieldAddr rfl) ?_
            refine XO.q (Quiet.guardF rfl rfl fun g100 p100 => Q.ld (lzv rfl rfl) rfl) ?_
            refine XO.q (Quiet.guardF rfl rfl fun g101 p101 => Q.neq (lzv rfl rfl) (lzv rfl rfl)) ?_
            first | rw [decide_eq_false (show ¬ r2.served ≠ r2.served from fun h => h rfl)] | skip
            refine XO.q (Q.or rfl (fun hp => lzv hp rfl)) ?_
            refine XO.q (Q.move rfl) ?_
            refine XO.q (Quiet.guardF rfl rfl fun g104 p104 => Q.fieldAddr rfl) ?_
            refine XO.q (Quiet.guardF rfl rfl fun g105 p105 => Q.ld (lzv rfl rfl) rfl) ?_
            refine XO.q (Quiet.guardF rfl rfl fun g106 p106 => Q.fieldAddr rfl) ?_
            refine XO.q (Quiet.guardF rfl rfl fun g107 p107 => Q.ld (lzv rfl rfl) rfl) ?_
            refine XO.callS rfl rfl rfl Try.call24 rfl (.c (lzv rfl rfl) (.c (lzv rfl rfl) .n)) rfl (equalI ve2 ve ke2 ke r2.energy r2.energy) fun v108 s108 R108 => ?_
            obtain ⟨rfl, rfl⟩ := R108
            dsimp only [List.cons_append, List.nil_append]
            rw [decide_eq_true (show r2.energy = r2.energy from rfl)]
            refine XO.q (Quiet.guardF rfl rfl fun g109 p109 => Q.not rfl) ?_
            refine XO.q (Q.or rfl (fun hp => lzv hp rfl)) ?_
            refine XO.q (Q.move rfl) ?_
            refine XO.q (Quiet.guardF rfl rfl fun g112 p112 => Q.fieldAddr rfl) ?_
            refine XO.q (Quiet.guardF rfl rfl fun g113 p113 => Q.ld (lzv rfl rfl) rfl) ?_
            refine XO.q (Quiet.guardF rfl rfl fun g114 p114 => Q.fieldAddr rfl) ?_
            refine XO.q (Quiet.guardF rfl rfl fun g115 p115 => Q.ld (lzv rfl rfl) rfl) ?_
            refine XO.callS rfl rfl rfl Try.call24 rfl (.c (lzv rfl rfl) (.c (lzv rfl rfl) .n)) rfl (equalI vn2 vn kn2 kn r2.burnt r2.burnt) fun v116 s116 R116 => ?_
            obtain ⟨rfl, rfl⟩ := R116
            dsimp only [List.cons_append, List.nil_append]
            rw [decide_eq_true (show r2.burnt = r2.burnt from rfl)]
            refine XO.q (Quiet.guardF rfl rfl fun g117 p117 => Q.not rfl) ?_
            refine XO.q (Q.or rfl (fun hp => lzv hp rfl)) ?_
            refine XO.done ?_
            refine XK.if rfl (fun c4 => ?_) (fun c4 => ?_)
            · have _t4 := True.intro
              simp at c4
            · have _t4 := True.intro
              refine XK.skip ?_
              exact mt1 (()) _ _ trivial (.base 82 rfl rfl) inferInstance
          · intro mtr10
            dsimp only [List.cons_append, List.nil_append] at mtr10
            refine XK.drawn [0, 2, 3, 4, 5, 6, 7, 8, 9, 12] [] [kl] (.q 0 (.q 2 (.q 3 (.q 4 (.q 5 (.q 6 (.q 7 (.q 8 (.q 9 (.br 1 true (.br 10 true (.br 11 true (.q 12 .done) .stop) .stop) (.br 10 true (.br 1 true (.br 11 true (.q 12 .done) .stop) .stop) .stop))))))))))) Try.mixed rfl (by kernel_rfl) ?_
            refine XT.q rfl rfl (Q.move rfl) ?_
            refine XT.q rfl rfl (Q.move rfl) ?_
            refine XT.q rfl rfl (Q.move rfl) ?_
            refine XT.q rfl rfl (Q.move rfl) ?_
            refine XT.q rfl rfl (Q.move rfl) ?_
            refine XT.ix rfl rfl rfl rfl (by omega) (by omega) fun i64 => ?_
            refine XT.q rfl rfl (Q.fieldQ rfl (by first | assumption | omega)) ?_
            refine XT.q rfl rfl (Q.ldE rfl (by first | assumption | omega) rfl) ?_
            refine XT.q rfl rfl (Q.build [_, _] (.c 0 1 rfl rfl rfl (.c 1 1 rfl rfl rfl (.n _)))) ?_
            refine XT.call rfl rfl Try.call16 rfl rfl rfl (cloneS v27 kl l (by omega)) (fun v59 s59 R59 => ?_) ?_
            · skip
              obtain ⟨k59, rfl, O59⟩ := R59
              dsimp only [List.cons_append, List.nil_append]
              refine ⟨inferInstance, ?_⟩
              refine XT.lit [_, _] [_, _] [⟨q, (l.getD i default).power⟩] encSpan rfl rfl (by rfl) (by rfl) rfl (by rfl) (by exact .c 0 2 rfl rfl rfl (.n _)) (fun _ => rfl) (by rfl) rfl (by infer_instance) rfl (fun v68 h68 O68 => ⟨inferInstance, ?_⟩) XT.stop
              refine XT.call rfl rfl Try.call50 rfl rfl rfl (insert06 v59 v68 k59 h68 l ⟨q, (l.getD i default).power⟩ i hi (by omega)) (fun v69 s69 R69 => ?_) XT.stop
              obtain ⟨k69, rfl, O69⟩ := R69
              dsimp only [List.cons_append, List.nil_append]
              refine ⟨inferInstance, ?_⟩
              refine XT.q rfl rfl (Q.assign rfl) ?_
              refine XT.done ?_
              exact mtr10 ((v69, k69)) _ _ O69 (.c rfl (.base 13 rfl rfl)) inferInstance
            · skip
              refine XT.lit [_, _] [_, _] [⟨q, (l.getD i default).power⟩] encSpan rfl rfl (by rfl) (by rfl) rfl (by rfl) (by exact .c 0 2 rfl rfl rfl (.n _)) (fun _ => rfl) (by rfl) rfl (by infer_instance) rfl (fun v68 h68 O68 => ⟨inferInstance, ?_⟩) XT.stop
              refine XT.call rfl rfl Try.call16 rfl rfl rfl (cloneS v27 kl l (by omega)) (fun v59 s59 R59 => ?_) XT.stop
              obtain ⟨k59, rfl, O59⟩ := R59
              dsimp only [List.cons_append, List.nil_append]
              refine ⟨inferInstance, ?_⟩
              refine XT.call rfl rfl Try.call50 rfl rfl rfl (insert06 v59 v68 k59 h68 l ⟨q, (l.getD i default).power⟩ i hi (by omega)) (fun v69 s69 R69 => ?_) XT.stop
              obtain ⟨k69, rfl, O69⟩ := R69
              dsimp only [List.cons_append, List.nil_append]
              refine ⟨inferInstance, ?_⟩
              refine XT.q rfl rfl (Q.assign rfl) ?_
              refine XT.done ?_
              exact mtr10 ((v69, k69)) _ _ O69 (.c rfl (.base 13 rfl rfl)) inferInstance
        · have _t3 := True.intro
          refine XK.skip ?_
          exact mt1 (()) _ _ trivial (.base 17 rfl rfl) inferInstance
      · have _t1 := True.intro
        refine XK.skip ?_
        exact mt1 (()) _ _ trivial (.base 0 rfl rfl) inferInstance
end Go.X
