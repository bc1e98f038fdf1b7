/- A part of the proof: a small program logic, plain laws and contracts of functions, each proved by a walk through its operations. No condition but those that stand in each theorem. -/
import Derived.Test.YtocdijoiaongbaaA3
import Derived.KernelRfl
import Derived.Shelf.Sort.Plain
import Derived.Test.YtocdijoiaongbaaProg
set_option linter.unusedSimpArgs false
set_option linter.unusedVariables false
set_option maxRecDepth 20000
namespace Go.X
open Go.Proofs
set_option maxHeartbeats 4000000 in
theorem prove_spec (l : List (Value × PJob)) (vl : Value) (hl K : PHeap) [jl : Arr vl encPJ 6 hl l] (aL : JobsK l K) (rs : List PRack) (vr : Value) (hr : PHeap) [jr : Arr vr encRack 5 hr rs] (m : PRat) (ok : TaskOk (⟨(l.map Prod.snd), rs, m⟩ : PTask)) (lok : ListOk (l.map Prod.snd)) (b1 b2 b3 b4 bt bm : Nat) (vW : Value) [oW : One vW] (bst : Int) :
    ∀ (m_ : Nat) (w : List Int) (vw : Value) (gw : PHeap) (vP : Value) (gP : PHeap) (p : List Bool) (sm : PHeap), OArr vw encI 1 3 gw w → OArr vP encB 1 4 gP p → KnownS (⟨(l.map Prod.snd), rs, m⟩ : PTask) bm sm → w.length ≤ l.length → l.length - w.length ≤ m_ → WOk (⟨(l.map Prod.snd), rs, m⟩ : PTask) w → belowG (⟨(l.map Prod.snd), rs, m⟩ : PTask) bst w → p.length + 2 * 6 ^ m_ ≤ 10000000 →
    Spec Try.prog 38 #[vw, ptr b1 0, ptr b2 0, ptr b3 0, ptr b4 0] [gw, gP, blk b2 [vW, .int .i64 bst, vP] 46, sm] [blk b1 [vl, vr, .int .i64 m.n, .int .i64 m.d] 28, blk b3 [ptr bt 0] 87, blk b4 [(.func (.func 38) #[] #[ptr b1 0, ptr b2 0, ptr b3 0, ptr b4 0])] 91, blk bt [vl, vr, .int .i64 m.n, .int .i64 m.d, .map (some bm)] 90, hl, K, hr]
      (fun _ hs => ∃ vP2 gP2 sm2, hs = [gP2, blk b2 [vW, .int .i64 bst, vP2] 46, sm2] ∧ KnownS (⟨(l.map Prod.snd), rs, m⟩ : PTask) bm sm2 ∧ OArr vP2 encB 1 4 gP2 (proveG (⟨(l.map Prod.snd), rs, m⟩ : PTask) bst w p)) := by
  intro m_
  have ll := jl.le
  have lm : (l.map Prod.snd).length = l.length := List.length_map ..
  have few := ok.few
  have few2 : l.length ≤ 8 := by rw [← lm]; exact few
  have rk5 := ok.rk5
  induction m_ with
  | zero =>
    intro w vw gw vP gP p sm ow oP ks hwl hm wok bel room
    have le := prove_case (t := (⟨(l.map Prod.snd), rs, m⟩ : PTask)) (w := w) (by dsimp only; omega) bel p
    have hcut := cut_leaf bel (show w.length = (l.map Prod.snd).length by omega)
    refine Spec.intro (fn := Try.f38) (N := 28) Try.func38 rfl Try.ntmps38 rfl fun B => ?_
    refine XK.seq ?_
    refine XK.drawn [0, 1, 3, 4, 5, 6] [b1, b2] [] (.q 0 (.q 1 (.q 3 (.q 4 (.br 2 true (.q 5 (.q 6 .done)) .stop))))) Try.mixed rfl (by kernel_rfl) ?_
    refine XT.q rfl rfl (Q.ldA [_, _, _, _] rfl rfl rfl) ?_
    refine XT.q rfl rfl (Q.move rfl) ?_
    refine XT.q rfl rfl (Q.fieldAddr rfl) ?_
    refine XT.q rfl rfl (Q.ld rfl rfl) ?_
    refine XT.call rfl rfl Try.call35 rfl rfl rfl (hope_spec l vl hl K aL rs vr hr m w vw gw ok hwl) (fun v10 s10 R10 => ?_) XT.stop
    obtain ⟨rfl, rfl⟩ := R10
    dsimp only [List.cons_append, List.nil_append]
    refine ⟨inferInstance, ?_⟩
    refine XT.q rfl rfl (Q.leq rfl rfl) ?_
    refine XT.q rfl rfl (Q.assign rfl) ?_
    refine XT.done ?_
    refine XK.seq ?_
    refine XK.region rfl ?_
    refine XO.q (Q.fieldAddr rfl) ?_
    refine XO.q (Q.ld rfl rfl) ?_
    refine XO.q (Q.move rfl) ?_
    refine XO.lit [_] [_] [decide (hopeG (⟨(l.map Prod.snd), rs, m⟩ : PTask) w ≤ bst)] encB (by rfl) (by rfl) rfl (by rfl) (by exact .c 0 1 rfl rfl rfl (.n _)) (fun _ => rfl) (by rfl) rfl (by infer_instance) rfl fun v17 h17 O17 => ?_
    refine XO.append rfl rfl rfl rfl (by simp only [List.length_cons, List.length_nil]; omega) fun v18 h18 O18 => ?_
    refine XO.q (Q.fieldAddr rfl) ?_
    refine XO.st rfl rfl rfl ?_
    refine XO.done ?_
    refine XK.seq ?_
    refine XK.seq ?_
    refine XK.region rfl ?_
    refine XO.q (Q.move rfl) ?_
    refine XO.done ?_
    refine XK.if rfl (fun c0 => ?_) (fun c0 => ?_)
    · have _t0 := True.intro
      refine XK.rt [h18, blk b2 [vW, .int .i64 bst, v18] 46, sm] Try.func38 Try.results38 (.n) ?_
      rw [if_pos c0] at le
      rw [le]
      rw [decide_eq_true c0] at O18
      exact ⟨v18, h18, sm, rfl, ks, O18⟩
    · have _t0 := True.intro
      exact absurd hcut c0
  | succ m_ ih =>
    intro w vw gw vP gP p sm ow oP ks hwl hm wok bel room
    have h6 : 1 ≤ 6 ^ (m_ + 1) := Nat.one_le_pow _ _ (by decide)
    have le := prove_case (t := (⟨(l.map Prod.snd), rs, m⟩ : PTask)) (w := w) (by dsimp only; omega) bel p
    refine Spec.intro (fn := Try.f38) (N := 28) Try.func38 rfl Try.ntmps38 rfl fun B => ?_
    refine XK.seq ?_
    refine XK.drawn [0, 1, 3, 4, 5, 6] [b1, b2] [] (.q 0 (.q 1 (.q 3 (.q 4 (.br 2 true (.q 5 (.q 6 .done)) .stop))))) Try.mixed rfl (by kernel_rfl) ?_
    refine XT.q rfl rfl (Q.ldA [_, _, _, _] rfl rfl rfl) ?_
    refine XT.q rfl rfl (Q.move rfl) ?_
    refine XT.q rfl rfl (Q.fieldAddr rfl) ?_
    refine XT.q rfl rfl (Q.ld rfl rfl) ?_
    refine XT.call rfl rfl Try.call35 rfl rfl rfl (hope_spec l vl hl K aL rs vr hr m w vw gw ok hwl) (fun v10 s10 R10 => ?_) XT.stop
    obtain ⟨rfl, rfl⟩ := R10
    dsimp only [List.cons_append, List.nil_append]
    refine ⟨inferInstance, ?_⟩
    refine XT.q rfl rfl (Q.leq rfl rfl) ?_
    refine XT.q rfl rfl (Q.assign rfl) ?_
    refine XT.done ?_
    refine XK.seq ?_
    refine XK.region rfl ?_
    refine XO.q (Q.fieldAddr rfl) ?_
    refine XO.q (Q.ld rfl rfl) ?_
    refine XO.q (Q.move rfl) ?_
    refine XO.lit [_] [_] [decide (hopeG (⟨(l.map Prod.snd), rs, m⟩ : PTask) w ≤ bst)] encB (by rfl) (by rfl) rfl (by rfl) (by exact .c 0 1 rfl rfl rfl (.n _)) (fun _ => rfl) (by rfl) rfl (by infer_instance) rfl fun v17 h17 O17 => ?_
    refine XO.append rfl rfl rfl rfl (by simp only [List.length_cons, List.length_nil]; omega) fun v18 h18 O18 => ?_
    refine XO.q (Q.fieldAddr rfl) ?_
    refine XO.st rfl rfl rfl ?_
    refine XO.done ?_
    refine XK.seq ?_
    refine XK.seq ?_
    refine XK.region rfl ?_
    refine XO.q (Q.move rfl) ?_
    refine XO.done ?_
    refine XK.if rfl (fun c0 => ?_) (fun c0 => ?_)
    · have _t0 := True.intro
      refine XK.rt [h18, blk b2 [vW, .int .i64 bst, v18] 46, sm] Try.func38 Try.results38 (.n) ?_
      rw [if_pos c0] at le
      rw [le]
      rw [decide_eq_true c0] at O18
      exact ⟨v18, h18, sm, rfl, ks, O18⟩
    · have _t0 := True.intro
      have hlt : w.length < l.length := by
        rcases Nat.lt_or_ge w.length l.length with h | h
        · exact h
        · exact absurd (cut_leaf bel (show w.length = (l.map Prod.snd).length by omega)) c0
      rw [decide_eq_false c0] at O18
      refine XK.skip ?_
      refine XK.seq ?_
      refine XK.region rfl ?_
      refine XO.q (Q.ld rfl rfl) ?_
      refine XO.q (Q.move rfl) ?_
      refine XO.call Try.call37 rfl rfl rfl (sons_spec l vl hl K aL rs vr hr m w vw gw ok lok hlt wok bt bm) fun v23 s23 R23 => ?_
      obtain ⟨bx, by_, rfl, hit⟩ := R23
      dsimp only [List.cons_append, List.nil_append]
      refine XO.done ?_
      refine XK.block ?_
      refine XK.rangeG (X := Value × PHeap × List Bool) (ps := [24]) (fun ⟨vP1, gP1, p1⟩ => [gP1, blk b2 [vW, .int .i64 bst, vP1] 46]) (fun i ⟨vP1, gP1, p1⟩ => p1 = (foldTo (fun p son => proveG (⟨(l.map Prod.snd), rs, m⟩ : PTask) bst son p) (psons (⟨(l.map Prod.snd), rs, m⟩ : PTask) w) (p ++ [false]) i) ∧ OArr vP1 encB 1 4 gP1 p1) (fun j0 ⟨vP1, gP1, p1⟩ => False) (v18, h18, p ++ [false]) [h18, blk b2 [vW, .int .i64 bst, v18] 46] (sm) rfl (hit) rfl (⟨rfl, O18⟩) (ks) rfl (fun i g vs hY => by obtain ⟨v, rfl, _⟩ := hY; rfl) ?_ ?_ (fun _ _ _ hJ _ => hJ.elim)
      · rintro lq rec B' i ⟨vP1, gP1, p1⟩ sm1 g1 vs hi ⟨v24, rfl, O24⟩ ⟨e1, oP1⟩ ks1
        dsimp only [List.cons_append, List.nil_append]
        obtain ⟨y, ey, y1, y2⟩ := psons_get (t := (⟨(l.map Prod.snd), rs, m⟩ : PTask)) (w := w) hi
        change (psons (⟨(l.map Prod.snd), rs, m⟩ : PTask) w).getD i [] = w ++ [y] at ey
        have el : ((psons (⟨(l.map Prod.snd), rs, m⟩ : PTask) w).getD i []).length = w.length + 1 := by
          have := congrArg List.length ey
          rw [List.length_append] at this; exact this
        refine XK.region rfl ?_
        refine XO.q (Q.assign rfl) ?_
        refine XO.done ?_
        refine XK.beginRound ?_
        refine XK.block ?_
        refine XK.region rfl ?_
        refine XO.q (Q.ld rfl rfl) ?_
        refine XO.q (Q.move rfl) ?_
        refine XO.call Try.call38 rfl rfl rfl (ih ((psons (⟨(l.map Prod.snd), rs, m⟩ : PTask) w).getD i []) v24 g1 vP1 gP1 p1 sm1 O24 oP1 ks1 (by rw [el]; omega) (by rw [el]; omega) (by rw [ey]; exact wok.snoc (by dsimp only; omega) y1 y2) (below_son (by dsimp only; omega) bel hi) (by have := prove_room ok (m := m_) (w := w) (by dsimp only; omega) (by dsimp only; omega) bel p hi; rw [← e1] at this; omega)) fun v27 s27 R27 => ?_
        obtain ⟨vP2, gP2, sm2, rfl, ks2, oP2⟩ := R27
        dsimp only [List.cons_append, List.nil_append]
        refine XO.done ?_
        refine XK.inBlock ?_
        exact XK.leave (j := none) [gP2, blk b2 [vW, .int .i64 bst, vP2] 46, sm2] trivial ⟨(vP2, gP2, (proveG (⟨(l.map Prod.snd), rs, m⟩ : PTask) bst ((psons (⟨(l.map Prod.snd), rs, m⟩ : PTask) w).getD i []) p1)), sm2, ⟨by rw [foldTo, ← e1]; rfl, oP2⟩, ks2, rfl⟩
      · rintro ⟨vP1, gP1, p1⟩ sm1 ⟨e1, oP1⟩ ks1
        dsimp only [List.cons_append, List.nil_append]
        refine XK.inBlock ?_
        refine XK.fn [gP1, blk b2 [vW, .int .i64 bst, vP1] 46, sm1] Try.func38 Try.results38 (.n) ?_
        rw [if_neg c0, ← e1] at le
        rw [le]
        exact ⟨vP1, gP1, sm1, rfl, ks1, oP1⟩
set_option maxHeartbeats 4000000 in
theorem Best_spec (l : List (Value × PJob)) (vl : Value) (hl K : PHeap) [jl : Arr vl encPJ 6 hl l] (aL : JobsK l K) (rs : List PRack) (vr : Value) (hr : PHeap) [jr : Arr vr encRack 5 hr rs] (m : PRat) : Spec Try.prog 12 #[.agg #[vl, vr, .int .i64 m.n, .int .i64 m.d]] [] [hl, K, hr] (fun v hs => ∃ vW vP kW kP bw s p, v = .tuple #[.agg #[vW, .int .i64 s, vP], .int .i64 (readyG (⟨(l.map Prod.snd), rs, m⟩ : PTask))] ∧ hs = [kW, kP] ∧ OArr vW encI 1 3 kW bw ∧ OArr vP encB 1 4 kP p ∧ (readyG (⟨(l.map Prod.snd), rs, m⟩ : PTask) = 0 → (bw, s, p) = (bestP (⟨(l.map Prod.snd), rs, m⟩ : PTask))) ∧ (readyG (⟨(l.map Prod.snd), rs, m⟩ : PTask) ≠ 0 → (bw, s, p) = ([], 0, []))) := by
  have nI : OArr (.slice none 0 0) encI 1 3 emp ([] : List Int) := OArr.nil (fun _ => rfl)
  have nB : OArr (.slice none 0 0) encB 1 4 emp ([] : List Bool) := OArr.nil (fun _ => rfl)
  have lm : (l.map Prod.snd).length = l.length := List.length_map ..
  refine Spec.intro (fn := Try.f12) (N := 27) Try.func12 rfl Try.ntmps12 rfl fun B => ?_
  refine XK.seq ?_
  refine XK.region rfl ?_
  refine XO.box rfl fun b1 => ?_
  refine XO.alloc fun b2 => ?_
  refine XO.q (Q.assign rfl) ?_
  refine XO.done ?_
  refine XK.seq ?_
  refine XK.seq ?_
  refine XK.region rfl ?_
  refine XO.q (Q.ldA [_, _, _, _] rfl rfl rfl) ?_
  refine XO.call Try.call33 rfl rfl rfl (ready_spec l vl hl K aL rs vr hr m) fun v10 s10 R10 => ?_
  obtain ⟨rfl, rfl⟩ := R10
  dsimp only [List.cons_append, List.nil_append]
  refine XO.q (Q.assign rfl) ?_
  refine XO.done ?_
  refine XK.seq ?_
  refine XK.region rfl ?_
  refine XO.q (Q.move rfl) ?_
  refine XO.q (Q.neq rfl rfl) ?_
  refine XO.done ?_
  refine XK.if rfl (fun c0 => ?_) (fun c0 => ?_)
  · have _t0 := True.intro
    refine XK.seq ?_
    refine XK.region rfl ?_
    refine XO.q (Q.build [_, _, _] (.n _)) ?_
    refine XO.q (Q.move rfl) ?_
    refine XO.st rfl rfl rfl ?_
    refine XO.q (Q.assign rfl) ?_
    refine XO.done ?_
    refine XK.rt [emp, emp] Try.func12 Try.results12 (.cell [_, _, _] rfl rfl rfl (.t rfl .n)) ?_
    exact ⟨.slice none 0 0, .slice none 0 0, emp, emp, [], 0, [], rfl, rfl, nI, nB, fun h => absurd h c0, fun _ => rfl⟩
  · have _t0 := True.intro
    have rk := ready_ok (Decidable.of_not_not c0)
    refine XK.skip ?_
    refine XK.seq ?_
    refine XK.region rfl ?_
    refine XO.q (Q.ldA [_, _, _, _] rfl rfl rfl) ?_
    refine XO.map encK2 fun b16 => ?_
    refine XO.q (Q.build [_, _, _, _, _] (.c 0 4 rfl rfl rfl (.c 4 1 rfl rfl rfl (.n _)))) ?_
    refine XO.box rfl fun b18 => ?_
    refine XO.alloc fun b5 => ?_
    refine XO.st rfl rfl rfl ?_
    refine XO.done ?_
    refine XK.seq ?_
    refine XK.region rfl ?_
    refine XO.q (Q.build [_, _, _] (.c 1 1 rfl rfl rfl (.n _))) ?_
    refine XO.alloc fun b6 => ?_
    refine XO.st rfl rfl rfl ?_
    refine XO.done ?_
    refine XK.seq ?_
    refine XK.region rfl ?_
    refine XO.alloc fun b7 => ?_
    refine XO.done ?_
    refine XK.seq ?_
    refine XK.region rfl ?_
    refine XO.q (Q.func (fun _ he => rfl) (fun _ he => evs_rel he rfl)) ?_
    refine XO.st rfl rfl rfl ?_
    refine XO.done ?_
    refine XK.seq ?_
    refine XK.region rfl ?_
    refine XO.q (Q.ld rfl rfl) ?_
    refine XO.drop (o' := [emp, emp, blk b7 [.func (.func 34) #[] #[ptr b1 0, ptr b6 0, ptr b5 0, ptr b7 0]] 91, blk b6 [.slice none 0 0, .int .i64 (-1), .slice none 0 0] 46, mapH b16 encK2 [], blk b5 [ptr b18 0] 87, blk b18 [vl, vr, .int .i64 m.n, .int .i64 m.d, .map (some b16)] 90, blk b2 [.slice none 0 0, .int .i64 0, .slice none 0 0] 46, blk b1 [vl, vr, .int .i64 m.n, .int .i64 m.d] 28]) ?_
    refine XO.call Try.call34 rfl rfl rfl (look_spec l vl hl K aL rs vr hr m rk.1 rk.2 b1 b6 b5 b7 b18 b16 (.slice none 0 0) l.length [] (.slice none 0 0) emp (.slice none 0 0) emp [] (-1) (mapH b16 encK2 []) nI nI ⟨[], rfl, KnownP.nil _⟩ (Nat.zero_le _) (by simp) (wok_nil _) ⟨by omega, by omega⟩) fun v22 s22 R22 => ?_
    obtain ⟨vW, gW, sm, rfl, ks, oW, r1, r2⟩ := R22
    dsimp only [List.cons_append, List.nil_append]
    refine XO.done ?_
    refine XK.seq ?_
    refine XK.region rfl ?_
    refine XO.alloc fun b8 => ?_
    refine XO.done ?_
    refine XK.seq ?_
    refine XK.region rfl ?_
    refine XO.q (Q.func (fun _ he => rfl) (fun _ he => evs_rel he rfl)) ?_
    refine XO.st rfl rfl rfl ?_
    refine XO.done ?_
    refine XK.seq ?_
    refine XK.region rfl ?_
    refine XO.q (Q.ld rfl rfl) ?_
    refine XO.drop (o' := [emp, emp, blk b8 [.func (.func 38) #[] #[ptr b1 0, ptr b6 0, ptr b5 0, ptr b8 0]] 91, blk b6 [vW, .int .i64 (lookG (⟨(l.map Prod.snd), rs, m⟩ : PTask) [] ([], -1)).2, .slice none 0 0] 46, sm, gW, blk b5 [ptr b18 0] 87, blk b18 [vl, vr, .int .i64 m.n, .int .i64 m.d, .map (some b16)] 90, blk b2 [.slice none 0 0, .int .i64 0, .slice none 0 0] 46, blk b1 [vl, vr, .int .i64 m.n, .int .i64 m.d] 28]) ?_
    refine XO.call Try.call38 rfl rfl rfl (prove_spec l vl hl K aL rs vr hr m rk.1 rk.2 b1 b6 b5 b8 b18 b16 vW (lookG (⟨(l.map Prod.snd), rs, m⟩ : PTask) [] ([], -1)).2 l.length [] (.slice none 0 0) emp (.slice none 0 0) emp [] sm nI nB ks (Nat.zero_le _) (by simp) (wok_nil _) (look_below rk.1 _ [] ([], -1) (Nat.zero_le _) (Nat.le_refl _)).2 (by have h8 : 6 ^ l.length ≤ 6 ^ 8 := Nat.pow_le_pow_right (by decide) (by have := rk.1.few; dsimp only at this; omega); have : (6 : Nat) ^ 8 = 1679616 := rfl; simp only [List.length_nil]; omega)) fun v25 s25 R25 => ?_
    obtain ⟨vP, gP, sm2, rfl, ks2, oP⟩ := R25
    dsimp only [List.cons_append, List.nil_append]
    refine XO.done ?_
    refine XK.seq ?_
    refine XK.region rfl ?_
    refine XO.q (Q.ldA [_, _, _] rfl rfl rfl) ?_
    refine XO.st rfl rfl rfl ?_
    refine XO.q (Q.assign rfl) ?_
    refine XO.done ?_
    refine XK.rt [gW, gP] Try.func12 Try.results12 (.cell [_, _, _] rfl rfl rfl (.t rfl .n)) ?_
    exact ⟨vW, vP, gW, gP, (lookG (⟨(l.map Prod.snd), rs, m⟩ : PTask) [] ([], -1)).1, (lookG (⟨(l.map Prod.snd), rs, m⟩ : PTask) [] ([], -1)).2, proveG (⟨(l.map Prod.snd), rs, m⟩ : PTask) (lookG (⟨(l.map Prod.snd), rs, m⟩ : PTask) [] ([], -1)).2 [] [], by rw [Decidable.of_not_not c0], rfl, oW, oP, fun _ => rfl, fun h => absurd (Decidable.of_not_not c0) h⟩
end Go.X

set_option linter.unusedSimpArgs false
set_option linter.unusedVariables false
set_option maxRecDepth 20000
namespace Go.X
open Go.Proofs
theorem holds_stay {t : PTask} {Pf : List Bool} {W : Int} {w : List Int} {a n : Nat} (h : (holdsTo t Pf W w a n).1 = false) : ∀ m, n ≤ m → holdsTo t Pf W w a m = holdsTo t Pf W w a n
  | 0, hm => by rw [show n = 0 by omega]
  | m + 1, hm => by
    by_cases he : n = m + 1
    · rw [he]
    · have ih := holds_stay h m (by omega)
      have e : holdsTo t Pf W w a (m + 1) = (if (holdsTo t Pf W w a m).1 = true then holdsG t Pf W ((psons t w).getD m default) (holdsTo t Pf W w a m).2 else holdsTo t Pf W w a m) := rfl
      rw [e, ih, if_neg (by rw [h]; decide)]
theorem holds_next {t : PTask} {Pf : List Bool} {W : Int} {w : List Int} {a a1 i : Nat} (h : (true, a1) = holdsTo t Pf W w a i) : holdsTo t Pf W w a (i + 1) = holdsG t Pf W ((psons t w).getD i []) a1 := by
  have e : holdsTo t Pf W w a (i + 1) = (if (holdsTo t Pf W w a i).1 = true then holdsG t Pf W ((psons t w).getD i default) (holdsTo t Pf W w a i).2 else holdsTo t Pf W w a i) := rfl
  rw [e, ← h]; rfl
set_option maxHeartbeats 4000000 in
theorem holds_spec (l : List (Value × PJob)) (vl : Value) (hl K : PHeap) [jl : Arr vl encPJ 6 hl l] (aL : JobsK l K) (rs : List PRack) (vr : Value) (hr : PHeap) [jr : Arr vr encRack 5 hr rs] (m : PRat) (ok : TaskOk (⟨(l.map Prod.snd), rs, m⟩ : PTask)) (lok : ListOk (l.map Prod.snd)) (b1 b2 b3 b4 b5 bt bm : Nat) (vQ : Value) [oQ : One vQ] (W : Int) (Pf : List Bool) (vP : Value) (hP : PHeap) [jP : Arr vP encB 1 hP Pf] :
    ∀ (m_ : Nat) (w : List Int) (vw : Value) (gw : PHeap) (a : Nat) (sm : PHeap), OArr vw encI 1 3 gw w → KnownS (⟨(l.map Prod.snd), rs, m⟩ : PTask) bm sm → w.length ≤ l.length → l.length - w.length ≤ m_ → WOk (⟨(l.map Prod.snd), rs, m⟩ : PTask) w → a ≤ Pf.length →
    Spec Try.prog 41 #[vw, ptr b1 0, ptr b2 0, ptr b3 0, ptr b4 0, ptr b5 0] [gw, blk b1 [.int .i64 ((a : Nat) : Int)] 3, sm] [blk b2 [vQ, .int .i64 W, vP] 46, blk b3 [vl, vr, .int .i64 m.n, .int .i64 m.d] 28, blk b4 [ptr bt 0] 87, blk b5 [(.func (.func 41) #[] #[ptr b1 0, ptr b2 0, ptr b3 0, ptr b4 0, ptr b5 0])] 97, blk bt [vl, vr, .int .i64 m.n, .int .i64 m.d, .map (some bm)] 90, hl, K, hr, hP]
      (fun v hs => ∃ sm2, v = .bool (holdsG (⟨(l.map Prod.snd), rs, m⟩ : PTask) Pf W w a).1 ∧ hs = [blk b1 [.int .i64 (((holdsG (⟨(l.map Prod.snd), rs, m⟩ : PTask) Pf W w a).2 : Nat) : Int)] 3, sm2] ∧ KnownS (⟨(l.map Prod.snd), rs, m⟩ : PTask) bm sm2) := by
  intro m_
  have ll := jl.le
  have lp := jP.le
  have lm : (l.map Prod.snd).length = l.length := List.length_map ..
  have few := ok.few
  have few2 : l.length ≤ 8 := by rw [← lm]; exact few
  have rk5 := ok.rk5
  induction m_ with
  | zero =>
    intro w vw gw a sm ow ks hwl hm wok ha
    have le := holds_eq (t := (⟨(l.map Prod.snd), rs, m⟩ : PTask)) (P := Pf) (W := W) (w := w) (by dsimp only; omega) a
    refine Spec.intro (fn := Try.f41) (N := 51) Try.func41 rfl Try.ntmps41 rfl fun B => ?_
    refine XK.seq ?_
    refine XK.region rfl ?_
    refine XO.alloc fun b7 => ?_
    refine XO.done ?_
    refine XK.seq ?_
    refine XK.seq ?_
    refine XK.region rfl ?_
    refine XO.q (Q.ld rfl rfl) ?_
    refine XO.q (Q.fieldAddr rfl) ?_
    refine XO.q (Q.ld rfl rfl) ?_
    refine XO.len rfl fun l13 => ?_
    refine XO.q (Q.eql rfl rfl) ?_
    refine XO.done ?_
    refine XK.if rfl (fun c0 => ?_) (fun c0 => ?_)
    · have _t0 := True.intro
      refine XK.seq ?_
      refine XK.region rfl ?_
      refine XO.st rfl rfl rfl ?_
      refine XO.done ?_
      refine XK.rt [blk b1 [.int .i64 ((a : Nat) : Int)] 3, sm] Try.func41 Try.results41 (.cell1 rfl rfl (.n)) ?_
      rw [if_pos (show a = Pf.length by omega)] at le
      rw [le]
      exact ⟨sm, rfl, rfl, ks⟩
    · have _t0 := True.intro
      refine XK.skip ?_
      refine XK.seq ?_
      refine XK.region rfl ?_
      refine XO.q (Q.fieldAddr rfl) ?_
      refine XO.q (Q.ld rfl rfl) ?_
      refine XO.q (Q.ld rfl rfl) ?_
      refine XO.ix rfl rfl (by omega) (by omega) fun i18 => ?_
      refine XO.q (Q.ldE rfl (by first | assumption | omega) rfl) ?_
      refine XO.q (Q.assign rfl) ?_
      refine XO.done ?_
      refine XK.seq ?_
      refine XK.region rfl ?_
      refine XO.q (Q.ld rfl rfl) ?_
      refine XO.q (Q.add rfl rfl ⟨by omega, by omega⟩) ?_
      rw [show ((a : Nat) : Int) + 1 = ((a + 1 : Nat) : Int) from rfl]
      refine XO.st rfl rfl rfl ?_
      refine XO.done ?_
      refine XK.seq ?_
      refine XK.block ?_
      refine XK.seq ?_
      refine XK.region rfl ?_
      refine XO.q (Q.move rfl) ?_
      refine XO.q (Q.assign rfl) ?_
      refine XO.done ?_
      refine XK.if rfl (fun c1 => ?_) (fun c1 => ?_)
      · have _t1 := True.intro
        refine XK.seq ?_
        refine XK.drawn [0, 1, 3, 4, 5] [b3, b2] [] (.q 0 (.q 1 (.q 3 (.q 4 (.br 2 true (.q 5 (.br 6 false .done .stop)) .stop))))) Try.mixed rfl (by kernel_rfl) ?_
        refine XT.q rfl rfl (Q.ldA [_, _, _, _] rfl rfl rfl) ?_
        refine XT.q rfl rfl (Q.move rfl) ?_
        refine XT.q rfl rfl (Q.fieldAddr rfl) ?_
        refine XT.q rfl rfl (Q.ld rfl rfl) ?_
        refine XT.call rfl rfl Try.call35 rfl rfl rfl (hope_spec l vl hl K aL rs vr hr m w vw gw ok hwl) (fun v26 s26 R26 => ?_) XT.stop
        obtain ⟨rfl, rfl⟩ := R26
        dsimp only [List.cons_append, List.nil_append]
        refine ⟨inferInstance, ?_⟩
        refine XT.q rfl rfl (Q.leq rfl rfl) ?_
        refine XT.st rfl rfl rfl rfl rfl ⟨inferInstance, ?_⟩ XT.stop
        refine XT.done ?_
        refine XK.rt [blk b1 [.int .i64 ((a + 1 : Nat) : Int)] 3, sm] Try.func41 Try.results41 (.cell1 rfl rfl (.n)) ?_
        rw [if_neg (show ¬ a = Pf.length by omega), if_pos (show Pf.getD a false = true from c1)] at le
        rw [le]
        exact ⟨sm, rfl, rfl, ks⟩
      · have _t1 := True.intro
        refine XK.seq ?_
        refine XK.region rfl ?_
        refine XO.q (Q.move rfl) ?_
        refine XO.len rfl fun l32 => ?_
        refine XO.q (Q.fieldAddr rfl) ?_
        refine XO.q (Q.ld rfl rfl) ?_
        refine XO.len rfl fun l35 => ?_
        refine XO.q (Q.eql rfl rfl) ?_
        refine XO.q (Q.assign rfl) ?_
        refine XO.done ?_
        refine XK.if rfl (fun c2 => ?_) (fun c2 => ?_)
        · have _t2 := True.intro
          refine XK.seq ?_
          refine XK.drawn [0, 1, 3, 4, 5] [b3, b2] [] (.q 0 (.q 1 (.q 3 (.q 4 (.br 2 true (.q 5 (.br 6 false .done .stop)) .stop))))) Try.mixed rfl (by kernel_rfl) ?_
          refine XT.q rfl rfl (Q.ldA [_, _, _, _] rfl rfl rfl) ?_
          refine XT.q rfl rfl (Q.move rfl) ?_
          refine XT.q rfl rfl (Q.fieldAddr rfl) ?_
          refine XT.q rfl rfl (Q.ld rfl rfl) ?_
          refine XT.call rfl rfl Try.call36 rfl rfl rfl (worth_spec l vl hl K aL rs vr hr m w vw gw ok hwl) (fun v39 s39 R39 => ?_) XT.stop
          obtain ⟨rfl, rfl⟩ := R39
          dsimp only [List.cons_append, List.nil_append]
          refine ⟨inferInstance, ?_⟩
          refine XT.q rfl rfl (Q.leq rfl rfl) ?_
          refine XT.st rfl rfl rfl rfl rfl ⟨inferInstance, ?_⟩ XT.stop
          refine XT.done ?_
          refine XK.rt [blk b1 [.int .i64 ((a + 1 : Nat) : Int)] 3, sm] Try.func41 Try.results41 (.cell1 rfl rfl (.n)) ?_
          rw [if_neg (show ¬ a = Pf.length by omega), if_neg (show ¬ Pf.getD a false = true from c1), if_pos (show w.length = (l.map Prod.snd).length by omega)] at le
          rw [le]
          exact ⟨sm, rfl, rfl, ks⟩
        · have _t2 := True.intro
          exact absurd (show (w.length : Int) = l.length by omega) c2
  | succ m_ ih =>
    intro w vw gw a sm ow ks hwl hm wok ha
    have le := holds_eq (t := (⟨(l.map Prod.snd), rs, m⟩ : PTask)) (P := Pf) (W := W) (w := w) (by dsimp only; omega) a
    refine Spec.intro (fn := Try.f41) (N := 51) Try.func41 rfl Try.ntmps41 rfl fun B => ?_
    refine XK.seq ?_
    refine XK.region rfl ?_
    refine XO.alloc fun b7 => ?_
    refine XO.done ?_
    refine XK.seq ?_
    refine XK.seq ?_
    refine XK.region rfl ?_
    refine XO.q (Q.ld rfl rfl) ?_
    refine XO.q (Q.fieldAddr rfl) ?_
    refine XO.q (Q.ld rfl rfl) ?_
    refine XO.len rfl fun l13 => ?_
    refine XO.q (Q.eql rfl rfl) ?_
    refine XO.done ?_
    refine XK.if rfl (fun c0 => ?_) (fun c0 => ?_)
    · have _t0 := True.intro
      refine XK.seq ?_
      refine XK.region rfl ?_
      refine XO.st rfl rfl rfl ?_
      refine XO.done ?_
      refine XK.rt [blk b1 [.int .i64 ((a : Nat) : Int)] 3, sm] Try.func41 Try.results41 (.cell1 rfl rfl (.n)) ?_
      rw [if_pos (show a = Pf.length by omega)] at le
      rw [le]
      exact ⟨sm, rfl, rfl, ks⟩
    · have _t0 := True.intro
      refine XK.skip ?_
      refine XK.seq ?_
      refine XK.region rfl ?_
      refine XO.q (Q.fieldAddr rfl) ?_
      refine XO.q (Q.ld rfl rfl) ?_
      refine XO.q (Q.ld rfl rfl) ?_
      refine XO.ix rfl rfl (by omega) (by omega) fun i18 => ?_
      refine XO.q (Q.ldE rfl (by first | assumption | omega) rfl) ?_
      refine XO.q (Q.assign rfl) ?_
      refine XO.done ?_
      refine XK.seq ?_
      refine XK.region rfl ?_
      refine XO.q (Q.ld rfl rfl) ?_
      refine XO.q (Q.add rfl rfl ⟨by omega, by omega⟩) ?_
      rw [show ((a : Nat) : Int) + 1 = ((a + 1 : Nat) : Int) from rfl]
      refine XO.st rfl rfl rfl ?_
      refine XO.done ?_
      refine XK.seq ?_
      refine XK.block ?_
      refine XK.seq ?_
      refine XK.region rfl ?_
      refine XO.q (Q.move rfl) ?_
      refine XO.q (Q.assign rfl) ?_
      refine XO.done ?_
      refine XK.if rfl (fun c1 => ?_) (fun c1 => ?_)
      · have _t1 := True.intro
        refine XK.seq ?_
        refine XK.drawn [0, 1, 3, 4, 5] [b3, b2] [] (.q 0 (.q 1 (.q 3 (.q 4 (.br 2 true (.q 5 (.br 6 false .done .stop)) .stop))))) Try.mixed rfl (by kernel_rfl) ?_
        refine XT.q rfl rfl (Q.ldA [_, _, _, _] rfl rfl rfl) ?_
        refine XT.q rfl rfl (Q.move rfl) ?_
        refine XT.q rfl rfl (Q.fieldAddr rfl) ?_
        refine XT.q rfl rfl (Q.ld rfl rfl) ?_
        refine XT.call rfl rfl Try.call35 rfl rfl rfl (hope_spec l vl hl K aL rs vr hr m w vw gw ok hwl) (fun v26 s26 R26 => ?_) XT.stop
        obtain ⟨rfl, rfl⟩ := R26
        dsimp only [List.cons_append, List.nil_append]
        refine ⟨inferInstance, ?_⟩
        refine XT.q rfl rfl (Q.leq rfl rfl) ?_
        refine XT.st rfl rfl rfl rfl rfl ⟨inferInstance, ?_⟩ XT.stop
        refine XT.done ?_
        refine XK.rt [blk b1 [.int .i64 ((a + 1 : Nat) : Int)] 3, sm] Try.func41 Try.results41 (.cell1 rfl rfl (.n)) ?_
        rw [if_neg (show ¬ a = Pf.length by omega), if_pos (show Pf.getD a false = true from c1)] at le
        rw [le]
        exact ⟨sm, rfl, rfl, ks⟩
      · have _t1 := True.intro
        refine XK.seq ?_
        refine XK.region rfl ?_
        refine XO.q (Q.move rfl) ?_
        refine XO.len rfl fun l32 => ?_
        refine XO.q (Q.fieldAddr rfl) ?_
        refine XO.q (Q.ld rfl rfl) ?_
        refine XO.len rfl fun l35 => ?_
        refine XO.q (Q.eql rfl rfl) ?_
        refine XO.q (Q.assign rfl) ?_
        refine XO.done ?_
        refine XK.if rfl (fun c2 => ?_) (fun c2 => ?_)
        · have _t2 := True.intro
          refine XK.seq ?_
          refine XK.drawn [0, 1, 3, 4, 5] [b3, b2] [] (.q 0 (.q 1 (.q 3 (.q 4 (.br 2 true (.q 5 (.br 6 false .done .stop)) .stop))))) Try.mixed rfl (by kernel_rfl) ?_
          refine XT.q rfl rfl (Q.ldA [_, _, _, _] rfl rfl rfl) ?_
          refine XT.q rfl rfl (Q.move rfl) ?_
          refine XT.q rfl rfl (Q.fieldAddr rfl) ?_
          refine XT.q rfl rfl (Q.ld rfl rfl) ?_
          refine XT.call rfl rfl Try.call36 rfl rfl rfl (worth_spec l vl hl K aL rs vr hr m w vw gw ok hwl) (fun v39 s39 R39 => ?_) XT.stop
          obtain ⟨rfl, rfl⟩ := R39
          dsimp only [List.cons_append, List.nil_append]
          refine ⟨inferInstance, ?_⟩
          refine XT.q rfl rfl (Q.leq rfl rfl) ?_
          refine XT.st rfl rfl rfl rfl rfl ⟨inferInstance, ?_⟩ XT.stop
          refine XT.done ?_
          refine XK.rt [blk b1 [.int .i64 ((a + 1 : Nat) : Int)] 3, sm] Try.func41 Try.results41 (.cell1 rfl rfl (.n)) ?_
          rw [if_neg (show ¬ a = Pf.length by omega), if_neg (show ¬ Pf.getD a false = true from c1), if_pos (show w.length = (l.map Prod.snd).length by omega)] at le
          rw [le]
          exact ⟨sm, rfl, rfl, ks⟩
        · have _t2 := True.intro
          refine XK.skip ?_
          refine XK.inBlock ?_
          refine XK.seq ?_
          refine XK.seq ?_
          refine XK.region rfl ?_
          refine XO.q (Q.ld rfl rfl) ?_
          refine XO.q (Q.move rfl) ?_
          refine XO.call Try.call37 rfl rfl rfl (sons_spec l vl hl K aL rs vr hr m w vw gw ok lok (by omega) wok bt bm) fun v45 s45 R45 => ?_
          obtain ⟨bx, by_, rfl, hit⟩ := R45
          dsimp only [List.cons_append, List.nil_append]
          refine XO.done ?_
          refine XK.block ?_
          refine XK.rangeG (X := Nat) (ps := [46]) (fun a1 => [blk b1 [.int .i64 ((a1 : Nat) : Int)] 3, blk b7 [.bool false] 4]) (fun i a1 => (true, a1) = (holdsTo (⟨(l.map Prod.snd), rs, m⟩ : PTask) Pf W w a i) ∧ a1 ≤ Pf.length) (fun j0 a1 => j0 = Code.ret ∧ ∃ i, i < (psons (⟨(l.map Prod.snd), rs, m⟩ : PTask) w).length ∧ (false, a1) = (holdsTo (⟨(l.map Prod.snd), rs, m⟩ : PTask) Pf W w a (i + 1))) (a + 1) [blk b1 [.int .i64 ((a + 1 : Nat) : Int)] 3, blk b7 [.bool false] 4] (sm) rfl (hit) rfl (⟨rfl, by omega⟩) (ks) rfl (fun i g vs hY => by obtain ⟨v, rfl, _⟩ := hY; rfl) ?_ ?_ ?_
          · rintro lq rec B' i a1 sm1 g1 vs hi ⟨v46, rfl, O46⟩ ⟨e1, r1⟩ ks1
            dsimp only [List.cons_append, List.nil_append]
            obtain ⟨y, ey, y1, y2⟩ := psons_get (t := (⟨(l.map Prod.snd), rs, m⟩ : PTask)) (w := w) hi
            change (psons (⟨(l.map Prod.snd), rs, m⟩ : PTask) w).getD i [] = w ++ [y] at ey
            have el : ((psons (⟨(l.map Prod.snd), rs, m⟩ : PTask) w).getD i []).length = w.length + 1 := by
              have := congrArg List.length ey
              rw [List.length_append] at this; exact this
            have hn := holds_next e1
            have hl2 := holds_len (t := (⟨(l.map Prod.snd), rs, m⟩ : PTask)) (P := Pf) (W := W) _ ((psons (⟨(l.map Prod.snd), rs, m⟩ : PTask) w).getD i []) a1 (by dsimp only; rw [el]; omega) (Nat.le_refl _) r1
            refine XK.region rfl ?_
            refine XO.q (Q.assign rfl) ?_
            refine XO.done ?_
            refine XK.beginRound ?_
            refine XK.block ?_
            refine XK.seq ?_
            refine XK.region rfl ?_
            refine XO.q (Q.ld rfl rfl) ?_
            refine XO.q (Q.move rfl) ?_
            refine XO.call Try.call41 rfl rfl rfl (ih ((psons (⟨(l.map Prod.snd), rs, m⟩ : PTask) w).getD i []) v46 g1 a1 sm1 O46 ks1 (by rw [el]; omega) (by rw [el]; omega) (by rw [ey]; exact wok.snoc (by dsimp only; omega) y1 y2) r1) fun v49 s49 R49 => ?_
            obtain ⟨sm2, rfl, rfl, ks2⟩ := R49
            dsimp only [List.cons_append, List.nil_append]
            refine XO.q (Q.not rfl) ?_
            refine XO.done ?_
            refine XK.if rfl (fun c3 => ?_) (fun c3 => ?_)
            · have _t3 := True.intro
              refine XK.seq ?_
              refine XK.region rfl ?_
              refine XO.st rfl rfl rfl ?_
              refine XO.done ?_
              exact XK.leave (j := some .ret) [blk b1 [.int .i64 (((holdsG (⟨(l.map Prod.snd), rs, m⟩ : PTask) Pf W ((psons (⟨(l.map Prod.snd), rs, m⟩ : PTask) w).getD i []) a1).2 : Nat) : Int)] 3, blk b7 [.bool false] 4, sm2] trivial ⟨((holdsG (⟨(l.map Prod.snd), rs, m⟩ : PTask) Pf W ((psons (⟨(l.map Prod.snd), rs, m⟩ : PTask) w).getD i []) a1).2), sm2, ⟨rfl, ⟨i, hi, by rw [hn]; exact Prod.ext (by simpa using c3) rfl⟩⟩, ks2, rfl⟩
            · have _t3 := True.intro
              refine XK.skip ?_
              refine XK.inBlock ?_
              exact XK.leave (j := none) [blk b1 [.int .i64 (((holdsG (⟨(l.map Prod.snd), rs, m⟩ : PTask) Pf W ((psons (⟨(l.map Prod.snd), rs, m⟩ : PTask) w).getD i []) a1).2 : Nat) : Int)] 3, blk b7 [.bool false] 4, sm2] trivial ⟨((holdsG (⟨(l.map Prod.snd), rs, m⟩ : PTask) Pf W ((psons (⟨(l.map Prod.snd), rs, m⟩ : PTask) w).getD i []) a1).2), sm2, ⟨by rw [hn]; exact Prod.ext (by simpa using c3) rfl, hl2⟩, ks2, rfl⟩
          · rintro a1 sm1 ⟨e1, r1⟩ ks1
            dsimp only [List.cons_append, List.nil_append]
            refine XK.inBlock ?_
            refine XK.seq ?_
            refine XK.region rfl ?_
            refine XO.st rfl rfl rfl ?_
            refine XO.done ?_
            refine XK.rt [blk b1 [.int .i64 ((a1 : Nat) : Int)] 3, sm1] Try.func41 Try.results41 (.cell1 rfl rfl (.n)) ?_
            rw [if_neg (show ¬ a = Pf.length by omega), if_neg (show ¬ Pf.getD a false = true from c1), if_neg (show ¬ w.length = (l.map Prod.snd).length by omega), ← e1] at le
            rw [le]
            exact ⟨sm1, rfl, rfl, ks1⟩
          · rintro _ a1 sm1 ⟨rfl, ⟨i, hi, e2⟩⟩ ks1
            dsimp only [List.cons_append, List.nil_append]
            refine XK.rt [blk b1 [.int .i64 ((a1 : Nat) : Int)] 3, sm1] Try.func41 Try.results41 (.cell1 rfl rfl (.n)) ?_
            rw [if_neg (show ¬ a = Pf.length by omega), if_neg (show ¬ Pf.getD a false = true from c1), if_neg (show ¬ w.length = (l.map Prod.snd).length by omega), holds_stay (n := i + 1) (by rw [← e2]) _ (by omega), ← e2] at le
            rw [le]
            exact ⟨sm1, rfl, rfl, ks1⟩
set_option maxHeartbeats 4000000 in
theorem Verify_spec (l : List (Value × PJob)) (vl : Value) (hl K : PHeap) [jl : Arr vl encPJ 6 hl l] (aL : JobsK l K) (rs : List PRack) (vr : Value) (hr : PHeap) [jr : Arr vr encRack 5 hr rs] (m : PRat) (w : List Int) (vw : Value) (hw : PHeap) [jw : Arr vw encI 1 hw w] (W : Int) (Pf : List Bool) (vP : Value) (hP : PHeap) [jP : Arr vP encB 1 hP Pf] : Spec Try.prog 13 #[.agg #[vl, vr, .int .i64 m.n, .int .i64 m.d], .agg #[vw, .int .i64 W, vP]] [] [hl, K, hr, hw, hP] (fun v hs => v = .int .i64 (verifyP (⟨(l.map Prod.snd), rs, m⟩ : PTask) w W Pf) ∧ hs = []) := by
  have nI : OArr (.slice none 0 0) encI 1 3 emp ([] : List Int) := OArr.nil (fun _ => rfl)
  have lm : (l.map Prod.snd).length = l.length := List.length_map ..
  have lp := jP.le
  refine Spec.intro (fn := Try.f13) (N := 50) Try.func13 rfl Try.ntmps13 rfl fun B => ?_
  refine XK.seq ?_
  refine XK.region rfl ?_
  refine XO.box rfl fun b2 => ?_
  refine XO.box rfl fun b3 => ?_
  refine XO.q (Q.assign rfl) ?_
  refine XO.done ?_
  refine XK.seq ?_
  refine XK.seq ?_
  refine XK.region rfl ?_
  refine XO.q (Q.ldA [_, _, _, _] rfl rfl rfl) ?_
  refine XO.call Try.call33 rfl rfl rfl (ready_spec l vl hl K aL rs vr hr m) fun v10 s10 R10 => ?_
  obtain ⟨rfl, rfl⟩ := R10
  dsimp only [List.cons_append, List.nil_append]
  refine XO.q (Q.assign rfl) ?_
  refine XO.done ?_
  refine XK.seq ?_
  refine XK.region rfl ?_
  refine XO.q (Q.move rfl) ?_
  refine XO.q (Q.neq rfl rfl) ?_
  refine XO.done ?_
  refine XK.if rfl (fun c0 => ?_) (fun c0 => ?_)
  · have _t0 := True.intro
    refine XK.seq ?_
    refine XK.region rfl ?_
    refine XO.q (Q.move rfl) ?_
    refine XO.q (Q.assign rfl) ?_
    refine XO.done ?_
    refine XK.rt [] Try.func13 Try.results13 (.t rfl .n) ?_
    exact ⟨by rw [verifyP, if_pos c0], rfl⟩
  · have _t0 := True.intro
    have rk := ready_ok (Decidable.of_not_not c0)
    refine XK.skip ?_
    refine XK.seq ?_
    refine XK.seq ?_
    refine XK.region rfl ?_
    refine XO.q (Q.ldA [_, _, _, _] rfl rfl rfl) ?_
    refine XO.q (Q.fieldAddr rfl) ?_
    refine XO.q (Q.ld rfl rfl) ?_
    refine XO.call Try.call39 rfl rfl rfl (formed_spec l vl hl K aL rs vr hr m w vw hw) fun v17 s17 R17 => ?_
    obtain ⟨rfl, rfl⟩ := R17
    dsimp only [List.cons_append, List.nil_append]
    refine XO.q (Q.neq rfl rfl) ?_
    refine XO.q (Q.move rfl) ?_
    refine XO.q (Quiet.guardF rfl rfl fun g20 p20 => Q.ldA [_, _, _, _] rfl rfl rfl) ?_
    refine XO.q (Quiet.guardF rfl rfl fun g21 p21 => Q.fieldAddr rfl) ?_
    refine XO.q (Quiet.guardF rfl rfl fun g22 p22 => Q.ld (lzv g22 rfl) rfl) ?_
    refine XO.gcallF rfl rfl Try.call40 rfl (fun g23 => .c (lzv g23 rfl) (.c (lzv g23 rfl) .n)) rfl (fun g23 p23 => allowed_spec l vl hl K aL rs vr hr m w vw hw (formed_iff (Decidable.of_not_not p23)).1 (formed_iff (Decidable.of_not_not p23)).2.1 (formed_iff (Decidable.of_not_not p23)).2.2.2) ?_
    refine XO.q (Quiet.guardF rfl rfl fun g24 p24 => Q.not (lzv g24 rfl)) ?_
    refine XO.q (Q.or rfl (fun hp => lzv hp rfl)) ?_
    refine XO.done ?_
    refine XK.if rfl (fun c1 => ?_) (fun c1 => ?_)
    · have _t1 := True.intro
      refine XK.seq ?_
      refine XK.region rfl ?_
      refine XO.q (Q.assign rfl) ?_
      refine XO.done ?_
      refine XK.rt [] Try.func13 Try.results13 (.t rfl .n) ?_
      exact ⟨by rw [verifyP, if_neg c0, if_pos c1], rfl⟩
    · have _t1 := True.intro
      have c1b := not_or.1 c1
      have fk := formed_iff (Decidable.of_not_not c1b.1)
      have hwl : w.length ≤ l.length := by have := fk.2.1.len; dsimp only at this; omega
      refine XK.skip ?_
      refine XK.seq ?_
      refine XK.region rfl ?_
      refine XO.q (Q.ldA [_, _, _, _] rfl rfl rfl) ?_
      refine XO.map encK2 fun b27 => ?_
      refine XO.q (Q.build [_, _, _, _, _] (.c 0 4 rfl rfl rfl (.c 4 1 rfl rfl rfl (.n _)))) ?_
      refine XO.box rfl fun b29 => ?_
      refine XO.alloc fun b6 => ?_
      refine XO.st rfl rfl rfl ?_
      refine XO.done ?_
      refine XK.seq ?_
      refine XK.region rfl ?_
      refine XO.alloc fun b7 => ?_
      refine XO.st rfl rfl rfl ?_
      refine XO.done ?_
      refine XK.seq ?_
      refine XK.region rfl ?_
      refine XO.alloc fun b8 => ?_
      refine XO.done ?_
      refine XK.seq ?_
      refine XK.region rfl ?_
      refine XO.q (Q.func (fun _ he => rfl) (fun _ he => evs_rel he rfl)) ?_
      refine XO.st rfl rfl rfl ?_
      refine XO.drop (o' := [emp, blk b7 [.int .i64 ((0 : Nat) : Int)] 3, mapH b27 encK2 [], blk b8 [.func (.func 41) #[] #[ptr b7 0, ptr b3 0, ptr b2 0, ptr b6 0, ptr b8 0]] 97, blk b6 [ptr b29 0] 87, blk b29 [vl, vr, .int .i64 m.n, .int .i64 m.d, .map (some b27)] 90, blk b3 [vw, .int .i64 W, vP] 46, blk b2 [vl, vr, .int .i64 m.n, .int .i64 m.d] 28]) ?_
      refine XO.done ?_
      refine XK.seq ?_
      refine XK.seq ?_
      refine XK.drawn [0, 1, 2, 4, 5, 6, 7, 8, 10, 11, 12, 14, 15, 16, 17, 18] [b2, b3, b8] [] (.q 0 (.q 1 (.q 2 (.q 4 (.q 5 (.br 3 true (.q 6 (.q 7 (.q 8 (.br 9 true (.q 10 (.q 11 (.q 12 (.q 14 (.q 15 (.q 16 (.br 13 true (.q 17 (.q 18 .done)) .stop))))))) .stop)))) .stop)))))) Try.mixed rfl (by kernel_rfl) ?_
      refine XT.q rfl rfl (Q.ldA [_, _, _, _] rfl rfl rfl) ?_
      refine XT.q rfl rfl (Q.fieldAddr rfl) ?_
      refine XT.q rfl rfl (Q.ld rfl rfl) ?_
      refine XT.q rfl rfl (Q.fieldAddr rfl) ?_
      refine XT.q rfl rfl (Q.ld rfl rfl) ?_
      refine XT.call rfl rfl Try.call36 rfl rfl rfl (worth_spec l vl hl K aL rs vr hr m w vw hw rk.1 hwl) (fun v34 s34 R34 => ?_) XT.stop
      obtain ⟨rfl, rfl⟩ := R34
      dsimp only [List.cons_append, List.nil_append]
      refine ⟨inferInstance, ?_⟩
      refine XT.q rfl rfl (Q.neq rfl rfl) ?_
      rcases hb38 : decide (worthG (⟨(l.map Prod.snd), rs, m⟩ : PTask) w ≠ W) with _ | _
      · have _ts := True.intro
        refine XT.q rfl rfl (Q.move rfl) ?_
        refine XT.q rfl rfl (Quiet.guardF rfl rfl fun g39 p39 => Q.ld rfl rfl) ?_
        refine XT.callS rfl rfl rfl rfl rfl Try.call41 (lzv rfl rfl) (.c rfl .n) rfl (holds_spec l vl hl K aL rs vr hr m rk.1 rk.2 b7 b3 b2 b6 b8 b29 b27 vw W Pf vP hP l.length [] (.slice none 0 0) emp 0 (mapH b27 encK2 []) nI ⟨[], rfl, KnownP.nil _⟩ (Nat.zero_le _) (by simp) (wok_nil _) (Nat.zero_le _)) (fun v40 s40 R40 => ?_) XT.stop
        obtain ⟨sm2, rfl, rfl, ks2⟩ := R40
        dsimp only [List.cons_append, List.nil_append]
        refine ⟨inferInstance, ?_⟩
        refine XT.q rfl rfl (Quiet.guardF rfl rfl fun g41 p41 => Q.not rfl) ?_
        refine XT.q rfl rfl (Q.or rfl (fun hp => lzv hp rfl)) ?_
        refine XT.q rfl rfl (Q.move rfl) ?_
        refine XT.q rfl rfl (Quiet.guardF rfl rfl fun g45 p45 => Q.fieldAddr rfl) ?_
        refine XT.q rfl rfl (Quiet.guardF rfl rfl fun g46 p46 => Q.ld (lzv g46 rfl) rfl) ?_
        refine XT.q rfl rfl (Quiet.guardF rfl rfl fun g47 p47 => Q.len (lzv g47 rfl)) ?_
        refine XT.qs rfl rfl (Quiet.guardF rfl rfl fun g44 p44 => Q.ld rfl rfl) ⟨inferInstance, ?_⟩ XT.stop
        refine XT.q rfl rfl (Quiet.guardF rfl rfl fun g48 p48 => Q.neq (lzv g48 rfl) (lzv g48 rfl)) ?_
        refine XT.q rfl rfl (Q.or rfl (fun hp => lzv hp rfl)) ?_
        refine XT.done ?_
        refine XK.if rfl (fun c2 => ?_) (fun c2 => ?_)
        · have _t2 := True.intro
          refine XK.seq ?_
          refine XK.region rfl ?_
          refine XO.q (Q.assign rfl) ?_
          refine XO.done ?_
          refine XK.rt [] Try.func13 Try.results13 (.t rfl .n) ?_
          have hv : verifyP (⟨(l.map Prod.snd), rs, m⟩ : PTask) w W Pf = 7 := by rw [verifyP, if_neg c0, if_neg c1, if_pos (by rw [decide_eq_false_iff_not] at hb38; rcases c2 with (h | h) | h; exact h.elim; exact .inr (.inl h); exact .inr (.inr (by omega)))]
          exact ⟨by rw [hv], rfl⟩
        · have _t2 := True.intro
          refine XK.skip ?_
          refine XK.seq ?_
          refine XK.region rfl ?_
          refine XO.q (Q.assign rfl) ?_
          refine XO.done ?_
          refine XK.rt [] Try.func13 Try.results13 (.t rfl .n) ?_
          have hv : verifyP (⟨(l.map Prod.snd), rs, m⟩ : PTask) w W Pf = 0 := by rw [verifyP, if_neg c0, if_neg c1, if_neg (by rw [decide_eq_false_iff_not] at hb38; rintro (h | h | h); exact hb38 h; exact c2 (.inl (.inr h)); exact c2 (.inr (by omega)))]
          exact ⟨by rw [hv], rfl⟩
      · have _ts := True.intro
        refine XT.q rfl rfl (Q.move rfl) ?_
        refine XT.q rfl rfl (Quiet.off rfl rfl (by decide)) ?_
        refine XT.qs rfl rfl (Quiet.off rfl rfl (by decide)) ⟨inferInstance, ?_⟩ XT.stop
        refine XT.q rfl rfl (Quiet.off rfl rfl (by decide)) ?_
        refine XT.q rfl rfl (Q.or (b := true) (b2 := false) rfl (fun hp => by cases hp)) ?_
        refine XT.q rfl rfl (Q.move rfl) ?_
        refine XT.q rfl rfl (Quiet.guardF rfl rfl fun g45 p45 => Q.fieldAddr rfl) ?_
        refine XT.q rfl rfl (Quiet.guardF rfl rfl fun g46 p46 => Q.ld (lzv g46 rfl) rfl) ?_
        refine XT.q rfl rfl (Quiet.guardF rfl rfl fun g47 p47 => Q.len (lzv g47 rfl)) ?_
        refine XT.qs rfl rfl (Quiet.guardF rfl rfl fun g44 p44 => Q.ld rfl rfl) ⟨inferInstance, ?_⟩ XT.stop
        refine XT.q rfl rfl (Quiet.guardF rfl rfl fun g48 p48 => Q.neq (lzv g48 rfl) (lzv g48 rfl)) ?_
        refine XT.q rfl rfl (Q.or rfl (fun hp => lzv hp rfl)) ?_
        refine XT.done ?_
        refine XK.if rfl (fun c3 => ?_) (fun c3 => ?_)
        · have _t3 := True.intro
          refine XK.seq ?_
          refine XK.region rfl ?_
          refine XO.q (Q.assign rfl) ?_
          refine XO.done ?_
          refine XK.rt [] Try.func13 Try.results13 (.t rfl .n) ?_
          have hv : verifyP (⟨(l.map Prod.snd), rs, m⟩ : PTask) w W Pf = 7 := by rw [verifyP, if_neg c0, if_neg c1, if_pos (.inl (by simpa using hb38))]
          exact ⟨by rw [hv], rfl⟩
        · have _t3 := True.intro
          refine XK.skip ?_
          refine XK.seq ?_
          refine XK.region rfl ?_
          refine XO.q (Q.assign rfl) ?_
          refine XO.done ?_
          refine XK.rt [] Try.func13 Try.results13 (.t rfl .n) ?_
          exact absurd (.inl (.inl trivial)) c3
end Go.X

/- The library's sort at this seat: its bodies are those that the library's contract speaks of. No condition. -/
namespace Go.X
open Go.Proofs Go.Shelf
def sortRen : Ren where
  f := fun x => match x with
    | 189 => 60
    | 125 => 84
    | 257 => 83
    | 128 => 102
    | 129 => 103
    | 294 => 93
    | 295 => 94
    | 296 => 95
    | 297 => 96
    | 298 => 97
    | 299 => 98
    | 216 => 99
    | 300 => 100
    | 301 => 101
    | 328 => 105
    | 329 => 106
    | 330 => 107
    | 331 => 108
    | 332 => 109
    | 215 => 110
    | 343 => 111
    | n => n
  t := fun x => match x with
    | 28 => 36
    | 3 => 3
    | 46 => 140
    | 0 => 0
    | 51 => 157
    | 53 => 159
    | 4 => 4
    | 183 => 149
    | 182 => 148
    | 131 => 154
    | 5 => 5
    | 9 => 9
    | 218 => 161
    | 222 => 165
    | 228 => 167
    | 229 => 168
    | n => n
  g := fun n => n
theorem sortLays : Lays.n189 Try.prog sortRen := {
  mixed := by kernel_rfl,
  f125 := by kernel_rfl,
  f128 := by kernel_rfl,
  f129 := by kernel_rfl,
  f189 := by kernel_rfl,
  f215 := by kernel_rfl,
  f216 := by kernel_rfl,
  f257 := by kernel_rfl,
  f294 := by kernel_rfl,
  f295 := by kernel_rfl,
  f296 := by kernel_rfl,
  f297 := by kernel_rfl,
  f298 := by kernel_rfl,
  f299 := by kernel_rfl,
  f300 := by kernel_rfl,
  f301 := by kernel_rfl,
  f328 := by kernel_rfl,
  f329 := by kernel_rfl,
  f330 := by kernel_rfl,
  f331 := by kernel_rfl,
  f332 := by kernel_rfl,
  f343 := by kernel_rfl,
  t0 := by kernel_rfl,
  a0 := fun _ => by kernel_rfl,
  z0 := fun _ => by kernel_rfl,
  v0 := fun _ => by kernel_rfl,
  t3 := by kernel_rfl,
  a3 := fun _ => by kernel_rfl,
  z3 := fun _ => by kernel_rfl,
  v3 := fun _ => by kernel_rfl,
  t4 := by kernel_rfl,
  a4 := fun _ => by kernel_rfl,
  z4 := fun _ => by kernel_rfl,
  v4 := fun _ => by kernel_rfl,
  t5 := by kernel_rfl,
  a5 := fun _ => by kernel_rfl,
  z5 := fun _ => by kernel_rfl,
  v5 := fun _ => by kernel_rfl,
  t9 := by kernel_rfl,
  a9 := fun _ => by kernel_rfl,
  z9 := fun _ => by kernel_rfl,
  v9 := fun _ => by kernel_rfl,
  t28 := by kernel_rfl,
  a28 := fun _ => by kernel_rfl,
  z28 := fun _ => by kernel_rfl,
  v28 := fun _ => by kernel_rfl,
  t46 := by kernel_rfl,
  a46 := fun _ => by kernel_rfl,
  z46 := fun _ => by kernel_rfl,
  v46 := fun _ => by kernel_rfl,
  t51 := by kernel_rfl,
  a51 := fun _ => by kernel_rfl,
  z51 := fun _ => by kernel_rfl,
  v51 := fun _ => by kernel_rfl,
  t53 := by kernel_rfl,
  a53 := fun _ => by kernel_rfl,
  z53 := fun _ => by kernel_rfl,
  v53 := fun _ => by kernel_rfl,
  t131 := by kernel_rfl,
  a131 := fun _ => by kernel_rfl,
  z131 := fun _ => by kernel_rfl,
  v131 := fun _ => by kernel_rfl,
  t182 := by kernel_rfl,
  a182 := fun _ => by kernel_rfl,
  z182 := fun _ => by kernel_rfl,
  v182 := fun _ => by kernel_rfl,
  t183 := by kernel_rfl,
  a183 := fun _ => by kernel_rfl,
  z183 := fun _ => by kernel_rfl,
  v183 := fun _ => by kernel_rfl,
  t218 := by kernel_rfl,
  a218 := fun _ => by kernel_rfl,
  z218 := fun _ => by kernel_rfl,
  v218 := fun _ => by kernel_rfl,
  t222 := by kernel_rfl,
  a222 := fun _ => by kernel_rfl,
  z222 := fun _ => by kernel_rfl,
  v222 := fun _ => by kernel_rfl,
  t228 := by kernel_rfl,
  a228 := fun _ => by kernel_rfl,
  z228 := fun _ => by kernel_rfl,
  v228 := fun _ => by kernel_rfl,
  t229 := by kernel_rfl,
  a229 := fun _ => by kernel_rfl,
  z229 := fun _ => by kernel_rfl,
  v229 := fun _ => by kernel_rfl }
end Go.X

set_option linter.unusedSimpArgs false
set_option linter.unusedVariables false
set_option maxRecDepth 20000
namespace Go.X
open Go.Proofs
theorem keys1 (b1 bm : Nat) (es : List (Int × Value)) (f : Value) (Hr : List PHeap) (Qc : List Nat → PHeap → Prop) (Xc : PHeap → Prop)
    (round : ∀ seen i, i < es.length → ¬ i ∈ seen → ∀ q, Qc seen q → VSpec Try.prog f [.int .i64 (es.getD i default).1] [q] Hr (fun v hs => ∃ b q', v = .bool b ∧ hs = [q'] ∧ (b = true → Qc (seen ++ [i]) q') ∧ (b = false → Xc q')))
    (q : PHeap) (hQ : Qc [] q) : Spec Try.prog 61 #[f, ptr b1 0] [q] (blk b1 [.map (some bm)] 76 :: mapH bm encK1 es :: Hr) (fun _ hs => ∃ q', hs = [q'] ∧ ((∃ seen : List Nat, seen.Nodup ∧ (∀ i, i ∈ seen ↔ i < es.length) ∧ Qc seen q') ∨ Xc q')) := by
  haveI := keyI
  refine Spec.intro (fn := Try.f61) (N := 14) Try.func61 rfl Try.ntmps61 rfl fun B => ?_
  refine XK.seq ?_
  refine XK.region rfl ?_
  refine XO.q (Q.ld rfl rfl) ?_
  refine XO.range rfl fun q5 => ?_
  refine XO.done ?_
  refine XK.block ?_
  refine XK.while (X := List Nat × PHeap) [3, 6, 7, 8, 9, 10, 11, 12, 13] (fun ⟨seen, q1⟩ => []) (fun ⟨seen, q1⟩ => [itH q5 bm es.length seen, q1]) (fun ⟨seen, q1⟩ => seen.Nodup ∧ (∀ i ∈ seen, i < es.length) ∧ Qc seen q1) (fun ⟨seen, q1⟩ => es.length - seen.length) ([], q) [itH q5 bm es.length [], q] rfl ⟨List.nodup_nil, fun i h => (by cases h), hQ⟩ (.base 0 rfl rfl) ?_
  rintro ⟨seen, q1⟩ ⟨hnd, hlt, hQ1⟩ ih0
  dsimp only [List.cons_append, List.nil_append] at ih0 ⊢
  refine XK.seq ?_
  refine XK.region rfl ?_
  refine XO.next rfl rfl fun more6 nl6 seen6 out6 => ?_
  refine XO.q (Q.extract0 rfl) ?_
  refine XO.done ?_
  refine XK.seq ?_
  refine XK.if rfl (fun c0 => ?_) (fun c0 => ?_)
  · have _t0 := True.intro
    obtain ⟨p, hp, hps, rfl⟩ := (Out.next out6) c0
    refine XK.skip ?_
    refine XK.block ?_
    refine XK.seq ?_
    refine XK.region rfl ?_
    refine XO.q (Q.entry (i := p) rfl rfl hp) ?_
    refine XO.q (Q.extract rfl rfl) ?_
    refine XO.q (Q.assign rfl) ?_
    refine XO.done ?_
    refine XK.seq ?_
    refine XK.region rfl ?_
    refine XO.q (Q.move rfl) ?_
    refine XO.q (Q.move rfl) ?_
    refine XO.vcall rfl rfl (round seen p hp hps q1 hQ1) fun v12 s12 R12 => ?_
    obtain ⟨bb, q2, rfl, rfl, hT, hF⟩ := R12
    dsimp only [List.cons_append, List.nil_append]
    refine XO.q (Q.not rfl) ?_
    refine XO.done ?_
    refine XK.if rfl (fun c1 => ?_) (fun c1 => ?_)
    · have _t1 := True.intro
      refine XK.rt [q2] Try.func61 Try.results61 (.n) ?_
      exact ⟨q2, rfl, .inr (hF (by cases bb <;> simp_all))⟩
    · have _t1 := True.intro
      refine XK.skip ?_
      refine XK.inBlock ?_
      exact ih0 (seen ++ [p], q2) _ _ ⟨nodup_snoc hnd hps, mem_snoc hlt hp, hT (by cases bb <;> simp_all)⟩ (by have := seen_few (nodup_snoc hnd hps) (mem_snoc hlt hp); rw [List.length_append, List.length_singleton] at this; dsimp only; rw [List.length_append, List.length_singleton]; omega) (.base 18 rfl rfl) inferInstance
  · have _t0 := True.intro
    obtain ⟨rfl, hall⟩ := Out.done out6 (by simpa using c0)
    refine XK.exit rfl ?_
    refine XK.fn [q1] Try.func61 Try.results61 (.n) ?_
    exact ⟨q1, rfl, .inl ⟨_, hnd, fun i => ⟨hlt i, hall i⟩, hQ1⟩⟩
theorem keys_spec (bm : Nat) (es : List (Int × Value)) : Spec Try.prog 28 #[.map (some bm)] [] [] (fun v hs => ∃ b1, hs = [blk b1 [.map (some bm)] 76] ∧ One v ∧ ItM Try.prog v es.length (fun i => [.int .i64 (es.getD i default).1]) [blk b1 [.map (some bm)] 76, mapH bm encK1 es]) := by
  refine Spec.intro (fn := Try.f28) (N := 4) Try.func28 rfl Try.ntmps28 rfl fun B => ?_
  refine XK.seq ?_
  refine XK.region rfl ?_
  refine XO.box rfl fun b1 => ?_
  refine XO.q (Q.assign rfl) ?_
  refine XO.done ?_
  refine XK.seq ?_
  refine XK.region rfl ?_
  refine XO.q (Q.func (fun _ he => rfl) (fun _ he => evs_rel he rfl)) ?_
  refine XO.q (Q.assign rfl) ?_
  refine XO.done ?_
  refine XK.rt [blk b1 [.map (some bm)] 76] Try.func28 Try.results28 (.t rfl .n) ?_
  exact ⟨b1, rfl, inferInstance, fun f Hr Qc Xc round q hQ => VSpec.fn (fst := []) (cap := [ptr b1 0]) Try.call61 rfl (keys1 b1 bm es f Hr Qc Xc round q hQ)⟩
theorem appendSeq_spec (y : Value) [oy : One y] (es : List (Int × Value)) (Ha Hb : PHeap) (few : es.length ≤ 1000000) (hit : ItM Try.prog y es.length (fun i => [.int .i64 (es.getD i default).1]) [Ha, Hb]) : Spec Try.prog 82 #[.slice none 0 0, y] [] [Ha, Hb] (fun v hs => ∃ (k : PHeap) (seen : List Nat), hs = [k] ∧ seen.Nodup ∧ (∀ i, i ∈ seen ↔ i < es.length) ∧ OArr v encI 1 3 k (seen.map fun i => (es.getD i default).1)) := by
  have nI : OArr (.slice none 0 0) encI 1 3 emp ([] : List Int) := OArr.nil (fun _ => rfl)
  refine Spec.intro (fn := Try.f82) (N := 13) Try.func82 rfl Try.ntmps82 rfl fun B => ?_
  refine XK.seq ?_
  refine XK.region rfl ?_
  refine XO.box rfl fun b2 => ?_
  refine XO.q (Q.assign rfl) ?_
  refine XO.done ?_
  refine XK.seq ?_
  refine XK.seq ?_
  refine XK.region rfl ?_
  refine XO.q (Q.move rfl) ?_
  refine XO.done ?_
  refine XK.block ?_
  refine XK.rangeM (X := Value × PHeap) (ps := [7]) ((fun i => [.int .i64 (es.getD i default).1])) (fun ⟨vo, ko⟩ => [blk b2 [vo] 36, ko]) (fun seen ⟨vo, ko⟩ => seen.Nodup ∧ (∀ i ∈ seen, i < es.length) ∧ OArr vo encI 1 3 ko (seen.map fun i => (es.getD i default).1)) (fun _ _ => False) (.slice none 0 0, emp) [blk b2 [.slice none 0 0] 36, emp] rfl ⟨List.nodup_nil, fun i h => (by cases h), nI⟩ rfl (hit) rfl (fun i hi => rfl) ?_ ?_ (fun _ _ hJ => hJ.elim)
  · rintro lq rec B' seen i ⟨vo, ko⟩ hi hns ⟨hnd, hlt, OO⟩
    dsimp only [List.cons_append, List.nil_append]
    refine XK.region rfl ?_
    refine XO.q (Q.assign rfl) ?_
    refine XO.done ?_
    refine XK.beginRound ?_
    refine XK.block ?_
    refine XK.region rfl ?_
    refine XO.q (Q.ld rfl rfl) ?_
    refine XO.q (Q.move rfl) ?_
    refine XO.lit [_] [_] [(es.getD i default).1] encI (by rfl) (by rfl) rfl (by rfl) (by exact .c 0 1 rfl rfl rfl (.n _)) (fun _ => rfl) (by rfl) rfl (by infer_instance) rfl fun v10 h10 O10 => ?_
    refine XO.append rfl rfl rfl rfl (by have := seen_few hnd hlt; simp only [List.length_map, List.length_cons, List.length_nil]; omega) fun v11 h11 O11 => ?_
    refine XO.st rfl rfl rfl ?_
    refine XO.done ?_
    refine XK.inBlock ?_
    exact XK.leave (j := none) [blk b2 [v11] 36, h11] trivial ⟨(v11, h11), ⟨nodup_snoc hnd hns, mem_snoc hlt hi, by rw [List.map_append]; exact O11⟩, rfl⟩
  · rintro ⟨vo, ko⟩ seen hnd hall ⟨hnd, hlt, OO⟩
    dsimp only [List.cons_append, List.nil_append]
    refine XK.inBlock ?_
    refine XK.seq ?_
    refine XK.region rfl ?_
    refine XO.q (Q.ld rfl rfl) ?_
    refine XO.q (Q.assign rfl) ?_
    refine XO.done ?_
    refine XK.rt [ko] Try.func82 Try.results82 (.t rfl .n) ?_
    exact ⟨ko, seen, rfl, hnd, hall, OO⟩
theorem collect_spec (y : Value) [oy : One y] (es : List (Int × Value)) (Ha Hb : PHeap) (few : es.length ≤ 1000000) (hit : ItM Try.prog y es.length (fun i => [.int .i64 (es.getD i default).1]) [Ha, Hb]) : Spec Try.prog 59 #[y] [] [Ha, Hb] (fun v hs => ∃ (k : PHeap) (seen : List Nat), hs = [k] ∧ seen.Nodup ∧ (∀ i, i ∈ seen ↔ i < es.length) ∧ OArr v encI 1 3 k (seen.map fun i => (es.getD i default).1)) := by
  refine Spec.intro (fn := Try.f59) (N := 5) Try.func59 rfl Try.ntmps59 rfl fun B => ?_
  refine XK.seq ?_
  refine XK.region rfl ?_
  refine XO.q (Q.assign rfl) ?_
  refine XO.done ?_
  refine XK.seq ?_
  refine XK.region rfl ?_
  refine XO.q (Q.move rfl) ?_
  refine XO.call Try.call82 rfl rfl rfl (appendSeq_spec y es Ha Hb few hit) fun v4 s4 R4 => ?_
  obtain ⟨k4, seen, rfl, hnd, hall, O4⟩ := R4
  dsimp only [List.cons_append, List.nil_append]
  refine XO.q (Q.assign rfl) ?_
  refine XO.done ?_
  refine XK.rt [k4] Try.func59 Try.results59 (.t rfl .n) ?_
  exact ⟨k4, seen, rfl, hnd, hall, O4⟩
theorem sort_spec (v : Value) (h : PHeap) (xs : List Int) [s : OArr v encI 1 3 h xs] : Spec Try.prog 60 #[v] [h] [] (fun _ hs => ∃ h', hs = [h'] ∧ OArr v encI 1 3 h' (sortL xs)) := sort_specG sortLays 3 v h xs
theorem sorted_spec (y : Value) [oy : One y] (es : List (Int × Value)) (L : List Int) (mi : MapIs es L) (Ha Hb : PHeap) (few : es.length ≤ 1000000) (hit : ItM Try.prog y es.length (fun i => [.int .i64 (es.getD i default).1]) [Ha, Hb]) : Spec Try.prog 27 #[y] [] [Ha, Hb] (fun v hs => ∃ k, hs = [k] ∧ OArr v encI 1 3 k (sortL (dd L))) := by
  refine Spec.intro (fn := Try.f27) (N := 9) Try.func27 rfl Try.ntmps27 rfl fun B => ?_
  refine XK.seq ?_
  refine XK.region rfl ?_
  refine XO.q (Q.assign rfl) ?_
  refine XO.done ?_
  refine XK.seq ?_
  refine XK.region rfl ?_
  refine XO.q (Q.move rfl) ?_
  refine XO.call Try.call59 rfl rfl rfl (collect_spec y es Ha Hb few hit) fun v5 s5 R5 => ?_
  obtain ⟨k5, seen, rfl, hnd, hall, O5⟩ := R5
  dsimp only [List.cons_append, List.nil_append]
  refine XO.q (Q.assign rfl) ?_
  refine XO.done ?_
  refine XK.seq ?_
  refine XK.region rfl ?_
  refine XO.q (Q.move rfl) ?_
  refine XO.call Try.call60 rfl rfl rfl (sort_spec v5 k5 (seen.map fun i => (es.getD i default).1)) fun v7 s7 R7 => ?_
  obtain ⟨k7, rfl, O7⟩ := R7
  dsimp only [List.cons_append, List.nil_append]
  rw [sums_keys mi hnd hall] at O7
  refine XO.done ?_
  refine XK.seq ?_
  refine XK.region rfl ?_
  refine XO.q (Q.move rfl) ?_
  refine XO.q (Q.assign rfl) ?_
  refine XO.done ?_
  refine XK.rt [k7] Try.func27 Try.results27 (.t rfl .n) ?_
  exact ⟨k7, rfl, O7⟩
set_option maxHeartbeats 1000000 in
theorem Sums_spec (l : List (Value × PJob)) (vl : Value) (hl K : PHeap) [jl : Arr vl encPJ 6 hl l] (aL : JobsK l K) : Spec Try.prog 9 #[vl] [] [hl, K] (fun v hs => ∃ vo ko, v = .tuple #[vo, .int .i64 (sumsG (l.map Prod.snd)).2.1, .int .i64 (sumsG (l.map Prod.snd)).2.2] ∧ hs = [ko] ∧ OArr vo encDraw 2 41 ko (sumsG (l.map Prod.snd)).1) := by
  haveI := keyI
  have nD : OArr (.slice none 0 0) encDraw 2 41 emp ([] : List PDraw) := OArr.nil (fun _ => rfl)
  have lm : (l.map Prod.snd).length = l.length := List.length_map ..
  refine Spec.intro (fn := Try.f9) (N := 40) Try.func9 rfl Try.ntmps9 rfl fun B => ?_
  refine XK.seq ?_
  refine XK.region rfl ?_
  refine XO.q (Q.assign rfl) ?_
  refine XO.q (Q.assign rfl) ?_
  refine XO.q (Q.assign rfl) ?_
  refine XO.done ?_
  refine XK.seq ?_
  refine XK.region rfl ?_
  refine XO.q (Q.move rfl) ?_
  refine XO.call Try.call25 rfl rfl rfl (listed_spec l vl hl K aL) fun v13 s13 R13 => ?_
  obtain ⟨rfl, rfl⟩ := R13
  dsimp only [List.cons_append, List.nil_append]
  refine XO.q (Q.move rfl) ?_
  refine XO.q (Q.extract rfl rfl) ?_
  refine XO.q (Q.extract rfl rfl) ?_
  refine XO.q (Q.assign rfl) ?_
  refine XO.q (Q.assign rfl) ?_
  refine XO.done ?_
  refine XK.seq ?_
  refine XK.seq ?_
  refine XK.region rfl ?_
  refine XO.q (Q.move rfl) ?_
  refine XO.q (Q.neq rfl rfl) ?_
  refine XO.done ?_
  refine XK.if rfl (fun c0 => ?_) (fun c0 => ?_)
  · have _t0 := True.intro
    refine XK.seq ?_
    refine XK.region rfl ?_
    refine XO.q (Q.move rfl) ?_
    refine XO.q (Q.assign rfl) ?_
    refine XO.q (Q.assign rfl) ?_
    refine XO.q (Q.assign rfl) ?_
    refine XO.done ?_
    refine XK.rt [emp] Try.func9 Try.results9 (.t rfl (.t rfl (.t rfl .n))) ?_
    have hz : (sumsG (l.map Prod.snd)) = ([], 0, (listedG (l.map Prod.snd)).2) := by rw [sumsG, if_pos c0]
    rw [hz]
    exact ⟨.slice none 0 0, emp, rfl, rfl, nD⟩
  · have _t0 := True.intro
    have ok := listed_ok.1 (Decidable.of_not_not c0)
    refine XK.skip ?_
    refine XK.seq ?_
    refine XK.region rfl ?_
    refine XO.q (Q.move rfl) ?_
    refine XO.call Try.call26 rfl rfl rfl (sums_spec l vl hl K aL ok) fun v20 s20 R20 => ?_
    obtain ⟨bm, es, rfl, rfl, mi⟩ := R20
    dsimp only [List.cons_append, List.nil_append]
    have fk := few_keys mi (n := 100000) (fun x hx => by have := combos_rng ok (l.map Prod.snd).length (Nat.le_refl _) x (by rw [List.take_length]; exact hx); have := ok.few; omega)
    refine XO.q (Q.assign rfl) ?_
    refine XO.done ?_
    refine XK.seq ?_
    refine XK.region rfl ?_
    refine XO.q (Q.assign rfl) ?_
    refine XO.done ?_
    refine XK.seq ?_
    refine XK.seq ?_
    refine XK.region rfl ?_
    refine XO.q (Q.move rfl) ?_
    refine XO.call Try.call28 rfl rfl rfl (keys_spec bm es) fun v22 s22 R22 => ?_
    obtain ⟨bk, rfl, o22, hit⟩ := R22
    dsimp only [List.cons_append, List.nil_append]
    refine XO.call Try.call27 rfl rfl rfl (sorted_spec v22 es (combos (l.map Prod.snd)) mi _ _ (by omega) hit) fun v23 s23 R23 => ?_
    obtain ⟨k23, rfl, O23⟩ := R23
    dsimp only [List.cons_append, List.nil_append]
    have sl := sum_keys_len mi
    refine XO.len rfl fun l24 => ?_
    refine XO.q (Q.move rfl) ?_
    refine XO.done ?_
    refine XK.block ?_
    refine XK.while (X := Nat × Value × PHeap) [8, 10, 25, 26, 27, 28, 29, 30, 31, 32, 33, 34, 35, 36, 37] (fun ⟨i, vo, ko⟩ => [(25, some (.int .i64 (i : Nat))), (8, some (vo))]) (fun ⟨i, vo, ko⟩ => [ko]) (fun ⟨i, vo, ko⟩ => i ≤ (sortL (dd (combos (l.map Prod.snd)))).length ∧ OArr vo encDraw 2 41 ko ((sumsL (combos (l.map Prod.snd))).take i)) (fun ⟨i, vo, ko⟩ => (sortL (dd (combos (l.map Prod.snd)))).length - i) (0, .slice none 0 0, emp) [emp] rfl ⟨by omega, nD⟩ (.c rfl (.c rfl (.base 0 rfl rfl))) ?_
    rintro ⟨i, vo, ko⟩ ⟨hi, OO⟩ ih0
    dsimp only [List.cons_append, List.nil_append] at ih0 ⊢
    refine XK.seq ?_
    refine XK.region rfl ?_
    refine XO.q (Q.lss rfl rfl) ?_
    refine XO.done ?_
    refine XK.seq ?_
    refine XK.if rfl (fun c1 => ?_) (fun c1 => ?_)
    · have _t1 := True.intro
      have lsl : (sumsL (combos (l.map Prod.snd))).length = (sortL (dd (combos (l.map Prod.snd)))).length := List.length_map ..
      have esl : (sumsL (combos (l.map Prod.snd))).getD i default = ⟨(sortL (dd (combos (l.map Prod.snd)))).getD i default, (((combos (l.map Prod.snd)).count ((sortL (dd (combos (l.map Prod.snd)))).getD i default) : Nat) : Int)⟩ := by
        unfold sumsL
        rw [List.getD_eq_getElem?_getD, List.getElem?_map, List.getElem?_eq_getElem (by omega), List.getD_eq_getElem?_getD, List.getElem?_eq_getElem (by omega)]; rfl
      refine XK.skip ?_
      refine XK.seq ?_
      refine XK.block ?_
      refine XK.seq ?_
      refine XK.region rfl ?_
      refine XO.ix rfl rfl (by omega) (by omega) fun i27 => ?_
      refine XO.q (Q.ldE rfl (by first | assumption | omega) rfl) ?_
      refine XO.q (Q.assign rfl) ?_
      refine XO.done ?_
      refine XK.region rfl ?_
      refine XO.q (Q.move rfl) ?_
      refine XO.q (Q.move rfl) ?_
      refine XO.q (Q.move rfl) ?_
      refine XO.q (Q.move rfl) ?_
      refine XO.q (Q.lookup (enc := encK1) _ Try.zeroValue3 (((sortL (dd (combos (l.map Prod.snd)))).getD i default)) rfl rfl) ?_
      rw [mi.get]
      refine XO.q (Q.build [_, _] (.c 0 1 rfl rfl rfl (.c 1 1 rfl rfl rfl (.n _)))) ?_
      refine XO.lit [_, _] [_, _] [⟨(sortL (dd (combos (l.map Prod.snd)))).getD i default, (((combos (l.map Prod.snd)).count ((sortL (dd (combos (l.map Prod.snd)))).getD i default) : Nat) : Int)⟩] encDraw (by rfl) (by rfl) rfl (by rfl) (by exact .c 0 2 rfl rfl rfl (.n _)) (fun _ => rfl) (by rfl) rfl (by infer_instance) rfl fun v35 h35 O35 => ?_
      refine XO.append rfl rfl rfl rfl (by simp only [List.length_take, List.length_cons, List.length_nil]; omega) fun v36 h36 O36 => ?_
      refine XO.q (Q.assign rfl) ?_
      refine XO.done ?_
      refine XK.inBlock ?_
      refine XK.region rfl ?_
      refine XO.q (Q.add rfl rfl ⟨by omega, by omega⟩) ?_
      refine XO.q (Q.move rfl) ?_
      refine XO.done ?_
      exact ih0 (i + 1, v36, h36) _ _ ⟨by dsimp only; omega, by dsimp only; rw [take_snocP (by omega), esl]; exact O36⟩ (by first | omega | (dsimp only; omega)) (.c rfl (.c rfl (.base 32 rfl rfl))) inferInstance
    · have _t1 := True.intro
      refine XK.exit rfl ?_
      refine XK.seq ?_
      refine XK.region rfl ?_
      refine XO.q (Q.move rfl) ?_
      refine XO.q (Q.move rfl) ?_
      refine XO.q (Q.assign rfl) ?_
      refine XO.q (Q.assign rfl) ?_
      refine XO.q (Q.assign rfl) ?_
      refine XO.done ?_
      refine XK.rt [ko] Try.func9 Try.results9 (.t rfl (.t rfl (.t rfl .n))) ?_
      have hz : (sumsG (l.map Prod.snd)) = (sumsL (combos (l.map Prod.snd)), (listedG (l.map Prod.snd)).1, 0) := by rw [sumsG, if_neg c0]
      rw [hz]
      rw [List.take_of_length_le (by unfold sumsL; rw [List.length_map]; omega)] at OO
      exact ⟨vo, ko, rfl, rfl, OO⟩
end Go.X

set_option linter.unusedSimpArgs false
set_option linter.unusedVariables false
set_option maxRecDepth 20000
namespace Go.X
open Go.Proofs
def encRat (x : PRat) : List Value := [.int .i64 x.n, .int .i64 x.d]
theorem equalI (v1 v2 : Value) (h1 h2 : PHeap) (xs ys : List Int) [s1 : Arr v1 encI 1 h1 xs] [s2 : Arr v2 encI 1 h2 ys] :
    Spec Try.prog 32 #[v1, v2] [] [h1, h2] (fun v hs => v = .bool (decide (xs = ys)) ∧ hs = []) := by
  refine Spec.intro (fn := Try.f32) (N := 26) Try.func32 rfl Try.ntmps32 rfl fun B => ?_
  refine XK.seq ?_
  refine XK.region rfl ?_
  refine XO.q (Q.assign rfl) ?_
  refine XO.done ?_
  refine XK.seq ?_
  refine XK.seq ?_
  refine XK.region rfl ?_
  refine XO.q (Q.move rfl) ?_
  refine XO.len rfl fun l7 => ?_
  refine XO.q (Q.move rfl) ?_
  refine XO.len rfl fun l9 => ?_
  refine XO.q (Q.neq rfl rfl) ?_
  refine XO.done ?_
  refine XK.if rfl (fun c0 => ?_) (fun c0 => ?_)
  · have _t0 := True.intro
    refine XK.seq ?_
    refine XK.region rfl ?_
    refine XO.q (Q.assign rfl) ?_
    refine XO.done ?_
    refine XK.rt [] Try.func32 Try.results32 (.t rfl .n) ?_
    exact ⟨by rw [decide_eq_false (fun h => c0 (by rw [h]))], rfl⟩
  · have _t0 := True.intro
    refine XK.skip ?_
    refine XK.seq ?_
    refine XK.seq ?_
    refine XK.region rfl ?_
    refine XO.q (Q.move rfl) ?_
    refine XO.len rfl fun l12 => ?_
    refine XO.q (Q.move rfl) ?_
    refine XO.done ?_
    refine XK.block ?_
    refine XK.while (X := Nat) [4, 5, 13, 14, 15, 16, 17, 18, 19, 20, 21, 22, 23, 24, 25] (fun i => [(13, some (.int .i64 (i : Nat)))]) (fun i => []) (fun i => i ≤ xs.length ∧ xs.take i = ys.take i) (fun i => xs.length - i) (0) [] rfl ⟨by omega, rfl⟩ (.c rfl (.base 0 rfl rfl)) ?_
    rintro i ⟨hi, ht⟩ ih0
    dsimp only [List.cons_append, List.nil_append] at ih0 ⊢
    refine XK.seq ?_
    refine XK.region rfl ?_
    refine XO.q (Q.lss rfl rfl) ?_
    refine XO.done ?_
    refine XK.seq ?_
    refine XK.if rfl (fun c1 => ?_) (fun c1 => ?_)
    · have _t1 := True.intro
      refine XK.skip ?_
      refine XK.seq ?_
      refine XK.block ?_
      refine XK.seq ?_
      refine XK.region rfl ?_
      refine XO.q (Q.move rfl) ?_
      refine XO.q (Q.assign rfl) ?_
      refine XO.done ?_
      refine XK.seq ?_
      refine XK.drawn [0, 1, 2, 3, 4, 5, 6, 7, 8] [] [] (.q 0 (.q 1 (.q 2 (.q 3 (.q 4 (.q 5 (.q 6 (.q 7 (.q 8 .done))))))))) Try.mixed rfl (by kernel_rfl) ?_
      refine XT.q rfl rfl (Q.move rfl) ?_
      refine XT.q rfl rfl (Q.move rfl) ?_
      refine XT.ix rfl rfl rfl rfl (by omega) (by omega) fun i18 => ?_
      refine XT.q rfl rfl (Q.ldE rfl (by first | assumption | omega) rfl) ?_
      refine XT.q rfl rfl (Q.move rfl) ?_
      refine XT.q rfl rfl (Q.move rfl) ?_
      refine XT.ix rfl rfl rfl rfl (by omega) (by omega) fun i22 => ?_
      refine XT.q rfl rfl (Q.ldE rfl (by first | assumption | omega) rfl) ?_
      refine XT.q rfl rfl (Q.neq rfl rfl) ?_
      refine XT.done ?_
      refine XK.if rfl (fun c2 => ?_) (fun c2 => ?_)
      · have _t2 := True.intro
        refine XK.seq ?_
        refine XK.region rfl ?_
        refine XO.q (Q.assign rfl) ?_
        refine XO.done ?_
        refine XK.rt [] Try.func32 Try.results32 (.t rfl .n) ?_
        exact ⟨by rw [decide_eq_false (fun h => c2 (by rw [h]))], rfl⟩
      · have _t2 := True.intro
        refine XK.skip ?_
        refine XK.inBlock ?_
        refine XK.region rfl ?_
        refine XO.q (Q.add rfl rfl ⟨by omega, by omega⟩) ?_
        refine XO.q (Q.move rfl) ?_
        refine XO.done ?_
        exact ih0 (i + 1) _ _ ⟨by omega, take_step ht (by omega) (by omega) (Decidable.of_not_not c2)⟩ (by first | omega | (dsimp only; omega)) (.c rfl (.base 30 rfl rfl)) inferInstance
    · have _t1 := True.intro
      refine XK.exit rfl ?_
      refine XK.seq ?_
      refine XK.region rfl ?_
      refine XO.q (Q.assign rfl) ?_
      refine XO.done ?_
      refine XK.rt [] Try.func32 Try.results32 (.t rfl .n) ?_
      exact ⟨by rw [decide_eq_true (take_all ht c1 (by omega))], rfl⟩
theorem draw_ne (x y : PDraw) : (!(decide (x.power = y.power) && (decide (x.count = y.count) && true))) = decide (¬ x = y) := by
  cases x; cases y
  rw [Bool.eq_iff_iff]
  simp
theorem equalD (v1 v2 : Value) (h1 h2 : PHeap) (xs ys : List PDraw) [s1 : Arr v1 encDraw 2 h1 xs] [s2 : Arr v2 encDraw 2 h2 ys] :
    Spec Try.prog 24 #[v1, v2] [] [h1, h2] (fun v hs => v = .bool (decide (xs = ys)) ∧ hs = []) := by
  refine Spec.intro (fn := Try.f24) (N := 26) Try.func24 rfl Try.ntmps24 rfl fun B => ?_
  refine XK.seq ?_
  refine XK.region rfl ?_
  refine XO.q (Q.assign rfl) ?_
  refine XO.done ?_
  refine XK.seq ?_
  refine XK.seq ?_
  refine XK.region rfl ?_
  refine XO.q (Q.move rfl) ?_
  refine XO.len rfl fun l7 => ?_
  refine XO.q (Q.move rfl) ?_
  refine XO.len rfl fun l9 => ?_
  refine XO.q (Q.neq rfl rfl) ?_
  refine XO.done ?_
  refine XK.if rfl (fun c0 => ?_) (fun c0 => ?_)
  · have _t0 := True.intro
    refine XK.seq ?_
    refine XK.region rfl ?_
    refine XO.q (Q.assign rfl) ?_
    refine XO.done ?_
    refine XK.rt [] Try.func24 Try.results24 (.t rfl .n) ?_
    exact ⟨by rw [decide_eq_false (fun h => c0 (by rw [h]))], rfl⟩
  · have _t0 := True.intro
    refine XK.skip ?_
    refine XK.seq ?_
    refine XK.seq ?_
    refine XK.region rfl ?_
    refine XO.q (Q.move rfl) ?_
    refine XO.len rfl fun l12 => ?_
    refine XO.q (Q.move rfl) ?_
    refine XO.done ?_
    refine XK.block ?_
    refine XK.while (X := Nat) [4, 5, 13, 14, 15, 16, 17, 18, 19, 20, 21, 22, 23, 24, 25] (fun i => [(13, some (.int .i64 (i : Nat)))]) (fun i => []) (fun i => i ≤ xs.length ∧ xs.take i = ys.take i) (fun i => xs.length - i) (0) [] rfl ⟨by omega, rfl⟩ (.c rfl (.base 0 rfl rfl)) ?_
    rintro i ⟨hi, ht⟩ ih0
    dsimp only [List.cons_append, List.nil_append] at ih0 ⊢
    refine XK.seq ?_
    refine XK.region rfl ?_
    refine XO.q (Q.lss rfl rfl) ?_
    refine XO.done ?_
    refine XK.seq ?_
    refine XK.if rfl (fun c1 => ?_) (fun c1 => ?_)
    · have _t1 := True.intro
      refine XK.skip ?_
      refine XK.seq ?_
      refine XK.block ?_
      refine XK.seq ?_
      refine XK.region rfl ?_
      refine XO.q (Q.move rfl) ?_
      refine XO.q (Q.assign rfl) ?_
      refine XO.done ?_
      refine XK.seq ?_
      refine XK.drawn [0, 1, 2, 3, 4, 5, 6, 7, 8] [] [] (.q 0 (.q 1 (.q 2 (.q 3 (.q 4 (.q 5 (.q 6 (.q 7 (.q 8 .done))))))))) Try.mixed rfl (by kernel_rfl) ?_
      refine XT.q rfl rfl (Q.move rfl) ?_
      refine XT.q rfl rfl (Q.move rfl) ?_
      refine XT.ix rfl rfl rfl rfl (by omega) (by omega) fun i18 => ?_
      refine XT.q rfl rfl (Q.ldEA [_, _] rfl (by first | assumption | omega) rfl rfl) ?_
      refine XT.q rfl rfl (Q.move rfl) ?_
      refine XT.q rfl rfl (Q.move rfl) ?_
      refine XT.ix rfl rfl rfl rfl (by omega) (by omega) fun i22 => ?_
      refine XT.q rfl rfl (Q.ldEA [_, _] rfl (by first | assumption | omega) rfl rfl) ?_
      refine XT.q rfl rfl (Q.neqS (us := [_, _]) (vs := [_, _]) rfl rfl inferInstance (by kernel_rfl) (by kernel_rfl) (.c rfl inferInstance inferInstance rfl rfl (.c rfl inferInstance inferInstance rfl rfl .n))) ?_
      rw [draw_ne]
      refine XT.done ?_
      refine XK.if rfl (fun c2 => ?_) (fun c2 => ?_)
      · have _t2 := True.intro
        refine XK.seq ?_
        refine XK.region rfl ?_
        refine XO.q (Q.assign rfl) ?_
        refine XO.done ?_
        refine XK.rt [] Try.func24 Try.results24 (.t rfl .n) ?_
        exact ⟨by rw [decide_eq_false (fun h => c2 (by rw [h]))], rfl⟩
      · have _t2 := True.intro
        refine XK.skip ?_
        refine XK.inBlock ?_
        refine XK.region rfl ?_
        refine XO.q (Q.add rfl rfl ⟨by omega, by omega⟩) ?_
        refine XO.q (Q.move rfl) ?_
        refine XO.done ?_
        exact ih0 (i + 1) _ _ ⟨by omega, take_step ht (by omega) (by omega) (Decidable.of_not_not c2)⟩ (by first | omega | (dsimp only; omega)) (.c rfl (.base 30 rfl rfl)) inferInstance
    · have _t1 := True.intro
      refine XK.exit rfl ?_
      refine XK.seq ?_
      refine XK.region rfl ?_
      refine XO.q (Q.assign rfl) ?_
      refine XO.done ?_
      refine XK.rt [] Try.func24 Try.results24 (.t rfl .n) ?_
      exact ⟨by rw [decide_eq_true (take_all ht c1 (by omega))], rfl⟩
theorem job_spec : Spec Try.prog 30 #[] [] [] (fun v hs => ∃ vd k, v = .agg #[.int .i64 jobX.n0, .int .i64 jobX.n1, .int .i64 jobX.n2, vd, .int .i64 jobX.group, .int .i64 jobX.worth] ∧ hs = [k] ∧ OArr vd encDraw 2 41 k jobX.draws) := by
  refine Spec.intro (fn := Try.f30) (N := 6) Try.func30 rfl Try.ntmps30 rfl fun B => ?_
  refine XK.seq ?_
  refine XK.region rfl ?_
  refine XO.alloc fun b0 => ?_
  refine XO.done ?_
  refine XK.seq ?_
  refine XK.region rfl ?_
  refine XO.q (Q.build [_, _, _] (.c 0 1 rfl rfl rfl (.c 1 1 rfl rfl rfl (.c 2 1 rfl rfl rfl (.n _))))) ?_
  refine XO.q (Q.build [_, _] (.c 0 1 rfl rfl rfl (.c 1 1 rfl rfl rfl (.n _)))) ?_
  refine XO.q (Q.build [_, _] (.c 0 1 rfl rfl rfl (.c 1 1 rfl rfl rfl (.n _)))) ?_
  refine XO.lit [_, _, _, _] [_, _, _, _] jobX.draws encDraw (by rfl) (by rfl) rfl (by rfl) (by exact .c 0 2 rfl rfl rfl (.c 2 2 rfl rfl rfl (.n _))) (fun _ => rfl) (by rfl) rfl (by infer_instance) rfl fun v4 h4 O4 => ?_
  refine XO.q (Q.build [_, _, _, _, _, _] (.c 0 3 rfl rfl rfl (.c 3 1 rfl rfl rfl (.c 5 1 rfl rfl rfl (.n _))))) ?_
  refine XO.st rfl rfl rfl ?_
  refine XO.done ?_
  refine XK.rt [h4] Try.func30 Try.results30 (.cell [_, _, _, _, _, _] rfl rfl rfl (.n)) ?_
  exact ⟨v4, h4, rfl, rfl, O4⟩
theorem JobsK.nil (K : PHeap) : JobsK [] K := fun i hi => absurd hi (Nat.not_lt_zero i)
theorem JobsK.mono {l : List (Value × PJob)} {K K' : PHeap} (a : JobsK l K) (h : leH K K') : JobsK l K' := fun i hi => Arr.le_heap (a i hi) h
theorem JobsK.snoc {l : List (Value × PJob)} {K : PHeap} {x : Value × PJob} (a : JobsK l K) (b : Arr x.1 encDraw 2 K x.2.draws) : JobsK (l ++ [x]) K := each_snoc (Q := fun x : Value × PJob => Arr x.1 encDraw 2 K x.2.draws) a b
theorem task_spec : Spec Try.prog 31 #[] [] [] (fun v hs => ∃ vl vr kl K kr l, v = .agg #[vl, vr, .int .i64 1, .int .i64 10] ∧ hs = [kl, K, kr] ∧ OArr vl encPJ 6 39 kl l ∧ JobsK l K ∧ (l.map Prod.snd) = taskX.jobs ∧ OArr vr encRack 5 62 kr taskX.racks) := by
  refine Spec.intro (fn := Try.f31) (N := 10) Try.func31 rfl Try.ntmps31 rfl fun B => ?_
  refine XK.seq ?_
  refine XK.region rfl ?_
  refine XO.alloc fun b0 => ?_
  refine XO.done ?_
  refine XK.seq ?_
  refine XK.region rfl ?_
  refine XO.call Try.call30 rfl rfl rfl (job_spec) fun v1 s1 R1 => ?_
  obtain ⟨vd1, k1, rfl, rfl, D1⟩ := R1
  dsimp only [List.cons_append, List.nil_append]
  refine XO.call Try.call30 rfl rfl rfl (job_spec) fun v2 s2 R2 => ?_
  obtain ⟨vd2, k2, rfl, rfl, D2⟩ := R2
  dsimp only [List.cons_append, List.nil_append]
  refine XO.call Try.call30 rfl rfl rfl (job_spec) fun v3 s3 R3 => ?_
  obtain ⟨vd3, k3, rfl, rfl, D3⟩ := R3
  dsimp only [List.cons_append, List.nil_append]
  refine XO.lit [_, _, _, _, _, _, _, _, _, _, _, _, _, _, _, _, _, _] [_, _, _, _, _, _, _, _, _, _, _, _, _, _, _, _, _, _] [(vd1, jobX), (vd2, jobX), (vd3, jobX)] encPJ (by rfl) (by rfl) rfl (by rfl) (by exact .c 0 6 rfl rfl rfl (.c 6 6 rfl rfl rfl (.c 12 6 rfl rfl rfl (.n _)))) (fun _ => rfl) (by rfl) rfl (by infer_instance) rfl fun v4 h4 O4 => ?_
  refine XO.q (Q.build [_, _, _] (.c 0 1 rfl rfl rfl (.c 1 1 rfl rfl rfl (.c 2 1 rfl rfl rfl (.n _))))) ?_
  refine XO.q (Q.build [_, _, _, _, _] (.c 0 3 rfl rfl rfl (.c 3 1 rfl rfl rfl (.n _)))) ?_
  refine XO.lit [_, _, _, _, _] [_, _, _, _, _] taskX.racks encRack (by rfl) (by rfl) rfl (by rfl) (by exact .c 0 5 rfl rfl rfl (.n _)) (fun _ => rfl) (by rfl) rfl (by infer_instance) rfl fun v7 h7 O7 => ?_
  refine XO.cat k1 k2 fun l1 l2 => ?_
  refine XO.cat (cat k1 k2) k3 fun l12 l3 => ?_
  refine XO.q (Q.build [_, _] (.c 0 1 rfl rfl rfl (.c 1 1 rfl rfl rfl (.n _)))) ?_
  refine XO.q (Q.build [_, _, _, _] (.c 0 1 rfl rfl rfl (.c 1 1 rfl rfl rfl (.c 2 2 rfl rfl rfl (.n _))))) ?_
  refine XO.st rfl rfl rfl ?_
  refine XO.done ?_
  refine XK.rt [h4, cat (cat k1 k2) k3, h7] Try.func31 Try.results31 (.cell [_, _, _, _] rfl rfl rfl (.n)) ?_
  exact ⟨v4, v7, h4, _, h7, _, rfl, rfl, O4, (((JobsK.nil _).snoc (x := (vd1, jobX)) (Arr.le_heap (Arr.le_heap (OArr.arr (s := D1)) l1) l12)).snoc (x := (vd2, jobX)) (Arr.le_heap (Arr.le_heap (OArr.arr (s := D2)) l2) l12)).snoc (x := (vd3, jobX)) (Arr.le_heap (OArr.arr (s := D3)) l3), rfl, O7⟩
set_option maxHeartbeats 2000000 in
theorem awake09 : Spec Try.prog 11 #[] [] [] (fun v hs => v = .bool true ∧ hs = []) := by
  refine Spec.intro (fn := Try.f11) (N := 72) Try.func11 rfl Try.ntmps11 rfl fun B => ?_
  refine XK.seq ?_
  refine XK.region rfl ?_
  refine XO.q (Q.assign rfl) ?_
  refine XO.done ?_
  refine XK.seq ?_
  refine XK.region rfl ?_
  refine XO.call Try.call30 rfl rfl rfl (job_spec) fun v9 s9 R9 => ?_
  obtain ⟨vd9, k9, rfl, rfl, D9⟩ := R9
  dsimp only [List.cons_append, List.nil_append]
  refine XO.call Try.call30 rfl rfl rfl (job_spec) fun v10 s10 R10 => ?_
  obtain ⟨vd10, k10, rfl, rfl, D10⟩ := R10
  dsimp only [List.cons_append, List.nil_append]
  refine XO.lit [_, _, _, _, _, _, _, _, _, _, _, _] [_, _, _, _, _, _, _, _, _, _, _, _] [(vd9, jobX), (vd10, jobX)] encPJ (by rfl) (by rfl) rfl (by rfl) (by exact .c 0 6 rfl rfl rfl (.c 6 6 rfl rfl rfl (.n _))) (fun _ => rfl) (by rfl) rfl (by infer_instance) rfl fun v11 h11 O11 => ?_
  refine XO.cat k9 k10 fun l9 l10 => ?_
  have J11 : JobsK [(vd9, jobX), (vd10, jobX)] (cat k9 k10) := ((JobsK.nil _).snoc (x := (vd9, jobX)) (Arr.le_heap (OArr.arr (s := D9)) l9)).snoc (x := (vd10, jobX)) (Arr.le_heap (OArr.arr (s := D10)) l10)
  refine XO.call Try.call9 rfl rfl rfl (Sums_spec [(vd9, jobX), (vd10, jobX)] v11 h11 (cat k9 k10) J11) fun v12 s12 R12 => ?_
  obtain ⟨vo, ko, rfl, rfl, OS⟩ := R12
  dsimp only [List.cons_append, List.nil_append]
  rw [show sumsG (([(vd9, jobX), (vd10, jobX)] : List (Value × PJob)).map Prod.snd) = ([⟨200, 9⟩, ⟨300, 6⟩, ⟨400, 1⟩], 16, 0) from job_sums] at OS
  rw [show sumsG (([(vd9, jobX), (vd10, jobX)] : List (Value × PJob)).map Prod.snd) = ([⟨200, 9⟩, ⟨300, 6⟩, ⟨400, 1⟩], 16, 0) from job_sums]
  dsimp only
  refine XO.q (Q.move rfl) ?_
  refine XO.q (Q.extract rfl rfl) ?_
  refine XO.q (Q.extract rfl rfl) ?_
  refine XO.q (Q.extract rfl rfl) ?_
  refine XO.q (Q.assign rfl) ?_
  refine XO.q (Q.assign rfl) ?_
  refine XO.q (Q.assign rfl) ?_
  refine XO.done ?_
  refine XK.seq ?_
  refine XK.region rfl ?_
  refine XO.call Try.call30 rfl rfl rfl (job_spec) fun v17 s17 R17 => ?_
  obtain ⟨vd17, k17, rfl, rfl, D17⟩ := R17
  dsimp only [List.cons_append, List.nil_append]
  refine XO.call Try.call30 rfl rfl rfl (job_spec) fun v18 s18 R18 => ?_
  obtain ⟨vd18, k18, rfl, rfl, D18⟩ := R18
  dsimp only [List.cons_append, List.nil_append]
  refine XO.lit [_, _, _, _, _, _, _, _, _, _, _, _] [_, _, _, _, _, _, _, _, _, _, _, _] [(vd17, jobX), (vd18, jobX)] encPJ (by rfl) (by rfl) rfl (by rfl) (by exact .c 0 6 rfl rfl rfl (.c 6 6 rfl rfl rfl (.n _))) (fun _ => rfl) (by rfl) rfl (by infer_instance) rfl fun v19 h19 O19 => ?_
  refine XO.cat k17 k18 fun l17 l18 => ?_
  have J19 : JobsK [(vd17, jobX), (vd18, jobX)] (cat k17 k18) := ((JobsK.nil _).snoc (x := (vd17, jobX)) (Arr.le_heap (OArr.arr (s := D17)) l17)).snoc (x := (vd18, jobX)) (Arr.le_heap (OArr.arr (s := D18)) l18)
  refine XO.call Try.call10 rfl rfl rfl (Chance_spec [(vd17, jobX), (vd18, jobX)] v19 h19 (cat k17 k18) J19 300) fun v20 s20 R20 => ?_
  obtain ⟨rfl, rfl⟩ := R20
  dsimp only [List.cons_append, List.nil_append]
  rw [show chanceG (([(vd17, jobX), (vd18, jobX)] : List (Value × PJob)).map Prod.snd) 300 = (⟨1, 16⟩, 0) from job_chance]
  dsimp only
  refine XO.q (Q.move rfl) ?_
  refine XO.q (Q.extract rfl rfl) ?_
  refine XO.q (Q.extract rfl rfl) ?_
  refine XO.alloc fun b4 => ?_
  refine XO.st rfl rfl rfl ?_
  refine XO.q (Q.assign rfl) ?_
  refine XO.done ?_
  refine XK.seq ?_
  refine XK.region rfl ?_
  refine XO.call Try.call31 rfl rfl rfl (task_spec) fun v24 s24 R24 => ?_
  obtain ⟨vl, vr, kl, K, kr, l, rfl, rfl, Ol, Jl, el, Or⟩ := R24
  dsimp only [List.cons_append, List.nil_append]
  refine XO.call Try.call12 rfl rfl rfl (Best_spec l vl kl K Jl taskX.racks vr kr ⟨1, 10⟩) fun v25 s25 R25 => ?_
  obtain ⟨vW, vP, kW, kP, bw, s, p, rfl, rfl, OW, OP, hb, _⟩ := R25
  dsimp only [List.cons_append, List.nil_append]
  rw [show (⟨l.map Prod.snd, taskX.racks, ⟨1, 10⟩⟩ : PTask) = taskX by rw [el]; rfl] at hb
  rw [show (⟨l.map Prod.snd, taskX.racks, ⟨1, 10⟩⟩ : PTask) = taskX by rw [el]; rfl, task_ready]
  have hb := hb task_ready
  have tb := task_best
  have tv := task_verify
  rw [← hb] at tb tv
  obtain ⟨tb1, tb2⟩ := tb
  dsimp only at tb1 tb2 tv
  subst tb1 tb2
  refine XO.q (Q.move rfl) ?_
  refine XO.q (Q.extract rfl rfl) ?_
  refine XO.q (Q.extract rfl rfl) ?_
  refine XO.alloc fun b6 => ?_
  refine XO.st rfl rfl rfl ?_
  refine XO.q (Q.assign rfl) ?_
  refine XO.done ?_
  refine XK.seq ?_
  refine XK.drawn [0, 1, 2, 3, 4, 5, 6, 7, 8, 9, 10, 11, 12, 13, 14, 15, 16, 17, 18, 21, 22, 23, 24, 25, 26, 27, 28, 29, 32, 33, 34, 35, 36, 37, 38, 40, 42, 43, 44] [b4, b6] [] (.q 0 (.q 1 (.q 2 (.q 3 (.q 4 (.q 5 (.q 6 (.q 7 (.q 8 (.q 9 (.q 10 (.q 11 (.q 12 (.q 13 (.q 14 (.q 15 (.q 16 (.q 17 (.q 18 (.br 19 true (.br 20 true (.q 21 (.q 22 (.q 23 (.q 24 (.q 25 (.q 26 (.q 27 (.q 28 (.q 29 (.br 30 true (.br 31 true (.q 32 (.q 33 (.q 34 (.q 35 (.q 36 (.q 37 (.q 38 (.q 40 (.br 39 true (.br 41 true (.q 42 (.q 43 (.q 44 .done))) .stop) .stop))))))))) .stop) .stop)))))))))) .stop) .stop)))))))))))))))))))) Try.mixed rfl (by kernel_rfl) ?_
  refine XT.q rfl rfl (Q.move rfl) ?_
  refine XT.q rfl rfl (Q.eql rfl rfl) ?_
  refine XT.q rfl rfl (Q.move rfl) ?_
  refine XT.q rfl rfl (Quiet.guardT rfl rfl fun g31 p31 => Q.move rfl) ?_
  refine XT.q rfl rfl (Quiet.guardT rfl rfl fun g32 p32 => Q.eql (lzv rfl rfl) rfl) ?_
  refine XT.q rfl rfl (Q.and rfl (fun hp => lzv hp rfl)) ?_
  refine XT.q rfl rfl (Q.move rfl) ?_
  refine XT.q rfl rfl (Quiet.guardT rfl rfl fun g35 p35 => Q.move rfl) ?_
  refine XT.q rfl rfl (Quiet.guardT rfl rfl fun g36 p36 => Q.eql (lzv rfl rfl) rfl) ?_
  refine XT.q rfl rfl (Q.and rfl (fun hp => lzv hp rfl)) ?_
  refine XT.q rfl rfl (Q.move rfl) ?_
  refine XT.q rfl rfl (Quiet.guardT rfl rfl fun g39 p39 => Q.move rfl) ?_
  refine XT.q rfl rfl (Quiet.guardT rfl rfl fun g40 p40 => Q.eql (lzv rfl rfl) rfl) ?_
  refine XT.q rfl rfl (Q.and rfl (fun hp => lzv hp rfl)) ?_
  refine XT.q rfl rfl (Q.move rfl) ?_
  refine XT.q rfl rfl (Quiet.guardT rfl rfl fun g43 p43 => Q.move rfl) ?_
  refine XT.q rfl rfl (Quiet.guardT rfl rfl fun g44 p44 => Q.build [_, _] (.c 0 1 rfl rfl rfl (.c 1 1 rfl rfl rfl (.n _)))) ?_
  refine XT.q rfl rfl (Quiet.guardT rfl rfl fun g45 p45 => Q.build [_, _] (.c 0 1 rfl rfl rfl (.c 1 1 rfl rfl rfl (.n _)))) ?_
  refine XT.q rfl rfl (Quiet.guardT rfl rfl fun g46 p46 => Q.build [_, _] (.c 0 1 rfl rfl rfl (.c 1 1 rfl rfl rfl (.n _)))) ?_
  refine XT.litS [_, _, _, _, _, _] [_, _, _, _, _, _] [(⟨200, 9⟩ : PDraw), ⟨300, 6⟩, ⟨400, 1⟩] encDraw rfl rfl rfl rfl rfl (by rfl) (by rfl) rfl (by rfl) (by exact .c 0 2 (lzv rfl rfl) rfl rfl (.c 2 2 (lzv rfl rfl) rfl rfl (.c 4 2 (lzv rfl rfl) rfl rfl (.n _)))) (fun _ => rfl) (by rfl) rfl (by infer_instance) rfl (fun v47 h47 O47 => ⟨inferInstance, ?_⟩) XT.stop
  refine XT.callS rfl rfl rfl rfl rfl Try.call24 rfl (.c (lzv rfl rfl) (.c rfl .n)) rfl (equalD vo v47 ko h47 _ _) (fun v48 s48 R48 => ?_) XT.stop
  obtain ⟨rfl, rfl⟩ := R48
  dsimp only [List.cons_append, List.nil_append]
  refine ⟨inferInstance, ?_⟩
  refine XT.q rfl rfl (Q.and rfl (fun _ => rfl)) ?_
  refine XT.q rfl rfl (Q.move rfl) ?_
  refine XT.q rfl rfl (Quiet.guardT rfl rfl fun g51 p51 => Q.ldA [_, _] rfl rfl rfl) ?_
  refine XT.q rfl rfl (Quiet.guardT rfl rfl fun g52 p52 => Q.build [_, _] (.c 0 1 rfl rfl rfl (.c 1 1 rfl rfl rfl (.n _)))) ?_
  refine XT.q rfl rfl (Quiet.guardT rfl rfl fun g53 p53 => Q.eqlS (us := [_, _]) (vs := [_, _]) (lzv g53 rfl) (lzv g53 rfl) inferInstance (by kernel_rfl) (by kernel_rfl) (.c rfl inferInstance inferInstance rfl rfl (.c rfl inferInstance inferInstance rfl rfl .n))) ?_
  refine XT.q rfl rfl (Q.and rfl (fun hp => lzv hp rfl)) ?_
  refine XT.q rfl rfl (Q.move rfl) ?_
  refine XT.q rfl rfl (Quiet.guardT rfl rfl fun g56 p56 => Q.fieldAddr rfl) ?_
  refine XT.q rfl rfl (Quiet.guardT rfl rfl fun g57 p57 => Q.ld (lzv rfl rfl) rfl) ?_
  refine XT.litS [_, _, _] [_, _, _] [0, 0, -1] encI rfl rfl rfl rfl rfl (by rfl) (by rfl) rfl (by rfl) (by exact .c 0 1 rfl rfl rfl (.c 1 1 rfl rfl rfl (.c 2 1 rfl rfl rfl (.n _)))) (fun _ => rfl) (by rfl) rfl (by infer_instance) rfl (fun v58 h58 O58 => ⟨inferInstance, ?_⟩) XT.stop
  refine XT.callS rfl rfl rfl rfl rfl Try.call32 rfl (.c (lzv rfl rfl) (.c rfl .n)) rfl (equalI vW v58 kW h58 _ _) (fun v59 s59 R59 => ?_) XT.stop
  obtain ⟨rfl, rfl⟩ := R59
  dsimp only [List.cons_append, List.nil_append]
  refine ⟨inferInstance, ?_⟩
  refine XT.q rfl rfl (Q.and rfl (fun _ => rfl)) ?_
  refine XT.q rfl rfl (Q.move rfl) ?_
  refine XT.q rfl rfl (Quiet.guardT rfl rfl fun g62 p62 => Q.fieldAddr rfl) ?_
  refine XT.q rfl rfl (Quiet.guardT rfl rfl fun g63 p63 => Q.ld (lzv rfl rfl) rfl) ?_
  refine XT.q rfl rfl (Quiet.guardT rfl rfl fun g64 p64 => Q.eql (lzv rfl rfl) rfl) ?_
  refine XT.q rfl rfl (Q.and rfl (fun hp => lzv hp rfl)) ?_
  refine XT.q rfl rfl (Q.move rfl) ?_
  refine XT.q rfl rfl (Quiet.guardT rfl rfl fun g68 p68 => Q.ldA [_, _, _] rfl rfl rfl) ?_
  refine XT.callS rfl rfl rfl rfl rfl Try.call31 rfl (.n) rfl (task_spec) (fun v67 s67 R67 => ?_) XT.stop
  obtain ⟨vl2, vr2, kl2, K2, kr2, l2, rfl, rfl, Ol2, Jl2, el2, Or2⟩ := R67
  dsimp only [List.cons_append, List.nil_append]
  refine ⟨inferInstance, ?_⟩
  refine XT.callS rfl rfl rfl rfl rfl Try.call13 rfl (.c rfl (.c (lzv rfl rfl) .n)) rfl (Verify_spec l2 vl2 kl2 K2 Jl2 taskX.racks vr2 kr2 ⟨1, 10⟩ [0, 0, -1] vW kW 10 p vP kP) (fun v69 s69 R69 => ?_) XT.stop
  obtain ⟨rfl, rfl⟩ := R69
  dsimp only [List.cons_append, List.nil_append]
  refine ⟨inferInstance, ?_⟩
  rw [show (⟨l2.map Prod.snd, taskX.racks, ⟨1, 10⟩⟩ : PTask) = taskX by rw [el2]; rfl, tv]
  refine XT.q rfl rfl (Quiet.guardT rfl rfl fun g70 p70 => Q.eql rfl rfl) ?_
  refine XT.q rfl rfl (Q.and rfl (fun hp => lzv hp rfl)) ?_
  refine XT.q rfl rfl (Q.assign rfl) ?_
  refine XT.done ?_
  refine XK.rt [] Try.func11 Try.results11 (.t rfl .n) ?_
  exact ⟨rfl, rfl⟩
end Go.X

set_option linter.unusedSimpArgs false
set_option linter.unusedVariables false
set_option maxRecDepth 20000
namespace Go.X
open Go.Proofs
theorem next09 (b : Nat) (vx : Value) (hx : PHeap) (x : List UInt8) [jx : Arr vx encU8 1 hx x] (i n : Nat) (hi : i ≤ 1000000000) (hn : 0 < n) (hn2 : n ≤ 1000000) : Spec Try.prog 14 #[ptr b 0, .int .i64 (n : Nat)] [blk b [vx, .int .i64 ((i : Nat) : Int)] 52] [hx]
    (fun v hs => hs = [blk b [vx, .int .i64 ((i + 1 : Nat) : Int)] 52] ∧ ∃ r : Nat, v = .int .i64 (r : Nat) ∧ r < n) := by
  refine Spec.intro (fn := Try.f14) (N := 36) Try.func14 rfl Try.ntmps14 rfl fun B => ?_
  refine XK.seq ?_
  refine XK.region rfl ?_
  refine XO.q (Q.assign rfl) ?_
  refine XO.done ?_
  refine XK.seq ?_
  refine XK.region rfl ?_
  refine XO.q (Q.move rfl) ?_
  refine XO.q (Q.nilCheck rfl) ?_
  refine XO.q (Q.fieldAddr rfl) ?_
  refine XO.q (Q.ld rfl rfl) ?_
  refine XO.q (Q.add rfl rfl ⟨by omega, by omega⟩) ?_
  rw [show ((i : Int) + 1) = ((i + 1 : Nat) : Int) from rfl]
  refine XO.q (Q.nilCheck rfl) ?_
  refine XO.q (Q.fieldAddr rfl) ?_
  refine XO.st rfl rfl rfl ?_
  refine XO.done ?_
  refine XK.seq ?_
  refine XK.seq ?_
  refine XK.drawn [0, 1, 2, 3, 4, 5, 6, 7, 8, 9] [b] [] (.q 0 (.q 1 (.q 2 (.q 3 (.q 4 (.q 5 (.q 6 (.q 7 (.q 8 (.q 9 .done)))))))))) Try.mixed rfl (by kernel_rfl) ?_
  refine XT.q rfl rfl (Q.move rfl) ?_
  refine XT.q rfl rfl (Q.nilCheck rfl) ?_
  refine XT.q rfl rfl (Q.fieldAddr rfl) ?_
  refine XT.q rfl rfl (Q.ld rfl rfl) ?_
  refine XT.q rfl rfl (Q.move rfl) ?_
  refine XT.q rfl rfl (Q.nilCheck rfl) ?_
  refine XT.q rfl rfl (Q.fieldAddr rfl) ?_
  refine XT.q rfl rfl (Q.ld rfl rfl) ?_
  refine XT.q rfl rfl (Q.len rfl) ?_
  refine XT.q rfl rfl (Q.gtr rfl rfl) ?_
  refine XT.done ?_
  refine XK.if rfl (fun c0 => ?_) (fun c0 => ?_)
  · have _t0 := True.intro
    refine XK.seq ?_
    refine XK.region rfl ?_
    refine XO.q (Q.assign rfl) ?_
    refine XO.done ?_
    refine XK.rt [blk b [vx, .int .i64 ((i + 1 : Nat) : Int)] 52] Try.func14 Try.results14 (.t rfl .n) ?_
    exact ⟨rfl, 0, rfl, hn⟩
  · have _t0 := True.intro
    refine XK.skip ?_
    refine XK.seq ?_
    refine XK.drawn [0, 1, 2, 3, 4, 5, 6, 7, 8, 9, 10, 11, 12, 13, 14] [b] [] (.q 0 (.q 1 (.q 2 (.q 3 (.q 4 (.q 5 (.q 6 (.q 7 (.q 8 (.q 9 (.q 10 (.q 11 (.q 12 (.q 13 (.q 14 .done))))))))))))))) Try.mixed rfl (by kernel_rfl) ?_
    refine XT.q rfl rfl (Q.move rfl) ?_
    refine XT.q rfl rfl (Q.nilCheck rfl) ?_
    refine XT.q rfl rfl (Q.fieldAddr rfl) ?_
    refine XT.q rfl rfl (Q.ld rfl rfl) ?_
    refine XT.q rfl rfl (Q.move rfl) ?_
    refine XT.q rfl rfl (Q.nilCheck rfl) ?_
    refine XT.q rfl rfl (Q.fieldAddr rfl) ?_
    refine XT.q rfl rfl (Q.ld rfl rfl) ?_
    refine XT.q rfl rfl (Q.sub rfl rfl ⟨by omega, by omega⟩) ?_
    rw [show (((i + 1 : Nat) : Int) - 1) = (i : Int) by omega]
    refine XT.ix rfl rfl rfl rfl (by omega) (by omega) fun i31 => ?_
    refine XT.q rfl rfl (Q.ldE rfl (by first | assumption | omega) rfl) ?_
    refine XT.q rfl rfl (Q.conv rfl) ?_
    have hu := (x.getD i default).toNat_lt
    rw [wrap64_of ⟨by omega, by omega⟩]
    refine XT.q rfl rfl (Q.move rfl) ?_
    refine XT.q rfl rfl (Q.rem rfl rfl (by omega) (by omega)) ?_
    rw [show ((((x.getD i default).toNat : Nat) : Int) % (n : Int)) = (((x.getD i default).toNat % n : Nat) : Int) from rfl]
    refine XT.q rfl rfl (Q.assign rfl) ?_
    refine XT.done ?_
    refine XK.rt [blk b [vx, .int .i64 ((i + 1 : Nat) : Int)] 52] Try.func14 Try.results14 (.t rfl .n) ?_
    exact ⟨rfl, (x.getD i default).toNat % n, rfl, Nat.mod_lt _ hn⟩
set_option maxHeartbeats 4000000 in
theorem made09 (vx : Value) (hx : PHeap) (x : List UInt8) [jx : Arr vx encU8 1 hx x] : Spec Try.prog 8 #[vx] [] [hx] (fun v hs => ∃ l vl kl K rs vr kr m, v = .agg #[vl, vr, .int .i64 m.n, .int .i64 m.d] ∧ hs = [kl, K, kr] ∧ OArr vl encPJ 6 39 kl l ∧ JobsK l K ∧ OArr vr encRack 5 62 kr rs ∧ MkTask (⟨(l.map Prod.snd), rs, m⟩ : PTask)) := by
  have nP : OArr (.slice none 0 0) encPJ 6 39 emp ([] : List (Value × PJob)) := OArr.nil (fun _ => rfl)
  have nR : OArr (.slice none 0 0) encRack 5 62 emp ([] : List PRack) := OArr.nil (fun _ => rfl)
  have nD : OArr (.slice none 0 0) encDraw 2 41 emp ([] : List PDraw) := OArr.nil (fun _ => rfl)
  have ml : mostsX.length = 5 := rfl
  refine Spec.intro (fn := Try.f8) (N := 95) Try.func8 rfl Try.ntmps8 rfl fun B => ?_
  refine XK.seq ?_
  refine XK.region rfl ?_
  refine XO.alloc fun b2 => ?_
  refine XO.done ?_
  refine XK.seq ?_
  refine XK.region rfl ?_
  refine XO.q (Q.move rfl) ?_
  refine XO.q (Q.build [_, _] (.c 0 1 rfl rfl rfl (.n _))) ?_
  refine XO.box rfl fun b11 => ?_
  refine XO.q (Q.assign rfl) ?_
  refine XO.done ?_
  refine XK.seq ?_
  refine XK.region rfl ?_
  refine XO.q (Q.build [_, _] (.c 0 1 rfl rfl rfl (.c 1 1 rfl rfl rfl (.n _)))) ?_
  refine XO.q (Q.build [_, _] (.c 0 1 rfl rfl rfl (.c 1 1 rfl rfl rfl (.n _)))) ?_
  refine XO.q (Q.build [_, _] (.c 0 1 rfl rfl rfl (.c 1 1 rfl rfl rfl (.n _)))) ?_
  refine XO.q (Q.build [_, _] (.c 0 1 rfl rfl rfl (.c 1 1 rfl rfl rfl (.n _)))) ?_
  refine XO.q (Q.build [_, _] (.c 0 1 rfl rfl rfl (.c 1 1 rfl rfl rfl (.n _)))) ?_
  refine XO.lit [_, _, _, _, _, _, _, _, _, _] [_, _, _, _, _, _, _, _, _, _] mostsX encRat (by rfl) (by rfl) rfl (by rfl) (by exact .c 0 2 rfl rfl rfl (.c 2 2 rfl rfl rfl (.c 4 2 rfl rfl rfl (.c 6 2 rfl rfl rfl (.c 8 2 rfl rfl rfl (.n _)))))) (fun _ => rfl) (by rfl) rfl (by infer_instance) rfl fun v17 h17 O17 => ?_
  refine XO.q (Q.assign rfl) ?_
  refine XO.done ?_
  refine XK.seq ?_
  refine XK.region rfl ?_
  refine XO.q (Q.move rfl) ?_
  refine XO.q (Q.move rfl) ?_
  refine XO.callB b11 Try.call14 rfl rfl rfl (next09 b11 vx hx x (0) (5) (by omega) (by omega) (by omega)) fun v20 s20 R20 => ?_
  obtain ⟨rfl, n20, rfl, h20⟩ := R20
  dsimp only [List.cons_append, List.nil_append]
  refine XO.ix rfl rfl (by omega) (by omega) fun i21 => ?_
  refine XO.q (Q.ldEA [_, _] rfl (by first | assumption | omega) rfl rfl) ?_
  obtain ⟨m, em⟩ : ∃ m, m = mostsX.getD n20 default := ⟨_, rfl⟩
  rw [← em]
  have mo : chanceR m = true := by rw [em]; exact mosts_ok n20 (by omega)
  clear em
  refine XO.q (Q.build [_, _, _, _] (.c 2 2 rfl rfl rfl (.n _))) ?_
  refine XO.alloc fun b5 => ?_
  refine XO.st rfl rfl rfl ?_
  refine XO.done ?_
  refine XK.seq ?_
  refine XK.region rfl ?_
  refine XO.q (Q.move rfl) ?_
  refine XO.callB b11 Try.call14 rfl rfl rfl (next09 b11 vx hx x (0 + 1) (8) (by omega) (by omega) (by omega)) fun v25 s25 R25 => ?_
  obtain ⟨rfl, n25, rfl, h25⟩ := R25
  dsimp only [List.cons_append, List.nil_append]
  refine XO.q (Q.assign rfl) ?_
  refine XO.done ?_
  refine XK.seq ?_
  refine XK.seq ?_
  refine XK.region rfl ?_
  refine XO.q (Q.move rfl) ?_
  refine XO.callB b11 Try.call14 rfl rfl rfl (next09 b11 vx hx x (0 + 1 + 1) (3) (by omega) (by omega) (by omega)) fun v27 s27 R27 => ?_
  obtain ⟨rfl, n27, rfl, h27⟩ := R27
  dsimp only [List.cons_append, List.nil_append]
  refine XO.q (Q.add rfl rfl ⟨by omega, by omega⟩) ?_
  rw [show ((1 : Int) + (n27 : Int)) = ((1 + n27 : Nat) : Int) from rfl]
  refine XO.q (Q.move rfl) ?_
  refine XO.done ?_
  refine XK.block ?_
  refine XK.while (X := Nat × Nat × List PRack × Value × PHeap) [29, 30, 31, 32, 33, 34, 35, 36, 37, 38, 39, 40, 41, 42, 43, 44, 45, 46, 47, 48] (fun ⟨k, q, rs, vr, kr⟩ => [(29, some (.int .i64 (k : Nat)))]) (fun ⟨k, q, rs, vr, kr⟩ => [blk b11 [vx, .int .i64 ((q : Nat) : Int)] 52, blk b5 [.slice none 0 0, vr, .int .i64 m.n, .int .i64 m.d] 28, kr]) (fun ⟨k, q, rs, vr, kr⟩ => k ≤ 1 + n27 ∧ q ≤ 3 + k * 5 ∧ rs.length = k ∧ (∀ i, i < rs.length → rackR (rs.getD i default) = true) ∧ OArr vr encRack 5 62 kr rs) (fun ⟨k, q, rs, vr, kr⟩ => 1 + n27 - k) (0, 0 + 1 + 1 + 1, [], .slice none 0 0, emp) [blk b11 [vx, .int .i64 ((0 + 1 + 1 + 1 : Nat) : Int)] 52, blk b5 [.slice none 0 0, .slice none 0 0, .int .i64 m.n, .int .i64 m.d] 28, emp] rfl ⟨by omega, by omega, rfl, fun i hi => absurd hi (Nat.not_lt_zero i), nR⟩ (.c rfl (.base 0 rfl rfl)) ?_
  rintro ⟨k, q, rs, vr, kr⟩ ⟨hk, hq, rl, ro, OR⟩ ih0
  dsimp only [List.cons_append, List.nil_append] at ih0 ⊢
  refine XK.seq ?_
  refine XK.region rfl ?_
  refine XO.q (Q.lss rfl rfl) ?_
  refine XO.done ?_
  refine XK.seq ?_
  refine XK.if rfl (fun c0 => ?_) (fun c0 => ?_)
  · have _t0 := True.intro
    refine XK.skip ?_
    refine XK.seq ?_
    refine XK.block ?_
    refine XK.drawn [0, 2, 4, 6, 9, 11, 8, 13, 16] [] [] (.q 0 (.q 2 (.q 4 (.q 6 (.q 9 (.q 11 (.br 1 true (.br 3 true (.br 5 true (.br 7 true (.q 8 (.br 10 true (.br 12 true (.q 13 (.br 14 true (.br 15 true (.q 16 (.br 17 false .done .stop)) .stop) .stop)) .stop) .stop)) .stop) .stop) .stop) (.br 3 true (.br 1 true (.br 5 true (.br 7 true (.q 8 (.br 10 true (.br 12 true (.q 13 (.br 14 true (.br 15 true (.q 16 (.br 17 false .done .stop)) .stop) .stop)) .stop) .stop)) .stop) .stop) (.br 5 true (.br 1 true (.br 7 true (.q 8 (.br 10 true (.br 12 true (.q 13 (.br 14 true (.br 15 true (.q 16 (.br 17 false .done .stop)) .stop) .stop)) .stop) .stop)) .stop) (.br 7 true (.q 8 (.br 1 true (.br 10 true (.br 12 true (.q 13 (.br 14 true (.br 15 true (.q 16 (.br 17 false .done .stop)) .stop) .stop)) .stop) .stop) (.br 10 true (.br 1 true (.br 12 true (.q 13 (.br 14 true (.br 15 true (.q 16 (.br 17 false .done .stop)) .stop) .stop)) .stop) (.br 12 true (.q 13 (.br 1 true (.br 14 true (.br 15 true (.q 16 (.br 17 false .done .stop)) .stop) .stop) (.br 14 true (.br 1 true (.br 15 true (.q 16 (.br 17 false .done .stop)) .stop) .stop) .stop))) .stop)) .stop))) .stop)) .stop)) .stop)))))))) Try.mixed rfl (by kernel_rfl) ?_
    refine XT.q rfl rfl (Q.fieldAddr rfl) ?_
    refine XT.q rfl rfl (Q.move rfl) ?_
    refine XT.q rfl rfl (Q.move rfl) ?_
    refine XT.q rfl rfl (Q.move rfl) ?_
    refine XT.q rfl rfl (Q.move rfl) ?_
    refine XT.q rfl rfl (Q.move rfl) ?_
    refine XT.qs rfl rfl (Q.ld rfl rfl) ⟨inferInstance, ?_⟩ ?_
    · skip
      refine XT.callB b11 rfl rfl Try.call14 rfl rfl rfl (next09 b11 vx hx x (q) (12) (by omega) (by omega) (by omega)) (fun v34 s34 R34 => ?_) XT.stop
      obtain ⟨rfl, n34, rfl, h34⟩ := R34
      dsimp only [List.cons_append, List.nil_append]
      refine ⟨inferInstance, ?_⟩
      refine XT.callB b11 rfl rfl Try.call14 rfl rfl rfl (next09 b11 vx hx x (q + 1) (12) (by omega) (by omega) (by omega)) (fun v36 s36 R36 => ?_) XT.stop
      obtain ⟨rfl, n36, rfl, h36⟩ := R36
      dsimp only [List.cons_append, List.nil_append]
      refine ⟨inferInstance, ?_⟩
      refine XT.callB b11 rfl rfl Try.call14 rfl rfl rfl (next09 b11 vx hx x (q + 1 + 1) (12) (by omega) (by omega) (by omega)) (fun v38 s38 R38 => ?_) XT.stop
      obtain ⟨rfl, n38, rfl, h38⟩ := R38
      dsimp only [List.cons_append, List.nil_append]
      refine ⟨inferInstance, ?_⟩
      refine XT.q rfl rfl (Q.build [_, _, _] (.c 0 1 rfl rfl rfl (.c 1 1 rfl rfl rfl (.c 2 1 rfl rfl rfl (.n _))))) ?_
      refine XT.callB b11 rfl rfl Try.call14 rfl rfl rfl (next09 b11 vx hx x (q + 1 + 1 + 1) (80) (by omega) (by omega) (by omega)) (fun v41 s41 R41 => ?_) XT.stop
      obtain ⟨rfl, n41, rfl, h41⟩ := R41
      dsimp only [List.cons_append, List.nil_append]
      refine ⟨inferInstance, ?_⟩
      refine XT.callB b11 rfl rfl Try.call14 rfl rfl rfl (next09 b11 vx hx x (q + 1 + 1 + 1 + 1) (3) (by omega) (by omega) (by omega)) (fun v43 s43 R43 => ?_) XT.stop
      obtain ⟨rfl, n43, rfl, h43⟩ := R43
      dsimp only [List.cons_append, List.nil_append]
      refine ⟨inferInstance, ?_⟩
      refine XT.q rfl rfl (Q.build [_, _, _, _, _] (.c 0 3 rfl rfl rfl (.c 3 1 rfl rfl rfl (.c 4 1 rfl rfl rfl (.n _))))) ?_
      refine XT.lit [_, _, _, _, _] [_, _, _, _, _] [(⟨n34, n36, n38, n41, n43⟩ : PRack)] encRack rfl rfl (by rfl) (by rfl) rfl (by rfl) (by exact .c 0 5 rfl rfl rfl (.n _)) (fun _ => rfl) (by rfl) rfl (by infer_instance) rfl (fun v45 h45 O45 => ⟨inferInstance, ?_⟩) XT.stop
      refine XT.append rfl rfl rfl rfl rfl rfl (by first | omega | (simp; omega)) (fun v46 h46 O46 => ⟨inferInstance, ?_⟩) XT.stop
      refine XT.q rfl rfl (Q.fieldAddr rfl) ?_
      refine XT.st rfl rfl rfl rfl rfl ⟨inferInstance, ?_⟩ XT.stop
      refine XT.done ?_
      refine XK.inBlock ?_
      refine XK.region rfl ?_
      refine XO.q (Q.add rfl rfl ⟨by omega, by omega⟩) ?_
      refine XO.q (Q.move rfl) ?_
      refine XO.done ?_
      exact ih0 (k + 1, q + 1 + 1 + 1 + 1 + 1, rs ++ [(⟨n34, n36, n38, n41, n43⟩ : PRack)], v46, h46) _ _ ⟨by dsimp only; omega, by dsimp only; omega, by dsimp only; rw [List.length_append, rl]; rfl, by dsimp only; exact each_snoc (Q := fun r => rackR r = true) ro (rack_ok (by omega) (by omega) (by omega) (by omega) (by omega)), O46⟩ (by first | omega | (dsimp only; omega)) (.c rfl (.base 41 rfl rfl)) inferInstance
    · skip
      refine XT.callB b11 rfl rfl Try.call14 rfl rfl rfl (next09 b11 vx hx x (q) (12) (by omega) (by omega) (by omega)) (fun v34 s34 R34 => ?_) XT.stop
      obtain ⟨rfl, n34, rfl, h34⟩ := R34
      dsimp only [List.cons_append, List.nil_append]
      refine ⟨inferInstance, ?_⟩
      refine XT.qs rfl rfl (Q.ld rfl rfl) ⟨inferInstance, ?_⟩ ?_
      · skip
        refine XT.callB b11 rfl rfl Try.call14 rfl rfl rfl (next09 b11 vx hx x (q + 1) (12) (by omega) (by omega) (by omega)) (fun v36 s36 R36 => ?_) XT.stop
        obtain ⟨rfl, n36, rfl, h36⟩ := R36
        dsimp only [List.cons_append, List.nil_append]
        refine ⟨inferInstance, ?_⟩
        refine XT.callB b11 rfl rfl Try.call14 rfl rfl rfl (next09 b11 vx hx x (q + 1 + 1) (12) (by omega) (by omega) (by omega)) (fun v38 s38 R38 => ?_) XT.stop
        obtain ⟨rfl, n38, rfl, h38⟩ := R38
        dsimp only [List.cons_append, List.nil_append]
        refine ⟨inferInstance, ?_⟩
        refine XT.q rfl rfl (Q.build [_, _, _] (.c 0 1 rfl rfl rfl (.c 1 1 rfl rfl rfl (.c 2 1 rfl rfl rfl (.n _))))) ?_
        refine XT.callB b11 rfl rfl Try.call14 rfl rfl rfl (next09 b11 vx hx x (q + 1 + 1 + 1) (80) (by omega) (by omega) (by omega)) (fun v41 s41 R41 => ?_) XT.stop
        obtain ⟨rfl, n41, rfl, h41⟩ := R41
        dsimp only [List.cons_append, List.nil_append]
        refine ⟨inferInstance, ?_⟩
        refine XT.callB b11 rfl rfl Try.call14 rfl rfl rfl (next09 b11 vx hx x (q + 1 + 1 + 1 + 1) (3) (by omega) (by omega) (by omega)) (fun v43 s43 R43 => ?_) XT.stop
        obtain ⟨rfl, n43, rfl, h43⟩ := R43
        dsimp only [List.cons_append, List.nil_append]
        refine ⟨inferInstance, ?_⟩
        refine XT.q rfl rfl (Q.build [_, _, _, _, _] (.c 0 3 rfl rfl rfl (.c 3 1 rfl rfl rfl (.c 4 1 rfl rfl rfl (.n _))))) ?_
        refine XT.lit [_, _, _, _, _] [_, _, _, _, _] [(⟨n34, n36, n38, n41, n43⟩ : PRack)] encRack rfl rfl (by rfl) (by rfl) rfl (by rfl) (by exact .c 0 5 rfl rfl rfl (.n _)) (fun _ => rfl) (by rfl) rfl (by infer_instance) rfl (fun v45 h45 O45 => ⟨inferInstance, ?_⟩) XT.stop
        refine XT.append rfl rfl rfl rfl rfl rfl (by first | omega | (simp; omega)) (fun v46 h46 O46 => ⟨inferInstance, ?_⟩) XT.stop
        refine XT.q rfl rfl (Q.fieldAddr rfl) ?_
        refine XT.st rfl rfl rfl rfl rfl ⟨inferInstance, ?_⟩ XT.stop
        refine XT.done ?_
        refine XK.inBlock ?_
        refine XK.region rfl ?_
        refine XO.q (Q.add rfl rfl ⟨by omega, by omega⟩) ?_
        refine XO.q (Q.move rfl) ?_
        refine XO.done ?_
        exact ih0 (k + 1, q + 1 + 1 + 1 + 1 + 1, rs ++ [(⟨n34, n36, n38, n41, n43⟩ : PRack)], v46, h46) _ _ ⟨by dsimp only; omega, by dsimp only; omega, by dsimp only; rw [List.length_append, rl]; rfl, by dsimp only; exact each_snoc (Q := fun r => rackR r = true) ro (rack_ok (by omega) (by omega) (by omega) (by omega) (by omega)), O46⟩ (by first | omega | (dsimp only; omega)) (.c rfl (.base 41 rfl rfl)) inferInstance
      · skip
        refine XT.callB b11 rfl rfl Try.call14 rfl rfl rfl (next09 b11 vx hx x (q + 1) (12) (by omega) (by omega) (by omega)) (fun v36 s36 R36 => ?_) XT.stop
        obtain ⟨rfl, n36, rfl, h36⟩ := R36
        dsimp only [List.cons_append, List.nil_append]
        refine ⟨inferInstance, ?_⟩
        refine XT.qs rfl rfl (Q.ld rfl rfl) ⟨inferInstance, ?_⟩ ?_
        · skip
          refine XT.callB b11 rfl rfl Try.call14 rfl rfl rfl (next09 b11 vx hx x (q + 1 + 1) (12) (by omega) (by omega) (by omega)) (fun v38 s38 R38 => ?_) XT.stop
          obtain ⟨rfl, n38, rfl, h38⟩ := R38
          dsimp only [List.cons_append, List.nil_append]
          refine ⟨inferInstance, ?_⟩
          refine XT.q rfl rfl (Q.build [_, _, _] (.c 0 1 rfl rfl rfl (.c 1 1 rfl rfl rfl (.c 2 1 rfl rfl rfl (.n _))))) ?_
          refine XT.callB b11 rfl rfl Try.call14 rfl rfl rfl (next09 b11 vx hx x (q + 1 + 1 + 1) (80) (by omega) (by omega) (by omega)) (fun v41 s41 R41 => ?_) XT.stop
          obtain ⟨rfl, n41, rfl, h41⟩ := R41
          dsimp only [List.cons_append, List.nil_append]
          refine ⟨inferInstance, ?_⟩
          refine XT.callB b11 rfl rfl Try.call14 rfl rfl rfl (next09 b11 vx hx x (q + 1 + 1 + 1 + 1) (3) (by omega) (by omega) (by omega)) (fun v43 s43 R43 => ?_) XT.stop
          obtain ⟨rfl, n43, rfl, h43⟩ := R43
          dsimp only [List.cons_append, List.nil_append]
          refine ⟨inferInstance, ?_⟩
          refine XT.q rfl rfl (Q.build [_, _, _, _, _] (.c 0 3 rfl rfl rfl (.c 3 1 rfl rfl rfl (.c 4 1 rfl rfl rfl (.n _))))) ?_
          refine XT.lit [_, _, _, _, _] [_, _, _, _, _] [(⟨n34, n36, n38, n41, n43⟩ : PRack)] encRack rfl rfl (by rfl) (by rfl) rfl (by rfl) (by exact .c 0 5 rfl rfl rfl (.n _)) (fun _ => rfl) (by rfl) rfl (by infer_instance) rfl (fun v45 h45 O45 => ⟨inferInstance, ?_⟩) XT.stop
          refine XT.append rfl rfl rfl rfl rfl rfl (by first | omega | (simp; omega)) (fun v46 h46 O46 => ⟨inferInstance, ?_⟩) XT.stop
          refine XT.q rfl rfl (Q.fieldAddr rfl) ?_
          refine XT.st rfl rfl rfl rfl rfl ⟨inferInstance, ?_⟩ XT.stop
          refine XT.done ?_
          refine XK.inBlock ?_
          refine XK.region rfl ?_
          refine XO.q (Q.add rfl rfl ⟨by omega, by omega⟩) ?_
          refine XO.q (Q.move rfl) ?_
          refine XO.done ?_
          exact ih0 (k + 1, q + 1 + 1 + 1 + 1 + 1, rs ++ [(⟨n34, n36, n38, n41, n43⟩ : PRack)], v46, h46) _ _ ⟨by dsimp only; omega, by dsimp only; omega, by dsimp only; rw [List.length_append, rl]; rfl, by dsimp only; exact each_snoc (Q := fun r => rackR r = true) ro (rack_ok (by omega) (by omega) (by omega) (by omega) (by omega)), O46⟩ (by first | omega | (dsimp only; omega)) (.c rfl (.base 41 rfl rfl)) inferInstance
        · skip
          refine XT.callB b11 rfl rfl Try.call14 rfl rfl rfl (next09 b11 vx hx x (q + 1 + 1) (12) (by omega) (by omega) (by omega)) (fun v38 s38 R38 => ?_) XT.stop
          obtain ⟨rfl, n38, rfl, h38⟩ := R38
          dsimp only [List.cons_append, List.nil_append]
          refine ⟨inferInstance, ?_⟩
          refine XT.q rfl rfl (Q.build [_, _, _] (.c 0 1 rfl rfl rfl (.c 1 1 rfl rfl rfl (.c 2 1 rfl rfl rfl (.n _))))) ?_
          refine XT.qs rfl rfl (Q.ld rfl rfl) ⟨inferInstance, ?_⟩ ?_
          · skip
            refine XT.callB b11 rfl rfl Try.call14 rfl rfl rfl (next09 b11 vx hx x (q + 1 + 1 + 1) (80) (by omega) (by omega) (by omega)) (fun v41 s41 R41 => ?_) XT.stop
            obtain ⟨rfl, n41, rfl, h41⟩ := R41
            dsimp only [List.cons_append, List.nil_append]
            refine ⟨inferInstance, ?_⟩
            refine XT.callB b11 rfl rfl Try.call14 rfl rfl rfl (next09 b11 vx hx x (q + 1 + 1 + 1 + 1) (3) (by omega) (by omega) (by omega)) (fun v43 s43 R43 => ?_) XT.stop
            obtain ⟨rfl, n43, rfl, h43⟩ := R43
            dsimp only [List.cons_append, List.nil_append]
            refine ⟨inferInstance, ?_⟩
            refine XT.q rfl rfl (Q.build [_, _, _, _, _] (.c 0 3 rfl rfl rfl (.c 3 1 rfl rfl rfl (.c 4 1 rfl rfl rfl (.n _))))) ?_
            refine XT.lit [_, _, _, _, _] [_, _, _, _, _] [(⟨n34, n36, n38, n41, n43⟩ : PRack)] encRack rfl rfl (by rfl) (by rfl) rfl (by rfl) (by exact .c 0 5 rfl rfl rfl (.n _)) (fun _ => rfl) (by rfl) rfl (by infer_instance) rfl (fun v45 h45 O45 => ⟨inferInstance, ?_⟩) XT.stop
            refine XT.append rfl rfl rfl rfl rfl rfl (by first | omega | (simp; omega)) (fun v46 h46 O46 => ⟨inferInstance, ?_⟩) XT.stop
            refine XT.q rfl rfl (Q.fieldAddr rfl) ?_
            refine XT.st rfl rfl rfl rfl rfl ⟨inferInstance, ?_⟩ XT.stop
            refine XT.done ?_
            refine XK.inBlock ?_
            refine XK.region rfl ?_
            refine XO.q (Q.add rfl rfl ⟨by omega, by omega⟩) ?_
            refine XO.q (Q.move rfl) ?_
            refine XO.done ?_
            exact ih0 (k + 1, q + 1 + 1 + 1 + 1 + 1, rs ++ [(⟨n34, n36, n38, n41, n43⟩ : PRack)], v46, h46) _ _ ⟨by dsimp only; omega, by dsimp only; omega, by dsimp only; rw [List.length_append, rl]; rfl, by dsimp only; exact each_snoc (Q := fun r => rackR r = true) ro (rack_ok (by omega) (by omega) (by omega) (by omega) (by omega)), O46⟩ (by first | omega | (dsimp only; omega)) (.c rfl (.base 41 rfl rfl)) inferInstance
          · skip
            refine XT.callB b11 rfl rfl Try.call14 rfl rfl rfl (next09 b11 vx hx x (q + 1 + 1 + 1) (80) (by omega) (by omega) (by omega)) (fun v41 s41 R41 => ?_) XT.stop
            obtain ⟨rfl, n41, rfl, h41⟩ := R41
            dsimp only [List.cons_append, List.nil_append]
            refine ⟨inferInstance, ?_⟩
            refine XT.qs rfl rfl (Q.ld rfl rfl) ⟨inferInstance, ?_⟩ ?_
            · skip
              refine XT.callB b11 rfl rfl Try.call14 rfl rfl rfl (next09 b11 vx hx x (q + 1 + 1 + 1 + 1) (3) (by omega) (by omega) (by omega)) (fun v43 s43 R43 => ?_) XT.stop
              obtain ⟨rfl, n43, rfl, h43⟩ := R43
              dsimp only [List.cons_append, List.nil_append]
              refine ⟨inferInstance, ?_⟩
              refine XT.q rfl rfl (Q.build [_, _, _, _, _] (.c 0 3 rfl rfl rfl (.c 3 1 rfl rfl rfl (.c 4 1 rfl rfl rfl (.n _))))) ?_
              refine XT.lit [_, _, _, _, _] [_, _, _, _, _] [(⟨n34, n36, n38, n41, n43⟩ : PRack)] encRack rfl rfl (by rfl) (by rfl) rfl (by rfl) (by exact .c 0 5 rfl rfl rfl (.n _)) (fun _ => rfl) (by rfl) rfl (by infer_instance) rfl (fun v45 h45 O45 => ⟨inferInstance, ?_⟩) XT.stop
              refine XT.append rfl rfl rfl rfl rfl rfl (by first | omega | (simp; omega)) (fun v46 h46 O46 => ⟨inferInstance, ?_⟩) XT.stop
              refine XT.q rfl rfl (Q.fieldAddr rfl) ?_
              refine XT.st rfl rfl rfl rfl rfl ⟨inferInstance, ?_⟩ XT.stop
              refine XT.done ?_
              refine XK.inBlock ?_
              refine XK.region rfl ?_
              refine XO.q (Q.add rfl rfl ⟨by omega, by omega⟩) ?_
              refine XO.q (Q.move rfl) ?_
              refine XO.done ?_
              exact ih0 (k + 1, q + 1 + 1 + 1 + 1 + 1, rs ++ [(⟨n34, n36, n38, n41, n43⟩ : PRack)], v46, h46) _ _ ⟨by dsimp only; omega, by dsimp only; omega, by dsimp only; rw [List.length_append, rl]; rfl, by dsimp only; exact each_snoc (Q := fun r => rackR r = true) ro (rack_ok (by omega) (by omega) (by omega) (by omega) (by omega)), O46⟩ (by first | omega | (dsimp only; omega)) (.c rfl (.base 41 rfl rfl)) inferInstance
            · skip
              refine XT.callB b11 rfl rfl Try.call14 rfl rfl rfl (next09 b11 vx hx x (q + 1 + 1 + 1 + 1) (3) (by omega) (by omega) (by omega)) (fun v43 s43 R43 => ?_) XT.stop
              obtain ⟨rfl, n43, rfl, h43⟩ := R43
              dsimp only [List.cons_append, List.nil_append]
              refine ⟨inferInstance, ?_⟩
              refine XT.q rfl rfl (Q.build [_, _, _, _, _] (.c 0 3 rfl rfl rfl (.c 3 1 rfl rfl rfl (.c 4 1 rfl rfl rfl (.n _))))) ?_
              refine XT.qs rfl rfl (Q.ld rfl rfl) ⟨inferInstance, ?_⟩ ?_
              · skip
                refine XT.lit [_, _, _, _, _] [_, _, _, _, _] [(⟨n34, n36, n38, n41, n43⟩ : PRack)] encRack rfl rfl (by rfl) (by rfl) rfl (by rfl) (by exact .c 0 5 rfl rfl rfl (.n _)) (fun _ => rfl) (by rfl) rfl (by infer_instance) rfl (fun v45 h45 O45 => ⟨inferInstance, ?_⟩) XT.stop
                refine XT.append rfl rfl rfl rfl rfl rfl (by first | omega | (simp; omega)) (fun v46 h46 O46 => ⟨inferInstance, ?_⟩) XT.stop
                refine XT.q rfl rfl (Q.fieldAddr rfl) ?_
                refine XT.st rfl rfl rfl rfl rfl ⟨inferInstance, ?_⟩ XT.stop
                refine XT.done ?_
                refine XK.inBlock ?_
                refine XK.region rfl ?_
                refine XO.q (Q.add rfl rfl ⟨by omega, by omega⟩) ?_
                refine XO.q (Q.move rfl) ?_
                refine XO.done ?_
                exact ih0 (k + 1, q + 1 + 1 + 1 + 1 + 1, rs ++ [(⟨n34, n36, n38, n41, n43⟩ : PRack)], v46, h46) _ _ ⟨by dsimp only; omega, by dsimp only; omega, by dsimp only; rw [List.length_append, rl]; rfl, by dsimp only; exact each_snoc (Q := fun r => rackR r = true) ro (rack_ok (by omega) (by omega) (by omega) (by omega) (by omega)), O46⟩ (by first | omega | (dsimp only; omega)) (.c rfl (.base 41 rfl rfl)) inferInstance
              · skip
                refine XT.lit [_, _, _, _, _] [_, _, _, _, _] [(⟨n34, n36, n38, n41, n43⟩ : PRack)] encRack rfl rfl (by rfl) (by rfl) rfl (by rfl) (by exact .c 0 5 rfl rfl rfl (.n _)) (fun _ => rfl) (by rfl) rfl (by infer_instance) rfl (fun v45 h45 O45 => ⟨inferInstance, ?_⟩) XT.stop
                refine XT.qs rfl rfl (Q.ld rfl rfl) ⟨inferInstance, ?_⟩ XT.stop
                refine XT.append rfl rfl rfl rfl rfl rfl (by first | omega | (simp; omega)) (fun v46 h46 O46 => ⟨inferInstance, ?_⟩) XT.stop
                refine XT.q rfl rfl (Q.fieldAddr rfl) ?_
                refine XT.st rfl rfl rfl rfl rfl ⟨inferInstance, ?_⟩ XT.stop
                refine XT.done ?_
                refine XK.inBlock ?_
                refine XK.region rfl ?_
                refine XO.q (Q.add rfl rfl ⟨by omega, by omega⟩) ?_
                refine XO.q (Q.move rfl) ?_
                refine XO.done ?_
                exact ih0 (k + 1, q + 1 + 1 + 1 + 1 + 1, rs ++ [(⟨n34, n36, n38, n41, n43⟩ : PRack)], v46, h46) _ _ ⟨by dsimp only; omega, by dsimp only; omega, by dsimp only; rw [List.length_append, rl]; rfl, by dsimp only; exact each_snoc (Q := fun r => rackR r = true) ro (rack_ok (by omega) (by omega) (by omega) (by omega) (by omega)), O46⟩ (by first | omega | (dsimp only; omega)) (.c rfl (.base 41 rfl rfl)) inferInstance
  · have _t0 := True.intro
    have hk3 : k = 1 + n27 := by omega
    refine XK.exit rfl ?_
    refine XK.seq ?_
    refine XK.seq ?_
    refine XK.region rfl ?_
    refine XO.q (Q.move rfl) ?_
    refine XO.q (Q.move rfl) ?_
    refine XO.done ?_
    refine XK.block ?_
    refine XK.while (X := Nat × Nat × List (Value × PJob) × Value × PHeap × PHeap) [7, 8, 50, 51, 52, 53, 54, 55, 56, 57, 58, 59, 60, 61, 62, 63, 64, 65, 66, 67, 68, 69, 70, 71, 72, 73, 74, 75, 76, 77, 78, 79, 80, 81, 82, 83, 84, 85, 86, 87, 88, 89, 90, 91, 92, 93] (fun ⟨i, q, l, vl, kl, K⟩ => [(50, some (.int .i64 (i : Nat)))]) (fun ⟨i, q, l, vl, kl, K⟩ => [blk b11 [vx, .int .i64 ((q : Nat) : Int)] 52, blk b5 [vl, vr, .int .i64 m.n, .int .i64 m.d] 28, kl, K]) (fun ⟨i, q, l, vl, kl, K⟩ => i ≤ n25 ∧ q ≤ 100 + i * 20 ∧ l.length = i ∧ OArr vl encPJ 6 39 kl l ∧ JobsK l K ∧ (∀ i, i < l.length → MkJob (l.getD i default).2)) (fun ⟨i, q, l, vl, kl, K⟩ => n25 - i) (0, q, [], .slice none 0 0, emp, emp) [blk b11 [vx, .int .i64 ((q : Nat) : Int)] 52, blk b5 [.slice none 0 0, vr, .int .i64 m.n, .int .i64 m.d] 28, emp, emp] rfl ⟨by omega, by omega, rfl, nP, JobsK.nil _, fun i hi => absurd hi (Nat.not_lt_zero i)⟩ (.c rfl (.base 0 rfl rfl)) ?_
    rintro ⟨i, q, l, vl, kl, K⟩ ⟨hi, hq2, ll, OL, JL, jo⟩ ih1
    dsimp only [List.cons_append, List.nil_append] at ih1 ⊢
    refine XK.seq ?_
    refine XK.region rfl ?_
    refine XO.q (Q.lss rfl rfl) ?_
    refine XO.done ?_
    refine XK.seq ?_
    refine XK.if rfl (fun c1 => ?_) (fun c1 => ?_)
    · have _t1 := True.intro
      refine XK.skip ?_
      refine XK.seq ?_
      refine XK.block ?_
      refine XK.seq ?_
      refine XK.region rfl ?_
      refine XO.q (Q.move rfl) ?_
      refine XO.callB b11 Try.call14 rfl rfl rfl (next09 b11 vx hx x (q) (5) (by omega) (by omega) (by omega)) fun v53 s53 R53 => ?_
      obtain ⟨rfl, n53, rfl, h53⟩ := R53
      dsimp only [List.cons_append, List.nil_append]
      refine XO.q (Q.move rfl) ?_
      refine XO.callB b11 Try.call14 rfl rfl rfl (next09 b11 vx hx x (q + 1) (5) (by omega) (by omega) (by omega)) fun v55 s55 R55 => ?_
      obtain ⟨rfl, n55, rfl, h55⟩ := R55
      dsimp only [List.cons_append, List.nil_append]
      refine XO.q (Q.move rfl) ?_
      refine XO.callB b11 Try.call14 rfl rfl rfl (next09 b11 vx hx x (q + 1 + 1) (5) (by omega) (by omega) (by omega)) fun v57 s57 R57 => ?_
      obtain ⟨rfl, n57, rfl, h57⟩ := R57
      dsimp only [List.cons_append, List.nil_append]
      refine XO.q (Q.build [_, _, _] (.c 0 1 rfl rfl rfl (.c 1 1 rfl rfl rfl (.c 2 1 rfl rfl rfl (.n _))))) ?_
      refine XO.q (Q.move rfl) ?_
      refine XO.callB b11 Try.call14 rfl rfl rfl (next09 b11 vx hx x (q + 1 + 1 + 1) (4) (by omega) (by omega) (by omega)) fun v60 s60 R60 => ?_
      obtain ⟨rfl, n60, rfl, h60⟩ := R60
      dsimp only [List.cons_append, List.nil_append]
      refine XO.q (Q.move rfl) ?_
      refine XO.callB b11 Try.call14 rfl rfl rfl (next09 b11 vx hx x (q + 1 + 1 + 1 + 1) (10) (by omega) (by omega) (by omega)) fun v62 s62 R62 => ?_
      obtain ⟨rfl, n62, rfl, h62⟩ := R62
      dsimp only [List.cons_append, List.nil_append]
      refine XO.q (Q.build [_, _, _, _, _, _] (.c 0 3 rfl rfl rfl (.c 4 1 rfl rfl rfl (.c 5 1 rfl rfl rfl (.n _))))) ?_
      refine XO.alloc fun b7 => ?_
      refine XO.st rfl rfl rfl ?_
      refine XO.done ?_
      refine XK.seq ?_
      refine XK.region rfl ?_
      refine XO.q (Q.move rfl) ?_
      refine XO.callB b11 Try.call14 rfl rfl rfl (next09 b11 vx hx x (q + 1 + 1 + 1 + 1 + 1) (15) (by omega) (by omega) (by omega)) fun v65 s65 R65 => ?_
      obtain ⟨rfl, n65, rfl, h65⟩ := R65
      dsimp only [List.cons_append, List.nil_append]
      refine XO.q (Q.assign rfl) ?_
      refine XO.done ?_
      refine XK.seq ?_
      refine XK.seq ?_
      refine XK.region rfl ?_
      refine XO.q (Q.move rfl) ?_
      refine XO.callB b11 Try.call14 rfl rfl rfl (next09 b11 vx hx x (q + 1 + 1 + 1 + 1 + 1 + 1) (3) (by omega) (by omega) (by omega)) fun v67 s67 R67 => ?_
      obtain ⟨rfl, n67, rfl, h67⟩ := R67
      dsimp only [List.cons_append, List.nil_append]
      refine XO.q (Q.add rfl rfl ⟨by omega, by omega⟩) ?_
      rw [show ((1 : Int) + (n67 : Int)) = ((1 + n67 : Nat) : Int) from rfl]
      refine XO.q (Q.move rfl) ?_
      refine XO.done ?_
      refine XK.block ?_
      refine XK.while (X := Nat × Nat × Int × List PDraw × Value × PHeap) [8, 69, 70, 71, 72, 73, 74, 75, 76, 77, 78, 79, 80, 81, 82, 83, 84, 85, 86] (fun ⟨j, u, p, ds, vd, kd⟩ => [(69, some (.int .i64 (j : Nat))), (8, some (.int .i64 p))]) (fun ⟨j, u, p, ds, vd, kd⟩ => [blk b11 [vx, .int .i64 ((u : Nat) : Int)] 52, blk b7 [.int .i64 (n53 : Nat), .int .i64 (n55 : Nat), .int .i64 (n57 : Nat), vd, .int .i64 (n60 : Nat), .int .i64 (n62 : Nat)] 39, kd]) (fun ⟨j, u, p, ds, vd, kd⟩ => j ≤ 1 + n67 ∧ u ≤ q + 7 + j * 2 ∧ MkD j p ds ∧ OArr vd encDraw 2 41 kd ds) (fun ⟨j, u, p, ds, vd, kd⟩ => 1 + n67 - j) (0, q + 1 + 1 + 1 + 1 + 1 + 1 + 1, (n65 : Nat), [], .slice none 0 0, emp) [blk b11 [vx, .int .i64 ((q + 1 + 1 + 1 + 1 + 1 + 1 + 1 : Nat) : Int)] 52, blk b7 [.int .i64 (n53 : Nat), .int .i64 (n55 : Nat), .int .i64 (n57 : Nat), .slice none 0 0, .int .i64 (n60 : Nat), .int .i64 (n62 : Nat)] 39, emp] rfl ⟨by omega, by omega, MkD.nil (by omega), nD⟩ (.c rfl (.c rfl (.base 0 rfl rfl))) ?_
      rintro ⟨j, u, p, ds, vd, kd⟩ ⟨hj_, hu, md, OD⟩ ih2
      dsimp only [List.cons_append, List.nil_append] at ih2 ⊢
      refine XK.seq ?_
      refine XK.region rfl ?_
      refine XO.q (Q.lss rfl rfl) ?_
      refine XO.done ?_
      refine XK.seq ?_
      refine XK.if rfl (fun c2 => ?_) (fun c2 => ?_)
      · have _t2 := True.intro
        have pp := md.p1
        have dl := md.len
        refine XK.skip ?_
        refine XK.seq ?_
        refine XK.block ?_
        refine XK.seq ?_
        refine XK.drawn [0, 2, 3, 5, 6, 9] [] [] (.q 0 (.q 2 (.q 3 (.br 1 true (.br 4 true (.q 5 (.q 6 (.br 7 true (.br 8 true (.q 9 (.br 10 false .done .stop)) .stop) .stop))) .stop) (.br 4 true (.q 5 (.q 6 (.br 1 true (.br 7 true (.br 8 true (.q 9 (.br 10 false .done .stop)) .stop) .stop) (.br 7 true (.br 1 true (.br 8 true (.q 9 (.br 10 false .done .stop)) .stop) .stop) .stop)))) .stop))))) Try.mixed rfl (by kernel_rfl) ?_
        refine XT.q rfl rfl (Q.fieldAddr rfl) ?_
        refine XT.q rfl rfl (Q.move rfl) ?_
        refine XT.q rfl rfl (Q.move rfl) ?_
        refine XT.qs rfl rfl (Q.ld rfl rfl) ⟨inferInstance, ?_⟩ ?_
        · skip
          refine XT.callB b11 rfl rfl Try.call14 rfl rfl rfl (next09 b11 vx hx x (u) (4) (by omega) (by omega) (by omega)) (fun v75 s75 R75 => ?_) XT.stop
          obtain ⟨rfl, n75, rfl, h75⟩ := R75
          dsimp only [List.cons_append, List.nil_append]
          refine ⟨inferInstance, ?_⟩
          refine XT.q rfl rfl (Q.add rfl rfl ⟨by omega, by omega⟩) ?_
          refine XT.q rfl rfl (Q.build [_, _] (.c 0 1 rfl rfl rfl (.c 1 1 rfl rfl rfl (.n _)))) ?_
          refine XT.lit [_, _] [_, _] [⟨p, 1 + (n75 : Int)⟩] encDraw rfl rfl (by rfl) (by rfl) rfl (by rfl) (by exact .c 0 2 rfl rfl rfl (.n _)) (fun _ => rfl) (by rfl) rfl (by infer_instance) rfl (fun v78 h78 O78 => ⟨inferInstance, ?_⟩) XT.stop
          refine XT.append rfl rfl rfl rfl rfl rfl (by first | omega | (simp; omega)) (fun v79 h79 O79 => ⟨inferInstance, ?_⟩) XT.stop
          refine XT.q rfl rfl (Q.fieldAddr rfl) ?_
          refine XT.st rfl rfl rfl rfl rfl ⟨inferInstance, ?_⟩ XT.stop
          refine XT.done ?_
          refine XK.region rfl ?_
          refine XO.q (Q.move rfl) ?_
          refine XO.q (Q.move rfl) ?_
          refine XO.callB b11 Try.call14 rfl rfl rfl (next09 b11 vx hx x (u + 1) (15) (by omega) (by omega) (by omega)) fun v83 s83 R83 => ?_
          obtain ⟨rfl, n83, rfl, h83⟩ := R83
          dsimp only [List.cons_append, List.nil_append]
          refine XO.q (Q.add rfl rfl ⟨by omega, by omega⟩) ?_
          refine XO.q (Q.add rfl rfl ⟨by omega, by omega⟩) ?_
          refine XO.q (Q.assign rfl) ?_
          refine XO.done ?_
          refine XK.inBlock ?_
          refine XK.region rfl ?_
          refine XO.q (Q.add rfl rfl ⟨by omega, by omega⟩) ?_
          refine XO.q (Q.move rfl) ?_
          refine XO.done ?_
          exact ih2 (j + 1, u + 1 + 1, p + (1 + (n83 : Int)), ds ++ [⟨p, 1 + (n75 : Int)⟩], v79, h79) _ _ ⟨by dsimp only; omega, by dsimp only; omega, by dsimp only; exact md.snoc (by omega) (by omega), O79⟩ (by first | omega | (dsimp only; omega)) (.c rfl (.c rfl (.base 40 rfl rfl))) inferInstance
        · skip
          refine XT.callB b11 rfl rfl Try.call14 rfl rfl rfl (next09 b11 vx hx x (u) (4) (by omega) (by omega) (by omega)) (fun v75 s75 R75 => ?_) XT.stop
          obtain ⟨rfl, n75, rfl, h75⟩ := R75
          dsimp only [List.cons_append, List.nil_append]
          refine ⟨inferInstance, ?_⟩
          refine XT.q rfl rfl (Q.add rfl rfl ⟨by omega, by omega⟩) ?_
          refine XT.q rfl rfl (Q.build [_, _] (.c 0 1 rfl rfl rfl (.c 1 1 rfl rfl rfl (.n _)))) ?_
          refine XT.qs rfl rfl (Q.ld rfl rfl) ⟨inferInstance, ?_⟩ ?_
          · skip
            refine XT.lit [_, _] [_, _] [⟨p, 1 + (n75 : Int)⟩] encDraw rfl rfl (by rfl) (by rfl) rfl (by rfl) (by exact .c 0 2 rfl rfl rfl (.n _)) (fun _ => rfl) (by rfl) rfl (by infer_instance) rfl (fun v78 h78 O78 => ⟨inferInstance, ?_⟩) XT.stop
            refine XT.append rfl rfl rfl rfl rfl rfl (by first | omega | (simp; omega)) (fun v79 h79 O79 => ⟨inferInstance, ?_⟩) XT.stop
            refine XT.q rfl rfl (Q.fieldAddr rfl) ?_
            refine XT.st rfl rfl rfl rfl rfl ⟨inferInstance, ?_⟩ XT.stop
            refine XT.done ?_
            refine XK.region rfl ?_
            refine XO.q (Q.move rfl) ?_
            refine XO.q (Q.move rfl) ?_
            refine XO.callB b11 Try.call14 rfl rfl rfl (next09 b11 vx hx x (u + 1) (15) (by omega) (by omega) (by omega)) fun v83 s83 R83 => ?_
            obtain ⟨rfl, n83, rfl, h83⟩ := R83
            dsimp only [List.cons_append, List.nil_append]
            refine XO.q (Q.add rfl rfl ⟨by omega, by omega⟩) ?_
            refine XO.q (Q.add rfl rfl ⟨by omega, by omega⟩) ?_
            refine XO.q (Q.assign rfl) ?_
            refine XO.done ?_
            refine XK.inBlock ?_
            refine XK.region rfl ?_
            refine XO.q (Q.add rfl rfl ⟨by omega, by omega⟩) ?_
            refine XO.q (Q.move rfl) ?_
            refine XO.done ?_
            exact ih2 (j + 1, u + 1 + 1, p + (1 + (n83 : Int)), ds ++ [⟨p, 1 + (n75 : Int)⟩], v79, h79) _ _ ⟨by dsimp only; omega, by dsimp only; omega, by dsimp only; exact md.snoc (by omega) (by omega), O79⟩ (by first | omega | (dsimp only; omega)) (.c rfl (.c rfl (.base 40 rfl rfl))) inferInstance
          · skip
            refine XT.lit [_, _] [_, _] [⟨p, 1 + (n75 : Int)⟩] encDraw rfl rfl (by rfl) (by rfl) rfl (by rfl) (by exact .c 0 2 rfl rfl rfl (.n _)) (fun _ => rfl) (by rfl) rfl (by infer_instance) rfl (fun v78 h78 O78 => ⟨inferInstance, ?_⟩) XT.stop
            refine XT.qs rfl rfl (Q.ld rfl rfl) ⟨inferInstance, ?_⟩ XT.stop
            refine XT.append rfl rfl rfl rfl rfl rfl (by first | omega | (simp; omega)) (fun v79 h79 O79 => ⟨inferInstance, ?_⟩) XT.stop
            refine XT.q rfl rfl (Q.fieldAddr rfl) ?_
            refine XT.st rfl rfl rfl rfl rfl ⟨inferInstance, ?_⟩ XT.stop
            refine XT.done ?_
            refine XK.region rfl ?_
            refine XO.q (Q.move rfl) ?_
            refine XO.q (Q.move rfl) ?_
            refine XO.callB b11 Try.call14 rfl rfl rfl (next09 b11 vx hx x (u + 1) (15) (by omega) (by omega) (by omega)) fun v83 s83 R83 => ?_
            obtain ⟨rfl, n83, rfl, h83⟩ := R83
            dsimp only [List.cons_append, List.nil_append]
            refine XO.q (Q.add rfl rfl ⟨by omega, by omega⟩) ?_
            refine XO.q (Q.add rfl rfl ⟨by omega, by omega⟩) ?_
            refine XO.q (Q.assign rfl) ?_
            refine XO.done ?_
            refine XK.inBlock ?_
            refine XK.region rfl ?_
            refine XO.q (Q.add rfl rfl ⟨by omega, by omega⟩) ?_
            refine XO.q (Q.move rfl) ?_
            refine XO.done ?_
            exact ih2 (j + 1, u + 1 + 1, p + (1 + (n83 : Int)), ds ++ [⟨p, 1 + (n75 : Int)⟩], v79, h79) _ _ ⟨by dsimp only; omega, by dsimp only; omega, by dsimp only; exact md.snoc (by omega) (by omega), O79⟩ (by first | omega | (dsimp only; omega)) (.c rfl (.c rfl (.base 40 rfl rfl))) inferInstance
      · have _t2 := True.intro
        have hj : j = 1 + n67 := by omega
        refine XK.exit rfl ?_
        refine XK.region rfl ?_
        refine XO.q (Q.fieldAddr rfl) ?_
        refine XO.q (Q.ld rfl rfl) ?_
        refine XO.q (Q.ldA [_, _, _, _, _, _] rfl rfl rfl) ?_
        refine XO.cat K kd fun l1 l2 => ?_
        refine XO.lit [_, _, _, _, _, _] [_, _, _, _, _, _] [(vd, (⟨n53, n55, n57, ds, n60, n62⟩ : PJob))] encPJ (by rfl) (by rfl) rfl (by rfl) (by exact .c 0 6 rfl rfl rfl (.n _)) (fun _ => rfl) (by rfl) rfl (by infer_instance) rfl fun v90 h90 O90 => ?_
        refine XO.append rfl rfl rfl rfl (by first | omega | (simp; omega)) fun v91 h91 O91 => ?_
        refine XO.q (Q.fieldAddr rfl) ?_
        refine XO.st rfl rfl rfl ?_
        refine XO.done ?_
        refine XK.inBlock ?_
        refine XK.region rfl ?_
        refine XO.q (Q.add rfl rfl ⟨by omega, by omega⟩) ?_
        refine XO.q (Q.move rfl) ?_
        refine XO.done ?_
        exact ih1 (i + 1, u, l ++ [(vd, (⟨n53, n55, n57, ds, n60, n62⟩ : PJob))], v91, h91, cat K kd) _ _ ⟨by dsimp only; omega, by dsimp only; omega, by dsimp only; rw [List.length_append, ll]; rfl, O91, by dsimp only; exact (JL.mono l1).snoc (Arr.le_heap (OArr.arr (s := OD)) l2), by dsimp only; exact each_snoc (Q := fun x : Value × PJob => MkJob x.2) jo (mkJob_of md (by omega) (by omega) (by omega) (by omega) (by omega) (by omega))⟩ (by first | omega | (dsimp only; omega)) (.c rfl (.base 98 rfl rfl)) inferInstance
    · have _t1 := True.intro
      have hi8 : i = n25 := by omega
      refine XK.exit rfl ?_
      refine XK.seq ?_
      refine XK.region rfl ?_
      refine XO.q (Q.ldA [_, _, _, _] rfl rfl rfl) ?_
      refine XO.st rfl rfl rfl ?_
      refine XO.done ?_
      refine XK.rt [kl, K, kr] Try.func8 Try.results8 (.cell [_, _, _, _] rfl rfl rfl (.n)) ?_
      exact ⟨l, vl, kl, K, rs, vr, kr, m, rfl, rfl, OL, JL, OR, ⟨fun i hi => by dsimp only at hi ⊢; rw [map_snd_atP]; exact jo i (by rwa [List.length_map] at hi), by dsimp only; rw [List.length_map]; omega, by dsimp only; omega, ro, mo⟩⟩
end Go.X

set_option linter.unusedSimpArgs false
set_option linter.unusedVariables false
set_option maxRecDepth 20000
namespace Go.X
open Go.Proofs
set_option maxHeartbeats 4000000 in
theorem PlaceDraws_spec (v0 : Value) (h0 : PHeap) (x0 : List UInt8) [i0 : Arr v0 encU8 1 h0 x0] (n1 : Nat) (hn1 : n1 < 256) : Spec Try.prog 3 #[v0, .int .u8 (n1 : Nat)] [] [h0] (fun v hs => v = .bool true ∧ hs = []) := by
  have nI : OArr (.slice none 0 0) encI 1 3 emp ([] : List Int) := OArr.nil (fun _ => rfl)
  refine Spec.intro (fn := Try.f3) (N := 182) Try.func3 rfl Try.ntmps3 rfl fun B => ?_
  refine XK.seq ?_
  refine XK.region rfl ?_
  refine XO.q (Q.assign rfl) ?_
  refine XO.done ?_
  refine XK.seq ?_
  refine XK.region rfl ?_
  refine XO.q (Q.move rfl) ?_
  refine XO.call Try.call8 rfl rfl rfl (made09 v0 h0 x0) fun v30 s30 R30 => ?_
  obtain ⟨l, vl, kl, K, rs, vr, kr, m, rfl, rfl, OL, JL, OR, mk⟩ := R30
  dsimp only [List.cons_append, List.nil_append]
  have rd := mk.ready
  have lm : (l.map Prod.snd).length = l.length := List.length_map ..
  have few := mk.few
  have rk := mk.rk
  dsimp only at few rk
  rw [lm] at few
  refine XO.alloc fun b5 => ?_
  refine XO.st rfl rfl rfl ?_
  refine XO.done ?_
  refine XK.seq ?_
  refine XK.region rfl ?_
  refine XO.q (Q.fieldAddr rfl) ?_
  refine XO.q (Q.ld rfl rfl) ?_
  refine XO.q (Q.fieldAddr rfl) ?_
  refine XO.q (Q.ld rfl rfl) ?_
  refine XO.len rfl fun l35 => ?_
  refine XO.q (Q.min rfl rfl) ?_
  rw [show min ((l.length : Nat) : Int) 3 = ((min l.length 3 : Nat) : Int) by omega]
  obtain ⟨k, ek⟩ : ∃ k, k = min l.length 3 := ⟨_, rfl⟩
  rw [← ek]
  refine XO.cut (i := 0) (j := k) rfl .n (.s rfl (by omega)) (by omega) (by omega) fun v37 A37 => ?_
  obtain ⟨lq, elq⟩ : ∃ lq, lq = ((l.drop 0).take (k - 0)) := ⟨_, rfl⟩
  rw [← elq] at A37
  rw [List.drop_zero, Nat.sub_zero] at elq
  have lql : lq.length = k := by rw [elq, List.length_take]; omega
  have gq : ∀ i, i < lq.length → lq.getD i default = l.getD i default := fun i hi => by rw [elq, List.getD_eq_getElem?_getD, List.getElem?_take, if_pos (by omega), ← List.getD_eq_getElem?_getD]
  have aq : JobsK lq K := fun i hi => by rw [gq i hi]; exact JL i (by omega)
  have lqm : (lq.map Prod.snd).length = lq.length := List.length_map ..
  have mq : ∀ i, i < (lq.map Prod.snd).length → MkJob ((lq.map Prod.snd).getD i default) := fun i hi => by
    have := mk.job i (by dsimp only; omega)
    dsimp only at this
    rw [map_snd_atP] at this ⊢
    rw [gq i (by omega)]; exact this
  have okq : ListOk (lq.map Prod.snd) := mk_list mq (by omega)
  have sg : sumsG (lq.map Prod.snd) = (sumsL (combos (lq.map Prod.snd)), (prodJ (lq.map Prod.snd) (lq.map Prod.snd).length), 0) := by rw [sumsG, if_neg (by rw [listed_ok.2 okq]; decide), (listed_rng okq).1]
  have cl := (combos_all okq).1
  have cf := mk_few mq (by omega) (i := (lq.map Prod.snd).length) (Nat.le_refl _)
  rw [List.take_length] at cf
  have hclr : lq.length ≤ 3 := by omega
  clear elq few rk lm
  refine XO.q (Q.assign rfl) ?_
  refine XO.done ?_
  refine XK.seq ?_
  refine XK.region rfl ?_
  refine XO.q (Q.move rfl) ?_
  refine XO.call Try.call9 rfl rfl rfl (Sums_spec lq v37 kl K aq) fun v40 s40 R40 => ?_
  obtain ⟨vo, ko, rfl, rfl, OS⟩ := R40
  dsimp only [List.cons_append, List.nil_append]
  rw [sg] at OS
  rw [sg]
  dsimp only
  refine XO.q (Q.move rfl) ?_
  refine XO.q (Q.extract rfl rfl) ?_
  refine XO.q (Q.extract rfl rfl) ?_
  refine XO.q (Q.extract rfl rfl) ?_
  refine XO.q (Q.assign rfl) ?_
  refine XO.q (Q.assign rfl) ?_
  refine XO.q (Q.assign rfl) ?_
  refine XO.done ?_
  refine XK.seq ?_
  refine XK.region rfl ?_
  refine XO.q (Q.move rfl) ?_
  refine XO.q (Q.move rfl) ?_
  refine XO.q (Q.conv rfl) ?_
  rw [wrap64_of ⟨by omega, by omega⟩]
  refine XO.call Try.call10 rfl rfl rfl (Chance_spec lq v37 kl K aq (n1 : Nat)) fun v48 s48 R48 => ?_
  obtain ⟨rfl, rfl⟩ := R48
  dsimp only [List.cons_append, List.nil_append]
  rw [show chanceG (lq.map Prod.snd) (n1 : Nat) = ((overG (lq.map Prod.snd) (n1 : Nat) (prodJ (lq.map Prod.snd) (lq.map Prod.snd).length)), 0) by rw [chanceG, if_neg (by rw [listed_ok.2 okq]; decide), (listed_rng okq).1]]
  dsimp only
  refine XO.q (Q.move rfl) ?_
  refine XO.q (Q.extract rfl rfl) ?_
  refine XO.q (Q.extract rfl rfl) ?_
  refine XO.alloc fun b10 => ?_
  refine XO.st rfl rfl rfl ?_
  refine XO.q (Q.assign rfl) ?_
  refine XO.done ?_
  refine XK.seq ?_
  refine XK.seq ?_
  refine XK.region rfl ?_
  refine XO.q (Q.move rfl) ?_
  refine XO.q (Q.neq rfl rfl) ?_
  refine XO.q (Q.move rfl) ?_
  refine XO.q (Quiet.guardF rfl rfl fun g54 p54 => Q.move rfl) ?_
  refine XO.q (Quiet.guardF rfl rfl fun g55 p55 => Q.neq (lzv rfl rfl) rfl) ?_
  refine XO.q (Q.or rfl (fun hp => lzv hp rfl)) ?_
  refine XO.done ?_
  refine XK.if rfl (fun c0 => ?_) (fun c0 => ?_)
  · have _t0 := True.intro
    simp at c0
  · have _t0 := True.intro
    refine XK.skip ?_
    refine XK.seq ?_
    refine XK.region rfl ?_
    refine XO.lit [_] [_] [0] encI (by rfl) (by rfl) rfl (by rfl) (by exact .c 0 1 rfl rfl rfl (.n _)) (fun _ => rfl) (by rfl) rfl (by infer_instance) rfl fun v57 h57 O57 => ?_
    refine XO.q (Q.assign rfl) ?_
    refine XO.done ?_
    refine XK.seq ?_
    refine XK.seq ?_
    refine XK.region rfl ?_
    refine XO.q (Q.move rfl) ?_
    refine XO.len rfl fun l59 => ?_
    refine XO.q (Q.move rfl) ?_
    refine XO.done ?_
    refine XK.block ?_
    refine XK.while (X := Nat × Value × PHeap) [12, 14, 15, 17, 19, 60, 61, 62, 63, 64, 65, 66, 67, 68, 69, 70, 71, 72, 73, 74, 75, 76, 77, 78, 79, 80, 81, 82, 83, 84, 85, 86, 87, 88, 89, 90, 91, 92] (fun ⟨i, vt, kt⟩ => [(60, some (.int .i64 (i : Nat))), (12, some (vt))]) (fun ⟨i, vt, kt⟩ => [kt]) (fun ⟨i, vt, kt⟩ => i ≤ lq.length ∧ OArr vt encI 1 3 kt (combos ((lq.map Prod.snd).take i))) (fun ⟨i, vt, kt⟩ => lq.length - i) (0, v57, h57) [h57] rfl ⟨by omega, by rw [List.take_zero]; exact O57⟩ (.c rfl (.c rfl (.base 0 rfl rfl))) ?_
    rintro ⟨i, vt, kt⟩ ⟨hi, OT⟩ ih0
    dsimp only [List.cons_append, List.nil_append] at ih0 ⊢
    refine XK.seq ?_
    refine XK.region rfl ?_
    refine XO.q (Q.lss rfl rfl) ?_
    refine XO.done ?_
    refine XK.seq ?_
    refine XK.if rfl (fun c1 => ?_) (fun c1 => ?_)
    · have _t1 := True.intro
      have ji := map_snd_atP lq i
      have mj := mq i (by omega)
      rw [ji] at mj
      have ai := aq i (by omega)
      have ci := mk_few mq (by omega) (i := i) (by omega)
      have dw := mj.few
      have rg := combos_rng okq i (by omega)
      refine XK.skip ?_
      refine XK.seq ?_
      refine XK.block ?_
      refine XK.seq ?_
      refine XK.region rfl ?_
      refine XO.ix rfl rfl (by omega) (by omega) fun i62 => ?_
      refine XO.q (Q.ldEA [_, _, _, _, _, _] rfl (by first | assumption | omega) rfl rfl) ?_
      refine XO.alloc fun b14 => ?_
      refine XO.st rfl rfl rfl ?_
      refine XO.done ?_
      refine XK.seq ?_
      refine XK.region rfl ?_
      refine XO.q (Q.assign rfl) ?_
      refine XO.done ?_
      refine XK.seq ?_
      refine XK.seq ?_
      refine XK.region rfl ?_
      refine XO.q (Q.move rfl) ?_
      refine XO.len rfl fun l65 => ?_
      refine XO.q (Q.move rfl) ?_
      refine XO.done ?_
      refine XK.block ?_
      refine XK.while (X := Nat × Value × PHeap) [15, 17, 19, 66, 67, 68, 69, 70, 71, 72, 73, 74, 75, 76, 77, 78, 79, 80, 81, 82, 83, 84, 85, 86, 87, 88, 89, 90] (fun ⟨j, vs, ks⟩ => [(66, some (.int .i64 (j : Nat))), (15, some (vs))]) (fun ⟨j, vs, ks⟩ => [ks]) (fun ⟨j, vs, ks⟩ => j ≤ (combos ((lq.map Prod.snd).take i)).length ∧ OArr vs encI 1 3 ks (step1 ((combos ((lq.map Prod.snd).take i)).take j) (lq.getD i default).2)) (fun ⟨j, vs, ks⟩ => (combos ((lq.map Prod.snd).take i)).length - j) (0, .slice none 0 0, emp) [emp] rfl ⟨by omega, by rw [List.take_zero]; exact nI⟩ (.c rfl (.c rfl (.base 0 rfl rfl))) ?_
      rintro ⟨j, vs, ks⟩ ⟨hj_, OV1⟩ ih1
      dsimp only [List.cons_append, List.nil_append] at ih1 ⊢
      refine XK.seq ?_
      refine XK.region rfl ?_
      refine XO.q (Q.lss rfl rfl) ?_
      refine XO.done ?_
      refine XK.seq ?_
      refine XK.if rfl (fun c2 => ?_) (fun c2 => ?_)
      · have _t2 := True.intro
        have sr := rg _ (getD_mem (show j < (combos ((lq.map Prod.snd).take i)).length by omega))
        have sl := stepT_len (L := (combos ((lq.map Prod.snd).take i))) mj j
        refine XK.skip ?_
        refine XK.seq ?_
        refine XK.block ?_
        refine XK.seq ?_
        refine XK.region rfl ?_
        refine XO.ix rfl rfl (by omega) (by omega) fun i68 => ?_
        refine XO.q (Q.ldE rfl (by first | assumption | omega) rfl) ?_
        refine XO.q (Q.assign rfl) ?_
        refine XO.done ?_
        refine XK.seq ?_
        refine XK.region rfl ?_
        refine XO.q (Q.fieldAddr rfl) ?_
        refine XO.q (Q.ld rfl rfl) ?_
        refine XO.len rfl fun l72 => ?_
        refine XO.q (Q.move rfl) ?_
        refine XO.done ?_
        refine XK.block ?_
        refine XK.while (X := Nat × Value × PHeap) [15, 19, 73, 74, 75, 76, 77, 78, 79, 80, 81, 82, 83, 84, 85, 86, 87, 88, 89] (fun ⟨a, vs2, ks2⟩ => [(73, some (.int .i64 (a : Nat))), (15, some (vs2))]) (fun ⟨a, vs2, ks2⟩ => [ks2]) (fun ⟨a, vs2, ks2⟩ => a ≤ (lq.getD i default).2.draws.length ∧ OArr vs2 encI 1 3 ks2 (step1 ((combos ((lq.map Prod.snd).take i)).take j) (lq.getD i default).2 ++ repsT ((combos ((lq.map Prod.snd).take i)).getD j default) (lq.getD i default).2 a)) (fun ⟨a, vs2, ks2⟩ => (lq.getD i default).2.draws.length - a) (0, vs, ks) [ks] rfl ⟨by omega, by unfold repsT; rw [List.take_zero, List.flatMap_nil, List.append_nil]; exact OV1⟩ (.c rfl (.c rfl (.base 0 rfl rfl))) ?_
        rintro ⟨a, vs2, ks2⟩ ⟨ha_, OV2⟩ ih2
        dsimp only [List.cons_append, List.nil_append] at ih2 ⊢
        refine XK.seq ?_
        refine XK.region rfl ?_
        refine XO.q (Q.lss rfl rfl) ?_
        refine XO.done ?_
        refine XK.seq ?_
        refine XK.if rfl (fun c3 => ?_) (fun c3 => ?_)
        · have _t3 := True.intro
          have dk := mem_draws mj.ok (getD_mem (show a < (lq.getD i default).2.draws.length by omega))
          have dc := mj.cnt a (by omega)
          have rl := repsT_len mj ((combos ((lq.map Prod.snd).take i)).getD j default) a (by omega)
          refine XK.skip ?_
          refine XK.seq ?_
          refine XK.block ?_
          refine XK.seq ?_
          refine XK.region rfl ?_
          refine XO.ix rfl rfl (by omega) (by omega) fun i75 => ?_
          refine XO.q (Q.ldEA [_, _] rfl (by first | assumption | omega) rfl rfl) ?_
          refine XO.alloc fun b19 => ?_
          refine XO.st rfl rfl rfl ?_
          refine XO.done ?_
          refine XK.seq ?_
          refine XK.region rfl ?_
          refine XO.q (Q.fieldAddr rfl) ?_
          refine XO.q (Q.ld rfl rfl) ?_
          refine XO.q (Q.move rfl) ?_
          refine XO.done ?_
          refine XK.block ?_
          refine XK.while (X := Nat × Value × PHeap) [15, 79, 80, 81, 82, 83, 84, 85, 86, 87, 88] (fun ⟨z, vs3, ks3⟩ => [(79, some (.int .i64 (z : Nat))), (15, some (vs3))]) (fun ⟨z, vs3, ks3⟩ => [ks3]) (fun ⟨z, vs3, ks3⟩ => z ≤ ((lq.getD i default).2.draws.getD a default).count.toNat ∧ OArr vs3 encI 1 3 ks3 (step1 ((combos ((lq.map Prod.snd).take i)).take j) (lq.getD i default).2 ++ repsT ((combos ((lq.map Prod.snd).take i)).getD j default) (lq.getD i default).2 a ++ List.replicate z (((combos ((lq.map Prod.snd).take i)).getD j default) + ((lq.getD i default).2.draws.getD a default).power))) (fun ⟨z, vs3, ks3⟩ => ((lq.getD i default).2.draws.getD a default).count.toNat - z) (0, vs2, ks2) [ks2] rfl ⟨by omega, by rw [List.replicate_zero, List.append_nil]; exact OV2⟩ (.c rfl (.c rfl (.base 0 rfl rfl))) ?_
          rintro ⟨z, vs3, ks3⟩ ⟨hz_, OV3⟩ ih3
          dsimp only [List.cons_append, List.nil_append] at ih3 ⊢
          refine XK.seq ?_
          refine XK.region rfl ?_
          refine XO.q (Q.lss rfl rfl) ?_
          refine XO.done ?_
          refine XK.seq ?_
          refine XK.if rfl (fun c4 => ?_) (fun c4 => ?_)
          · have _t4 := True.intro
            refine XK.skip ?_
            refine XK.seq ?_
            refine XK.block ?_
            refine XK.region rfl ?_
            refine XO.q (Q.move rfl) ?_
            refine XO.q (Q.move rfl) ?_
            refine XO.q (Q.fieldAddr rfl) ?_
            refine XO.q (Q.ld rfl rfl) ?_
            refine XO.q (Q.add rfl rfl ⟨by omega, by omega⟩) ?_
            refine XO.lit [_] [_] [((combos ((lq.map Prod.snd).take i)).getD j default) + ((lq.getD i default).2.draws.getD a default).power] encI (by rfl) (by rfl) rfl (by rfl) (by exact .c 0 1 rfl rfl rfl (.n _)) (fun _ => rfl) (by rfl) rfl (by infer_instance) rfl fun v86 h86 O86 => ?_
            refine XO.append rfl rfl rfl rfl (by simp only [List.length_append, List.length_replicate, List.length_cons, List.length_nil]; omega) fun v87 h87 O87 => ?_
            refine XO.q (Q.assign rfl) ?_
            refine XO.done ?_
            refine XK.inBlock ?_
            refine XK.region rfl ?_
            refine XO.q (Q.add rfl rfl ⟨by omega, by omega⟩) ?_
            refine XO.q (Q.move rfl) ?_
            refine XO.done ?_
            exact ih3 (z + 1, v87, h87) _ _ ⟨by dsimp only; omega, by dsimp only; rw [List.replicate_succ', ← List.append_assoc]; exact O87⟩ (by first | omega | (dsimp only; omega)) (.c rfl (.c rfl (.base 24 rfl rfl))) inferInstance
          · have _t4 := True.intro
            have hz : z = ((lq.getD i default).2.draws.getD a default).count.toNat := by omega
            subst hz
            refine XK.exit rfl ?_
            refine XK.inBlock ?_
            refine XK.region rfl ?_
            refine XO.q (Q.add rfl rfl ⟨by omega, by omega⟩) ?_
            refine XO.q (Q.move rfl) ?_
            refine XO.done ?_
            exact ih2 (a + 1, vs3, ks3) _ _ ⟨by dsimp only; omega, by dsimp only; rw [repsT_succ _ (by omega), ← List.append_assoc]; exact OV3⟩ (by first | omega | (dsimp only; omega)) (.c rfl (.c rfl (.base 44 rfl rfl))) inferInstance
        · have _t3 := True.intro
          have ha : a = (lq.getD i default).2.draws.length := by omega
          subst ha
          refine XK.exit rfl ?_
          refine XK.inBlock ?_
          refine XK.region rfl ?_
          refine XO.q (Q.add rfl rfl ⟨by omega, by omega⟩) ?_
          refine XO.q (Q.move rfl) ?_
          refine XO.done ?_
          exact ih1 (j + 1, vs2, ks2) _ _ ⟨by dsimp only; omega, by dsimp only; rw [stepT_succ (by omega)]; exact OV2⟩ (by first | omega | (dsimp only; omega)) (.c rfl (.c rfl (.base 62 rfl rfl))) inferInstance
      · have _t2 := True.intro
        have hj : j = (combos ((lq.map Prod.snd).take i)).length := by omega
        subst hj
        rw [List.take_length] at OV1
        refine XK.exit rfl ?_
        refine XK.region rfl ?_
        refine XO.q (Q.move rfl) ?_
        refine XO.q (Q.assign rfl) ?_
        refine XO.done ?_
        refine XK.inBlock ?_
        refine XK.region rfl ?_
        refine XO.q (Q.add rfl rfl ⟨by omega, by omega⟩) ?_
        refine XO.q (Q.move rfl) ?_
        refine XO.done ?_
        exact ih0 (i + 1, vs, ks) _ _ ⟨by dsimp only; omega, by dsimp only; rw [combos_succ (by omega), ji]; exact OV1⟩ (by first | omega | (dsimp only; omega)) (.c rfl (.c rfl (.base 83 rfl rfl))) inferInstance
    · have _t1 := True.intro
      have hik : i = (lq.map Prod.snd).length := by omega
      subst hik
      rw [List.take_length] at OT
      refine XK.exit rfl ?_
      refine XK.seq ?_
      refine XK.region rfl ?_
      refine XO.q (Q.assign rfl) ?_
      refine XO.q (Q.assign rfl) ?_
      refine XO.done ?_
      refine XK.seq ?_
      refine XK.seq ?_
      refine XK.region rfl ?_
      refine XO.q (Q.move rfl) ?_
      refine XO.len rfl fun l94 => ?_
      refine XO.q (Q.move rfl) ?_
      refine XO.done ?_
      refine XK.block ?_
      refine XK.while (X := Nat) [20, 23, 95, 96, 97, 98, 99, 100, 101, 102, 103, 104, 105] (fun i => [(95, some (.int .i64 (i : Nat))), (20, some (.int .i64 ((overN ((combos (lq.map Prod.snd)).take i) (n1 : Nat) : Nat) : Int)))]) (fun i => []) (fun i => i ≤ (combos (lq.map Prod.snd)).length) (fun i => (combos (lq.map Prod.snd)).length - i) (0) [] rfl (by omega) (.c rfl (.c rfl (.base 0 rfl rfl))) ?_
      rintro i hi ih4
      dsimp only [List.cons_append, List.nil_append] at ih4 ⊢
      refine XK.seq ?_
      refine XK.region rfl ?_
      refine XO.q (Q.lss rfl rfl) ?_
      refine XO.done ?_
      refine XK.seq ?_
      refine XK.if rfl (fun c5 => ?_) (fun c5 => ?_)
      · have _t5 := True.intro
        have ol := over_len ((combos (lq.map Prod.snd)).take i) (n1 : Nat)
        have tf := take_few (L := (combos (lq.map Prod.snd))) (i := i)
        have os := over_snoc (L := (combos (lq.map Prod.snd))) (i := i) (x := (n1 : Nat)) (by omega)
        refine XK.skip ?_
        refine XK.seq ?_
        refine XK.block ?_
        refine XK.seq ?_
        refine XK.region rfl ?_
        refine XO.ix rfl rfl (by omega) (by omega) fun i97 => ?_
        refine XO.q (Q.ldE rfl (by first | assumption | omega) rfl) ?_
        refine XO.q (Q.assign rfl) ?_
        refine XO.done ?_
        refine XK.seq ?_
        refine XK.region rfl ?_
        refine XO.q (Q.move rfl) ?_
        refine XO.q (Q.move rfl) ?_
        refine XO.q (Q.conv rfl) ?_
        rw [wrap64_of ⟨by omega, by omega⟩]
        refine XO.q (Q.gtr rfl rfl) ?_
        refine XO.done ?_
        refine XK.if rfl (fun c6 => ?_) (fun c6 => ?_)
        · have _t6 := True.intro
          rw [if_pos c6] at os
          refine XK.region rfl ?_
          refine XO.q (Q.move rfl) ?_
          refine XO.q (Q.add rfl rfl ⟨by omega, by omega⟩) ?_
          refine XO.q (Q.assign rfl) ?_
          refine XO.done ?_
          refine XK.inBlock ?_
          refine XK.region rfl ?_
          refine XO.q (Q.add rfl rfl ⟨by omega, by omega⟩) ?_
          refine XO.q (Q.move rfl) ?_
          refine XO.done ?_
          rw [show ((overN ((combos (lq.map Prod.snd)).take i) (n1 : Nat) : Nat) : Int) + 1 = ((overN ((combos (lq.map Prod.snd)).take (i + 1)) (n1 : Nat) : Nat) : Int) by omega]
          exact ih4 (i + 1) _ _ (by omega) (by first | omega | (dsimp only; omega)) (.c rfl (.c rfl (.base 28 rfl rfl))) inferInstance
        · have _t6 := True.intro
          rw [if_neg c6] at os
          refine XK.skip ?_
          refine XK.inBlock ?_
          refine XK.region rfl ?_
          refine XO.q (Q.add rfl rfl ⟨by omega, by omega⟩) ?_
          refine XO.q (Q.move rfl) ?_
          refine XO.done ?_
          rw [show ((overN ((combos (lq.map Prod.snd)).take i) (n1 : Nat) : Nat) : Int) = ((overN ((combos (lq.map Prod.snd)).take (i + 1)) (n1 : Nat) : Nat) : Int) by omega]
          exact ih4 (i + 1) _ _ (by omega) (by first | omega | (dsimp only; omega)) (.c rfl (.c rfl (.base 25 rfl rfl))) inferInstance
      · have _t5 := True.intro
        have hin : i = (combos (lq.map Prod.snd)).length := by omega
        subst hin
        rw [List.take_length]
        have rr := rat_rng (over_bound okq (n1 : Nat)) (combos_all okq).2
        have ob := over_bound okq (n1 : Nat)
        have sf := sums_few (combos (lq.map Prod.snd))
        refine XK.exit rfl ?_
        refine XK.seq ?_
        refine XK.seq ?_
        refine XK.region rfl ?_
        refine XO.q (Q.move rfl) ?_
        refine XO.len rfl fun l107 => ?_
        refine XO.q (Q.move rfl) ?_
        refine XO.done ?_
        refine XK.block ?_
        refine XK.while (X := Nat) [4, 21, 24, 25, 26, 28, 108, 109, 110, 111, 112, 113, 114, 115, 116, 117, 118, 119, 120, 121, 122, 123, 124, 125, 126, 127, 128, 129, 130, 131, 132, 133, 134, 135, 136, 137, 138, 139, 140, 141, 142, 143, 144, 145, 146, 147, 148, 149, 150, 151, 152, 153] (fun i => [(108, some (.int .i64 (i : Nat))), (21, some (.int .i64 (cntD (sumsL (combos (lq.map Prod.snd))) i)))]) (fun i => []) (fun i => i ≤ (sumsL (combos (lq.map Prod.snd))).length) (fun i => (sumsL (combos (lq.map Prod.snd))).length - i) (0) [] rfl (by omega) (.c rfl (.c rfl (.base 0 rfl rfl))) ?_
        rintro i hi ih5
        dsimp only [List.cons_append, List.nil_append] at ih5 ⊢
        refine XK.seq ?_
        refine XK.region rfl ?_
        refine XO.q (Q.lss rfl rfl) ?_
        refine XO.done ?_
        refine XK.seq ?_
        refine XK.if rfl (fun c7 => ?_) (fun c7 => ?_)
        · have _t7 := True.intro
          have cp := mulP (a := (i : Int)) (b := ((combos (lq.map Prod.snd)).length : Int)) (m := 1728) (n := 1728) (by omega) (by omega)
          have cr := cntD_rng (combos (lq.map Prod.snd)) i (by omega)
          have cs := cntD_succ (D := (sumsL (combos (lq.map Prod.snd)))) (i := i) (by omega)
          obtain ⟨sa1, sa2⟩ := sums_at (L := (combos (lq.map Prod.snd))) (i := i) (by omega)
          have cc : (combos (lq.map Prod.snd)).count ((sumsL (combos (lq.map Prod.snd))).getD i default).power ≤ (combos (lq.map Prod.snd)).length := List.count_le_length
          have e1 : ((sumsL (combos (lq.map Prod.snd))).getD i default).count = ((combos (lq.map Prod.snd)).count ((sumsL (combos (lq.map Prod.snd))).getD i default).power : Nat) := by rw [sa1]
          have e2 : 0 < (combos (lq.map Prod.snd)).count ((sumsL (combos (lq.map Prod.snd))).getD i default).power := by rw [sa1]; exact List.count_pos_iff.2 sa2
          refine XK.skip ?_
          refine XK.seq ?_
          refine XK.block ?_
          refine XK.seq ?_
          refine XK.region rfl ?_
          refine XO.q (Q.move rfl) ?_
          refine XO.ix rfl rfl (by omega) (by omega) fun i111 => ?_
          refine XO.q (Q.ldEA [_, _] rfl (by first | assumption | omega) rfl rfl) ?_
          refine XO.alloc fun b25 => ?_
          refine XO.q (Q.assign rfl) ?_
          refine XO.st rfl rfl rfl ?_
          refine XO.done ?_
          refine XK.seq ?_
          refine XK.region rfl ?_
          refine XO.q (Q.assign rfl) ?_
          refine XO.done ?_
          refine XK.seq ?_
          refine XK.seq ?_
          refine XK.region rfl ?_
          refine XO.q (Q.move rfl) ?_
          refine XO.len rfl fun l114 => ?_
          refine XO.q (Q.move rfl) ?_
          refine XO.done ?_
          refine XK.block ?_
          refine XK.while (X := Nat) [26, 28, 115, 116, 117, 118, 119, 120, 121, 122, 123, 124, 125] (fun j => [(115, some (.int .i64 (j : Nat))), (26, some (.int .i64 ((((combos (lq.map Prod.snd)).take j).count ((sumsL (combos (lq.map Prod.snd))).getD i default).power : Nat) : Int)))]) (fun j => []) (fun j => j ≤ (combos (lq.map Prod.snd)).length) (fun j => (combos (lq.map Prod.snd)).length - j) (0) [] rfl (by omega) (.c rfl (.c rfl (.base 0 rfl rfl))) ?_
          rintro j hj_ ih6
          dsimp only [List.cons_append, List.nil_append] at ih6 ⊢
          refine XK.seq ?_
          refine XK.region rfl ?_
          refine XO.q (Q.lss rfl rfl) ?_
          refine XO.done ?_
          refine XK.seq ?_
          refine XK.if rfl (fun c8 => ?_) (fun c8 => ?_)
          · have _t8 := True.intro
            have ks := count_snoc (L := (combos (lq.map Prod.snd))) (i := j) (x := ((sumsL (combos (lq.map Prod.snd))).getD i default).power) (by omega)
            have kl_ : ((combos (lq.map Prod.snd)).take j).count ((sumsL (combos (lq.map Prod.snd))).getD i default).power ≤ ((combos (lq.map Prod.snd)).take j).length := List.count_le_length
            have tf := take_few (L := (combos (lq.map Prod.snd))) (i := j)
            refine XK.skip ?_
            refine XK.seq ?_
            refine XK.block ?_
            refine XK.seq ?_
            refine XK.region rfl ?_
            refine XO.ix rfl rfl (by omega) (by omega) fun i117 => ?_
            refine XO.q (Q.ldE rfl (by first | assumption | omega) rfl) ?_
            refine XO.q (Q.assign rfl) ?_
            refine XO.done ?_
            refine XK.seq ?_
            refine XK.region rfl ?_
            refine XO.q (Q.move rfl) ?_
            refine XO.q (Q.fieldAddr rfl) ?_
            refine XO.q (Q.ld rfl rfl) ?_
            refine XO.q (Q.eql rfl rfl) ?_
            refine XO.done ?_
            refine XK.if rfl (fun c9 => ?_) (fun c9 => ?_)
            · have _t9 := True.intro
              rw [if_pos c9] at ks
              refine XK.region rfl ?_
              refine XO.q (Q.move rfl) ?_
              refine XO.q (Q.add rfl rfl ⟨by omega, by omega⟩) ?_
              refine XO.q (Q.assign rfl) ?_
              refine XO.done ?_
              refine XK.inBlock ?_
              refine XK.region rfl ?_
              refine XO.q (Q.add rfl rfl ⟨by omega, by omega⟩) ?_
              refine XO.q (Q.move rfl) ?_
              refine XO.done ?_
              rw [show ((((combos (lq.map Prod.snd)).take j).count ((sumsL (combos (lq.map Prod.snd))).getD i default).power : Nat) : Int) + 1 = ((((combos (lq.map Prod.snd)).take (j + 1)).count ((sumsL (combos (lq.map Prod.snd))).getD i default).power : Nat) : Int) by omega]
              exact ih6 (j + 1) _ _ (by omega) (by first | omega | (dsimp only; omega)) (.c rfl (.c rfl (.base 28 rfl rfl))) inferInstance
            · have _t9 := True.intro
              rw [if_neg c9] at ks
              refine XK.skip ?_
              refine XK.inBlock ?_
              refine XK.region rfl ?_
              refine XO.q (Q.add rfl rfl ⟨by omega, by omega⟩) ?_
              refine XO.q (Q.move rfl) ?_
              refine XO.done ?_
              rw [show ((((combos (lq.map Prod.snd)).take j).count ((sumsL (combos (lq.map Prod.snd))).getD i default).power : Nat) : Int) = ((((combos (lq.map Prod.snd)).take (j + 1)).count ((sumsL (combos (lq.map Prod.snd))).getD i default).power : Nat) : Int) by omega]
              exact ih6 (j + 1) _ _ (by omega) (by first | omega | (dsimp only; omega)) (.c rfl (.c rfl (.base 25 rfl rfl))) inferInstance
          · have _t8 := True.intro
            have hjn : j = (combos (lq.map Prod.snd)).length := by omega
            subst hjn
            rw [List.take_length]
            refine XK.exit rfl ?_
            refine XK.seq ?_
            refine XK.region rfl ?_
            refine XO.q (Q.move rfl) ?_
            refine XO.q (Q.fieldAddr rfl) ?_
            refine XO.q (Q.ld rfl rfl) ?_
            refine XO.q (Q.add rfl rfl ⟨by omega, by omega⟩) ?_
            refine XO.q (Q.assign rfl) ?_
            refine XO.done ?_
            refine XK.seq ?_
            refine XK.drawn [0, 1, 2, 3, 4, 5, 6, 7, 8, 9, 10, 11, 12, 13, 14, 15, 16, 17, 18, 19, 20, 21, 22] [b25] [ko] (.q 0 (.q 1 (.q 2 (.q 3 (.q 4 (.q 5 (.q 6 (.q 7 (.q 8 (.q 9 (.q 10 (.q 11 (.q 12 (.q 13 (.q 14 (.q 15 (.q 16 (.q 17 (.q 18 (.q 19 (.q 20 (.q 21 (.q 22 .done))))))))))))))))))))))) Try.mixed rfl (by kernel_rfl) ?_
            refine XT.q rfl rfl (Q.move rfl) ?_
            refine XT.q rfl rfl (Q.fieldAddr rfl) ?_
            refine XT.q rfl rfl (Q.ld rfl rfl) ?_
            refine XT.q rfl rfl (Q.neq rfl rfl) ?_
            rw [decide_eq_false (show ¬ ((((combos (lq.map Prod.snd))).count ((sumsL (combos (lq.map Prod.snd))).getD i default).power : Nat) : Int) ≠ ((sumsL (combos (lq.map Prod.snd))).getD i default).count by omega)]
            refine XT.q rfl rfl (Q.move rfl) ?_
            refine XT.q rfl rfl (Quiet.guardF rfl rfl fun g135 p135 => Q.move rfl) ?_
            refine XT.q rfl rfl (Quiet.guardF rfl rfl fun g136 p136 => Q.eql (lzv rfl rfl) rfl) ?_
            rw [decide_eq_false (show ¬ ((((combos (lq.map Prod.snd))).count ((sumsL (combos (lq.map Prod.snd))).getD i default).power : Nat) : Int) = 0 by omega)]
            refine XT.q rfl rfl (Q.or rfl (fun hp => lzv hp rfl)) ?_
            refine XT.q rfl rfl (Q.move rfl) ?_
            refine XT.q rfl rfl (Quiet.guardF rfl rfl fun g139 p139 => Q.move rfl) ?_
            refine XT.q rfl rfl (Quiet.guardF rfl rfl fun g140 p140 => Q.gtr (lzv rfl rfl) rfl) ?_
            refine XT.q rfl rfl (Quiet.guardF rfl rfl fun g141 p141 => Q.move (lzv rfl rfl)) ?_
            refine XT.q rfl rfl (Quiet.guard2 rfl rfl fun g142a g142b => have p142a := bpF g142a; have p142b := bpT g142b; Q.fieldAddr rfl) ?_
            refine XT.q rfl rfl (Quiet.guard2 rfl rfl fun g143a g143b => have p143a := bpF g143a; have p143b := bpT g143b; Q.ld (lzv g143b (lzv rfl rfl)) rfl) ?_
            refine XT.q rfl rfl (Quiet.guard2 rfl rfl fun g144a g144b => have p144a := bpF g144a; have p144b := bpT g144b; Q.move rfl) ?_
            refine XT.q rfl rfl (Quiet.guard2 rfl rfl fun g145a g145b => have p145a := bpF g145a; have p145b := bpT g145b; Q.move rfl) ?_
            refine XT.q rfl rfl (Quiet.guard2 rfl rfl fun g146a g146b => have p146a := bpF g146a; have p146b := bpT g146b; Q.sub (lzv g146b (lzv rfl rfl)) rfl ⟨by omega, by omega⟩) ?_
            refine XT.q rfl rfl (Quiet.guard2 rfl rfl fun g147a g147b => have p147a := bpF g147a; have p147b := bpT g147b; Q.ix (lzv g147b (lzv rfl rfl)) (lzv g147b (lzv rfl rfl)) (by omega) (by omega)) ?_
            refine XT.q rfl rfl (Quiet.guard2 rfl rfl fun g148a g148b => have p148a := bpF g148a; have p148b := bpT g148b; Q.fieldQ (lzv g148b (lzv rfl rfl)) (by first | assumption | omega)) ?_
            refine XT.q rfl rfl (Quiet.guard2 rfl rfl fun g149a g149b => have p149a := bpF g149a; have p149b := bpT g149b; Q.ldE (lzv g149b (lzv rfl rfl)) (by first | assumption | omega) rfl) ?_
            refine XT.q rfl rfl (Quiet.guard2 rfl rfl fun g150a g150b => have p150a := bpF g150a; have p150b := bpT g150b; Q.leq (lzv g150b (lzv rfl rfl)) (lzv g150b (lzv rfl rfl))) ?_
            refine XT.q rfl rfl (Quiet.guardF rfl rfl fun g151 p151 => Q.and (lzv rfl rfl) (fun hp => (lzv hp (lzv rfl rfl)))) ?_
            refine XT.q rfl rfl (Q.or rfl (fun hp => lzv hp rfl)) ?_
            refine XT.done ?_
            refine XK.if rfl (fun c10 => ?_) (fun c10 => ?_)
            · have _t10 := True.intro
              exfalso
              rcases c10 with (h | h) | ⟨h1, h2⟩
              · exact h
              · exact h
              · have := sums_less (L := (combos (lq.map Prod.snd))) (i := i) (by omega) (by omega)
                rw [show ((i : Int) - 1).toNat = i - 1 by omega] at h2
                dsimp only at h2
                omega
            · have _t10 := True.intro
              refine XK.skip ?_
              refine XK.inBlock ?_
              refine XK.region rfl ?_
              refine XO.q (Q.add rfl rfl ⟨by omega, by omega⟩) ?_
              refine XO.q (Q.move rfl) ?_
              refine XO.done ?_
              rw [← cs]
              exact ih5 (i + 1) _ _ (by omega) (by first | omega | (dsimp only; omega)) (.c rfl (.c rfl (.base 110 rfl rfl))) inferInstance
        · have _t7 := True.intro
          have hid : i = (sumsL (combos (lq.map Prod.snd))).length := by omega
          subst hid
          have p1 := mulP (a := (overG (lq.map Prod.snd) (n1 : Nat) (prodJ (lq.map Prod.snd) (lq.map Prod.snd).length)).n) (b := (prodJ (lq.map Prod.snd) (lq.map Prod.snd).length)) (m := 1728) (n := 1728) (by unfold overG; omega) (by omega)
          have p2 := mulP (a := ((overN (combos (lq.map Prod.snd)) (n1 : Nat) : Nat) : Int)) (b := (overG (lq.map Prod.snd) (n1 : Nat) (prodJ (lq.map Prod.snd) (lq.map Prod.snd).length)).d) (m := 1728) (n := 1728) (by omega) (by unfold overG; omega)
          refine XK.exit rfl ?_
          refine XK.seq ?_
          refine XK.region rfl ?_
          refine XO.q (Q.move rfl) ?_
          refine XO.q (Q.move rfl) ?_
          refine XO.len rfl fun l156 => ?_
          refine XO.q (Q.eql rfl rfl) ?_
          rw [decide_eq_true (show (prodJ (lq.map Prod.snd) (lq.map Prod.snd).length) = (((combos (lq.map Prod.snd))).length : Int) by omega)]
          refine XO.q (Q.move rfl) ?_
          refine XO.q (Quiet.guardT rfl rfl fun g159 p159 => Q.move rfl) ?_
          refine XO.q (Quiet.guardT rfl rfl fun g160 p160 => Q.move rfl) ?_
          refine XO.q (Quiet.guardT rfl rfl fun g161 p161 => Q.eql (lzv rfl rfl) (lzv rfl rfl)) ?_
          rw [decide_eq_true (show cntD (sumsL (combos (lq.map Prod.snd))) (sumsL (combos (lq.map Prod.snd))).length = (prodJ (lq.map Prod.snd) (lq.map Prod.snd).length) by rw [cntD_all]; omega)]
          refine XO.q (Q.and rfl (fun hp => lzv hp rfl)) ?_
          refine XO.q (Q.move rfl) ?_
          refine XO.q (Quiet.guardT rfl rfl fun g164 p164 => Q.fieldAddr rfl) ?_
          refine XO.q (Quiet.guardT rfl rfl fun g165 p165 => Q.ld (lzv rfl rfl) rfl) ?_
          refine XO.q (Quiet.guardT rfl rfl fun g166 p166 => Q.move rfl) ?_
          refine XO.q (Quiet.guardT rfl rfl fun g167 p167 => Q.mul (lzv rfl rfl) (lzv rfl rfl) ⟨by omega, by omega⟩) ?_
          refine XO.q (Quiet.guardT rfl rfl fun g168 p168 => Q.move rfl) ?_
          refine XO.q (Quiet.guardT rfl rfl fun g169 p169 => Q.fieldAddr rfl) ?_
          refine XO.q (Quiet.guardT rfl rfl fun g170 p170 => Q.ld (lzv rfl rfl) rfl) ?_
          refine XO.q (Quiet.guardT rfl rfl fun g171 p171 => Q.mul (lzv rfl rfl) (lzv rfl rfl) ⟨by omega, by omega⟩) ?_
          refine XO.q (Quiet.guardT rfl rfl fun g172 p172 => Q.eql (lzv rfl rfl) (lzv rfl rfl)) ?_
          rw [decide_eq_true (show (overG (lq.map Prod.snd) (n1 : Nat) (prodJ (lq.map Prod.snd) (lq.map Prod.snd).length)).n * (prodJ (lq.map Prod.snd) (lq.map Prod.snd).length) = ((overN (combos (lq.map Prod.snd)) (n1 : Nat) : Nat) : Int) * (overG (lq.map Prod.snd) (n1 : Nat) (prodJ (lq.map Prod.snd) (lq.map Prod.snd).length)).d from rat_cross (combos_all okq).2)]
          refine XO.q (Q.and rfl (fun hp => lzv hp rfl)) ?_
          refine XO.q (Q.move rfl) ?_
          refine XO.q (Quiet.guardT rfl rfl fun g175 p175 => Q.fieldAddr rfl) ?_
          refine XO.q (Quiet.guardT rfl rfl fun g176 p176 => Q.ld (lzv rfl rfl) rfl) ?_
          refine XO.q (Quiet.guardT rfl rfl fun g177 p177 => Q.geq (lzv rfl rfl) rfl) ?_
          rw [decide_eq_true (show (overG (lq.map Prod.snd) (n1 : Nat) (prodJ (lq.map Prod.snd) (lq.map Prod.snd).length)).d ≥ 1 from rr.2.1)]
          refine XO.q (Q.and rfl (fun hp => lzv hp rfl)) ?_
          refine XO.q (Q.move rfl) ?_
          refine XO.callS rfl rfl rfl Try.call11 rfl (.n) rfl (awake09) fun v180 s180 R180 => ?_
          obtain ⟨rfl, rfl⟩ := R180
          dsimp only [List.cons_append, List.nil_append]
          refine XO.q (Q.and rfl (fun _ => rfl)) ?_
          refine XO.q (Q.assign rfl) ?_
          refine XO.done ?_
          refine XK.rt [] Try.func3 Try.results3 (.t rfl .n) ?_
          exact ⟨rfl, rfl⟩
end Go.X
