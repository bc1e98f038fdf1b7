/- A part of the proof: a small program logic, plain laws and contracts of functions, each proved by a walk through its operations. No condition but those that stand in each theorem. -/
import Derived.Test.YtocdijoiaongbaaGreatA4
set_option linter.unusedSimpArgs false
set_option linter.unusedVariables false
set_option maxRecDepth 20000
namespace Go.X
open Go.Proofs
theorem sons_spec (l : List (Value × PJob)) (vl : Value) (hl K : PHeap) [jl : Arr vl encPJ 6 hl l] (aL : JobsK l K) (rs : List PRack) (vr : Value) (hr : PHeap) [jr : Arr vr encRack 5 hr rs] (m : PRat) (w : List Int) (vw : Value) (hw : PHeap) [jw : Arr vw encI 1 hw w] (ok : TaskOk (⟨(l.map Prod.snd), rs, m⟩ : PTask)) (lok : ListOk (l.map Prod.snd)) (hwl : w.length < l.length) (wok : WOk (⟨(l.map Prod.snd), rs, m⟩ : PTask) w) (bt bm : Nat) : Spec Tryz.prog 75 #[ptr bt 0, vw] [] [blk bt [vl, vr, .int .i64 m.n, .int .i64 m.d, .map (some bm)] 135, hl, K, hr, hw]
  (fun v hs => ∃ bx by_, hs = [blk bx [ptr bt 0] 132, blk by_ [vw] 28] ∧ ItG Tryz.prog v (psons (⟨(l.map Prod.snd), rs, m⟩ : PTask) w).length (SonY (⟨(l.map Prod.snd), rs, m⟩ : PTask) w) (KnownS (⟨(l.map Prod.snd), rs, m⟩ : PTask) bm) (blk bx [ptr bt 0] 132 :: blk by_ [vw] 28 :: blk bt [vl, vr, .int .i64 m.n, .int .i64 m.d, .map (some bm)] 135 :: hl :: K :: hr :: [hw])) := by
 refine Spec.intro (fn := Tryz.f75) (N := 6) Tryz.func75 rfl Tryz.ntmps75 rfl fun B => ?_
 refine XK.seq (XK.region rfl ?_)
 refine XO.box rfl fun b2 => ?_
 refine XO.box rfl fun b3 => ?_
 refine XO.q (Q.assign rfl) (XO.done (XK.seq (XK.region rfl ?_)))
 refine XO.q (Q.func (fun _ he => rfl) (fun _ he => evs_rel he rfl)) ?_
 refine XO.q (Q.assign rfl) (XO.done ?_)
 refine XK.rt [blk b2 [ptr bt 0] 132, blk b3 [vw] 28] Tryz.func75 Tryz.results75 (.t rfl .n) ?_
 refine ⟨b2, b3, rfl, fun f Hr Qc Xc round q s hQ hSt => ?_⟩
 obtain ⟨es, rfl, kn⟩ := hSt
 exact VSpec.fn (fst := []) (cap := [ptr b2 0, ptr b3 0]) Tryz.call106 rfl (sons1 l vl hl K aL rs vr hr m w vw hw ok lok hwl wok b2 b3 bt bm f Hr Qc Xc round q hQ es kn)
set_option maxHeartbeats 4000000 in
theorem look_spec (l : List (Value × PJob)) (vl : Value) (hl K : PHeap) [jl : Arr vl encPJ 6 hl l] (aL : JobsK l K) (rs : List PRack) (vr : Value) (hr : PHeap) [jr : Arr vr encRack 5 hr rs] (m : PRat) (ok : TaskOk (⟨(l.map Prod.snd), rs, m⟩ : PTask)) (lok : ListOk (l.map Prod.snd)) (b1 b2 b3 b4 bt bm : Nat) (vp : Value) [op : One vp] :
  ∀ (m_ : Nat) (w : List Int) (vw : Value) (gw : PHeap) (vW : Value) (gW : PHeap) (bw : List Int) (s : Int) (sm : PHeap), OArr vw encI 1 3 gw w → OArr vW encI 1 3 gW bw → KnownS (⟨(l.map Prod.snd), rs, m⟩ : PTask) bm sm → w.length ≤ l.length → l.length - w.length ≤ m_ → WOk (⟨(l.map Prod.snd), rs, m⟩ : PTask) w → (-1 ≤ s ∧ s ≤ 8000000) →
  Spec Tryz.prog 72 #[vw, ptr b1 0, ptr b2 0, ptr b3 0, ptr b4 0] [gw, gW, blk b2 [vW, .int .i64 s, vp] 31, sm] [blk b1 [vl, vr, .int .i64 m.n, .int .i64 m.d] 27, blk b3 [ptr bt 0] 132, blk b4 [(.func (.func 72) #[] #[ptr b1 0, ptr b2 0, ptr b3 0, ptr b4 0])] 136, blk bt [vl, vr, .int .i64 m.n, .int .i64 m.d, .map (some bm)] 135, hl, K, hr]
   (fun _ hs => ∃ vW2 gW2 sm2, hs = [gW2, blk b2 [vW2, .int .i64 (lookG (⟨(l.map Prod.snd), rs, m⟩ : PTask) w (bw, s)).2, vp] 31, sm2] ∧ KnownS (⟨(l.map Prod.snd), rs, m⟩ : PTask) bm sm2 ∧ OArr vW2 encI 1 3 gW2 (lookG (⟨(l.map Prod.snd), rs, m⟩ : PTask) w (bw, s)).1 ∧ -1 ≤ (lookG (⟨(l.map Prod.snd), rs, m⟩ : PTask) w (bw, s)).2 ∧ (lookG (⟨(l.map Prod.snd), rs, m⟩ : PTask) w (bw, s)).2 ≤ 8000000) := by
 intro m_
 have ll := jl.le
 have lm : (l.map Prod.snd).length = l.length := List.length_map ..
 have few := ok.few
 have few2 : l.length ≤ 8 := by rw [← lm]; exact few
 have rk5 := ok.rk5
 induction m_ with
 | zero =>
  intro w vw gw vW gW bw s sm ow oW ks hwl hm wok hs
  have le := lookF_eq (t := (⟨(l.map Prod.snd), rs, m⟩ : PTask)) (w := w) (by dsimp only; omega) (bw, s)
  have wr := worth_rng ok (w := w) w.length (by dsimp only; omega)
  refine Spec.intro (fn := Tryz.f72) (N := 32) Tryz.func72 rfl Tryz.ntmps72 rfl fun B => ?_
  refine XK.seq (XK.seq ?_)
  refine XK.drawn [0, 1, 3, 4, 5] [b1, b2] [] (.q 0 (.q 1 (.q 3 (.q 4 (.br 2 true (.q 5 .done) .stop))))) Tryz.mixed rfl (by kernel_rfl) ?_
  refine XT.q rfl rfl (Q.ldA [_, _, _, _] rfl rfl rfl) ?_
  refine XT.q rfl rfl (Q.move rfl) ?_
  refine XT.q rfl rfl (Q.fieldAddr rfl) ?_
  refine XT.q rfl rfl (Q.ld rfl rfl) ?_
  refine XT.call rfl rfl Tryz.call73 rfl rfl rfl (hope_spec l vl hl K aL rs vr hr m w vw gw ok hwl) (fun v9 s9 R9 => ?_) XT.stop
  obtain ⟨rfl, rfl⟩ := R9
  dsimp only [lcA, lnA]
  refine ⟨inferInstance, ?_⟩
  refine XT.q rfl rfl (Q.leq rfl rfl) ?_
  refine XT.done ?_
  refine XK.if rfl (fun c0 => ?_) (fun c0 => ?_)
  ·skip
   refine XK.rt [gW, blk b2 [vW, .int .i64 s, vp] 31, sm] Tryz.func72 Tryz.results72 (.n) ?_
   rw [if_pos (by dsimp only; exact c0)] at le
   rw [le]
   exact ⟨vW, gW, sm, rfl, ks, oW, hs.1, hs.2⟩
  ·skip
   refine XK.skip (XK.seq (XK.seq (XK.region rfl (XO.q (Q.move rfl) ?_))))
   refine XO.len rfl fun l14 => ?_
   refine XO.q (Q.fieldAddr rfl) ?_
   refine XO.q (Q.ld rfl rfl) ?_
   refine XO.len rfl fun l17 => ?_
   refine XO.q (Q.eql rfl rfl) ?_
   refine XO.done ?_
   refine XK.if rfl (fun c1 => ?_) (fun c1 => ?_)
   ·skip
    refine XK.seq (XK.region rfl (XO.q (Q.move rfl) ?_))
    refine XO.q (Q.ldA [_, _, _, _] rfl rfl rfl) ?_
    refine XO.q (Q.move rfl) ?_
    refine XO.call Tryz.call74 rfl rfl rfl (worth_spec l vl hl K aL rs vr hr m w vw gw ok hwl) fun v22 s22 R22 => ?_
    obtain ⟨rfl, rfl⟩ := R22
    dsimp only [lcA, lnA]
    refine XO.q (Q.fieldAddr rfl) ?_
    refine XO.st rfl rfl rfl ?_
    refine XO.q (Q.fieldAddr rfl) ?_
    refine XO.st rfl rfl rfl ?_
    refine XO.done ?_
    refine XK.rt [gw, blk b2 [vw, .int .i64 (worthG (⟨(l.map Prod.snd), rs, m⟩ : PTask) w), vp] 31, sm] Tryz.func72 Tryz.results72 (.n) ?_
    rw [if_neg c0, if_pos (show w.length = (l.map Prod.snd).length by omega)] at le
    rw [le]
    exact ⟨vw, gw, sm, rfl, ks, ow, by have : worthG (⟨(l.map Prod.snd), rs, m⟩ : PTask) w = worthTo (⟨(l.map Prod.snd), rs, m⟩ : PTask) w w.length := rfl; dsimp only; omega, by have : worthG (⟨(l.map Prod.snd), rs, m⟩ : PTask) w = worthTo (⟨(l.map Prod.snd), rs, m⟩ : PTask) w w.length := rfl; dsimp only; omega⟩
   ·skip
    exact absurd (show (w.length : Int) = l.length by omega) c1
 | succ m_ ih =>
  intro w vw gw vW gW bw s sm ow oW ks hwl hm wok hs
  have le := lookF_eq (t := (⟨(l.map Prod.snd), rs, m⟩ : PTask)) (w := w) (by dsimp only; omega) (bw, s)
  have wr := worth_rng ok (w := w) w.length (by dsimp only; omega)
  refine Spec.intro (fn := Tryz.f72) (N := 32) Tryz.func72 rfl Tryz.ntmps72 rfl fun B => ?_
  refine XK.seq (XK.seq ?_)
  refine XK.drawn [0, 1, 3, 4, 5] [b1, b2] [] (.q 0 (.q 1 (.q 3 (.q 4 (.br 2 true (.q 5 .done) .stop))))) Tryz.mixed rfl (by kernel_rfl) ?_
  refine XT.q rfl rfl (Q.ldA [_, _, _, _] rfl rfl rfl) ?_
  refine XT.q rfl rfl (Q.move rfl) ?_
  refine XT.q rfl rfl (Q.fieldAddr rfl) ?_
  refine XT.q rfl rfl (Q.ld rfl rfl) ?_
  refine XT.call rfl rfl Tryz.call73 rfl rfl rfl (hope_spec l vl hl K aL rs vr hr m w vw gw ok hwl) (fun v9 s9 R9 => ?_) XT.stop
  obtain ⟨rfl, rfl⟩ := R9
  dsimp only [lcA, lnA]
  refine ⟨inferInstance, ?_⟩
  refine XT.q rfl rfl (Q.leq rfl rfl) ?_
  refine XT.done ?_
  refine XK.if rfl (fun c0 => ?_) (fun c0 => ?_)
  ·skip
   refine XK.rt [gW, blk b2 [vW, .int .i64 s, vp] 31, sm] Tryz.func72 Tryz.results72 (.n) ?_
   rw [if_pos (by dsimp only; exact c0)] at le
   rw [le]
   exact ⟨vW, gW, sm, rfl, ks, oW, hs.1, hs.2⟩
  ·skip
   refine XK.skip (XK.seq (XK.seq (XK.region rfl (XO.q (Q.move rfl) ?_))))
   refine XO.len rfl fun l14 => ?_
   refine XO.q (Q.fieldAddr rfl) ?_
   refine XO.q (Q.ld rfl rfl) ?_
   refine XO.len rfl fun l17 => ?_
   refine XO.q (Q.eql rfl rfl) ?_
   refine XO.done ?_
   refine XK.if rfl (fun c1 => ?_) (fun c1 => ?_)
   ·skip
    refine XK.seq (XK.region rfl (XO.q (Q.move rfl) ?_))
    refine XO.q (Q.ldA [_, _, _, _] rfl rfl rfl) ?_
    refine XO.q (Q.move rfl) ?_
    refine XO.call Tryz.call74 rfl rfl rfl (worth_spec l vl hl K aL rs vr hr m w vw gw ok hwl) fun v22 s22 R22 => ?_
    obtain ⟨rfl, rfl⟩ := R22
    dsimp only [lcA, lnA]
    refine XO.q (Q.fieldAddr rfl) ?_
    refine XO.st rfl rfl rfl ?_
    refine XO.q (Q.fieldAddr rfl) ?_
    refine XO.st rfl rfl rfl ?_
    refine XO.done ?_
    refine XK.rt [gw, blk b2 [vw, .int .i64 (worthG (⟨(l.map Prod.snd), rs, m⟩ : PTask) w), vp] 31, sm] Tryz.func72 Tryz.results72 (.n) ?_
    rw [if_neg c0, if_pos (show w.length = (l.map Prod.snd).length by omega)] at le
    rw [le]
    exact ⟨vw, gw, sm, rfl, ks, ow, by have : worthG (⟨(l.map Prod.snd), rs, m⟩ : PTask) w = worthTo (⟨(l.map Prod.snd), rs, m⟩ : PTask) w w.length := rfl; dsimp only; omega, by have : worthG (⟨(l.map Prod.snd), rs, m⟩ : PTask) w = worthTo (⟨(l.map Prod.snd), rs, m⟩ : PTask) w w.length := rfl; dsimp only; omega⟩
   ·skip
    refine XK.skip (XK.seq (XK.region rfl ?_))
    refine XO.q (Q.ld rfl rfl) ?_
    refine XO.q (Q.move rfl) ?_
    refine XO.call Tryz.call75 rfl rfl rfl (sons_spec l vl hl K aL rs vr hr m w vw gw ok lok (by omega) wok bt bm) fun v27 s27 R27 => ?_
    obtain ⟨bx, by_, rfl, hit⟩ := R27
    dsimp only [lcA, lnA]
    refine XO.done (XK.block ?_)
    refine XK.rangeG (X := Value × PHeap × List Int × Int) (ps := [28]) (fun ⟨vW1, gW1, bw1, s1⟩ => [gW1, blk b2 [vW1, .int .i64 s1, vp] 31]) (fun i ⟨vW1, gW1, bw1, s1⟩ => (bw1, s1) = (foldTo (fun s son => lookG (⟨(l.map Prod.snd), rs, m⟩ : PTask) son s) (psons (⟨(l.map Prod.snd), rs, m⟩ : PTask) w) (bw, s) i) ∧ OArr vW1 encI 1 3 gW1 bw1 ∧ -1 ≤ s1 ∧ s1 ≤ 8000000) (fun j0 ⟨vW1, gW1, bw1, s1⟩ => False) (vW, gW, bw, s) [gW, blk b2 [vW, .int .i64 s, vp] 31] (sm) rfl (hit) rfl (⟨rfl, oW, hs.1, hs.2⟩) (ks) rfl (fun i g vs hY => by obtain ⟨v, rfl, _⟩ := hY; rfl) ?_ ?_ (fun _ _ _ hJ _ => hJ.elim)
    ·rintro lq rec B' i ⟨vW1, gW1, bw1, s1⟩ sm1 g1 vs hi ⟨v28, rfl, O28⟩ ⟨e1, oW1, r1, r2⟩ ks1
     dsimp only [lcA, lnA]
     obtain ⟨y, ey, y1, y2⟩ := psons_get (t := (⟨(l.map Prod.snd), rs, m⟩ : PTask)) (w := w) hi
     change (psons (⟨(l.map Prod.snd), rs, m⟩ : PTask) w).getD i [] = w ++ [y] at ey
     have el : ((psons (⟨(l.map Prod.snd), rs, m⟩ : PTask) w).getD i []).length = w.length + 1 := by
      have := congrArg List.length ey
      rw [List.length_append] at this; exact this
     refine XK.region rfl (XO.q (Q.assign rfl) (XO.done ?_))
     refine XK.beginRound ?_
     refine XK.block (XK.region rfl ?_)
     refine XO.q (Q.ld rfl rfl) ?_
     refine XO.q (Q.move rfl) ?_
     refine XO.call Tryz.call72 rfl rfl rfl (ih ((psons (⟨(l.map Prod.snd), rs, m⟩ : PTask) w).getD i []) v28 g1 vW1 gW1 bw1 s1 sm1 O28 oW1 ks1 (by rw [el]; omega) (by rw [el]; omega) (by rw [ey]; exact wok.snoc (by dsimp only; omega) y1 y2) ⟨r1, r2⟩) fun v31 s31 R31 => ?_
     obtain ⟨vW2, gW2, sm2, rfl, ks2, oW2, r3, r4⟩ := R31
     dsimp only [lcA, lnA]
     refine XO.done ?_
     refine XK.inBlock ?_
     exact XK.leave (j := none) [gW2, blk b2 [vW2, .int .i64 (lookG (⟨(l.map Prod.snd), rs, m⟩ : PTask) ((psons (⟨(l.map Prod.snd), rs, m⟩ : PTask) w).getD i []) (bw1, s1)).2, vp] 31, sm2] trivial ⟨(vW2, gW2, (lookG (⟨(l.map Prod.snd), rs, m⟩ : PTask) ((psons (⟨(l.map Prod.snd), rs, m⟩ : PTask) w).getD i []) (bw1, s1)).1, (lookG (⟨(l.map Prod.snd), rs, m⟩ : PTask) ((psons (⟨(l.map Prod.snd), rs, m⟩ : PTask) w).getD i []) (bw1, s1)).2), sm2, ⟨by rw [foldTo, ← e1]; rfl, oW2, r3, r4⟩, ks2, rfl⟩
    ·rintro ⟨vW1, gW1, bw1, s1⟩ sm1 ⟨e1, oW1, r1, r2⟩ ks1
     dsimp only [lcA, lnA]
     refine XK.inBlock ?_
     refine XK.fn [gW1, blk b2 [vW1, .int .i64 s1, vp] 31, sm1] Tryz.func72 Tryz.results72 (.n) ?_
     rw [if_neg (by dsimp only; exact c0), if_neg (show ¬ w.length = (l.map Prod.snd).length by omega), ← e1] at le
     rw [le]
     exact ⟨vW1, gW1, sm1, rfl, ks1, oW1, r1, r2⟩
end Go.X

set_option linter.unusedSimpArgs false
set_option linter.unusedVariables false
set_option maxRecDepth 20000
namespace Go.X
open Go.Proofs
set_option maxHeartbeats 4000000 in
theorem prove_spec (l : List (Value × PJob)) (vl : Value) (hl K : PHeap) [jl : Arr vl encPJ 6 hl l] (aL : JobsK l K) (rs : List PRack) (vr : Value) (hr : PHeap) [jr : Arr vr encRack 5 hr rs] (m : PRat) (ok : TaskOk (⟨(l.map Prod.snd), rs, m⟩ : PTask)) (lok : ListOk (l.map Prod.snd)) (b1 b2 b3 b4 bt bm : Nat) (vW : Value) [oW : One vW] (bst : Int) :
  ∀ (m_ : Nat) (w : List Int) (vw : Value) (gw : PHeap) (vP : Value) (gP : PHeap) (p : List Bool) (sm : PHeap), OArr vw encI 1 3 gw w → OArr vP encB 1 4 gP p → KnownS (⟨(l.map Prod.snd), rs, m⟩ : PTask) bm sm → w.length ≤ l.length → l.length - w.length ≤ m_ → WOk (⟨(l.map Prod.snd), rs, m⟩ : PTask) w → belowG (⟨(l.map Prod.snd), rs, m⟩ : PTask) bst w → p.length + 2 * 6 ^ m_ ≤ 10000000 →
  Spec Tryz.prog 76 #[vw, ptr b1 0, ptr b2 0, ptr b3 0, ptr b4 0] [gw, gP, blk b2 [vW, .int .i64 bst, vP] 31, sm] [blk b1 [vl, vr, .int .i64 m.n, .int .i64 m.d] 27, blk b3 [ptr bt 0] 132, blk b4 [(.func (.func 76) #[] #[ptr b1 0, ptr b2 0, ptr b3 0, ptr b4 0])] 136, blk bt [vl, vr, .int .i64 m.n, .int .i64 m.d, .map (some bm)] 135, hl, K, hr]
   (fun _ hs => ∃ vP2 gP2 sm2, hs = [gP2, blk b2 [vW, .int .i64 bst, vP2] 31, sm2] ∧ KnownS (⟨(l.map Prod.snd), rs, m⟩ : PTask) bm sm2 ∧ OArr vP2 encB 1 4 gP2 (proveG (⟨(l.map Prod.snd), rs, m⟩ : PTask) bst w p)) := by
 intro m_
 have ll := jl.le
 have lm : (l.map Prod.snd).length = l.length := List.length_map ..
 have few := ok.few
 have few2 : l.length ≤ 8 := by rw [← lm]; exact few
 have rk5 := ok.rk5
 induction m_ with
 | zero =>
  intro w vw gw vP gP p sm ow oP ks hwl hm wok bel room
  have le := prove_case (t := (⟨(l.map Prod.snd), rs, m⟩ : PTask)) (w := w) (by dsimp only; omega) bel p
  have hcut := cut_leaf bel (show w.length = (l.map Prod.snd).length by omega)
  refine Spec.intro (fn := Tryz.f76) (N := 28) Tryz.func76 rfl Tryz.ntmps76 rfl fun B => ?_
  refine XK.seq ?_
  refine XK.drawn [0, 1, 3, 4, 5, 6] [b1, b2] [] (.q 0 (.q 1 (.q 3 (.q 4 (.br 2 true (.q 5 (.q 6 .done)) .stop))))) Tryz.mixed rfl (by kernel_rfl) ?_
  refine XT.q rfl rfl (Q.ldA [_, _, _, _] rfl rfl rfl) ?_
  refine XT.q rfl rfl (Q.move rfl) ?_
  refine XT.q rfl rfl (Q.fieldAddr rfl) ?_
  refine XT.q rfl rfl (Q.ld rfl rfl) ?_
  refine XT.call rfl rfl Tryz.call73 rfl rfl rfl (hope_spec l vl hl K aL rs vr hr m w vw gw ok hwl) (fun v10 s10 R10 => ?_) XT.stop
  obtain ⟨rfl, rfl⟩ := R10
  dsimp only [lcA, lnA]
  refine ⟨inferInstance, ?_⟩
  refine XT.q rfl rfl (Q.leq rfl rfl) ?_
  refine XT.q rfl rfl (Q.assign rfl) ?_
  refine XT.done ?_
  refine XK.seq (XK.region rfl ?_)
  refine XO.q (Q.fieldAddr rfl) ?_
  refine XO.q (Q.ld rfl rfl) ?_
  refine XO.q (Q.move rfl) ?_
  refine XO.lit [_] [_] [decide (hopeG (⟨(l.map Prod.snd), rs, m⟩ : PTask) w ≤ bst)] encB (by rfl) (by rfl) rfl (by rfl) (by exact .c 0 1 rfl rfl rfl (.n _)) (fun _ => rfl) (by rfl) rfl (by infer_instance) rfl fun v17 h17 O17 => ?_
  refine XO.append rfl rfl rfl rfl (by simp only [List.length_cons, List.length_nil]; omega) fun v18 h18 O18 => ?_
  refine XO.q (Q.fieldAddr rfl) ?_
  refine XO.st rfl rfl rfl ?_
  refine XO.done (XK.seq (XK.seq (XK.region rfl (XO.q (Q.move rfl) (XO.done ?_)))))
  refine XK.if rfl (fun c0 => ?_) (fun c0 => ?_)
  ·skip
   refine XK.rt [h18, blk b2 [vW, .int .i64 bst, v18] 31, sm] Tryz.func76 Tryz.results76 (.n) ?_
   rw [if_pos c0] at le
   rw [le]
   rw [decide_eq_true c0] at O18
   exact ⟨v18, h18, sm, rfl, ks, O18⟩
  ·skip
   exact absurd hcut c0
 | succ m_ ih =>
  intro w vw gw vP gP p sm ow oP ks hwl hm wok bel room
  have h6 : 1 ≤ 6 ^ (m_ + 1) := Nat.one_le_pow _ _ (by decide)
  have le := prove_case (t := (⟨(l.map Prod.snd), rs, m⟩ : PTask)) (w := w) (by dsimp only; omega) bel p
  refine Spec.intro (fn := Tryz.f76) (N := 28) Tryz.func76 rfl Tryz.ntmps76 rfl fun B => ?_
  refine XK.seq ?_
  refine XK.drawn [0, 1, 3, 4, 5, 6] [b1, b2] [] (.q 0 (.q 1 (.q 3 (.q 4 (.br 2 true (.q 5 (.q 6 .done)) .stop))))) Tryz.mixed rfl (by kernel_rfl) ?_
  refine XT.q rfl rfl (Q.ldA [_, _, _, _] rfl rfl rfl) ?_
  refine XT.q rfl rfl (Q.move rfl) ?_
  refine XT.q rfl rfl (Q.fieldAddr rfl) ?_
  refine XT.q rfl rfl (Q.ld rfl rfl) ?_
  refine XT.call rfl rfl Tryz.call73 rfl rfl rfl (hope_spec l vl hl K aL rs vr hr m w vw gw ok hwl) (fun v10 s10 R10 => ?_) XT.stop
  obtain ⟨rfl, rfl⟩ := R10
  dsimp only [lcA, lnA]
  refine ⟨inferInstance, ?_⟩
  refine XT.q rfl rfl (Q.leq rfl rfl) ?_
  refine XT.q rfl rfl (Q.assign rfl) ?_
  refine XT.done ?_
  refine XK.seq (XK.region rfl ?_)
  refine XO.q (Q.fieldAddr rfl) ?_
  refine XO.q (Q.ld rfl rfl) ?_
  refine XO.q (Q.move rfl) ?_
  refine XO.lit [_] [_] [decide (hopeG (⟨(l.map Prod.snd), rs, m⟩ : PTask) w ≤ bst)] encB (by rfl) (by rfl) rfl (by rfl) (by exact .c 0 1 rfl rfl rfl (.n _)) (fun _ => rfl) (by rfl) rfl (by infer_instance) rfl fun v17 h17 O17 => ?_
  refine XO.append rfl rfl rfl rfl (by simp only [List.length_cons, List.length_nil]; omega) fun v18 h18 O18 => ?_
  refine XO.q (Q.fieldAddr rfl) ?_
  refine XO.st rfl rfl rfl ?_
  refine XO.done (XK.seq (XK.seq (XK.region rfl (XO.q (Q.move rfl) (XO.done ?_)))))
  refine XK.if rfl (fun c0 => ?_) (fun c0 => ?_)
  ·skip
   refine XK.rt [h18, blk b2 [vW, .int .i64 bst, v18] 31, sm] Tryz.func76 Tryz.results76 (.n) ?_
   rw [if_pos c0] at le
   rw [le]
   rw [decide_eq_true c0] at O18
   exact ⟨v18, h18, sm, rfl, ks, O18⟩
  ·skip
   have hlt : w.length < l.length := by
    rcases Nat.lt_or_ge w.length l.length with h | h
    ·exact h
    ·exact absurd (cut_leaf bel (show w.length = (l.map Prod.snd).length by omega)) c0
   rw [decide_eq_false c0] at O18
   refine XK.skip (XK.seq (XK.region rfl ?_))
   refine XO.q (Q.ld rfl rfl) ?_
   refine XO.q (Q.move rfl) ?_
   refine XO.call Tryz.call75 rfl rfl rfl (sons_spec l vl hl K aL rs vr hr m w vw gw ok lok hlt wok bt bm) fun v23 s23 R23 => ?_
   obtain ⟨bx, by_, rfl, hit⟩ := R23
   dsimp only [lcA, lnA]
   refine XO.done (XK.block ?_)
   refine XK.rangeG (X := Value × PHeap × List Bool) (ps := [24]) (fun ⟨vP1, gP1, p1⟩ => [gP1, blk b2 [vW, .int .i64 bst, vP1] 31]) (fun i ⟨vP1, gP1, p1⟩ => p1 = (foldTo (fun p son => proveG (⟨(l.map Prod.snd), rs, m⟩ : PTask) bst son p) (psons (⟨(l.map Prod.snd), rs, m⟩ : PTask) w) (p ++ [false]) i) ∧ OArr vP1 encB 1 4 gP1 p1) (fun j0 ⟨vP1, gP1, p1⟩ => False) (v18, h18, p ++ [false]) [h18, blk b2 [vW, .int .i64 bst, v18] 31] (sm) rfl (hit) rfl (⟨rfl, O18⟩) (ks) rfl (fun i g vs hY => by obtain ⟨v, rfl, _⟩ := hY; rfl) ?_ ?_ (fun _ _ _ hJ _ => hJ.elim)
   ·rintro lq rec B' i ⟨vP1, gP1, p1⟩ sm1 g1 vs hi ⟨v24, rfl, O24⟩ ⟨e1, oP1⟩ ks1
    dsimp only [lcA, lnA]
    obtain ⟨y, ey, y1, y2⟩ := psons_get (t := (⟨(l.map Prod.snd), rs, m⟩ : PTask)) (w := w) hi
    change (psons (⟨(l.map Prod.snd), rs, m⟩ : PTask) w).getD i [] = w ++ [y] at ey
    have el : ((psons (⟨(l.map Prod.snd), rs, m⟩ : PTask) w).getD i []).length = w.length + 1 := by
     have := congrArg List.length ey
     rw [List.length_append] at this; exact this
    refine XK.region rfl (XO.q (Q.assign rfl) (XO.done ?_))
    refine XK.beginRound ?_
    refine XK.block (XK.region rfl ?_)
    refine XO.q (Q.ld rfl rfl) ?_
    refine XO.q (Q.move rfl) ?_
    refine XO.call Tryz.call76 rfl rfl rfl (ih ((psons (⟨(l.map Prod.snd), rs, m⟩ : PTask) w).getD i []) v24 g1 vP1 gP1 p1 sm1 O24 oP1 ks1 (by rw [el]; omega) (by rw [el]; omega) (by rw [ey]; exact wok.snoc (by dsimp only; omega) y1 y2) (below_son (by dsimp only; omega) bel hi) (by have := prove_room ok (m := m_) (w := w) (by dsimp only; omega) (by dsimp only; omega) bel p hi; rw [← e1] at this; omega)) fun v27 s27 R27 => ?_
    obtain ⟨vP2, gP2, sm2, rfl, ks2, oP2⟩ := R27
    dsimp only [lcA, lnA]
    refine XO.done ?_
    refine XK.inBlock ?_
    exact XK.leave (j := none) [gP2, blk b2 [vW, .int .i64 bst, vP2] 31, sm2] trivial ⟨(vP2, gP2, (proveG (⟨(l.map Prod.snd), rs, m⟩ : PTask) bst ((psons (⟨(l.map Prod.snd), rs, m⟩ : PTask) w).getD i []) p1)), sm2, ⟨by rw [foldTo, ← e1]; rfl, oP2⟩, ks2, rfl⟩
   ·rintro ⟨vP1, gP1, p1⟩ sm1 ⟨e1, oP1⟩ ks1
    dsimp only [lcA, lnA]
    refine XK.inBlock ?_
    refine XK.fn [gP1, blk b2 [vW, .int .i64 bst, vP1] 31, sm1] Tryz.func76 Tryz.results76 (.n) ?_
    rw [if_neg c0, ← e1] at le
    rw [le]
    exact ⟨vP1, gP1, sm1, rfl, ks1, oP1⟩
set_option maxHeartbeats 4000000 in
theorem Best_spec (l : List (Value × PJob)) (vl : Value) (hl K : PHeap) [jl : Arr vl encPJ 6 hl l] (aL : JobsK l K) (rs : List PRack) (vr : Value) (hr : PHeap) [jr : Arr vr encRack 5 hr rs] (m : PRat) : Spec Tryz.prog 26 #[.agg #[vl, vr, .int .i64 m.n, .int .i64 m.d]] [] [hl, K, hr] (fun v hs => ∃ vW vP kW kP bw s p, v = .tuple #[.agg #[vW, .int .i64 s, vP], .int .i64 (readyG (⟨(l.map Prod.snd), rs, m⟩ : PTask))] ∧ hs = [kW, kP] ∧ OArr vW encI 1 3 kW bw ∧ OArr vP encB 1 4 kP p ∧ (readyG (⟨(l.map Prod.snd), rs, m⟩ : PTask) = 0 → (bw, s, p) = (bestP (⟨(l.map Prod.snd), rs, m⟩ : PTask))) ∧ (readyG (⟨(l.map Prod.snd), rs, m⟩ : PTask) ≠ 0 → (bw, s, p) = ([], 0, []))) := by
 have nI : OArr (.slice none 0 0) encI 1 3 emp ([] : List Int) := OArr.nil (fun _ => rfl)
 have nB : OArr (.slice none 0 0) encB 1 4 emp ([] : List Bool) := OArr.nil (fun _ => rfl)
 have lm : (l.map Prod.snd).length = l.length := List.length_map ..
 refine Spec.intro (fn := Tryz.f26) (N := 27) Tryz.func26 rfl Tryz.ntmps26 rfl fun B => ?_
 refine XK.seq (XK.region rfl ?_)
 refine XO.box rfl fun b1 => ?_
 refine XO.alloc fun b2 => ?_
 refine XO.q (Q.assign rfl) (XO.done (XK.seq (XK.seq (XK.region rfl ?_))))
 refine XO.q (Q.ldA [_, _, _, _] rfl rfl rfl) ?_
 refine XO.call Tryz.call71 rfl rfl rfl (ready_spec l vl hl K aL rs vr hr m) fun v10 s10 R10 => ?_
 obtain ⟨rfl, rfl⟩ := R10
 dsimp only [lcA, lnA]
 refine XO.q (Q.assign rfl) (XO.done (XK.seq (XK.region rfl (XO.q (Q.move rfl) ?_))))
 refine XO.q (Q.neq rfl rfl) ?_
 refine XO.done ?_
 refine XK.if rfl (fun c0 => ?_) (fun c0 => ?_)
 ·skip
  refine XK.seq (XK.region rfl ?_)
  refine XO.q (Q.build [_, _, _] (.n _)) ?_
  refine XO.q (Q.move rfl) ?_
  refine XO.st rfl rfl rfl ?_
  refine XO.q (Q.assign rfl) (XO.done ?_)
  refine XK.rt [emp, emp] Tryz.func26 Tryz.results26 (.cell [_, _, _] rfl rfl rfl (.t rfl .n)) ?_
  exact ⟨.slice none 0 0, .slice none 0 0, emp, emp, [], 0, [], rfl, rfl, nI, nB, fun h => absurd h c0, fun _ => rfl⟩
 ·skip
  have rk := ready_ok (Decidable.of_not_not c0)
  refine XK.skip (XK.seq (XK.region rfl ?_))
  refine XO.q (Q.ldA [_, _, _, _] rfl rfl rfl) ?_
  refine XO.map encK2 fun b16 => ?_
  refine XO.q (Q.build [_, _, _, _, _] (.c 0 4 rfl rfl rfl (.c 4 1 rfl rfl rfl (.n _)))) ?_
  refine XO.box rfl fun b18 => ?_
  refine XO.alloc fun b5 => ?_
  refine XO.st rfl rfl rfl ?_
  refine XO.done (XK.seq (XK.region rfl ?_))
  refine XO.q (Q.build [_, _, _] (.c 1 1 rfl rfl rfl (.n _))) ?_
  refine XO.alloc fun b6 => ?_
  refine XO.st rfl rfl rfl ?_
  refine XO.done (XK.seq (XK.region rfl ?_))
  refine XO.alloc fun b7 => ?_
  refine XO.done (XK.seq (XK.region rfl ?_))
  refine XO.q (Q.func (fun _ he => rfl) (fun _ he => evs_rel he rfl)) ?_
  refine XO.st rfl rfl rfl ?_
  refine XO.done (XK.seq (XK.region rfl ?_))
  refine XO.q (Q.ld rfl rfl) ?_
  refine XO.drop (o' := [emp, emp, blk b7 [.func (.func 72) #[] #[ptr b1 0, ptr b6 0, ptr b5 0, ptr b7 0]] 136, blk b6 [.slice none 0 0, .int .i64 (-1), .slice none 0 0] 31, mapH b16 encK2 [], blk b5 [ptr b18 0] 132, blk b18 [vl, vr, .int .i64 m.n, .int .i64 m.d, .map (some b16)] 135, blk b2 [.slice none 0 0, .int .i64 0, .slice none 0 0] 31, blk b1 [vl, vr, .int .i64 m.n, .int .i64 m.d] 27]) ?_
  refine XO.call Tryz.call72 rfl rfl rfl (look_spec l vl hl K aL rs vr hr m rk.1 rk.2 b1 b6 b5 b7 b18 b16 (.slice none 0 0) l.length [] (.slice none 0 0) emp (.slice none 0 0) emp [] (-1) (mapH b16 encK2 []) nI nI ⟨[], rfl, KnownP.nil _⟩ (Nat.zero_le _) (by simp) (wok_nil _) ⟨by omega, by omega⟩) fun v22 s22 R22 => ?_
  obtain ⟨vW, gW, sm, rfl, ks, oW, r1, r2⟩ := R22
  dsimp only [lcA, lnA]
  refine XO.done (XK.seq (XK.region rfl ?_))
  refine XO.alloc fun b8 => ?_
  refine XO.done (XK.seq (XK.region rfl ?_))
  refine XO.q (Q.func (fun _ he => rfl) (fun _ he => evs_rel he rfl)) ?_
  refine XO.st rfl rfl rfl ?_
  refine XO.done (XK.seq (XK.region rfl ?_))
  refine XO.q (Q.ld rfl rfl) ?_
  refine XO.drop (o' := [emp, emp, blk b8 [.func (.func 76) #[] #[ptr b1 0, ptr b6 0, ptr b5 0, ptr b8 0]] 136, blk b6 [vW, .int .i64 (lookG (⟨(l.map Prod.snd), rs, m⟩ : PTask) [] ([], -1)).2, .slice none 0 0] 31, sm, gW, blk b5 [ptr b18 0] 132, blk b18 [vl, vr, .int .i64 m.n, .int .i64 m.d, .map (some b16)] 135, blk b2 [.slice none 0 0, .int .i64 0, .slice none 0 0] 31, blk b1 [vl, vr, .int .i64 m.n, .int .i64 m.d] 27]) ?_
  refine XO.call Tryz.call76 rfl rfl rfl (prove_spec l vl hl K aL rs vr hr m rk.1 rk.2 b1 b6 b5 b8 b18 b16 vW (lookG (⟨(l.map Prod.snd), rs, m⟩ : PTask) [] ([], -1)).2 l.length [] (.slice none 0 0) emp (.slice none 0 0) emp [] sm nI nB ks (Nat.zero_le _) (by simp) (wok_nil _) (look_below rk.1 _ [] ([], -1) (Nat.zero_le _) (Nat.le_refl _)).2 (by have h8 : 6 ^ l.length ≤ 6 ^ 8 := Nat.pow_le_pow_right (by decide) (by have := rk.1.few; dsimp only at this; omega); have : (6 : Nat) ^ 8 = 1679616 := rfl; simp only [List.length_nil]; omega)) fun v25 s25 R25 => ?_
  obtain ⟨vP, gP, sm2, rfl, ks2, oP⟩ := R25
  dsimp only [lcA, lnA]
  refine XO.done (XK.seq (XK.region rfl ?_))
  refine XO.q (Q.ldA [_, _, _] rfl rfl rfl) ?_
  refine XO.st rfl rfl rfl ?_
  refine XO.q (Q.assign rfl) (XO.done ?_)
  refine XK.rt [gW, gP] Tryz.func26 Tryz.results26 (.cell [_, _, _] rfl rfl rfl (.t rfl .n)) ?_
  exact ⟨vW, vP, gW, gP, (lookG (⟨(l.map Prod.snd), rs, m⟩ : PTask) [] ([], -1)).1, (lookG (⟨(l.map Prod.snd), rs, m⟩ : PTask) [] ([], -1)).2, proveG (⟨(l.map Prod.snd), rs, m⟩ : PTask) (lookG (⟨(l.map Prod.snd), rs, m⟩ : PTask) [] ([], -1)).2 [] [], by rw [Decidable.of_not_not c0], rfl, oW, oP, fun _ => rfl, fun h => absurd (Decidable.of_not_not c0) h⟩
end Go.X

set_option linter.unusedSimpArgs false
set_option linter.unusedVariables false
set_option maxRecDepth 20000
namespace Go.X
open Go.Proofs
theorem holds_stay {t : PTask} {Pf : List Bool} {W : Int} {w : List Int} {a n : Nat} (h : (holdsTo t Pf W w a n).1 = false) : ∀ m, n ≤ m → holdsTo t Pf W w a m = holdsTo t Pf W w a n
 | 0, hm => by rw [show n = 0 by omega]
 | m + 1, hm => by
  by_cases he : n = m + 1
  ·rw [he]
  ·have ih := holds_stay h m (by omega)
   have e : holdsTo t Pf W w a (m + 1) = (if (holdsTo t Pf W w a m).1 = true then holdsG t Pf W ((psons t w).getD m default) (holdsTo t Pf W w a m).2 else holdsTo t Pf W w a m) := rfl
   rw [e, ih, if_neg (by rw [h]; decide)]
theorem holds_next {t : PTask} {Pf : List Bool} {W : Int} {w : List Int} {a a1 i : Nat} (h : (true, a1) = holdsTo t Pf W w a i) : holdsTo t Pf W w a (i + 1) = holdsG t Pf W ((psons t w).getD i []) a1 := by
 have e : holdsTo t Pf W w a (i + 1) = (if (holdsTo t Pf W w a i).1 = true then holdsG t Pf W ((psons t w).getD i default) (holdsTo t Pf W w a i).2 else holdsTo t Pf W w a i) := rfl
 rw [e, ← h]; rfl
set_option maxHeartbeats 4000000 in
theorem holds_spec (l : List (Value × PJob)) (vl : Value) (hl K : PHeap) [jl : Arr vl encPJ 6 hl l] (aL : JobsK l K) (rs : List PRack) (vr : Value) (hr : PHeap) [jr : Arr vr encRack 5 hr rs] (m : PRat) (ok : TaskOk (⟨(l.map Prod.snd), rs, m⟩ : PTask)) (lok : ListOk (l.map Prod.snd)) (b1 b2 b3 b4 b5 bt bm : Nat) (vQ : Value) [oQ : One vQ] (W : Int) (Pf : List Bool) (vP : Value) (hP : PHeap) [jP : Arr vP encB 1 hP Pf] :
  ∀ (m_ : Nat) (w : List Int) (vw : Value) (gw : PHeap) (a : Nat) (sm : PHeap), OArr vw encI 1 3 gw w → KnownS (⟨(l.map Prod.snd), rs, m⟩ : PTask) bm sm → w.length ≤ l.length → l.length - w.length ≤ m_ → WOk (⟨(l.map Prod.snd), rs, m⟩ : PTask) w → a ≤ Pf.length →
  Spec Tryz.prog 81 #[vw, ptr b1 0, ptr b2 0, ptr b3 0, ptr b4 0, ptr b5 0] [gw, blk b1 [.int .i64 ((a : Nat) : Int)] 3, sm] [blk b2 [vQ, .int .i64 W, vP] 31, blk b3 [vl, vr, .int .i64 m.n, .int .i64 m.d] 27, blk b4 [ptr bt 0] 132, blk b5 [(.func (.func 81) #[] #[ptr b1 0, ptr b2 0, ptr b3 0, ptr b4 0, ptr b5 0])] 127, blk bt [vl, vr, .int .i64 m.n, .int .i64 m.d, .map (some bm)] 135, hl, K, hr, hP]
   (fun v hs => ∃ sm2, v = .bool (holdsG (⟨(l.map Prod.snd), rs, m⟩ : PTask) Pf W w a).1 ∧ hs = [blk b1 [.int .i64 (((holdsG (⟨(l.map Prod.snd), rs, m⟩ : PTask) Pf W w a).2 : Nat) : Int)] 3, sm2] ∧ KnownS (⟨(l.map Prod.snd), rs, m⟩ : PTask) bm sm2) := by
 intro m_
 have ll := jl.le
 have lp := jP.le
 have lm : (l.map Prod.snd).length = l.length := List.length_map ..
 have few := ok.few
 have few2 : l.length ≤ 8 := by rw [← lm]; exact few
 have rk5 := ok.rk5
 induction m_ with
 | zero =>
  intro w vw gw a sm ow ks hwl hm wok ha
  have le := holds_eq (t := (⟨(l.map Prod.snd), rs, m⟩ : PTask)) (P := Pf) (W := W) (w := w) (by dsimp only; omega) a
  refine Spec.intro (fn := Tryz.f81) (N := 51) Tryz.func81 rfl Tryz.ntmps81 rfl fun B => ?_
  refine XK.seq (XK.region rfl ?_)
  refine XO.alloc fun b7 => ?_
  refine XO.done (XK.seq (XK.seq (XK.region rfl ?_)))
  refine XO.q (Q.ld rfl rfl) ?_
  refine XO.q (Q.fieldAddr rfl) ?_
  refine XO.q (Q.ld rfl rfl) ?_
  refine XO.len rfl fun l13 => ?_
  refine XO.q (Q.eql rfl rfl) ?_
  refine XO.done ?_
  refine XK.if rfl (fun c0 => ?_) (fun c0 => ?_)
  ·skip
   refine XK.seq (XK.region rfl ?_)
   refine XO.st rfl rfl rfl ?_
   refine XO.done ?_
   refine XK.rt [blk b1 [.int .i64 ((a : Nat) : Int)] 3, sm] Tryz.func81 Tryz.results81 (.cell1 rfl rfl (.n)) ?_
   rw [if_pos (show a = Pf.length by omega)] at le
   rw [le]
   exact ⟨sm, rfl, rfl, ks⟩
  ·skip
   refine XK.skip (XK.seq (XK.region rfl ?_))
   refine XO.q (Q.fieldAddr rfl) ?_
   refine XO.q (Q.ld rfl rfl) ?_
   refine XO.q (Q.ld rfl rfl) ?_
   refine XO.ix rfl rfl (by omega) (by omega) fun i18 => ?_
   refine XO.q (Q.ldE rfl (by first | assumption | omega) rfl) ?_
   refine XO.q (Q.assign rfl) (XO.done (XK.seq (XK.region rfl ?_)))
   refine XO.q (Q.ld rfl rfl) ?_
   refine XO.q (Q.add rfl rfl ⟨by omega, by omega⟩) ?_
   rw [show ((a : Nat) : Int) + 1 = ((a + 1 : Nat) : Int) from rfl]
   refine XO.st rfl rfl rfl ?_
   refine XO.done (XK.seq (XK.block (XK.seq (XK.region rfl (XO.q (Q.move rfl) ?_)))))
   refine XO.q (Q.assign rfl) (XO.done ?_)
   refine XK.if rfl (fun c1 => ?_) (fun c1 => ?_)
   ·skip
    refine XK.seq ?_
    refine XK.drawn [0, 1, 3, 4, 5] [b3, b2] [] (.q 0 (.q 1 (.q 3 (.q 4 (.br 2 true (.q 5 (.br 6 false .done .stop)) .stop))))) Tryz.mixed rfl (by kernel_rfl) ?_
    refine XT.q rfl rfl (Q.ldA [_, _, _, _] rfl rfl rfl) ?_
    refine XT.q rfl rfl (Q.move rfl) ?_
    refine XT.q rfl rfl (Q.fieldAddr rfl) ?_
    refine XT.q rfl rfl (Q.ld rfl rfl) ?_
    refine XT.call rfl rfl Tryz.call73 rfl rfl rfl (hope_spec l vl hl K aL rs vr hr m w vw gw ok hwl) (fun v26 s26 R26 => ?_) XT.stop
    obtain ⟨rfl, rfl⟩ := R26
    dsimp only [lcA, lnA]
    refine ⟨inferInstance, ?_⟩
    refine XT.q rfl rfl (Q.leq rfl rfl) ?_
    refine XT.st rfl rfl rfl rfl rfl ⟨inferInstance, ?_⟩ XT.stop
    refine XT.done ?_
    refine XK.rt [blk b1 [.int .i64 ((a + 1 : Nat) : Int)] 3, sm] Tryz.func81 Tryz.results81 (.cell1 rfl rfl (.n)) ?_
    rw [if_neg (show ¬ a = Pf.length by omega), if_pos (show Pf.getD a false = true from c1)] at le
    rw [le]
    exact ⟨sm, rfl, rfl, ks⟩
   ·skip
    refine XK.seq (XK.region rfl (XO.q (Q.move rfl) ?_))
    refine XO.len rfl fun l32 => ?_
    refine XO.q (Q.fieldAddr rfl) ?_
    refine XO.q (Q.ld rfl rfl) ?_
    refine XO.len rfl fun l35 => ?_
    refine XO.q (Q.eql rfl rfl) ?_
    refine XO.q (Q.assign rfl) (XO.done ?_)
    refine XK.if rfl (fun c2 => ?_) (fun c2 => ?_)
    ·skip
     refine XK.seq ?_
     refine XK.drawn [0, 1, 3, 4, 5] [b3, b2] [] (.q 0 (.q 1 (.q 3 (.q 4 (.br 2 true (.q 5 (.br 6 false .done .stop)) .stop))))) Tryz.mixed rfl (by kernel_rfl) ?_
     refine XT.q rfl rfl (Q.ldA [_, _, _, _] rfl rfl rfl) ?_
     refine XT.q rfl rfl (Q.move rfl) ?_
     refine XT.q rfl rfl (Q.fieldAddr rfl) ?_
     refine XT.q rfl rfl (Q.ld rfl rfl) ?_
     refine XT.call rfl rfl Tryz.call74 rfl rfl rfl (worth_spec l vl hl K aL rs vr hr m w vw gw ok hwl) (fun v39 s39 R39 => ?_) XT.stop
     obtain ⟨rfl, rfl⟩ := R39
     dsimp only [lcA, lnA]
     refine ⟨inferInstance, ?_⟩
     refine XT.q rfl rfl (Q.leq rfl rfl) ?_
     refine XT.st rfl rfl rfl rfl rfl ⟨inferInstance, ?_⟩ XT.stop
     refine XT.done ?_
     refine XK.rt [blk b1 [.int .i64 ((a + 1 : Nat) : Int)] 3, sm] Tryz.func81 Tryz.results81 (.cell1 rfl rfl (.n)) ?_
     rw [if_neg (show ¬ a = Pf.length by omega), if_neg (show ¬ Pf.getD a false = true from c1), if_pos (show w.length = (l.map Prod.snd).length by omega)] at le
     rw [le]
     exact ⟨sm, rfl, rfl, ks⟩
    ·skip
     exact absurd (show (w.length : Int) = l.length by omega) c2
 | succ m_ ih =>
  intro w vw gw a sm ow ks hwl hm wok ha
  have le := holds_eq (t := (⟨(l.map Prod.snd), rs, m⟩ : PTask)) (P := Pf) (W := W) (w := w) (by dsimp only; omega) a
  refine Spec.intro (fn := Tryz.f81) (N := 51) Tryz.func81 rfl Tryz.ntmps81 rfl fun B => ?_
  refine XK.seq (XK.region rfl ?_)
  refine XO.alloc fun b7 => ?_
  refine XO.done (XK.seq (XK.seq (XK.region rfl ?_)))
  refine XO.q (Q.ld rfl rfl) ?_
  refine XO.q (Q.fieldAddr rfl) ?_
  refine XO.q (Q.ld rfl rfl) ?_
  refine XO.len rfl fun l13 => ?_
  refine XO.q (Q.eql rfl rfl) ?_
  refine XO.done ?_
  refine XK.if rfl (fun c0 => ?_) (fun c0 => ?_)
  ·skip
   refine XK.seq (XK.region rfl ?_)
   refine XO.st rfl rfl rfl ?_
   refine XO.done ?_
   refine XK.rt [blk b1 [.int .i64 ((a : Nat) : Int)] 3, sm] Tryz.func81 Tryz.results81 (.cell1 rfl rfl (.n)) ?_
   rw [if_pos (show a = Pf.length by omega)] at le
   rw [le]
   exact ⟨sm, rfl, rfl, ks⟩
  ·skip
   refine XK.skip (XK.seq (XK.region rfl ?_))
   refine XO.q (Q.fieldAddr rfl) ?_
   refine XO.q (Q.ld rfl rfl) ?_
   refine XO.q (Q.ld rfl rfl) ?_
   refine XO.ix rfl rfl (by omega) (by omega) fun i18 => ?_
   refine XO.q (Q.ldE rfl (by first | assumption | omega) rfl) ?_
   refine XO.q (Q.assign rfl) (XO.done (XK.seq (XK.region rfl ?_)))
   refine XO.q (Q.ld rfl rfl) ?_
   refine XO.q (Q.add rfl rfl ⟨by omega, by omega⟩) ?_
   rw [show ((a : Nat) : Int) + 1 = ((a + 1 : Nat) : Int) from rfl]
   refine XO.st rfl rfl rfl ?_
   refine XO.done (XK.seq (XK.block (XK.seq (XK.region rfl (XO.q (Q.move rfl) ?_)))))
   refine XO.q (Q.assign rfl) (XO.done ?_)
   refine XK.if rfl (fun c1 => ?_) (fun c1 => ?_)
   ·skip
    refine XK.seq ?_
    refine XK.drawn [0, 1, 3, 4, 5] [b3, b2] [] (.q 0 (.q 1 (.q 3 (.q 4 (.br 2 true (.q 5 (.br 6 false .done .stop)) .stop))))) Tryz.mixed rfl (by kernel_rfl) ?_
    refine XT.q rfl rfl (Q.ldA [_, _, _, _] rfl rfl rfl) ?_
    refine XT.q rfl rfl (Q.move rfl) ?_
    refine XT.q rfl rfl (Q.fieldAddr rfl) ?_
    refine XT.q rfl rfl (Q.ld rfl rfl) ?_
    refine XT.call rfl rfl Tryz.call73 rfl rfl rfl (hope_spec l vl hl K aL rs vr hr m w vw gw ok hwl) (fun v26 s26 R26 => ?_) XT.stop
    obtain ⟨rfl, rfl⟩ := R26
    dsimp only [lcA, lnA]
    refine ⟨inferInstance, ?_⟩
    refine XT.q rfl rfl (Q.leq rfl rfl) ?_
    refine XT.st rfl rfl rfl rfl rfl ⟨inferInstance, ?_⟩ XT.stop
    refine XT.done ?_
    refine XK.rt [blk b1 [.int .i64 ((a + 1 : Nat) : Int)] 3, sm] Tryz.func81 Tryz.results81 (.cell1 rfl rfl (.n)) ?_
    rw [if_neg (show ¬ a = Pf.length by omega), if_pos (show Pf.getD a false = true from c1)] at le
    rw [le]
    exact ⟨sm, rfl, rfl, ks⟩
   ·skip
    refine XK.seq (XK.region rfl (XO.q (Q.move rfl) ?_))
    refine XO.len rfl fun l32 => ?_
    refine XO.q (Q.fieldAddr rfl) ?_
    refine XO.q (Q.ld rfl rfl) ?_
    refine XO.len rfl fun l35 => ?_
    refine XO.q (Q.eql rfl rfl) ?_
    refine XO.q (Q.assign rfl) (XO.done ?_)
    refine XK.if rfl (fun c2 => ?_) (fun c2 => ?_)
    ·skip
     refine XK.seq ?_
     refine XK.drawn [0, 1, 3, 4, 5] [b3, b2] [] (.q 0 (.q 1 (.q 3 (.q 4 (.br 2 true (.q 5 (.br 6 false .done .stop)) .stop))))) Tryz.mixed rfl (by kernel_rfl) ?_
     refine XT.q rfl rfl (Q.ldA [_, _, _, _] rfl rfl rfl) ?_
     refine XT.q rfl rfl (Q.move rfl) ?_
     refine XT.q rfl rfl (Q.fieldAddr rfl) ?_
     refine XT.q rfl rfl (Q.ld rfl rfl) ?_
     refine XT.call rfl rfl Tryz.call74 rfl rfl rfl (worth_spec l vl hl K aL rs vr hr m w vw gw ok hwl) (fun v39 s39 R39 => ?_) XT.stop
     obtain ⟨rfl, rfl⟩ := R39
     dsimp only [lcA, lnA]
     refine ⟨inferInstance, ?_⟩
     refine XT.q rfl rfl (Q.leq rfl rfl) ?_
     refine XT.st rfl rfl rfl rfl rfl ⟨inferInstance, ?_⟩ XT.stop
     refine XT.done ?_
     refine XK.rt [blk b1 [.int .i64 ((a + 1 : Nat) : Int)] 3, sm] Tryz.func81 Tryz.results81 (.cell1 rfl rfl (.n)) ?_
     rw [if_neg (show ¬ a = Pf.length by omega), if_neg (show ¬ Pf.getD a false = true from c1), if_pos (show w.length = (l.map Prod.snd).length by omega)] at le
     rw [le]
     exact ⟨sm, rfl, rfl, ks⟩
    ·skip
     refine XK.skip ?_
     refine XK.inBlock ?_
     refine XK.seq (XK.seq (XK.region rfl ?_))
     refine XO.q (Q.ld rfl rfl) ?_
     refine XO.q (Q.move rfl) ?_
     refine XO.call Tryz.call75 rfl rfl rfl (sons_spec l vl hl K aL rs vr hr m w vw gw ok lok (by omega) wok bt bm) fun v45 s45 R45 => ?_
     obtain ⟨bx, by_, rfl, hit⟩ := R45
     dsimp only [lcA, lnA]
     refine XO.done (XK.block ?_)
     refine XK.rangeG (X := Nat) (ps := [46]) (fun a1 => [blk b1 [.int .i64 ((a1 : Nat) : Int)] 3, blk b7 [.bool false] 4]) (fun i a1 => (true, a1) = (holdsTo (⟨(l.map Prod.snd), rs, m⟩ : PTask) Pf W w a i) ∧ a1 ≤ Pf.length) (fun j0 a1 => j0 = Code.ret ∧ ∃ i, i < (psons (⟨(l.map Prod.snd), rs, m⟩ : PTask) w).length ∧ (false, a1) = (holdsTo (⟨(l.map Prod.snd), rs, m⟩ : PTask) Pf W w a (i + 1))) (a + 1) [blk b1 [.int .i64 ((a + 1 : Nat) : Int)] 3, blk b7 [.bool false] 4] (sm) rfl (hit) rfl (⟨rfl, by omega⟩) (ks) rfl (fun i g vs hY => by obtain ⟨v, rfl, _⟩ := hY; rfl) ?_ ?_ ?_
     ·rintro lq rec B' i a1 sm1 g1 vs hi ⟨v46, rfl, O46⟩ ⟨e1, r1⟩ ks1
      dsimp only [lcA, lnA]
      obtain ⟨y, ey, y1, y2⟩ := psons_get (t := (⟨(l.map Prod.snd), rs, m⟩ : PTask)) (w := w) hi
      change (psons (⟨(l.map Prod.snd), rs, m⟩ : PTask) w).getD i [] = w ++ [y] at ey
      have el : ((psons (⟨(l.map Prod.snd), rs, m⟩ : PTask) w).getD i []).length = w.length + 1 := by
       have := congrArg List.length ey
       rw [List.length_append] at this; exact this
      have hn := holds_next e1
      have hl2 := holds_len (t := (⟨(l.map Prod.snd), rs, m⟩ : PTask)) (P := Pf) (W := W) _ ((psons (⟨(l.map Prod.snd), rs, m⟩ : PTask) w).getD i []) a1 (by dsimp only; rw [el]; omega) (Nat.le_refl _) r1
      refine XK.region rfl (XO.q (Q.assign rfl) (XO.done ?_))
      refine XK.beginRound ?_
      refine XK.block (XK.seq (XK.region rfl ?_))
      refine XO.q (Q.ld rfl rfl) ?_
      refine XO.q (Q.move rfl) ?_
      refine XO.call Tryz.call81 rfl rfl rfl (ih ((psons (⟨(l.map Prod.snd), rs, m⟩ : PTask) w).getD i []) v46 g1 a1 sm1 O46 ks1 (by rw [el]; omega) (by rw [el]; omega) (by rw [ey]; exact wok.snoc (by dsimp only; omega) y1 y2) r1) fun v49 s49 R49 => ?_
      obtain ⟨sm2, rfl, rfl, ks2⟩ := R49
      dsimp only [lcA, lnA]
      refine XO.q (Q.not rfl) ?_
      refine XO.done ?_
      refine XK.if rfl (fun c3 => ?_) (fun c3 => ?_)
      ·skip
       refine XK.seq (XK.region rfl ?_)
       refine XO.st rfl rfl rfl ?_
       refine XO.done ?_
       exact XK.leave (j := some .ret) [blk b1 [.int .i64 (((holdsG (⟨(l.map Prod.snd), rs, m⟩ : PTask) Pf W ((psons (⟨(l.map Prod.snd), rs, m⟩ : PTask) w).getD i []) a1).2 : Nat) : Int)] 3, blk b7 [.bool false] 4, sm2] trivial ⟨((holdsG (⟨(l.map Prod.snd), rs, m⟩ : PTask) Pf W ((psons (⟨(l.map Prod.snd), rs, m⟩ : PTask) w).getD i []) a1).2), sm2, ⟨rfl, ⟨i, hi, by rw [hn]; exact Prod.ext (by simpa using c3) rfl⟩⟩, ks2, rfl⟩
      ·skip
       refine XK.skip ?_
       refine XK.inBlock ?_
       exact XK.leave (j := none) [blk b1 [.int .i64 (((holdsG (⟨(l.map Prod.snd), rs, m⟩ : PTask) Pf W ((psons (⟨(l.map Prod.snd), rs, m⟩ : PTask) w).getD i []) a1).2 : Nat) : Int)] 3, blk b7 [.bool false] 4, sm2] trivial ⟨((holdsG (⟨(l.map Prod.snd), rs, m⟩ : PTask) Pf W ((psons (⟨(l.map Prod.snd), rs, m⟩ : PTask) w).getD i []) a1).2), sm2, ⟨by rw [hn]; exact Prod.ext (by simpa using c3) rfl, hl2⟩, ks2, rfl⟩
     ·rintro a1 sm1 ⟨e1, r1⟩ ks1
      dsimp only [lcA, lnA]
      refine XK.inBlock ?_
      refine XK.seq (XK.region rfl ?_)
      refine XO.st rfl rfl rfl ?_
      refine XO.done ?_
      refine XK.rt [blk b1 [.int .i64 ((a1 : Nat) : Int)] 3, sm1] Tryz.func81 Tryz.results81 (.cell1 rfl rfl (.n)) ?_
      rw [if_neg (show ¬ a = Pf.length by omega), if_neg (show ¬ Pf.getD a false = true from c1), if_neg (show ¬ w.length = (l.map Prod.snd).length by omega), ← e1] at le
      rw [le]
      exact ⟨sm1, rfl, rfl, ks1⟩
     ·rintro _ a1 sm1 ⟨rfl, ⟨i, hi, e2⟩⟩ ks1
      dsimp only [lcA, lnA]
      refine XK.rt [blk b1 [.int .i64 ((a1 : Nat) : Int)] 3, sm1] Tryz.func81 Tryz.results81 (.cell1 rfl rfl (.n)) ?_
      rw [if_neg (show ¬ a = Pf.length by omega), if_neg (show ¬ Pf.getD a false = true from c1), if_neg (show ¬ w.length = (l.map Prod.snd).length by omega), holds_stay (n := i + 1) (by rw [← e2]) _ (by omega), ← e2] at le
      rw [le]
      exact ⟨sm1, rfl, rfl, ks1⟩
set_option maxHeartbeats 4000000 in
theorem Verify_spec (l : List (Value × PJob)) (vl : Value) (hl K : PHeap) [jl : Arr vl encPJ 6 hl l] (aL : JobsK l K) (rs : List PRack) (vr : Value) (hr : PHeap) [jr : Arr vr encRack 5 hr rs] (m : PRat) (w : List Int) (vw : Value) (hw : PHeap) [jw : Arr vw encI 1 hw w] (W : Int) (Pf : List Bool) (vP : Value) (hP : PHeap) [jP : Arr vP encB 1 hP Pf] : Spec Tryz.prog 33 #[.agg #[vl, vr, .int .i64 m.n, .int .i64 m.d], .agg #[vw, .int .i64 W, vP]] [] [hl, K, hr, hw, hP] (fun v hs => v = .int .i64 (verifyP (⟨(l.map Prod.snd), rs, m⟩ : PTask) w W Pf) ∧ hs = []) := by
 have nI : OArr (.slice none 0 0) encI 1 3 emp ([] : List Int) := OArr.nil (fun _ => rfl)
 have lm : (l.map Prod.snd).length = l.length := List.length_map ..
 have lp := jP.le
 refine Spec.intro (fn := Tryz.f33) (N := 50) Tryz.func33 rfl Tryz.ntmps33 rfl fun B => ?_
 refine XK.seq (XK.region rfl ?_)
 refine XO.box rfl fun b2 => ?_
 refine XO.box rfl fun b3 => ?_
 refine XO.q (Q.assign rfl) (XO.done (XK.seq (XK.seq (XK.region rfl ?_))))
 refine XO.q (Q.ldA [_, _, _, _] rfl rfl rfl) ?_
 refine XO.call Tryz.call71 rfl rfl rfl (ready_spec l vl hl K aL rs vr hr m) fun v10 s10 R10 => ?_
 obtain ⟨rfl, rfl⟩ := R10
 dsimp only [lcA, lnA]
 refine XO.q (Q.assign rfl) (XO.done (XK.seq (XK.region rfl (XO.q (Q.move rfl) ?_))))
 refine XO.q (Q.neq rfl rfl) ?_
 refine XO.done ?_
 refine XK.if rfl (fun c0 => ?_) (fun c0 => ?_)
 ·skip
  refine XK.seq (XK.region rfl (XO.q (Q.move rfl) (XO.q (Q.assign rfl) (XO.done ?_))))
  refine XK.rt [] Tryz.func33 Tryz.results33 (.t rfl .n) ?_
  exact ⟨by rw [verifyP, if_pos c0], rfl⟩
 ·skip
  have rk := ready_ok (Decidable.of_not_not c0)
  refine XK.skip (XK.seq (XK.seq (XK.region rfl ?_)))
  refine XO.q (Q.ldA [_, _, _, _] rfl rfl rfl) ?_
  refine XO.q (Q.fieldAddr rfl) ?_
  refine XO.q (Q.ld rfl rfl) ?_
  refine XO.call Tryz.call65 rfl rfl rfl (formed_spec l vl hl K aL rs vr hr m w vw hw) fun v17 s17 R17 => ?_
  obtain ⟨rfl, rfl⟩ := R17
  dsimp only [lcA, lnA]
  refine XO.q (Q.neq rfl rfl) ?_
  refine XO.q (Q.move rfl) ?_
  refine XO.q (Quiet.guardF rfl rfl fun g20 p20 => Q.ldA [_, _, _, _] rfl rfl rfl) ?_
  refine XO.q (Quiet.guardF rfl rfl fun g21 p21 => Q.fieldAddr rfl) ?_
  refine XO.q (Quiet.guardF rfl rfl fun g22 p22 => Q.ld (lzv g22 rfl) rfl) ?_
  refine XO.gcallF rfl rfl Tryz.call66 rfl (fun g23 => .c (lzv g23 rfl) (.c (lzv g23 rfl) .n)) rfl (fun g23 p23 => allowed_spec l vl hl K aL rs vr hr m w vw hw (formed_iff (Decidable.of_not_not p23)).1 (formed_iff (Decidable.of_not_not p23)).2.1 (formed_iff (Decidable.of_not_not p23)).2.2.2) ?_
  refine XO.q (Quiet.guardF rfl rfl fun g24 p24 => Q.not (lzv g24 rfl)) ?_
  refine XO.q (Q.or rfl (fun hp => lzv hp rfl)) ?_
  refine XO.done ?_
  refine XK.if rfl (fun c1 => ?_) (fun c1 => ?_)
  ·skip
   refine XK.seq (XK.region rfl (XO.q (Q.assign rfl) (XO.done ?_)))
   refine XK.rt [] Tryz.func33 Tryz.results33 (.t rfl .n) ?_
   exact ⟨by rw [verifyP, if_neg c0, if_pos c1], rfl⟩
  ·skip
   have c1b := not_or.1 c1
   have fk := formed_iff (Decidable.of_not_not c1b.1)
   have hwl : w.length ≤ l.length := by have := fk.2.1.len; dsimp only at this; omega
   refine XK.skip (XK.seq (XK.region rfl ?_))
   refine XO.q (Q.ldA [_, _, _, _] rfl rfl rfl) ?_
   refine XO.map encK2 fun b27 => ?_
   refine XO.q (Q.build [_, _, _, _, _] (.c 0 4 rfl rfl rfl (.c 4 1 rfl rfl rfl (.n _)))) ?_
   refine XO.box rfl fun b29 => ?_
   refine XO.alloc fun b6 => ?_
   refine XO.st rfl rfl rfl ?_
   refine XO.done (XK.seq (XK.region rfl ?_))
   refine XO.alloc fun b7 => ?_
   refine XO.st rfl rfl rfl ?_
   refine XO.done (XK.seq (XK.region rfl ?_))
   refine XO.alloc fun b8 => ?_
   refine XO.done (XK.seq (XK.region rfl ?_))
   refine XO.q (Q.func (fun _ he => rfl) (fun _ he => evs_rel he rfl)) ?_
   refine XO.st rfl rfl rfl ?_
   refine XO.drop (o' := [emp, blk b7 [.int .i64 ((0 : Nat) : Int)] 3, mapH b27 encK2 [], blk b8 [.func (.func 81) #[] #[ptr b7 0, ptr b3 0, ptr b2 0, ptr b6 0, ptr b8 0]] 127, blk b6 [ptr b29 0] 132, blk b29 [vl, vr, .int .i64 m.n, .int .i64 m.d, .map (some b27)] 135, blk b3 [vw, .int .i64 W, vP] 31, blk b2 [vl, vr, .int .i64 m.n, .int .i64 m.d] 27]) ?_
   refine XO.done (XK.seq (XK.seq ?_))
   refine XK.drawn [0, 1, 2, 4, 5, 6, 7, 8, 10, 11, 12, 14, 15, 16, 17, 18] [b2, b3, b8] [] (.q 0 (.q 1 (.q 2 (.q 4 (.q 5 (.br 3 true (.q 6 (.q 7 (.q 8 (.br 9 true (.q 10 (.q 11 (.q 12 (.q 14 (.q 15 (.q 16 (.br 13 true (.q 17 (.q 18 .done)) .stop))))))) .stop)))) .stop)))))) Tryz.mixed rfl (by kernel_rfl) ?_
   refine XT.q rfl rfl (Q.ldA [_, _, _, _] rfl rfl rfl) ?_
   refine XT.q rfl rfl (Q.fieldAddr rfl) ?_
   refine XT.q rfl rfl (Q.ld rfl rfl) ?_
   refine XT.q rfl rfl (Q.fieldAddr rfl) ?_
   refine XT.q rfl rfl (Q.ld rfl rfl) ?_
   refine XT.call rfl rfl Tryz.call74 rfl rfl rfl (worth_spec l vl hl K aL rs vr hr m w vw hw rk.1 hwl) (fun v34 s34 R34 => ?_) XT.stop
   obtain ⟨rfl, rfl⟩ := R34
   dsimp only [lcA, lnA]
   refine ⟨inferInstance, ?_⟩
   refine XT.q rfl rfl (Q.neq rfl rfl) ?_
   rcases hb38 : decide (worthG (⟨(l.map Prod.snd), rs, m⟩ : PTask) w ≠ W) with _ | _
   ·have _ts := True.intro
    refine XT.q rfl rfl (Q.move rfl) ?_
    refine XT.q rfl rfl (Quiet.guardF rfl rfl fun g39 p39 => Q.ld rfl rfl) ?_
    refine XT.callS rfl rfl rfl rfl rfl Tryz.call81 (lzv rfl rfl) (.c rfl .n) rfl (holds_spec l vl hl K aL rs vr hr m rk.1 rk.2 b7 b3 b2 b6 b8 b29 b27 vw W Pf vP hP l.length [] (.slice none 0 0) emp 0 (mapH b27 encK2 []) nI ⟨[], rfl, KnownP.nil _⟩ (Nat.zero_le _) (by simp) (wok_nil _) (Nat.zero_le _)) (fun v40 s40 R40 => ?_) XT.stop
    obtain ⟨sm2, rfl, rfl, ks2⟩ := R40
    dsimp only [lcA, lnA]
    refine ⟨inferInstance, ?_⟩
    refine XT.q rfl rfl (Quiet.guardF rfl rfl fun g41 p41 => Q.not rfl) ?_
    refine XT.q rfl rfl (Q.or rfl (fun hp => lzv hp rfl)) ?_
    refine XT.q rfl rfl (Q.move rfl) ?_
    refine XT.q rfl rfl (Quiet.guardF rfl rfl fun g45 p45 => Q.fieldAddr rfl) ?_
    refine XT.q rfl rfl (Quiet.guardF rfl rfl fun g46 p46 => Q.ld (lzv g46 rfl) rfl) ?_
    refine XT.q rfl rfl (Quiet.guardF rfl rfl fun g47 p47 => Q.len (lzv g47 rfl)) ?_
    refine XT.qs rfl rfl (Quiet.guardF rfl rfl fun g44 p44 => Q.ld rfl rfl) ⟨inferInstance, ?_⟩ XT.stop
    refine XT.q rfl rfl (Quiet.guardF rfl rfl fun g48 p48 => Q.neq (lzv g48 rfl) (lzv g48 rfl)) ?_
    refine XT.q rfl rfl (Q.or rfl (fun hp => lzv hp rfl)) ?_
    refine XT.done ?_
    refine XK.if rfl (fun c2 => ?_) (fun c2 => ?_)
    ·skip
     refine XK.seq (XK.region rfl (XO.q (Q.assign rfl) (XO.done ?_)))
     refine XK.rt [] Tryz.func33 Tryz.results33 (.t rfl .n) ?_
     have hv : verifyP (⟨(l.map Prod.snd), rs, m⟩ : PTask) w W Pf = 7 := by rw [verifyP, if_neg c0, if_neg c1, if_pos (by rw [decide_eq_false_iff_not] at hb38; rcases c2 with (h | h) | h; exact h.elim; exact .inr (.inl h); exact .inr (.inr (by omega)))]
     exact ⟨by rw [hv], rfl⟩
    ·skip
     refine XK.skip (XK.seq (XK.region rfl (XO.q (Q.assign rfl) (XO.done ?_))))
     refine XK.rt [] Tryz.func33 Tryz.results33 (.t rfl .n) ?_
     have hv : verifyP (⟨(l.map Prod.snd), rs, m⟩ : PTask) w W Pf = 0 := by rw [verifyP, if_neg c0, if_neg c1, if_neg (by rw [decide_eq_false_iff_not] at hb38; rintro (h | h | h); exact hb38 h; exact c2 (.inl (.inr h)); exact c2 (.inr (by omega)))]
     exact ⟨by rw [hv], rfl⟩
   ·have _ts := True.intro
    refine XT.q rfl rfl (Q.move rfl) ?_
    refine XT.q rfl rfl (Quiet.off rfl rfl (by decide)) ?_
    refine XT.qs rfl rfl (Quiet.off rfl rfl (by decide)) ⟨inferInstance, ?_⟩ XT.stop
    refine XT.q rfl rfl (Quiet.off rfl rfl (by decide)) ?_
    refine XT.q rfl rfl (Q.or (b := true) (b2 := false) rfl (fun hp => by cases hp)) ?_
    refine XT.q rfl rfl (Q.move rfl) ?_
    refine XT.q rfl rfl (Quiet.guardF rfl rfl fun g45 p45 => Q.fieldAddr rfl) ?_
    refine XT.q rfl rfl (Quiet.guardF rfl rfl fun g46 p46 => Q.ld (lzv g46 rfl) rfl) ?_
    refine XT.q rfl rfl (Quiet.guardF rfl rfl fun g47 p47 => Q.len (lzv g47 rfl)) ?_
    refine XT.qs rfl rfl (Quiet.guardF rfl rfl fun g44 p44 => Q.ld rfl rfl) ⟨inferInstance, ?_⟩ XT.stop
    refine XT.q rfl rfl (Quiet.guardF rfl rfl fun g48 p48 => Q.neq (lzv g48 rfl) (lzv g48 rfl)) ?_
    refine XT.q rfl rfl (Q.or rfl (fun hp => lzv hp rfl)) ?_
    refine XT.done ?_
    refine XK.if rfl (fun c3 => ?_) (fun c3 => ?_)
    ·skip
     refine XK.seq (XK.region rfl (XO.q (Q.assign rfl) (XO.done ?_)))
     refine XK.rt [] Tryz.func33 Tryz.results33 (.t rfl .n) ?_
     have hv : verifyP (⟨(l.map Prod.snd), rs, m⟩ : PTask) w W Pf = 7 := by rw [verifyP, if_neg c0, if_neg c1, if_pos (.inl (by simpa using hb38))]
     exact ⟨by rw [hv], rfl⟩
    ·skip
     refine XK.skip (XK.seq (XK.region rfl (XO.q (Q.assign rfl) (XO.done ?_))))
     refine XK.rt [] Tryz.func33 Tryz.results33 (.t rfl .n) ?_
     exact absurd (.inl (.inl trivial)) c3
end Go.X

set_option linter.unusedSimpArgs false
set_option linter.unusedVariables false
set_option maxRecDepth 20000
namespace Go.X
open Go.Proofs
def encRat (x : PRat) : List Value := [.int .i64 x.n, .int .i64 x.d]
theorem equalI (v1 v2 : Value) (h1 h2 : PHeap) (xs ys : List Int) [s1 : Arr v1 encI 1 h1 xs] [s2 : Arr v2 encI 1 h2 ys] :
  Spec Tryz.prog 28 #[v1, v2] [] [h1, h2] (fun v hs => v = .bool (decide (xs = ys)) ∧ hs = []) := by
 refine Spec.intro (fn := Tryz.f28) (N := 26) Tryz.func28 rfl Tryz.ntmps28 rfl fun B => ?_
 refine XK.seq (XK.region rfl (XO.q (Q.assign rfl) (XO.done (XK.seq (XK.seq ?_)))))
 refine XK.region rfl (XO.q (Q.move rfl) ?_)
 refine XO.len rfl fun l7 => ?_
 refine XO.q (Q.move rfl) ?_
 refine XO.len rfl fun l9 => ?_
 refine XO.q (Q.neq rfl rfl) ?_
 refine XO.done ?_
 refine XK.if rfl (fun c0 => ?_) (fun c0 => ?_)
 ·skip
  refine XK.seq (XK.region rfl (XO.q (Q.assign rfl) (XO.done ?_)))
  refine XK.rt [] Tryz.func28 Tryz.results28 (.t rfl .n) ?_
  exact ⟨by rw [decide_eq_false (fun h => c0 (by rw [h]))], rfl⟩
 ·skip
  refine XK.skip (XK.seq (XK.seq (XK.region rfl (XO.q (Q.move rfl) ?_))))
  refine XO.len rfl fun l12 => ?_
  refine XO.q (Q.move rfl) (XO.done (XK.block ?_))
  refine XK.while (X := Nat) [4, 5, 13, 14, 15, 16, 17, 18, 19, 20, 21, 22, 23, 24, 25] (fun i => [(13, some (.int .i64 (i : Nat)))]) (fun i => []) (fun i => i ≤ xs.length ∧ xs.take i = ys.take i) (fun i => xs.length - i) (0) [] rfl ⟨by omega, rfl⟩ (.c rfl (.base 0 rfl rfl)) ?_
  rintro i ⟨hi, ht⟩ ih0
  dsimp only [lcA, lnA] at ih0 ⊢
  refine XK.seq (XK.region rfl ?_)
  refine XO.q (Q.lss rfl rfl) ?_
  refine XO.done (XK.seq ?_)
  refine XK.if rfl (fun c1 => ?_) (fun c1 => ?_)
  ·skip
   refine XK.skip (XK.seq (XK.block (XK.seq (XK.region rfl (XO.q (Q.move rfl) ?_)))))
   refine XO.q (Q.assign rfl) (XO.done (XK.seq ?_))
   refine XK.drawn [0, 1, 2, 3, 4, 5, 6, 7, 8] [] [] (.q 0 (.q 1 (.q 2 (.q 3 (.q 4 (.q 5 (.q 6 (.q 7 (.q 8 .done))))))))) Tryz.mixed rfl (by kernel_rfl) ?_
   refine XT.q rfl rfl (Q.move rfl) ?_
   refine XT.q rfl rfl (Q.move rfl) ?_
   refine XT.ix rfl rfl rfl rfl (by omega) (by omega) fun i18 => ?_
   refine XT.q rfl rfl (Q.ldE rfl (by first | assumption | omega) rfl) ?_
   refine XT.q rfl rfl (Q.move rfl) ?_
   refine XT.q rfl rfl (Q.move rfl) ?_
   refine XT.ix rfl rfl rfl rfl (by omega) (by omega) fun i22 => ?_
   refine XT.q rfl rfl (Q.ldE rfl (by first | assumption | omega) rfl) ?_
   refine XT.q rfl rfl (Q.neq rfl rfl) ?_
   refine XT.done ?_
   refine XK.if rfl (fun c2 => ?_) (fun c2 => ?_)
   ·skip
    refine XK.seq (XK.region rfl (XO.q (Q.assign rfl) (XO.done ?_)))
    refine XK.rt [] Tryz.func28 Tryz.results28 (.t rfl .n) ?_
    exact ⟨by rw [decide_eq_false (fun h => c2 (by rw [h]))], rfl⟩
   ·skip
    refine XK.skip ?_
    refine XK.inBlock ?_
    refine XK.region rfl ?_
    refine XO.q (Q.add rfl rfl ⟨by omega, by omega⟩) ?_
    refine XO.q (Q.move rfl) (XO.done ?_)
    exact ih0 (i + 1) _ _ ⟨by omega, take_step ht (by omega) (by omega) (Decidable.of_not_not c2)⟩ (by first | omega | (dsimp only; omega)) (.c rfl (.base 30 rfl rfl)) inferInstance
  ·skip
   refine XK.exit rfl ?_
   refine XK.seq (XK.region rfl (XO.q (Q.assign rfl) (XO.done ?_)))
   refine XK.rt [] Tryz.func28 Tryz.results28 (.t rfl .n) ?_
   exact ⟨by rw [decide_eq_true (take_all ht c1 (by omega))], rfl⟩
theorem draw_ne (x y : PDraw) : (!(decide (x.power = y.power) && (decide (x.count = y.count) && true))) = decide (¬ x = y) := by
 cases x; cases y
 rw [Bool.eq_iff_iff]
 simp
theorem equalD (v1 v2 : Value) (h1 h2 : PHeap) (xs ys : List PDraw) [s1 : Arr v1 encDraw 2 h1 xs] [s2 : Arr v2 encDraw 2 h2 ys] :
  Spec Tryz.prog 39 #[v1, v2] [] [h1, h2] (fun v hs => v = .bool (decide (xs = ys)) ∧ hs = []) := by
 refine Spec.intro (fn := Tryz.f39) (N := 26) Tryz.func39 rfl Tryz.ntmps39 rfl fun B => ?_
 refine XK.seq (XK.region rfl (XO.q (Q.assign rfl) (XO.done (XK.seq (XK.seq ?_)))))
 refine XK.region rfl (XO.q (Q.move rfl) ?_)
 refine XO.len rfl fun l7 => ?_
 refine XO.q (Q.move rfl) ?_
 refine XO.len rfl fun l9 => ?_
 refine XO.q (Q.neq rfl rfl) ?_
 refine XO.done ?_
 refine XK.if rfl (fun c0 => ?_) (fun c0 => ?_)
 ·skip
  refine XK.seq (XK.region rfl (XO.q (Q.assign rfl) (XO.done ?_)))
  refine XK.rt [] Tryz.func39 Tryz.results39 (.t rfl .n) ?_
  exact ⟨by rw [decide_eq_false (fun h => c0 (by rw [h]))], rfl⟩
 ·skip
  refine XK.skip (XK.seq (XK.seq (XK.region rfl (XO.q (Q.move rfl) ?_))))
  refine XO.len rfl fun l12 => ?_
  refine XO.q (Q.move rfl) (XO.done (XK.block ?_))
  refine XK.while (X := Nat) [4, 5, 13, 14, 15, 16, 17, 18, 19, 20, 21, 22, 23, 24, 25] (fun i => [(13, some (.int .i64 (i : Nat)))]) (fun i => []) (fun i => i ≤ xs.length ∧ xs.take i = ys.take i) (fun i => xs.length - i) (0) [] rfl ⟨by omega, rfl⟩ (.c rfl (.base 0 rfl rfl)) ?_
  rintro i ⟨hi, ht⟩ ih0
  dsimp only [lcA, lnA] at ih0 ⊢
  refine XK.seq (XK.region rfl ?_)
  refine XO.q (Q.lss rfl rfl) ?_
  refine XO.done (XK.seq ?_)
  refine XK.if rfl (fun c1 => ?_) (fun c1 => ?_)
  ·skip
   refine XK.skip (XK.seq (XK.block (XK.seq (XK.region rfl (XO.q (Q.move rfl) ?_)))))
   refine XO.q (Q.assign rfl) (XO.done (XK.seq ?_))
   refine XK.drawn [0, 1, 2, 3, 4, 5, 6, 7, 8] [] [] (.q 0 (.q 1 (.q 2 (.q 3 (.q 4 (.q 5 (.q 6 (.q 7 (.q 8 .done))))))))) Tryz.mixed rfl (by kernel_rfl) ?_
   refine XT.q rfl rfl (Q.move rfl) ?_
   refine XT.q rfl rfl (Q.move rfl) ?_
   refine XT.ix rfl rfl rfl rfl (by omega) (by omega) fun i18 => ?_
   refine XT.q rfl rfl (Q.ldEA [_, _] rfl (by first | assumption | omega) rfl rfl) ?_
   refine XT.q rfl rfl (Q.move rfl) ?_
   refine XT.q rfl rfl (Q.move rfl) ?_
   refine XT.ix rfl rfl rfl rfl (by omega) (by omega) fun i22 => ?_
   refine XT.q rfl rfl (Q.ldEA [_, _] rfl (by first | assumption | omega) rfl rfl) ?_
   refine XT.q rfl rfl (Q.neqS (us := [_, _]) (vs := [_, _]) rfl rfl inferInstance (by kernel_rfl) (by kernel_rfl) (.c rfl inferInstance inferInstance rfl rfl (.c rfl inferInstance inferInstance rfl rfl .n))) ?_
   rw [draw_ne]
   refine XT.done ?_
   refine XK.if rfl (fun c2 => ?_) (fun c2 => ?_)
   ·skip
    refine XK.seq (XK.region rfl (XO.q (Q.assign rfl) (XO.done ?_)))
    refine XK.rt [] Tryz.func39 Tryz.results39 (.t rfl .n) ?_
    exact ⟨by rw [decide_eq_false (fun h => c2 (by rw [h]))], rfl⟩
   ·skip
    refine XK.skip ?_
    refine XK.inBlock ?_
    refine XK.region rfl ?_
    refine XO.q (Q.add rfl rfl ⟨by omega, by omega⟩) ?_
    refine XO.q (Q.move rfl) (XO.done ?_)
    exact ih0 (i + 1) _ _ ⟨by omega, take_step ht (by omega) (by omega) (Decidable.of_not_not c2)⟩ (by first | omega | (dsimp only; omega)) (.c rfl (.base 30 rfl rfl)) inferInstance
  ·skip
   refine XK.exit rfl ?_
   refine XK.seq (XK.region rfl (XO.q (Q.assign rfl) (XO.done ?_)))
   refine XK.rt [] Tryz.func39 Tryz.results39 (.t rfl .n) ?_
   exact ⟨by rw [decide_eq_true (take_all ht c1 (by omega))], rfl⟩
theorem job_spec : Spec Tryz.prog 13 #[] [] [] (fun v hs => ∃ vd k, v = .agg #[.int .i64 jobX.n0, .int .i64 jobX.n1, .int .i64 jobX.n2, vd, .int .i64 jobX.group, .int .i64 jobX.worth] ∧ hs = [k] ∧ OArr vd encDraw 2 38 k jobX.draws) := by
 refine Spec.intro (fn := Tryz.f13) (N := 6) Tryz.func13 rfl Tryz.ntmps13 rfl fun B => ?_
 refine XK.seq (XK.region rfl ?_)
 refine XO.alloc fun b0 => ?_
 refine XO.done (XK.seq (XK.region rfl ?_))
 refine XO.q (Q.build [_, _, _] (.c 0 1 rfl rfl rfl (.c 1 1 rfl rfl rfl (.c 2 1 rfl rfl rfl (.n _))))) ?_
 refine XO.q (Q.build [_, _] (.c 0 1 rfl rfl rfl (.c 1 1 rfl rfl rfl (.n _)))) ?_
 refine XO.q (Q.build [_, _] (.c 0 1 rfl rfl rfl (.c 1 1 rfl rfl rfl (.n _)))) ?_
 refine XO.lit [_, _, _, _] [_, _, _, _] jobX.draws encDraw (by rfl) (by rfl) rfl (by rfl) (by exact .c 0 2 rfl rfl rfl (.c 2 2 rfl rfl rfl (.n _))) (fun _ => rfl) (by rfl) rfl (by infer_instance) rfl fun v4 h4 O4 => ?_
 refine XO.q (Q.build [_, _, _, _, _, _] (.c 0 3 rfl rfl rfl (.c 3 1 rfl rfl rfl (.c 5 1 rfl rfl rfl (.n _))))) ?_
 refine XO.st rfl rfl rfl ?_
 refine XO.done ?_
 refine XK.rt [h4] Tryz.func13 Tryz.results13 (.cell [_, _, _, _, _, _] rfl rfl rfl (.n)) ?_
 exact ⟨v4, h4, rfl, rfl, O4⟩
theorem JobsK.nil (K : PHeap) : JobsK [] K := fun i hi => absurd hi (Nat.not_lt_zero i)
theorem JobsK.mono {l : List (Value × PJob)} {K K' : PHeap} (a : JobsK l K) (h : leH K K') : JobsK l K' := fun i hi => Arr.le_heap (a i hi) h
theorem JobsK.snoc {l : List (Value × PJob)} {K : PHeap} {x : Value × PJob} (a : JobsK l K) (b : Arr x.1 encDraw 2 K x.2.draws) : JobsK (l ++ [x]) K := each_snoc (Q := fun x : Value × PJob => Arr x.1 encDraw 2 K x.2.draws) a b
theorem task_spec : Spec Tryz.prog 9 #[] [] [] (fun v hs => ∃ vl vr kl K kr l, v = .agg #[vl, vr, .int .i64 1, .int .i64 10] ∧ hs = [kl, K, kr] ∧ OArr vl encPJ 6 41 kl l ∧ JobsK l K ∧ (l.map Prod.snd) = taskX.jobs ∧ OArr vr encRack 5 43 kr taskX.racks) := by
 refine Spec.intro (fn := Tryz.f9) (N := 10) Tryz.func9 rfl Tryz.ntmps9 rfl fun B => ?_
 refine XK.seq (XK.region rfl ?_)
 refine XO.alloc fun b0 => ?_
 refine XO.done (XK.seq (XK.region rfl ?_))
 refine XO.call Tryz.call13 rfl rfl rfl (job_spec) fun v1 s1 R1 => ?_
 obtain ⟨vd1, k1, rfl, rfl, D1⟩ := R1
 dsimp only [lcA, lnA]
 refine XO.call Tryz.call13 rfl rfl rfl (job_spec) fun v2 s2 R2 => ?_
 obtain ⟨vd2, k2, rfl, rfl, D2⟩ := R2
 dsimp only [lcA, lnA]
 refine XO.call Tryz.call13 rfl rfl rfl (job_spec) fun v3 s3 R3 => ?_
 obtain ⟨vd3, k3, rfl, rfl, D3⟩ := R3
 dsimp only [lcA, lnA]
 refine XO.lit [_, _, _, _, _, _, _, _, _, _, _, _, _, _, _, _, _, _] [_, _, _, _, _, _, _, _, _, _, _, _, _, _, _, _, _, _] [(vd1, jobX), (vd2, jobX), (vd3, jobX)] encPJ (by rfl) (by rfl) rfl (by rfl) (by exact .c 0 6 rfl rfl rfl (.c 6 6 rfl rfl rfl (.c 12 6 rfl rfl rfl (.n _)))) (fun _ => rfl) (by rfl) rfl (by infer_instance) rfl fun v4 h4 O4 => ?_
 refine XO.q (Q.build [_, _, _] (.c 0 1 rfl rfl rfl (.c 1 1 rfl rfl rfl (.c 2 1 rfl rfl rfl (.n _))))) ?_
 refine XO.q (Q.build [_, _, _, _, _] (.c 0 3 rfl rfl rfl (.c 3 1 rfl rfl rfl (.n _)))) ?_
 refine XO.lit [_, _, _, _, _] [_, _, _, _, _] taskX.racks encRack (by rfl) (by rfl) rfl (by rfl) (by exact .c 0 5 rfl rfl rfl (.n _)) (fun _ => rfl) (by rfl) rfl (by infer_instance) rfl fun v7 h7 O7 => ?_
 refine XO.cat k1 k2 fun l1 l2 => ?_
 refine XO.cat (cat k1 k2) k3 fun l12 l3 => ?_
 refine XO.q (Q.build [_, _] (.c 0 1 rfl rfl rfl (.c 1 1 rfl rfl rfl (.n _)))) ?_
 refine XO.q (Q.build [_, _, _, _] (.c 0 1 rfl rfl rfl (.c 1 1 rfl rfl rfl (.c 2 2 rfl rfl rfl (.n _))))) ?_
 refine XO.st rfl rfl rfl ?_
 refine XO.done ?_
 refine XK.rt [h4, cat (cat k1 k2) k3, h7] Tryz.func9 Tryz.results9 (.cell [_, _, _, _] rfl rfl rfl (.n)) ?_
 exact ⟨v4, v7, h4, _, h7, _, rfl, rfl, O4, (((JobsK.nil _).snoc (x := (vd1, jobX)) (Arr.le_heap (Arr.le_heap (OArr.arr (s := D1)) l1) l12)).snoc (x := (vd2, jobX)) (Arr.le_heap (Arr.le_heap (OArr.arr (s := D2)) l2) l12)).snoc (x := (vd3, jobX)) (Arr.le_heap (OArr.arr (s := D3)) l3), rfl, O7⟩
set_option maxHeartbeats 2000000 in
theorem awake09 : Spec Tryz.prog 7 #[] [] [] (fun v hs => v = .bool true ∧ hs = []) := by
 refine Spec.intro (fn := Tryz.f7) (N := 72) Tryz.func7 rfl Tryz.ntmps7 rfl fun B => ?_
 refine XK.seq (XK.region rfl (XO.q (Q.assign rfl) (XO.done (XK.seq (XK.region rfl ?_)))))
 refine XO.call Tryz.call13 rfl rfl rfl (job_spec) fun v9 s9 R9 => ?_
 obtain ⟨vd9, k9, rfl, rfl, D9⟩ := R9
 dsimp only [lcA, lnA]
 refine XO.call Tryz.call13 rfl rfl rfl (job_spec) fun v10 s10 R10 => ?_
 obtain ⟨vd10, k10, rfl, rfl, D10⟩ := R10
 dsimp only [lcA, lnA]
 refine XO.lit [_, _, _, _, _, _, _, _, _, _, _, _] [_, _, _, _, _, _, _, _, _, _, _, _] [(vd9, jobX), (vd10, jobX)] encPJ (by rfl) (by rfl) rfl (by rfl) (by exact .c 0 6 rfl rfl rfl (.c 6 6 rfl rfl rfl (.n _))) (fun _ => rfl) (by rfl) rfl (by infer_instance) rfl fun v11 h11 O11 => ?_
 refine XO.cat k9 k10 fun l9 l10 => ?_
 have J11 : JobsK [(vd9, jobX), (vd10, jobX)] (cat k9 k10) := ((JobsK.nil _).snoc (x := (vd9, jobX)) (Arr.le_heap (OArr.arr (s := D9)) l9)).snoc (x := (vd10, jobX)) (Arr.le_heap (OArr.arr (s := D10)) l10)
 refine XO.call Tryz.call37 rfl rfl rfl (Sums_spec [(vd9, jobX), (vd10, jobX)] v11 h11 (cat k9 k10) J11) fun v12 s12 R12 => ?_
 obtain ⟨vo, ko, rfl, rfl, OS⟩ := R12
 dsimp only [lcA, lnA]
 rw [show sumsG (([(vd9, jobX), (vd10, jobX)] : List (Value × PJob)).map Prod.snd) = ([⟨200, 9⟩, ⟨300, 6⟩, ⟨400, 1⟩], 16, 0) from job_sums] at OS
 rw [show sumsG (([(vd9, jobX), (vd10, jobX)] : List (Value × PJob)).map Prod.snd) = ([⟨200, 9⟩, ⟨300, 6⟩, ⟨400, 1⟩], 16, 0) from job_sums]
 dsimp only
 refine XO.q (Q.move rfl) ?_
 refine XO.q (Q.extract rfl rfl) ?_
 refine XO.q (Q.extract rfl rfl) ?_
 refine XO.q (Q.extract rfl rfl) ?_
 refine XO.q (Q.assign rfl) (XO.q (Q.assign rfl) (XO.q (Q.assign rfl) (XO.done (XK.seq (XK.region rfl ?_)))))
 refine XO.call Tryz.call13 rfl rfl rfl (job_spec) fun v17 s17 R17 => ?_
 obtain ⟨vd17, k17, rfl, rfl, D17⟩ := R17
 dsimp only [lcA, lnA]
 refine XO.call Tryz.call13 rfl rfl rfl (job_spec) fun v18 s18 R18 => ?_
 obtain ⟨vd18, k18, rfl, rfl, D18⟩ := R18
 dsimp only [lcA, lnA]
 refine XO.lit [_, _, _, _, _, _, _, _, _, _, _, _] [_, _, _, _, _, _, _, _, _, _, _, _] [(vd17, jobX), (vd18, jobX)] encPJ (by rfl) (by rfl) rfl (by rfl) (by exact .c 0 6 rfl rfl rfl (.c 6 6 rfl rfl rfl (.n _))) (fun _ => rfl) (by rfl) rfl (by infer_instance) rfl fun v19 h19 O19 => ?_
 refine XO.cat k17 k18 fun l17 l18 => ?_
 have J19 : JobsK [(vd17, jobX), (vd18, jobX)] (cat k17 k18) := ((JobsK.nil _).snoc (x := (vd17, jobX)) (Arr.le_heap (OArr.arr (s := D17)) l17)).snoc (x := (vd18, jobX)) (Arr.le_heap (OArr.arr (s := D18)) l18)
 refine XO.call Tryz.call38 rfl rfl rfl (Chance_spec [(vd17, jobX), (vd18, jobX)] v19 h19 (cat k17 k18) J19 300) fun v20 s20 R20 => ?_
 obtain ⟨rfl, rfl⟩ := R20
 dsimp only [lcA, lnA]
 rw [show chanceG (([(vd17, jobX), (vd18, jobX)] : List (Value × PJob)).map Prod.snd) 300 = (⟨1, 16⟩, 0) from job_chance]
 dsimp only
 refine XO.q (Q.move rfl) ?_
 refine XO.q (Q.extract rfl rfl) ?_
 refine XO.q (Q.extract rfl rfl) ?_
 refine XO.alloc fun b4 => ?_
 refine XO.st rfl rfl rfl ?_
 refine XO.q (Q.assign rfl) (XO.done (XK.seq (XK.region rfl ?_)))
 refine XO.call Tryz.call9 rfl rfl rfl (task_spec) fun v24 s24 R24 => ?_
 obtain ⟨vl, vr, kl, K, kr, l, rfl, rfl, Ol, Jl, el, Or⟩ := R24
 dsimp only [lcA, lnA]
 refine XO.call Tryz.call26 rfl rfl rfl (Best_spec l vl kl K Jl taskX.racks vr kr ⟨1, 10⟩) fun v25 s25 R25 => ?_
 obtain ⟨vW, vP, kW, kP, bw, s, p, rfl, rfl, OW, OP, hb, _⟩ := R25
 dsimp only [lcA, lnA]
 rw [show (⟨l.map Prod.snd, taskX.racks, ⟨1, 10⟩⟩ : PTask) = taskX by rw [el]; rfl] at hb
 rw [show (⟨l.map Prod.snd, taskX.racks, ⟨1, 10⟩⟩ : PTask) = taskX by rw [el]; rfl, task_ready]
 have hb := hb task_ready
 have tb := task_best
 have tv := task_verify
 rw [← hb] at tb tv
 obtain ⟨tb1, tb2⟩ := tb
 dsimp only at tb1 tb2 tv
 subst tb1 tb2
 refine XO.q (Q.move rfl) ?_
 refine XO.q (Q.extract rfl rfl) ?_
 refine XO.q (Q.extract rfl rfl) ?_
 refine XO.alloc fun b6 => ?_
 refine XO.st rfl rfl rfl ?_
 refine XO.q (Q.assign rfl) (XO.done (XK.seq ?_))
 refine XK.drawn [0, 1, 2, 3, 4, 5, 6, 7, 8, 9, 10, 11, 12, 13, 14, 15, 16, 17, 18, 21, 22, 23, 24, 25, 26, 27, 28, 29, 32, 33, 34, 35, 36, 37, 38, 40, 42, 43, 44] [b4, b6] [] (.q 0 (.q 1 (.q 2 (.q 3 (.q 4 (.q 5 (.q 6 (.q 7 (.q 8 (.q 9 (.q 10 (.q 11 (.q 12 (.q 13 (.q 14 (.q 15 (.q 16 (.q 17 (.q 18 (.br 19 true (.br 20 true (.q 21 (.q 22 (.q 23 (.q 24 (.q 25 (.q 26 (.q 27 (.q 28 (.q 29 (.br 30 true (.br 31 true (.q 32 (.q 33 (.q 34 (.q 35 (.q 36 (.q 37 (.q 38 (.q 40 (.br 39 true (.br 41 true (.q 42 (.q 43 (.q 44 .done))) .stop) .stop))))))))) .stop) .stop)))))))))) .stop) .stop)))))))))))))))))))) Tryz.mixed rfl (by kernel_rfl) ?_
 refine XT.q rfl rfl (Q.move rfl) ?_
 refine XT.q rfl rfl (Q.eql rfl rfl) ?_
 refine XT.q rfl rfl (Q.move rfl) ?_
 refine XT.q rfl rfl (Quiet.guardT rfl rfl fun g31 p31 => Q.move rfl) ?_
 refine XT.q rfl rfl (Quiet.guardT rfl rfl fun g32 p32 => Q.eql (lzv rfl rfl) rfl) ?_
 refine XT.q rfl rfl (Q.and rfl (fun hp => lzv hp rfl)) ?_
 refine XT.q rfl rfl (Q.move rfl) ?_
 refine XT.q rfl rfl (Quiet.guardT rfl rfl fun g35 p35 => Q.move rfl) ?_
 refine XT.q rfl rfl (Quiet.guardT rfl rfl fun g36 p36 => Q.eql (lzv rfl rfl) rfl) ?_
 refine XT.q rfl rfl (Q.and rfl (fun hp => lzv hp rfl)) ?_
 refine XT.q rfl rfl (Q.move rfl) ?_
 refine XT.q rfl rfl (Quiet.guardT rfl rfl fun g39 p39 => Q.move rfl) ?_
 refine XT.q rfl rfl (Quiet.guardT rfl rfl fun g40 p40 => Q.eql (lzv rfl rfl) rfl) ?_
 refine XT.q rfl rfl (Q.and rfl (fun hp => lzv hp rfl)) ?_
 refine XT.q rfl rfl (Q.move rfl) ?_
 refine XT.q rfl rfl (Quiet.guardT rfl rfl fun g43 p43 => Q.move rfl) ?_
 refine XT.q rfl rfl (Quiet.guardT rfl rfl fun g44 p44 => Q.build [_, _] (.c 0 1 rfl rfl rfl (.c 1 1 rfl rfl rfl (.n _)))) ?_
 refine XT.q rfl rfl (Quiet.guardT rfl rfl fun g45 p45 => Q.build [_, _] (.c 0 1 rfl rfl rfl (.c 1 1 rfl rfl rfl (.n _)))) ?_
 refine XT.q rfl rfl (Quiet.guardT rfl rfl fun g46 p46 => Q.build [_, _] (.c 0 1 rfl rfl rfl (.c 1 1 rfl rfl rfl (.n _)))) ?_
 refine XT.litS [_, _, _, _, _, _] [_, _, _, _, _, _] [(⟨200, 9⟩ : PDraw), ⟨300, 6⟩, ⟨400, 1⟩] encDraw rfl rfl rfl rfl rfl (by rfl) (by rfl) rfl (by rfl) (by exact .c 0 2 (lzv rfl rfl) rfl rfl (.c 2 2 (lzv rfl rfl) rfl rfl (.c 4 2 (lzv rfl rfl) rfl rfl (.n _)))) (fun _ => rfl) (by rfl) rfl (by infer_instance) rfl (fun v47 h47 O47 => ⟨inferInstance, ?_⟩) XT.stop
 refine XT.callS rfl rfl rfl rfl rfl Tryz.call39 rfl (.c (lzv rfl rfl) (.c rfl .n)) rfl (equalD vo v47 ko h47 _ _) (fun v48 s48 R48 => ?_) XT.stop
 obtain ⟨rfl, rfl⟩ := R48
 dsimp only [lcA, lnA]
 refine ⟨inferInstance, ?_⟩
 refine XT.q rfl rfl (Q.and rfl (fun _ => rfl)) ?_
 refine XT.q rfl rfl (Q.move rfl) ?_
 refine XT.q rfl rfl (Quiet.guardT rfl rfl fun g51 p51 => Q.ldA [_, _] rfl rfl rfl) ?_
 refine XT.q rfl rfl (Quiet.guardT rfl rfl fun g52 p52 => Q.build [_, _] (.c 0 1 rfl rfl rfl (.c 1 1 rfl rfl rfl (.n _)))) ?_
 refine XT.q rfl rfl (Quiet.guardT rfl rfl fun g53 p53 => Q.eqlS (us := [_, _]) (vs := [_, _]) (lzv g53 rfl) (lzv g53 rfl) inferInstance (by kernel_rfl) (by kernel_rfl) (.c rfl inferInstance inferInstance rfl rfl (.c rfl inferInstance inferInstance rfl rfl .n))) ?_
 refine XT.q rfl rfl (Q.and rfl (fun hp => lzv hp rfl)) ?_
 refine XT.q rfl rfl (Q.move rfl) ?_
 refine XT.q rfl rfl (Quiet.guardT rfl rfl fun g56 p56 => Q.fieldAddr rfl) ?_
 refine XT.q rfl rfl (Quiet.guardT rfl rfl fun g57 p57 => Q.ld (lzv rfl rfl) rfl) ?_
 refine XT.litS [_, _, _] [_, _, _] [0, 0, -1] encI rfl rfl rfl rfl rfl (by rfl) (by rfl) rfl (by rfl) (by exact .c 0 1 rfl rfl rfl (.c 1 1 rfl rfl rfl (.c 2 1 rfl rfl rfl (.n _)))) (fun _ => rfl) (by rfl) rfl (by infer_instance) rfl (fun v58 h58 O58 => ⟨inferInstance, ?_⟩) XT.stop
 refine XT.callS rfl rfl rfl rfl rfl Tryz.call28 rfl (.c (lzv rfl rfl) (.c rfl .n)) rfl (equalI vW v58 kW h58 _ _) (fun v59 s59 R59 => ?_) XT.stop
 obtain ⟨rfl, rfl⟩ := R59
 dsimp only [lcA, lnA]
 refine ⟨inferInstance, ?_⟩
 refine XT.q rfl rfl (Q.and rfl (fun _ => rfl)) ?_
 refine XT.q rfl rfl (Q.move rfl) ?_
 refine XT.q rfl rfl (Quiet.guardT rfl rfl fun g62 p62 => Q.fieldAddr rfl) ?_
 refine XT.q rfl rfl (Quiet.guardT rfl rfl fun g63 p63 => Q.ld (lzv rfl rfl) rfl) ?_
 refine XT.q rfl rfl (Quiet.guardT rfl rfl fun g64 p64 => Q.eql (lzv rfl rfl) rfl) ?_
 refine XT.q rfl rfl (Q.and rfl (fun hp => lzv hp rfl)) ?_
 refine XT.q rfl rfl (Q.move rfl) ?_
 refine XT.q rfl rfl (Quiet.guardT rfl rfl fun g68 p68 => Q.ldA [_, _, _] rfl rfl rfl) ?_
 refine XT.callS rfl rfl rfl rfl rfl Tryz.call9 rfl (.n) rfl (task_spec) (fun v67 s67 R67 => ?_) XT.stop
 obtain ⟨vl2, vr2, kl2, K2, kr2, l2, rfl, rfl, Ol2, Jl2, el2, Or2⟩ := R67
 dsimp only [lcA, lnA]
 refine ⟨inferInstance, ?_⟩
 refine XT.callS rfl rfl rfl rfl rfl Tryz.call33 rfl (.c rfl (.c (lzv rfl rfl) .n)) rfl (Verify_spec l2 vl2 kl2 K2 Jl2 taskX.racks vr2 kr2 ⟨1, 10⟩ [0, 0, -1] vW kW 10 p vP kP) (fun v69 s69 R69 => ?_) XT.stop
 obtain ⟨rfl, rfl⟩ := R69
 dsimp only [lcA, lnA]
 refine ⟨inferInstance, ?_⟩
 rw [show (⟨l2.map Prod.snd, taskX.racks, ⟨1, 10⟩⟩ : PTask) = taskX by rw [el2]; rfl, tv]
 refine XT.q rfl rfl (Quiet.guardT rfl rfl fun g70 p70 => Q.eql rfl rfl) ?_
 refine XT.q rfl rfl (Q.and rfl (fun hp => lzv hp rfl)) ?_
 refine XT.q rfl rfl (Q.assign rfl) ?_
 refine XT.done ?_
 refine XK.rt [] Tryz.func7 Tryz.results7 (.t rfl .n) ?_
 exact ⟨rfl, rfl⟩
end Go.X

set_option linter.unusedSimpArgs false
set_option linter.unusedVariables false
set_option maxRecDepth 20000
namespace Go.X
open Go.Proofs
set_option maxHeartbeats 2000000 in
theorem rFill_spec (l : List (Value × PJob)) (vl : Value) (hl K : PHeap) [jl : Arr vl encPJ 6 hl l] (aL : JobsK l K) (limit : Int) (m : PRat) : Spec Tryz.prog 49 #[vl, .int .i64 limit, .agg #[.int .i64 m.n, .int .i64 m.d]] [] [hl, K] (fun v hs => v = .tuple #[.int .i64 (fillG (l.map Prod.snd) limit m).1, .int .i64 (fillG (l.map Prod.snd) limit m).2] ∧ hs = []) := by
 have ll := jl.le
 have lm : (l.map Prod.snd).length = l.length := List.length_map ..
 refine Spec.intro (fn := Tryz.f49) (N := 38) Tryz.func49 rfl Tryz.ntmps49 rfl fun B => ?_
 refine XK.seq (XK.region rfl ?_)
 refine XO.box rfl fun b5 => ?_
 refine XO.q (Q.assign rfl) (XO.q (Q.assign rfl) (XO.done (XK.seq (XK.seq (XK.region rfl ?_)))))
 refine XO.q (Q.move rfl) ?_
 refine XO.call Tryz.call91 rfl rfl rfl (rlisted_spec l vl hl K aL) fun v13 s13 R13 => ?_
 obtain ⟨rfl, rfl⟩ := R13
 dsimp only [lcA, lnA]
 refine XO.q (Q.move rfl) ?_
 refine XO.q (Q.extract rfl rfl) ?_
 refine XO.q (Q.extract rfl rfl) ?_
 refine XO.q (Q.assign rfl) (XO.q (Q.assign rfl) (XO.done (XK.seq (XK.region rfl (XO.q (Q.move rfl) ?_)))))
 refine XO.q (Q.neq rfl rfl) ?_
 refine XO.done ?_
 refine XK.if rfl (fun c0 => ?_) (fun c0 => ?_)
 ·skip
  refine XK.seq (XK.region rfl (XO.q (Q.move rfl) (XO.q (Q.assign rfl) (XO.q (Q.assign rfl) (XO.done ?_)))))
  refine XK.rt [] Tryz.func49 Tryz.results49 (.t rfl (.t rfl .n)) ?_
  exact ⟨by rw [fillG, if_pos c0], rfl⟩
 ·skip
  have ok := listed_ok.1 (Decidable.of_not_not c0)
  have few := ok.few
  rw [lm] at few
  refine XK.skip (XK.seq (XK.seq (XK.region rfl ?_)))
  refine XO.q (Q.ldA [_, _] rfl rfl rfl) ?_
  refine XO.call Tryz.call64 rfl rfl rfl (chanceRef_spec m) fun v20 s20 R20 => ?_
  obtain ⟨rfl, rfl⟩ := R20
  dsimp only [lcA, lnA]
  refine XO.q (Q.not rfl) ?_
  refine XO.done ?_
  refine XK.if rfl (fun c1 => ?_) (fun c1 => ?_)
  ·skip
   refine XK.seq (XK.region rfl (XO.q (Q.assign rfl) (XO.q (Q.assign rfl) (XO.done ?_))))
   refine XK.rt [] Tryz.func49 Tryz.results49 (.t rfl (.t rfl .n)) ?_
   exact ⟨by rw [fillG, if_neg c0, if_pos c1], rfl⟩
  ·skip
   have hm : chanceR m = true := Decidable.of_not_not c1
   refine XK.skip (XK.seq (XK.region rfl (XO.q (Q.assign rfl) (XO.done (XK.seq ?_)))))
   refine XK.block ?_
   refine XK.while (X := Nat) [10, 22, 23, 24, 25, 26, 27, 28, 29, 30, 31, 32, 33, 34, 35, 36] (fun n => [(10, some (.int .i64 (n : Nat)))]) (fun n => []) (fun n => n ≤ l.length ∧ fillTo (l.map Prod.snd) limit m (l.map Prod.snd).length 0 = fillTo (l.map Prod.snd) limit m (l.length - n) n) (fun n => l.length - n) (0) [] rfl ⟨by omega, by rw [lm]; rfl⟩ (.c rfl (.base 0 rfl rfl)) ?_
   rintro n ⟨hn, hf⟩ ih0
   dsimp only [lcA, lnA] at ih0 ⊢
   refine XK.seq (XK.seq ?_)
   refine XK.drawn [0, 1, 2, 3, 4, 5, 6, 7, 8, 9, 10, 12] [b5] [] (.q 0 (.q 1 (.q 2 (.q 3 (.q 4 (.q 5 (.q 6 (.q 7 (.q 8 (.q 9 (.q 10 (.br 11 true (.q 12 .done) .stop)))))))))))) Tryz.mixed rfl (by kernel_rfl) ?_
   refine XT.q rfl rfl (Q.move rfl) ?_
   refine XT.q rfl rfl (Q.move rfl) ?_
   refine XT.q rfl rfl (Q.len rfl) ?_
   refine XT.q rfl rfl (Q.lss rfl rfl) ?_
   rcases hb25 : decide ((n : Int) < (l.length : Int)) with _ | _
   ·have _ts := True.intro
    refine XT.q rfl rfl (Q.move rfl) ?_
    refine XT.q rfl rfl (Quiet.off rfl rfl (by decide)) ?_
    refine XT.q rfl rfl (Quiet.off rfl rfl (by decide)) ?_
    refine XT.q rfl rfl (Quiet.off rfl rfl (by decide)) ?_
    try rw [show ((n : Nat) : Int) + 1 = ((n + 1 : Nat) : Int) from rfl]
    refine XT.q rfl rfl (Quiet.off rfl rfl (by decide)) ?_
    refine XT.q rfl rfl (Quiet.off rfl rfl (by decide)) ?_
    refine XT.q rfl rfl (Quiet.off rfl rfl (by decide)) ?_
    refine XT.qs rfl rfl (Quiet.off rfl rfl (by decide)) ⟨inferInstance, ?_⟩ XT.stop
    refine XT.q rfl rfl (Q.and (b := false) (b2 := false) rfl (fun hp => by cases hp)) ?_
    refine XT.done ?_
    refine XK.if rfl (fun c2 => ?_) (fun c2 => ?_)
    ·skip
     simp at c2
    ·skip
     have hnl : n = l.length := by rw [decide_eq_false_iff_not] at hb25; omega
     have e1 : fillTo (l.map Prod.snd) limit m (l.length - n) n = n := by rw [show l.length - n = 0 by omega]; rfl
     refine XK.exit rfl ?_
     refine XK.seq (XK.region rfl (XO.q (Q.move rfl) (XO.q (Q.assign rfl) (XO.q (Q.assign rfl) (XO.done ?_)))))
     refine XK.rt [] Tryz.func49 Tryz.results49 (.t rfl (.t rfl .n)) ?_
     exact ⟨by rw [fillG, if_neg c0, if_neg c1, hf, e1], rfl⟩
   ·have _ts := True.intro
    have hlt : n < l.length := by rw [decide_eq_true_eq] at hb25; omega
    refine XT.q rfl rfl (Q.move rfl) ?_
    refine XT.q rfl rfl (Quiet.guardT rfl rfl fun g27 p27 => Q.move rfl) ?_
    refine XT.q rfl rfl (Quiet.guardT rfl rfl fun g28 p28 => Q.move rfl) ?_
    refine XT.q rfl rfl (Quiet.guardT rfl rfl fun g29 p29 => Q.add (lzv rfl rfl) rfl ⟨by omega, by omega⟩) ?_
    try rw [show ((n : Nat) : Int) + 1 = ((n + 1 : Nat) : Int) from rfl]
    refine XT.q rfl rfl (Quiet.guardT rfl rfl fun g30 p30 => Q.cut (i := 0) (j := n + 1) (lzv rfl rfl) .n (.s (lzv rfl rfl) (by omega)) (by omega) (by omega)) ?_
    refine XT.q rfl rfl (Quiet.guardT rfl rfl fun g31 p31 => Q.move rfl) ?_
    refine XT.q rfl rfl (Quiet.guardT rfl rfl fun g32 p32 => Q.ldA [_, _] rfl rfl rfl) ?_
    refine XT.callS rfl rfl rfl rfl rfl Tryz.call97 rfl (.c (lzv rfl rfl) (.c (lzv rfl rfl) (.c (lzv rfl rfl) .n))) rfl (by haveI := Arr.cut jl (i := 0) (j := n + 1) (by omega) (by omega); exact rare_spec ((l.drop 0).take ((n + 1) - 0)) (cutv vl 6 0 (n + 1)) hl K (aL.cut (by omega)) (by rw [cut_map]; exact ok.take (n + 1)) limit m hm) (fun v33 s33 R33 => ?_) XT.stop
    obtain ⟨rfl, rfl⟩ := R33
    dsimp only [lcA, lnA]
    refine ⟨inferInstance, ?_⟩
    rw [cut_map]
    refine XT.q rfl rfl (Q.and rfl (fun _ => rfl)) ?_
    refine XT.done ?_
    refine XK.if rfl (fun c3 => ?_) (fun c3 => ?_)
    ·skip
     have hlt : n < l.length := by rw [decide_eq_true_eq] at hb25; omega
     have e1 : fillTo (l.map Prod.snd) limit m (l.length - n) n = fillTo (l.map Prod.snd) limit m (l.length - (n + 1)) (n + 1) := by rw [show l.length - n = (l.length - (n + 1)) + 1 by omega, fillTo, if_pos (show fillB (l.map Prod.snd) limit m (n + 1) = true by simpa [fillB] using c3)]
     refine XK.skip (XK.block (XK.region rfl (XO.q (Q.move rfl) ?_)))
     refine XO.q (Q.add rfl rfl ⟨by omega, by omega⟩) ?_
     refine XO.q (Q.assign rfl) (XO.done ?_)
     refine XK.inBlock ?_
     exact ih0 (n + 1) _ _ ⟨by omega, by rw [hf, e1]⟩ (by first | omega | (dsimp only; omega)) (.c rfl (.base 33 rfl rfl)) inferInstance
    ·skip
     have hlt : n < l.length := by rw [decide_eq_true_eq] at hb25; omega
     have e1 : fillTo (l.map Prod.snd) limit m (l.length - n) n = n := by rw [show l.length - n = (l.length - n - 1) + 1 by omega, fillTo, if_neg (show ¬ fillB (l.map Prod.snd) limit m (n + 1) = true by simpa [fillB] using c3)]
     refine XK.exit rfl ?_
     refine XK.seq (XK.region rfl (XO.q (Q.move rfl) (XO.q (Q.assign rfl) (XO.q (Q.assign rfl) (XO.done ?_)))))
     refine XK.rt [] Tryz.func49 Tryz.results49 (.t rfl (.t rfl .n)) ?_
     exact ⟨by rw [fillG, if_neg c0, if_neg c1, hf, e1], rfl⟩
set_option maxHeartbeats 1000000 in
theorem rSums_spec (l : List (Value × PJob)) (vl : Value) (hl K : PHeap) [jl : Arr vl encPJ 6 hl l] (aL : JobsK l K) : Spec Tryz.prog 42 #[vl] [] [hl, K] (fun v hs => ∃ vo ko, v = .tuple #[vo, .int .i64 (sumsG (l.map Prod.snd)).2.1, .int .i64 (sumsG (l.map Prod.snd)).2.2] ∧ hs = [ko] ∧ OArr vo encDraw 2 103 ko (sumsG (l.map Prod.snd)).1) := by
 have nD : OArr (.slice none 0 0) encDraw 2 103 emp ([] : List PDraw) := OArr.nil (fun _ => rfl)
 refine Spec.intro (fn := Tryz.f42) (N := 42) Tryz.func42 rfl Tryz.ntmps42 rfl fun B => ?_
 refine XK.seq (XK.region rfl (XO.q (Q.assign rfl) (XO.q (Q.assign rfl) (XO.q (Q.assign rfl) (XO.done ?_)))))
 refine XK.seq (XK.region rfl (XO.q (Q.move rfl) ?_))
 refine XO.call Tryz.call91 rfl rfl rfl (rlisted_spec l vl hl K aL) fun v12 s12 R12 => ?_
 obtain ⟨rfl, rfl⟩ := R12
 dsimp only [lcA, lnA]
 refine XO.q (Q.move rfl) ?_
 refine XO.q (Q.extract rfl rfl) ?_
 refine XO.q (Q.extract rfl rfl) ?_
 refine XO.q (Q.assign rfl) (XO.q (Q.assign rfl) (XO.done (XK.seq (XK.seq (XK.region rfl ?_)))))
 refine XO.q (Q.move rfl) ?_
 refine XO.q (Q.neq rfl rfl) ?_
 refine XO.done ?_
 refine XK.if rfl (fun c0 => ?_) (fun c0 => ?_)
 ·skip
  refine XK.seq (XK.region rfl (XO.q (Q.move rfl) (XO.q (Q.assign rfl) (XO.q (Q.assign rfl) (XO.q (Q.assign rfl) ?_)))))
  refine XO.done ?_
  refine XK.rt [emp] Tryz.func42 Tryz.results42 (.t rfl (.t rfl (.t rfl .n))) ?_
  have hz : (sumsG (l.map Prod.snd)) = ([], 0, (listedG (l.map Prod.snd)).2) := by rw [sumsG, if_pos c0]
  rw [hz]
  exact ⟨.slice none 0 0, emp, rfl, rfl, nD⟩
 ·skip
  have ok := listed_ok.1 (Decidable.of_not_not c0)
  refine XK.skip (XK.seq (XK.region rfl (XO.q (Q.assign rfl) (XO.done (XK.seq ?_)))))
  refine XK.region rfl (XO.q (Q.move rfl) ?_)
  refine XO.call Tryz.call92 rfl rfl rfl (counts_spec l vl hl K aL ok) fun v19 s19 R19 => ?_
  obtain ⟨kc, CC, rfl, OC, hC, hlC⟩ := R19
  dsimp only [lcA, lnA]
  refine XO.q (Q.assign rfl) (XO.done (XK.seq (XK.seq (XK.region rfl (XO.q (Q.assign rfl) ?_)))))
  refine XO.done (XK.block ?_)
  refine XK.while (X := Nat × Value × PHeap) [7, 9, 20, 21, 22, 23, 24, 25, 26, 27, 28, 29, 30, 31, 32, 33, 34, 35, 36, 37, 38, 39] (fun ⟨i, vo, ko⟩ => [(9, some (.int .i64 (i : Nat))), (7, some (vo))]) (fun ⟨i, vo, ko⟩ => [ko]) (fun ⟨i, vo, ko⟩ => i ≤ CC.length ∧ OArr vo encDraw 2 103 ko (sumC CC i)) (fun ⟨i, vo, ko⟩ => CC.length - i) (0, .slice none 0 0, emp) [emp] rfl ⟨by omega, nD⟩ (.c rfl (.c rfl (.base 0 rfl rfl))) ?_
  rintro ⟨i, vo, ko⟩ ⟨hi, OV⟩ ih0
  dsimp only [lcA, lnA] at ih0 ⊢
  refine XK.seq (XK.seq (XK.region rfl (XO.q (Q.move rfl) (XO.q (Q.move rfl) ?_))))
  refine XO.len rfl fun l22 => ?_
  refine XO.q (Q.lss rfl rfl) ?_
  refine XO.done ?_
  refine XK.if rfl (fun c1 => ?_) (fun c1 => ?_)
  ·skip
   refine XK.skip (XK.seq (XK.block (XK.seq (XK.region rfl (XO.q (Q.move rfl) ?_)))))
   refine XO.q (Q.move rfl) ?_
   refine XO.ix rfl rfl (by omega) (by omega) fun i28 => ?_
   refine XO.q (Q.ldE rfl (by first | assumption | omega) rfl) ?_
   refine XO.q (Q.gtr rfl rfl) ?_
   refine XO.done ?_
   refine XK.if rfl (fun c2 => ?_) (fun c2 => ?_)
   ·skip
    have e1 : sumC CC (i + 1) = sumC CC i ++ [⟨(i : Int), CC.getD i default⟩] := by rw [sumC, if_pos c2]
    refine XK.region rfl (XO.q (Q.move rfl) (XO.q (Q.move rfl) (XO.q (Q.move rfl) (XO.q (Q.move rfl) ?_))))
    refine XO.ix rfl rfl (by omega) (by omega) fun i35 => ?_
    refine XO.q (Q.ldE rfl (by first | assumption | omega) rfl) ?_
    refine XO.q (Q.build [_, _] (.c 0 1 rfl rfl rfl (.c 1 1 rfl rfl rfl (.n _)))) ?_
    refine XO.lit [_, _] [_, _] [⟨(i : Int), CC.getD i default⟩] encDraw (by rfl) (by rfl) rfl (by rfl) (by exact .c 0 2 rfl rfl rfl (.n _)) (fun _ => rfl) (by rfl) rfl (by infer_instance) rfl fun v38 h38 O38 => ?_
    refine XO.append rfl rfl rfl rfl (by have := sumC_len CC i; simp only [List.length_cons, List.length_nil]; omega) fun v39 h39 O39 => ?_
    refine XO.q (Q.assign rfl) (XO.done ?_)
    refine XK.inBlock ?_
    refine XK.region rfl (XO.q (Q.move rfl) ?_)
    refine XO.q (Q.add rfl rfl ⟨by omega, by omega⟩) ?_
    refine XO.q (Q.assign rfl) (XO.done ?_)
    exact ih0 (i + 1, v39, h39) _ _ ⟨by dsimp only; omega, by dsimp only; rw [e1]; exact O39⟩ (by first | omega | (dsimp only; omega)) (.c rfl (.c rfl (.base 46 rfl rfl))) inferInstance
   ·skip
    have e1 : sumC CC (i + 1) = sumC CC i := by rw [sumC, if_neg c2, List.append_nil]
    refine XK.skip ?_
    refine XK.inBlock ?_
    refine XK.region rfl (XO.q (Q.move rfl) ?_)
    refine XO.q (Q.add rfl rfl ⟨by omega, by omega⟩) ?_
    refine XO.q (Q.assign rfl) (XO.done ?_)
    exact ih0 (i + 1, vo, ko) _ _ ⟨by dsimp only; omega, by dsimp only; rw [e1]; exact OV⟩ (by first | omega | (dsimp only; omega)) (.c rfl (.c rfl (.base 36 rfl rfl))) inferInstance
  ·skip
   have hin : i = CC.length := by omega
   subst hin
   rw [sumC_all hC] at OV
   refine XK.exit rfl ?_
   refine XK.seq (XK.region rfl (XO.q (Q.move rfl) (XO.q (Q.move rfl) (XO.q (Q.assign rfl) (XO.q (Q.assign rfl) ?_)))))
   refine XO.q (Q.assign rfl) (XO.done ?_)
   refine XK.rt [ko] Tryz.func42 Tryz.results42 (.t rfl (.t rfl (.t rfl .n))) ?_
   have hz : (sumsG (l.map Prod.snd)) = (sumsL (combos (l.map Prod.snd)), (listedG (l.map Prod.snd)).1, 0) := by rw [sumsG, if_neg c0]
   rw [hz]
   exact ⟨vo, ko, rfl, rfl, OV⟩
theorem draw_eqR (x y : PDraw) : (decide (x.power = y.power) && (decide (x.count = y.count) && true)) = decide (x = y) := by
 cases x; cases y
 rw [Bool.eq_iff_iff]
 simp
theorem sameDraw (x y : PDraw) : Spec Tryz.prog 44 #[.agg #[.int .i64 x.power, .int .i64 x.count], .agg #[.int .i64 y.power, .int .i64 y.count]] [] [] (fun v hs => v = .bool (decide (x = y)) ∧ hs = []) := by
 refine Spec.intro (fn := Tryz.f44) (N := 8) Tryz.func44 rfl Tryz.ntmps44 rfl fun B => ?_
 refine XK.seq (XK.region rfl ?_)
 refine XO.box rfl fun b2 => ?_
 refine XO.box rfl fun b3 => ?_
 refine XO.q (Q.assign rfl) (XO.done (XK.seq (XK.region rfl ?_)))
 refine XO.q (Q.ldA [_, _] rfl rfl rfl) ?_
 refine XO.q (Q.ldA [_, _] rfl rfl rfl) ?_
 refine XO.q (Q.eqlS (us := [_, _]) (vs := [_, _]) rfl rfl inferInstance (by kernel_rfl) (by kernel_rfl) (.c rfl inferInstance inferInstance rfl rfl (.c rfl inferInstance inferInstance rfl rfl .n))) ?_
 rw [draw_eqR]
 refine XO.q (Q.assign rfl) (XO.done ?_)
 refine XK.rt [] Tryz.func44 Tryz.results44 (.t rfl .n) ?_
 exact ⟨rfl, rfl⟩
theorem equalDF (v1 v2 : Value) (h1 h2 : PHeap) (xs ys : List PDraw) [s1 : Arr v1 encDraw 2 h1 xs] [s2 : Arr v2 encDraw 2 h2 ys] :
  Spec Tryz.prog 43 #[v1, v2, .func (.func 44) #[] #[]] [] [h1, h2] (fun v hs => v = .bool (decide (xs = ys)) ∧ hs = []) := by
 have l1 := s1.le
 refine Spec.intro (fn := Tryz.f43) (N := 32) Tryz.func43 rfl Tryz.ntmps43 rfl fun B => ?_
 refine XK.seq (XK.region rfl (XO.q (Q.assign rfl) (XO.done (XK.seq (XK.seq ?_)))))
 refine XK.region rfl (XO.q (Q.move rfl) ?_)
 refine XO.len rfl fun l11 => ?_
 refine XO.q (Q.move rfl) ?_
 refine XO.len rfl fun l13 => ?_
 refine XO.q (Q.neq rfl rfl) ?_
 refine XO.done ?_
 refine XK.if rfl (fun c0 => ?_) (fun c0 => ?_)
 ·skip
  refine XK.seq (XK.region rfl (XO.q (Q.assign rfl) (XO.done ?_)))
  refine XK.rt [] Tryz.func43 Tryz.results43 (.t rfl .n) ?_
  exact ⟨by rw [decide_eq_false (fun h => c0 (by rw [h]))], rfl⟩
 ·skip
  refine XK.skip (XK.seq (XK.seq (XK.region rfl (XO.q (Q.move rfl) ?_))))
  refine XO.len rfl fun l16 => ?_
  refine XO.q (Q.move rfl) (XO.done (XK.block ?_))
  refine XK.while (X := Nat) [6, 7, 8, 9, 17, 18, 19, 20, 21, 22, 23, 24, 25, 26, 27, 28, 29, 30, 31] (fun i => [(17, some (.int .i64 (i : Nat)))]) (fun i => []) (fun i => i ≤ xs.length ∧ xs.take i = ys.take i) (fun i => xs.length - i) (0) [] rfl ⟨by omega, rfl⟩ (.c rfl (.base 0 rfl rfl)) ?_
  rintro i ⟨hi, ht⟩ ih0
  dsimp only [lcA, lnA] at ih0 ⊢
  refine XK.seq (XK.region rfl ?_)
  refine XO.q (Q.lss rfl rfl) ?_
  refine XO.done (XK.seq ?_)
  refine XK.if rfl (fun c1 => ?_) (fun c1 => ?_)
  ·skip
   refine XK.skip (XK.seq (XK.block (XK.seq (XK.region rfl (XO.q (Q.move rfl) ?_)))))
   refine XO.ix rfl rfl (by omega) (by omega) fun i20 => ?_
   refine XO.q (Q.ldEA [_, _] rfl (by first | assumption | omega) rfl rfl) ?_
   refine XO.alloc fun b8 => ?_
   refine XO.q (Q.assign rfl) ?_
   refine XO.st rfl rfl rfl ?_
   refine XO.done (XK.seq (XK.region rfl (XO.q (Q.move rfl) (XO.q (Q.move rfl) ?_))))
   refine XO.ix rfl rfl (by omega) (by omega) fun i24 => ?_
   refine XO.q (Q.ldEA [_, _] rfl (by first | assumption | omega) rfl rfl) ?_
   refine XO.alloc fun b9 => ?_
   refine XO.st rfl rfl rfl ?_
   refine XO.done (XK.seq (XK.region rfl (XO.q (Q.move rfl) ?_)))
   refine XO.q (Q.ldA [_, _] rfl rfl rfl) ?_
   refine XO.q (Q.ldA [_, _] rfl rfl rfl) ?_
   refine XO.call Tryz.call44 rfl rfl rfl (sameDraw _ _) fun v29 s29 R29 => ?_
   obtain ⟨rfl, rfl⟩ := R29
   dsimp only [lcA, lnA]
   refine XO.q (Q.not rfl) ?_
   refine XO.done ?_
   refine XK.if rfl (fun c2 => ?_) (fun c2 => ?_)
   ·skip
    refine XK.seq (XK.region rfl (XO.q (Q.assign rfl) (XO.done ?_)))
    refine XK.rt [] Tryz.func43 Tryz.results43 (.t rfl .n) ?_
    exact ⟨by rw [decide_eq_false (fun h => c2 (by rw [h]))], rfl⟩
   ·skip
    refine XK.skip ?_
    refine XK.inBlock ?_
    refine XK.region rfl ?_
    refine XO.q (Q.add rfl rfl ⟨by omega, by omega⟩) ?_
    refine XO.q (Q.move rfl) (XO.done ?_)
    exact ih0 (i + 1) _ _ ⟨by omega, take_step ht (by omega) (by omega) (by simpa using c2)⟩ (by first | omega | (dsimp only; omega)) (.c rfl (.base 38 rfl rfl)) inferInstance
  ·skip
   refine XK.exit rfl ?_
   refine XK.seq (XK.region rfl (XO.q (Q.assign rfl) (XO.done ?_)))
   refine XK.rt [] Tryz.func43 Tryz.results43 (.t rfl .n) ?_
   exact ⟨by rw [decide_eq_true (take_all ht (by omega) (by omega))], rfl⟩
end Go.X

set_option linter.unusedSimpArgs false
set_option linter.unusedVariables false
set_option maxRecDepth 20000
namespace Go.X
open Go.Proofs
theorem cloneDr (v : Value) (h : PHeap) (xs : List PDraw) [s : Arr v encDraw 2 h xs] (hl : xs.length ≤ 68719476736) :
  Spec Tryz.prog 90 #[v] [] [h] (fun v' hs => ∃ h', hs = [h'] ∧ OArr v' encDraw 2 38 h' xs) := by
 refine Spec.intro (fn := Tryz.f90) (N := 8) Tryz.func90 rfl Tryz.ntmps90 rfl fun B => ?_
 refine XK.seq (XK.region rfl (XO.q (Q.assign rfl) (XO.done (XK.seq (XK.seq ?_)))))
 refine XK.region rfl (XO.q (Q.move rfl) ?_)
 refine XO.eqNil rfl fun z4 hz4 => ?_
 refine XO.done ?_
 refine XK.if rfl (fun c0 => ?_) (fun c0 => ?_)
 ·skip
  refine XK.seq (XK.region rfl (XO.q (Q.assign rfl) (XO.done ?_)))
  refine XK.rt [emp] Tryz.func90 Tryz.results90 (.t rfl .n) ?_
  exact ⟨emp, rfl, by rw [(hz4 c0).1]; exact OArr.nil (fun _ => rfl)⟩
 ·skip
  refine XK.skip (XK.seq (XK.region rfl ?_))
  refine XO.lit [] [] [] encDraw (by rfl) (by rfl) rfl (by rfl) (by exact .n _) (fun _ => rfl) (by rfl) rfl (by infer_instance) rfl fun v5 h5 O5 => ?_
  refine XO.q (Q.move rfl) ?_
  refine XO.append rfl rfl rfl rfl (by first | omega | (simp; omega)) fun v7 h7 O7 => ?_
  refine XO.q (Q.assign rfl) (XO.done ?_)
  refine XK.rt [h7] Tryz.func90 Tryz.results90 (.t rfl .n) ?_
  exact ⟨h7, rfl, O7⟩
theorem keptOne (j : PJob) (va vb : Value) (ha hb : PHeap) [ia : Arr va encDraw 2 ha j.draws] [ib : Arr vb encDraw 2 hb j.draws] : Spec Tryz.prog 84 #[.agg #[.int .i64 j.n0, .int .i64 j.n1, .int .i64 j.n2, va, .int .i64 j.group, .int .i64 j.worth], .agg #[.int .i64 j.n0, .int .i64 j.n1, .int .i64 j.n2, vb, .int .i64 j.group, .int .i64 j.worth]] [] [ha, hb] (fun v hs => v = .bool true ∧ hs = []) := by
 refine Spec.intro (fn := Tryz.f84) (N := 31) Tryz.func84 rfl Tryz.ntmps84 rfl fun B => ?_
 refine XK.seq (XK.region rfl ?_)
 refine XO.box rfl fun b2 => ?_
 refine XO.box rfl fun b3 => ?_
 refine XO.q (Q.assign rfl) (XO.done (XK.seq (XK.region rfl ?_)))
 refine XO.q (Q.fieldAddr rfl) ?_
 refine XO.q (Q.ldA [_, _, _] rfl rfl rfl) ?_
 refine XO.q (Q.fieldAddr rfl) ?_
 refine XO.q (Q.ldA [_, _, _] rfl rfl rfl) ?_
 refine XO.q (Q.eqlT rfl rfl inferInstance inferInstance inferInstance inferInstance (by kernel_rfl)) ?_
 refine XO.q (Q.move rfl) ?_
 refine XO.q (Quiet.guardT rfl rfl fun g11 p11 => Q.fieldAddr rfl) ?_
 refine XO.q (Quiet.guardT rfl rfl fun g12 p12 => Q.ld (lzv rfl rfl) rfl) ?_
 refine XO.q (Quiet.guardT rfl rfl fun g13 p13 => Q.fieldAddr rfl) ?_
 refine XO.q (Quiet.guardT rfl rfl fun g14 p14 => Q.ld (lzv rfl rfl) rfl) ?_
 refine XO.q (Quiet.guardT rfl rfl fun g15 p15 => Q.eql (lzv rfl rfl) (lzv rfl rfl)) ?_
 rw [decide_eq_true (show j.group = j.group from rfl)]
 refine XO.q (Q.and rfl (fun hp => lzv hp rfl)) ?_
 refine XO.q (Q.move rfl) ?_
 refine XO.q (Quiet.guardT rfl rfl fun g18 p18 => Q.fieldAddr rfl) ?_
 refine XO.q (Quiet.guardT rfl rfl fun g19 p19 => Q.ld (lzv rfl rfl) rfl) ?_
 refine XO.q (Quiet.guardT rfl rfl fun g20 p20 => Q.fieldAddr rfl) ?_
 refine XO.q (Quiet.guardT rfl rfl fun g21 p21 => Q.ld (lzv rfl rfl) rfl) ?_
 refine XO.q (Quiet.guardT rfl rfl fun g22 p22 => Q.eql (lzv rfl rfl) (lzv rfl rfl)) ?_
 rw [decide_eq_true (show j.worth = j.worth from rfl)]
 refine XO.q (Q.and rfl (fun hp => lzv hp rfl)) ?_
 refine XO.q (Q.move rfl) ?_
 refine XO.q (Quiet.guardT rfl rfl fun g25 p25 => Q.fieldAddr rfl) ?_
 refine XO.q (Quiet.guardT rfl rfl fun g26 p26 => Q.ld (lzv rfl rfl) rfl) ?_
 refine XO.q (Quiet.guardT rfl rfl fun g27 p27 => Q.fieldAddr rfl) ?_
 refine XO.q (Quiet.guardT rfl rfl fun g28 p28 => Q.ld (lzv rfl rfl) rfl) ?_
 refine XO.callS rfl rfl rfl Tryz.call39 rfl (.c (lzv rfl rfl) (.c (lzv rfl rfl) .n)) rfl (equalD va vb ha hb j.draws j.draws) fun v29 s29 R29 => ?_
 obtain ⟨rfl, rfl⟩ := R29
 dsimp only [lcA, lnA]
 rw [decide_eq_true (show j.draws = j.draws from rfl)]
 refine XO.q (Q.and rfl (fun _ => rfl)) ?_
 refine XO.q (Q.assign rfl) (XO.done ?_)
 refine XK.rt [] Tryz.func84 Tryz.results84 (.t rfl .n) ?_
 exact ⟨rfl, rfl⟩
theorem equalJF (a b : List (Value × PJob)) (va vb : Value) (ha hb Ka Kb : PHeap) [ia : Arr va encPJ 6 ha a] [ib : Arr vb encPJ 6 hb b] (ja : JobsK a Ka) (jb : JobsK b Kb) (same : a.map Prod.snd = b.map Prod.snd) : Spec Tryz.prog 83 #[va, vb, .func (.func 84) #[] #[]] [] [ha, hb, Ka, Kb] (fun v hs => v = .bool true ∧ hs = []) := by
 have l1 := ia.le
 have sl : a.length = b.length := by have := congrArg List.length same; rwa [List.length_map, List.length_map] at this
 refine Spec.intro (fn := Tryz.f83) (N := 32) Tryz.func83 rfl Tryz.ntmps83 rfl fun B => ?_
 refine XK.seq (XK.region rfl (XO.q (Q.assign rfl) (XO.done (XK.seq (XK.seq ?_)))))
 refine XK.region rfl (XO.q (Q.move rfl) ?_)
 refine XO.len rfl fun l11 => ?_
 refine XO.q (Q.move rfl) ?_
 refine XO.len rfl fun l13 => ?_
 refine XO.q (Q.neq rfl rfl) ?_
 refine XO.done ?_
 refine XK.if rfl (fun c0 => ?_) (fun c0 => ?_)
 ·skip
  exact absurd c0 (by omega)
 ·skip
  refine XK.skip (XK.seq (XK.seq (XK.region rfl (XO.q (Q.move rfl) ?_))))
  refine XO.len rfl fun l16 => ?_
  refine XO.q (Q.move rfl) (XO.done (XK.block ?_))
  refine XK.while (X := Nat) [6, 7, 8, 9, 17, 18, 19, 20, 21, 22, 23, 24, 25, 26, 27, 28, 29, 30, 31] (fun i => [(17, some (.int .i64 (i : Nat)))]) (fun i => []) (fun i => i ≤ a.length) (fun i => a.length - i) (0) [] rfl (by omega) (.c rfl (.base 0 rfl rfl)) ?_
  rintro i hi ih0
  dsimp only [lcA, lnA] at ih0 ⊢
  refine XK.seq (XK.region rfl ?_)
  refine XO.q (Q.lss rfl rfl) ?_
  refine XO.done (XK.seq ?_)
  refine XK.if rfl (fun c1 => ?_) (fun c1 => ?_)
  ·skip
   have eb : (b.getD i default).2 = (a.getD i default).2 := by rw [← map_snd_atP, ← same, map_snd_atP]
   have ai := ja i (by omega)
   have bi := jb i (by omega)
   rw [eb] at bi
   have bi0 := jb i (by omega)
   refine XK.skip (XK.seq (XK.block (XK.seq (XK.region rfl (XO.q (Q.move rfl) ?_)))))
   refine XO.ix rfl rfl (by omega) (by omega) fun i20 => ?_
   refine XO.q (Q.ldEA [_, _, _, _, _, _] rfl (by first | assumption | omega) rfl rfl) ?_
   refine XO.alloc fun b8 => ?_
   refine XO.q (Q.assign rfl) ?_
   refine XO.st rfl rfl rfl ?_
   refine XO.done (XK.seq (XK.region rfl (XO.q (Q.move rfl) (XO.q (Q.move rfl) ?_))))
   refine XO.ix rfl rfl (by omega) (by omega) fun i24 => ?_
   refine XO.q (Q.ldEA [_, _, _, _, _, _] rfl (by first | assumption | omega) rfl rfl) ?_
   rw [eb]
   refine XO.alloc fun b9 => ?_
   refine XO.st rfl rfl rfl ?_
   refine XO.done (XK.seq (XK.region rfl (XO.q (Q.move rfl) ?_)))
   refine XO.q (Q.ldA [_, _, _, _, _, _] rfl rfl rfl) ?_
   refine XO.q (Q.ldA [_, _, _, _, _, _] rfl rfl rfl) ?_
   refine XO.call Tryz.call84 rfl rfl rfl ((by haveI := ai; haveI := bi; exact keptOne (a.getD i default).2 (a.getD i default).1 (b.getD i default).1 Ka Kb)) fun v29 s29 R29 => ?_
   obtain ⟨rfl, rfl⟩ := R29
   dsimp only [lcA, lnA]
   refine XO.q (Q.not rfl) ?_
   refine XO.done ?_
   refine XK.if rfl (fun c2 => ?_) (fun c2 => ?_)
   ·skip
    simp at c2
   ·skip
    refine XK.skip ?_
    refine XK.inBlock ?_
    refine XK.region rfl ?_
    refine XO.q (Q.add rfl rfl ⟨by omega, by omega⟩) ?_
    refine XO.q (Q.move rfl) (XO.done ?_)
    exact ih0 (i + 1) _ _ (by omega) (by first | omega | (dsimp only; omega)) (.c rfl (.base 38 rfl rfl)) inferInstance
  ·skip
   refine XK.exit rfl ?_
   refine XK.seq (XK.region rfl (XO.q (Q.assign rfl) (XO.done ?_)))
   refine XK.rt [] Tryz.func83 Tryz.results83 (.t rfl .n) ?_
   exact ⟨rfl, rfl⟩
theorem kept_spec (a b : List (Value × PJob)) (va vb : Value) (ha hb Ka Kb : PHeap) [ia : Arr va encPJ 6 ha a] [ib : Arr vb encPJ 6 hb b] (ja : JobsK a Ka) (jb : JobsK b Kb) (same : a.map Prod.snd = b.map Prod.snd) : Spec Tryz.prog 35 #[va, vb] [] [ha, hb, Ka, Kb] (fun v hs => v = .bool true ∧ hs = []) := by
 refine Spec.intro (fn := Tryz.f35) (N := 8) Tryz.func35 rfl Tryz.ntmps35 rfl fun B => ?_
 refine XK.seq (XK.region rfl (XO.q (Q.assign rfl) (XO.done (XK.seq (XK.region rfl ?_)))))
 refine XO.q (Q.move rfl) (XO.q (Q.move rfl) ?_)
 refine XO.call Tryz.call83 rfl rfl rfl (equalJF a b va vb ha hb Ka Kb ja jb same) fun v7 s7 R7 => ?_
 obtain ⟨rfl, rfl⟩ := R7
 dsimp only [lcA, lnA]
 refine XO.q (Q.assign rfl) (XO.done ?_)
 refine XK.rt [] Tryz.func35 Tryz.results35 (.t rfl .n) ?_
 exact ⟨rfl, rfl⟩
end Go.X

set_option linter.unusedSimpArgs false
set_option linter.unusedVariables false
set_option maxRecDepth 20000
namespace Go.X
open Go.Proofs
theorem snocJ {l a : List (Value × PJob)} {i : Nat} {v : Value} (ea : a.map Prod.snd = ((l.map Prod.snd)).take i) (hi : i < l.length) : (a ++ [(v, (l.getD i default).2)]).map Prod.snd = ((l.map Prod.snd)).take (i + 1) := by
 rw [List.map_append, ea, take_snocP (by rw [List.length_map]; exact hi), map_snd_atP]; rfl
set_option maxHeartbeats 4000000 in
theorem jobs_spec (l : List (Value × PJob)) (vl : Value) (hl K : PHeap) [jl : Arr vl encPJ 6 hl l] (aL : JobsK l K) (few : l.length ≤ 1000) (sm : ∀ i, i < l.length → (l.getD i default).2.draws.length ≤ 1000) : Spec Tryz.prog 41 #[vl] [] [hl, K] (fun v hs => ∃ va vb ka kb Ka Kb a b, v = .tuple #[va, vb] ∧ hs = [ka, kb, Ka, Kb] ∧ OArr va encPJ 6 41 ka a ∧ OArr vb encPJ 6 124 kb b ∧ JobsK a Ka ∧ JobsK b Kb ∧ a.map Prod.snd = (l.map Prod.snd) ∧ b.map Prod.snd = (l.map Prod.snd)) := by
 have nP : OArr (.slice none 0 0) encPJ 6 41 emp ([] : List (Value × PJob)) := OArr.nil (fun _ => rfl)
 have nQ : OArr (.slice none 0 0) encPJ 6 124 emp ([] : List (Value × PJob)) := OArr.nil (fun _ => rfl)
 have nD : OArr (.slice none 0 0) encDraw 2 103 emp ([] : List PDraw) := OArr.nil (fun _ => rfl)
 refine Spec.intro (fn := Tryz.f41) (N := 53) Tryz.func41 rfl Tryz.ntmps41 rfl fun B => ?_
 refine XK.seq (XK.region rfl (XO.q (Q.assign rfl) (XO.q (Q.assign rfl) (XO.done (XK.seq ?_)))))
 refine XK.region rfl (XO.q (Q.assign rfl) (XO.done (XK.seq (XK.region rfl (XO.q (Q.assign rfl) ?_)))))
 refine XO.done (XK.seq (XK.seq (XK.region rfl (XO.q (Q.move rfl) ?_))))
 refine XO.len rfl fun l12 => ?_
 refine XO.q (Q.move rfl) (XO.done (XK.block ?_))
 refine XK.while (X := Nat × Value × Value × PHeap × PHeap × PHeap × PHeap × List (Value × PJob) × List (Value × PJob)) [4, 5, 7, 8, 10, 13, 14, 15, 16, 17, 18, 19, 20, 21, 22, 23, 24, 25, 26, 27, 28, 29, 30, 31, 32, 33, 34, 35, 36, 37, 38, 39, 40, 41, 42, 43, 44, 45, 46, 47, 48, 49, 50] (fun ⟨i, va, vb, ka, kb, Ka, Kb, a, b⟩ => [(13, some (.int .i64 (i : Nat))), (4, some (va)), (5, some (vb))]) (fun ⟨i, va, vb, ka, kb, Ka, Kb, a, b⟩ => [ka, kb, Ka, Kb]) (fun ⟨i, va, vb, ka, kb, Ka, Kb, a, b⟩ => i ≤ l.length ∧ OArr va encPJ 6 41 ka a ∧ OArr vb encPJ 6 124 kb b ∧ JobsK a Ka ∧ JobsK b Kb ∧ a.map Prod.snd = (l.map Prod.snd).take i ∧ b.map Prod.snd = (l.map Prod.snd).take i) (fun ⟨i, va, vb, ka, kb, Ka, Kb, a, b⟩ => l.length - i) (0, .slice none 0 0, .slice none 0 0, emp, emp, emp, emp, [], []) [emp, emp, emp, emp] rfl ⟨by omega, nP, nQ, JobsK.nil _, JobsK.nil _, by rw [List.take_zero]; rfl, by rw [List.take_zero]; rfl⟩ (.c rfl (.c rfl (.c rfl (.base 0 rfl rfl)))) ?_
 rintro ⟨i, va, vb, ka, kb, Ka, Kb, a, b⟩ ⟨hi, OA, OB, JA, JB, ea, eb⟩ ih0
 dsimp only [lcA, lnA] at ih0 ⊢
 refine XK.seq (XK.region rfl ?_)
 refine XO.q (Q.lss rfl rfl) ?_
 refine XO.done (XK.seq ?_)
 refine XK.if rfl (fun c0 => ?_) (fun c0 => ?_)
 ·skip
  have ai := aL i (by omega)
  have sd := sm i (by omega)
  refine XK.skip (XK.seq (XK.block (XK.seq (XK.region rfl ?_))))
  refine XO.ix rfl rfl (by omega) (by omega) fun i15 => ?_
  refine XO.q (Q.ldEA [_, _, _, _, _, _] rfl (by first | assumption | omega) rfl rfl) ?_
  refine XO.alloc fun b7 => ?_
  refine XO.st rfl rfl rfl ?_
  refine XO.done (XK.seq (XK.region rfl ?_))
  refine XO.q (Q.fieldAddr rfl) ?_
  refine XO.q (Q.ldA [_, _, _] rfl rfl rfl) ?_
  refine XO.q (Q.fieldAddr rfl) ?_
  refine XO.q (Q.ld rfl rfl) ?_
  refine XO.q (Q.fieldAddr rfl) ?_
  refine XO.q (Q.ld rfl rfl) ?_
  refine XO.q (Q.build [_, _, _, _, _, _] (.c 0 3 rfl rfl rfl (.c 4 1 rfl rfl rfl (.c 5 1 rfl rfl rfl (.n _))))) ?_
  refine XO.alloc fun b8 => ?_
  refine XO.st rfl rfl rfl ?_
  refine XO.done (XK.seq (XK.seq (XK.region rfl ?_)))
  refine XO.q (Q.fieldAddr rfl) ?_
  refine XO.q (Q.ld rfl rfl) ?_
  refine XO.len rfl fun l26 => ?_
  refine XO.q (Q.move rfl) (XO.done (XK.block ?_))
  refine XK.while (X := Nat × Value × PHeap) [10, 27, 28, 29, 30, 31, 32, 33, 34, 35, 36, 37] (fun ⟨q, vd, kd⟩ => [(27, some (.int .i64 (q : Nat)))]) (fun ⟨q, vd, kd⟩ => [blk b8 [.int .i64 (l.getD i default).2.n0, .int .i64 (l.getD i default).2.n1, .int .i64 (l.getD i default).2.n2, vd, .int .i64 (l.getD i default).2.group, .int .i64 (l.getD i default).2.worth] 124, kd]) (fun ⟨q, vd, kd⟩ => q ≤ (l.getD i default).2.draws.length ∧ OArr vd encDraw 2 103 kd ((l.getD i default).2.draws.take q)) (fun ⟨q, vd, kd⟩ => (l.getD i default).2.draws.length - q) (0, .slice none 0 0, emp) [blk b8 [.int .i64 (l.getD i default).2.n0, .int .i64 (l.getD i default).2.n1, .int .i64 (l.getD i default).2.n2, .slice none 0 0, .int .i64 (l.getD i default).2.group, .int .i64 (l.getD i default).2.worth] 124, emp] rfl ⟨by omega, by rw [List.take_zero]; exact nD⟩ (.c rfl (.base 0 rfl rfl)) ?_
  rintro ⟨q, vd, kd⟩ ⟨hq, OD⟩ ih1
  dsimp only [lcA, lnA] at ih1 ⊢
  refine XK.seq (XK.region rfl ?_)
  refine XO.q (Q.lss rfl rfl) ?_
  refine XO.done (XK.seq ?_)
  refine XK.if rfl (fun c1 => ?_) (fun c1 => ?_)
  ·skip
   refine XK.skip (XK.seq (XK.block (XK.seq (XK.region rfl ?_))))
   refine XO.ix rfl rfl (by omega) (by omega) fun i29 => ?_
   refine XO.q (Q.ldEA [_, _] rfl (by first | assumption | omega) rfl rfl) ?_
   refine XO.alloc fun b10 => ?_
   refine XO.st rfl rfl rfl ?_
   refine XO.done (XK.region rfl ?_)
   refine XO.q (Q.fieldAddr rfl) ?_
   refine XO.q (Q.ld rfl rfl) ?_
   refine XO.q (Q.ldA [_, _] rfl rfl rfl) ?_
   refine XO.lit [_, _] [_, _] [(l.getD i default).2.draws.getD q default] encDraw (by rfl) (by rfl) rfl (by rfl) (by exact .c 0 2 rfl rfl rfl (.n _)) (fun _ => rfl) (by rfl) rfl (by infer_instance) rfl fun v34 h34 O34 => ?_
   refine XO.append rfl rfl rfl rfl (by simp only [List.length_take, List.length_cons, List.length_nil]; omega) fun v35 h35 O35 => ?_
   refine XO.q (Q.fieldAddr rfl) ?_
   refine XO.st rfl rfl rfl ?_
   refine XO.done ?_
   refine XK.inBlock ?_
   refine XK.region rfl ?_
   refine XO.q (Q.add rfl rfl ⟨by omega, by omega⟩) ?_
   refine XO.q (Q.move rfl) (XO.done ?_)
   exact ih1 (q + 1, v35, h35) _ _ ⟨by dsimp only; omega, by dsimp only; rw [take_snocP (by omega)]; exact O35⟩ (by first | omega | (dsimp only; omega)) (.c rfl (.base 25 rfl rfl)) inferInstance
  ·skip
   have hq2 : q = (l.getD i default).2.draws.length := by omega
   subst hq2
   rw [List.take_length] at OD
   refine XK.exit rfl ?_
   refine XK.seq (XK.region rfl ?_)
   refine XO.q (Q.fieldAddr rfl) ?_
   refine XO.q (Q.ld rfl rfl) ?_
   refine XO.call Tryz.call90 rfl rfl rfl (cloneDr (l.getD i default).1 K (l.getD i default).2.draws (by omega)) fun v40 s40 R40 => ?_
   obtain ⟨h40, rfl, O40⟩ := R40
   dsimp only [lcA, lnA]
   refine XO.cat Ka h40 fun la1 la2 => ?_
   refine XO.cat Kb kd fun lb1 lb2 => ?_
   refine XO.q (Q.fieldAddr rfl) ?_
   refine XO.st rfl rfl rfl ?_
   refine XO.done ?_
   refine XK.drawn [0, 1, 4, 5, 8, 9] [b7, b8] [] (.q 0 (.q 1 (.q 4 (.q 5 (.br 2 true (.br 3 true (.br 6 true (.br 7 true (.q 8 (.q 9 .done)) .stop) .stop) (.br 6 true (.br 3 true (.br 7 true (.q 8 (.q 9 .done)) .stop) .stop) .stop)) (.br 6 true (.br 2 true (.br 3 true (.br 7 true (.q 8 (.q 9 .done)) .stop) .stop) .stop) .stop)))))) Tryz.mixed rfl (by kernel_rfl) ?_
   refine XT.q rfl rfl (Q.move rfl) ?_
   refine XT.q rfl rfl (Q.ldA [_, _, _, _, _, _] rfl rfl rfl) ?_
   refine XT.q rfl rfl (Q.move rfl) ?_
   refine XT.q rfl rfl (Q.ldA [_, _, _, _, _, _] rfl rfl rfl) ?_
   refine XT.lit [_, _, _, _, _, _] [_, _, _, _, _, _] [(v40, (l.getD i default).2)] encPJ rfl rfl (by rfl) (by rfl) rfl (by rfl) (by exact .c 0 6 rfl rfl rfl (.n _)) (fun _ => rfl) (by rfl) rfl (by infer_instance) rfl (fun v44 h44 O44 => ⟨inferInstance, ?_⟩) ?_
   ·skip
    refine XT.append rfl rfl rfl rfl rfl rfl (by have := congrArg List.length ea; rw [List.length_map, List.length_take] at this; simp only [List.length_cons, List.length_nil]; omega) (fun v45 h45 O45 => ⟨inferInstance, ?_⟩) ?_
    ·skip
     refine XT.lit [_, _, _, _, _, _] [_, _, _, _, _, _] [(vd, (l.getD i default).2)] encPJ rfl rfl (by rfl) (by rfl) rfl (by rfl) (by exact .c 0 6 rfl rfl rfl (.n _)) (fun _ => rfl) (by rfl) rfl (by infer_instance) rfl (fun v48 h48 O48 => ⟨inferInstance, ?_⟩) XT.stop
     refine XT.append rfl rfl rfl rfl rfl rfl (by have := congrArg List.length eb; rw [List.length_map, List.length_take] at this; simp only [List.length_cons, List.length_nil]; omega) (fun v49 h49 O49 => ⟨inferInstance, ?_⟩) XT.stop
     refine XT.q rfl rfl (Q.assign rfl) ?_
     refine XT.q rfl rfl (Q.assign rfl) ?_
     refine XT.done ?_
     refine XK.inBlock ?_
     refine XK.region rfl ?_
     refine XO.q (Q.add rfl rfl ⟨by omega, by omega⟩) ?_
     refine XO.q (Q.move rfl) (XO.done ?_)
     exact ih0 (i + 1, v45, v49, h45, h49, cat Ka h40, cat Kb kd, a ++ [(v40, (l.getD i default).2)], b ++ [(vd, (l.getD i default).2)]) _ _ ⟨by dsimp only; omega, O45, O49, by dsimp only; exact (JA.mono la1).snoc (Arr.le_heap (OArr.arr (s := O40)) la2), by dsimp only; exact (JB.mono lb1).snoc (Arr.le_heap (OArr.arr (s := OD)) lb2), by dsimp only; exact snocJ ea (by omega), by dsimp only; exact snocJ eb (by omega)⟩ (by first | omega | (dsimp only; omega)) (.c rfl (.c rfl (.c rfl (.base 92 rfl rfl)))) inferInstance
    ·skip
     refine XT.lit [_, _, _, _, _, _] [_, _, _, _, _, _] [(vd, (l.getD i default).2)] encPJ rfl rfl (by rfl) (by rfl) rfl (by rfl) (by exact .c 0 6 rfl rfl rfl (.n _)) (fun _ => rfl) (by rfl) rfl (by infer_instance) rfl (fun v48 h48 O48 => ⟨inferInstance, ?_⟩) XT.stop
     refine XT.append rfl rfl rfl rfl rfl rfl (by have := congrArg List.length ea; rw [List.length_map, List.length_take] at this; simp only [List.length_cons, List.length_nil]; omega) (fun v45 h45 O45 => ⟨inferInstance, ?_⟩) XT.stop
     refine XT.append rfl rfl rfl rfl rfl rfl (by have := congrArg List.length eb; rw [List.length_map, List.length_take] at this; simp only [List.length_cons, List.length_nil]; omega) (fun v49 h49 O49 => ⟨inferInstance, ?_⟩) XT.stop
     refine XT.q rfl rfl (Q.assign rfl) ?_
     refine XT.q rfl rfl (Q.assign rfl) ?_
     refine XT.done ?_
     refine XK.inBlock ?_
     refine XK.region rfl ?_
     refine XO.q (Q.add rfl rfl ⟨by omega, by omega⟩) ?_
     refine XO.q (Q.move rfl) (XO.done ?_)
     exact ih0 (i + 1, v45, v49, h45, h49, cat Ka h40, cat Kb kd, a ++ [(v40, (l.getD i default).2)], b ++ [(vd, (l.getD i default).2)]) _ _ ⟨by dsimp only; omega, O45, O49, by dsimp only; exact (JA.mono la1).snoc (Arr.le_heap (OArr.arr (s := O40)) la2), by dsimp only; exact (JB.mono lb1).snoc (Arr.le_heap (OArr.arr (s := OD)) lb2), by dsimp only; exact snocJ ea (by omega), by dsimp only; exact snocJ eb (by omega)⟩ (by first | omega | (dsimp only; omega)) (.c rfl (.c rfl (.c rfl (.base 92 rfl rfl)))) inferInstance
   ·skip
    refine XT.lit [_, _, _, _, _, _] [_, _, _, _, _, _] [(vd, (l.getD i default).2)] encPJ rfl rfl (by rfl) (by rfl) rfl (by rfl) (by exact .c 0 6 rfl rfl rfl (.n _)) (fun _ => rfl) (by rfl) rfl (by infer_instance) rfl (fun v48 h48 O48 => ⟨inferInstance, ?_⟩) XT.stop
    refine XT.lit [_, _, _, _, _, _] [_, _, _, _, _, _] [(v40, (l.getD i default).2)] encPJ rfl rfl (by rfl) (by rfl) rfl (by rfl) (by exact .c 0 6 rfl rfl rfl (.n _)) (fun _ => rfl) (by rfl) rfl (by infer_instance) rfl (fun v44 h44 O44 => ⟨inferInstance, ?_⟩) XT.stop
    refine XT.append rfl rfl rfl rfl rfl rfl (by have := congrArg List.length ea; rw [List.length_map, List.length_take] at this; simp only [List.length_cons, List.length_nil]; omega) (fun v45 h45 O45 => ⟨inferInstance, ?_⟩) XT.stop
    refine XT.append rfl rfl rfl rfl rfl rfl (by have := congrArg List.length eb; rw [List.length_map, List.length_take] at this; simp only [List.length_cons, List.length_nil]; omega) (fun v49 h49 O49 => ⟨inferInstance, ?_⟩) XT.stop
    refine XT.q rfl rfl (Q.assign rfl) ?_
    refine XT.q rfl rfl (Q.assign rfl) ?_
    refine XT.done ?_
    refine XK.inBlock ?_
    refine XK.region rfl ?_
    refine XO.q (Q.add rfl rfl ⟨by omega, by omega⟩) ?_
    refine XO.q (Q.move rfl) (XO.done ?_)
    exact ih0 (i + 1, v45, v49, h45, h49, cat Ka h40, cat Kb kd, a ++ [(v40, (l.getD i default).2)], b ++ [(vd, (l.getD i default).2)]) _ _ ⟨by dsimp only; omega, O45, O49, by dsimp only; exact (JA.mono la1).snoc (Arr.le_heap (OArr.arr (s := O40)) la2), by dsimp only; exact (JB.mono lb1).snoc (Arr.le_heap (OArr.arr (s := OD)) lb2), by dsimp only; exact snocJ ea (by omega), by dsimp only; exact snocJ eb (by omega)⟩ (by first | omega | (dsimp only; omega)) (.c rfl (.c rfl (.c rfl (.base 92 rfl rfl)))) inferInstance
 ·skip
  have hil : i = l.length := by omega
  subst hil
  rw [List.take_of_length_le (by rw [List.length_map]; exact Nat.le_refl _)] at ea eb
  refine XK.exit rfl ?_
  refine XK.seq (XK.region rfl (XO.q (Q.move rfl) (XO.q (Q.move rfl) (XO.q (Q.assign rfl) (XO.q (Q.assign rfl) ?_)))))
  refine XO.done ?_
  refine XK.rt [ka, kb, Ka, Kb] Tryz.func41 Tryz.results41 (.t rfl (.t rfl .n)) ?_
  exact ⟨va, vb, ka, kb, Ka, Kb, a, b, rfl, rfl, OA, OB, JA, JB, ea, eb⟩
end Go.X

set_option linter.unusedSimpArgs false
set_option linter.unusedVariables false
set_option maxRecDepth 20000
namespace Go.X
open Go.Proofs
set_option maxHeartbeats 4000000 in
theorem chances_spec (l : List (Value × PJob)) (vl : Value) (hl K : PHeap) [jl : Arr vl encPJ 6 hl l] (aL : JobsK l K) (few : l.length ≤ 1000) (sm : ∀ i, i < l.length → (l.getD i default).2.draws.length ≤ 1000) (r : PRack) (lim : Int) (m : PRat) : Spec Tryz.prog 10 #[vl, .agg #[.int .i64 r.r0, .int .i64 r.r1, .int .i64 r.r2, .int .i64 r.cap, .int .i64 r.domain], .int .i64 lim, .agg #[.int .i64 m.n, .int .i64 m.d]] [] [hl, K] (fun v hs => v = .bool true ∧ hs = []) := by
 refine Spec.intro (fn := Tryz.f10) (N := 121) Tryz.func10 rfl Tryz.ntmps10 rfl fun B => ?_
 refine XK.seq (XK.region rfl ?_)
 refine XO.box rfl fun b5 => ?_
 refine XO.box rfl fun b7 => ?_
 refine XO.q (Q.assign rfl) (XO.done (XK.seq (XK.region rfl (XO.q (Q.move rfl) ?_))))
 refine XO.call Tryz.call41 rfl rfl rfl (jobs_spec l vl hl K aL few sm) fun v23 s23 R23 => ?_
 obtain ⟨va, vb, ka, kb, Ka, Kb, a, b, rfl, rfl, OA, OB, JA, JB, ea, eb⟩ := R23
 dsimp only [lcA, lnA]
 refine XO.q (Q.move rfl) ?_
 refine XO.q (Q.extract rfl rfl) ?_
 refine XO.q (Q.extract rfl rfl) ?_
 refine XO.q (Q.assign rfl) (XO.q (Q.assign rfl) (XO.done (XK.seq (XK.region rfl (XO.q (Q.move rfl) ?_)))))
 refine XO.call Tryz.call37 rfl rfl rfl (Sums_spec a va ka Ka JA) fun v28 s28 R28 => ?_
 obtain ⟨vo, ko, rfl, rfl, OS⟩ := R28
 dsimp only [lcA, lnA]
 rw [ea] at OS
 rw [ea]
 refine XO.q (Q.move rfl) ?_
 refine XO.q (Q.extract rfl rfl) ?_
 refine XO.q (Q.extract rfl rfl) ?_
 refine XO.q (Q.extract rfl rfl) ?_
 refine XO.q (Q.assign rfl) (XO.q (Q.assign rfl) (XO.q (Q.assign rfl) (XO.done (XK.seq (XK.region rfl ?_)))))
 refine XO.q (Q.move rfl) ?_
 refine XO.call Tryz.call42 rfl rfl rfl (rSums_spec b vb kb Kb JB) fun v34 s34 R34 => ?_
 obtain ⟨vo2, ko2, rfl, rfl, OS2⟩ := R34
 dsimp only [lcA, lnA]
 rw [eb] at OS2
 rw [eb]
 refine XO.q (Q.move rfl) ?_
 refine XO.q (Q.extract rfl rfl) ?_
 refine XO.q (Q.extract rfl rfl) ?_
 refine XO.q (Q.extract rfl rfl) ?_
 refine XO.q (Q.assign rfl) (XO.q (Q.assign rfl) (XO.q (Q.assign rfl) (XO.done (XK.seq (XK.seq ?_)))))
 refine XK.region rfl (XO.q (Q.move rfl) (XO.q (Q.move rfl) ?_))
 refine XO.q (Q.neq rfl rfl) ?_
 first | rw [decide_eq_false (show ¬ (sumsG (l.map Prod.snd)).2.1 ≠ (sumsG (l.map Prod.snd)).2.1 from fun h => h rfl)] | skip
 refine XO.q (Q.move rfl) ?_
 refine XO.q (Quiet.guardF rfl rfl fun g42 p42 => Q.move rfl) ?_
 refine XO.q (Quiet.guardF rfl rfl fun g43 p43 => Q.move rfl) ?_
 refine XO.q (Quiet.guardF rfl rfl fun g44 p44 => Q.neq (lzv rfl rfl) (lzv rfl rfl)) ?_
 first | rw [decide_eq_false (show ¬ (sumsG (l.map Prod.snd)).2.2 ≠ (sumsG (l.map Prod.snd)).2.2 from fun h => h rfl)] | skip
 refine XO.q (Q.or rfl (fun hp => lzv hp rfl)) ?_
 refine XO.q (Q.move rfl) ?_
 refine XO.q (Quiet.guardF rfl rfl fun g47 p47 => Q.move rfl) ?_
 refine XO.q (Quiet.guardF rfl rfl fun g48 p48 => Q.move rfl) ?_
 refine XO.callS rfl rfl rfl Tryz.call43 rfl (.c (lzv rfl rfl) (.c (lzv rfl rfl) (.c rfl .n))) rfl (equalDF vo vo2 ko ko2 (sumsG (l.map Prod.snd)).1 (sumsG (l.map Prod.snd)).1) fun v49 s49 R49 => ?_
 obtain ⟨rfl, rfl⟩ := R49
 dsimp only [lcA, lnA]
 rw [decide_eq_true (show (sumsG (l.map Prod.snd)).1 = (sumsG (l.map Prod.snd)).1 from rfl)]
 refine XO.q (Quiet.guardF rfl rfl fun g50 p50 => Q.not rfl) ?_
 refine XO.q (Q.or rfl (fun hp => lzv hp rfl)) ?_
 refine XO.done ?_
 refine XK.if rfl (fun c0 => ?_) (fun c0 => ?_)
 ·skip
  simp at c0
 ·skip
  refine XK.skip (XK.seq (XK.region rfl (XO.q (Q.move rfl) (XO.q (Q.move rfl) ?_))))
  refine XO.call Tryz.call38 rfl rfl rfl (Chance_spec a va ka Ka JA lim) fun v55 s55 R55 => ?_
  obtain ⟨rfl, rfl⟩ := R55
  dsimp only [lcA, lnA]
  rw [ea]
  refine XO.q (Q.move rfl) ?_
  refine XO.q (Q.extract rfl rfl) ?_
  refine XO.q (Q.extract rfl rfl) ?_
  refine XO.alloc fun b17 => ?_
  refine XO.st rfl rfl rfl ?_
  refine XO.q (Q.assign rfl) (XO.done (XK.seq (XK.region rfl (XO.q (Q.move rfl) (XO.q (Q.move rfl) ?_)))))
  refine XO.call Tryz.call45 rfl rfl rfl (rchance_spec b vb kb Kb JB lim) fun v61 s61 R61 => ?_
  obtain ⟨rfl, rfl⟩ := R61
  dsimp only [lcA, lnA]
  rw [eb]
  refine XO.q (Q.move rfl) ?_
  refine XO.q (Q.extract rfl rfl) ?_
  refine XO.q (Q.extract rfl rfl) ?_
  refine XO.alloc fun b18 => ?_
  refine XO.st rfl rfl rfl ?_
  refine XO.q (Q.assign rfl) (XO.done (XK.seq (XK.seq (XK.region rfl ?_))))
  refine XO.q (Q.ldA [_, _] rfl rfl rfl) ?_
  refine XO.q (Q.ldA [_, _] rfl rfl rfl) ?_
  refine XO.q (Q.neqS (us := [_, _]) (vs := [_, _]) rfl rfl inferInstance (by kernel_rfl) (by kernel_rfl) (.c rfl inferInstance inferInstance rfl rfl (.c rfl inferInstance inferInstance rfl rfl .n))) ?_
  first | rw [decide_eq_true (show (chanceG (l.map Prod.snd) lim).1.n = (chanceG (l.map Prod.snd) lim).1.n from rfl)] | skip
  first | rw [decide_eq_true (show (chanceG (l.map Prod.snd) lim).1.d = (chanceG (l.map Prod.snd) lim).1.d from rfl)] | skip
  refine XO.q (Q.move rfl) ?_
  refine XO.q (Quiet.guardF rfl rfl fun g68 p68 => Q.move rfl) ?_
  refine XO.q (Quiet.guardF rfl rfl fun g69 p69 => Q.move rfl) ?_
  refine XO.q (Quiet.guardF rfl rfl fun g70 p70 => Q.neq (lzv rfl rfl) (lzv rfl rfl)) ?_
  first | rw [decide_eq_false (show ¬ (chanceG (l.map Prod.snd) lim).2 ≠ (chanceG (l.map Prod.snd) lim).2 from fun h => h rfl)] | skip
  refine XO.q (Q.or rfl (fun hp => lzv hp rfl)) ?_
  refine XO.done ?_
  refine XK.if rfl (fun c1 => ?_) (fun c1 => ?_)
  ·skip
   simp at c1
  ·skip
   refine XK.skip (XK.seq (XK.region rfl (XO.q (Q.move rfl) ?_)))
   refine XO.q (Q.ldA [_, _, _, _, _] rfl rfl rfl) ?_
   refine XO.q (Q.ldA [_, _] rfl rfl rfl) ?_
   refine XO.call Tryz.call46 rfl rfl rfl (Fits_spec a va ka Ka JA r m) fun v76 s76 R76 => ?_
   obtain ⟨rfl, rfl⟩ := R76
   dsimp only [lcA, lnA]
   rw [ea]
   refine XO.q (Q.move rfl) ?_
   refine XO.q (Q.extract rfl rfl) ?_
   refine XO.q (Q.extract rfl rfl) ?_
   refine XO.q (Q.assign rfl) (XO.q (Q.assign rfl) (XO.done (XK.seq (XK.region rfl (XO.q (Q.move rfl) ?_)))))
   refine XO.q (Q.ldA [_, _, _, _, _] rfl rfl rfl) ?_
   refine XO.q (Q.ldA [_, _] rfl rfl rfl) ?_
   refine XO.call Tryz.call47 rfl rfl rfl (rFits_spec b vb kb Kb JB r m) fun v83 s83 R83 => ?_
   obtain ⟨rfl, rfl⟩ := R83
   dsimp only [lcA, lnA]
   rw [eb]
   refine XO.q (Q.move rfl) ?_
   refine XO.q (Q.extract rfl rfl) ?_
   refine XO.q (Q.extract rfl rfl) ?_
   refine XO.q (Q.assign rfl) (XO.q (Q.assign rfl) (XO.done (XK.seq (XK.seq (XK.region rfl ?_)))))
   refine XO.q (Q.move rfl) (XO.q (Q.move rfl) ?_)
   refine XO.q (Q.neqB rfl rfl) ?_
   rw [bne_self_eq_false]
   refine XO.q (Q.move rfl) ?_
   refine XO.q (Quiet.guardF rfl rfl fun g90 p90 => Q.move rfl) ?_
   refine XO.q (Quiet.guardF rfl rfl fun g91 p91 => Q.move rfl) ?_
   refine XO.q (Quiet.guardF rfl rfl fun g92 p92 => Q.neq (lzv rfl rfl) (lzv rfl rfl)) ?_
   first | rw [decide_eq_false (show ¬ (fitsG0 (l.map Prod.snd) r m).2 ≠ (fitsG0 (l.map Prod.snd) r m).2 from fun h => h rfl)] | skip
   refine XO.q (Q.or rfl (fun hp => lzv hp rfl)) ?_
   refine XO.done ?_
   refine XK.if rfl (fun c2 => ?_) (fun c2 => ?_)
   ·skip
    simp at c2
   ·skip
    refine XK.skip (XK.seq (XK.region rfl (XO.q (Q.move rfl) (XO.q (Q.move rfl) ?_))))
    refine XO.q (Q.ldA [_, _] rfl rfl rfl) ?_
    refine XO.call Tryz.call48 rfl rfl rfl (Fill_spec a va ka Ka JA lim m) fun v98 s98 R98 => ?_
    obtain ⟨rfl, rfl⟩ := R98
    dsimp only [lcA, lnA]
    rw [ea]
    refine XO.q (Q.move rfl) ?_
    refine XO.q (Q.extract rfl rfl) ?_
    refine XO.q (Q.extract rfl rfl) ?_
    refine XO.q (Q.assign rfl) (XO.q (Q.assign rfl) (XO.done (XK.seq (XK.region rfl (XO.q (Q.move rfl) ?_)))))
    refine XO.q (Q.move rfl) ?_
    refine XO.q (Q.ldA [_, _] rfl rfl rfl) ?_
    refine XO.call Tryz.call49 rfl rfl rfl (rFill_spec b vb kb Kb JB lim m) fun v105 s105 R105 => ?_
    obtain ⟨rfl, rfl⟩ := R105
    dsimp only [lcA, lnA]
    rw [eb]
    refine XO.q (Q.move rfl) ?_
    refine XO.q (Q.extract rfl rfl) ?_
    refine XO.q (Q.extract rfl rfl) ?_
    refine XO.q (Q.assign rfl) (XO.q (Q.assign rfl) (XO.done (XK.seq (XK.region rfl (XO.q (Q.move rfl) ?_)))))
    refine XO.q (Q.move rfl) ?_
    refine XO.q (Q.eql rfl rfl) ?_
    first | rw [decide_eq_true (show (fillG (l.map Prod.snd) lim m).1 = (fillG (l.map Prod.snd) lim m).1 from rfl)] | skip
    refine XO.q (Q.move rfl) ?_
    refine XO.q (Quiet.guardT rfl rfl fun g112 p112 => Q.move rfl) ?_
    refine XO.q (Quiet.guardT rfl rfl fun g113 p113 => Q.move rfl) ?_
    refine XO.q (Quiet.guardT rfl rfl fun g114 p114 => Q.eql (lzv rfl rfl) (lzv rfl rfl)) ?_
    first | rw [decide_eq_true (show (fillG (l.map Prod.snd) lim m).2 = (fillG (l.map Prod.snd) lim m).2 from rfl)] | skip
    refine XO.q (Q.and rfl (fun hp => lzv hp rfl)) ?_
    refine XO.q (Q.move rfl) ?_
    refine XO.q (Quiet.guardT rfl rfl fun g117 p117 => Q.move rfl) ?_
    refine XO.q (Quiet.guardT rfl rfl fun g118 p118 => Q.move rfl) ?_
    refine XO.callS rfl rfl rfl Tryz.call35 rfl (.c (lzv rfl rfl) (.c (lzv rfl rfl) .n)) rfl (kept_spec a l va vl ka hl Ka K JA aL ea) fun v119 s119 R119 => ?_
    obtain ⟨rfl, rfl⟩ := R119
    dsimp only [lcA, lnA]
    refine XO.q (Q.and rfl (fun _ => rfl)) ?_
    refine XO.q (Q.assign rfl) (XO.done ?_)
    refine XK.rt [] Tryz.func10 Tryz.results10 (.t rfl .n) ?_
    exact ⟨rfl, rfl⟩
end Go.X

set_option linter.unusedSimpArgs false
set_option linter.unusedVariables false
set_option maxRecDepth 20000
namespace Go.X
open Go.Proofs
set_option maxHeartbeats 1000000 in
theorem rCheck_spec (l : List (Value × PJob)) (vl : Value) (hl K : PHeap) [jl : Arr vl encPJ 6 hl l] (aL : JobsK l K) (rs : List PRack) (vr : Value) (hr : PHeap) [jr : Arr vr encRack 5 hr rs] (m : PRat) : Spec Tryz.prog 20 #[.agg #[vl, vr, .int .i64 m.n, .int .i64 m.d]] [] [hl, K, hr] (fun v hs => v = .int .i64 (pcheck (⟨(l.map Prod.snd), rs, m⟩ : PTask)) ∧ hs = []) := by
 have ll := jl.le
 have lm : (l.map Prod.snd).length = l.length := List.length_map ..
 refine Spec.intro (fn := Tryz.f20) (N := 48) Tryz.func20 rfl Tryz.ntmps20 rfl fun B => ?_
 refine XK.seq (XK.region rfl ?_)
 refine XO.box rfl fun b1 => ?_
 refine XO.q (Q.assign rfl) (XO.done (XK.seq (XK.seq (XK.region rfl ?_))))
 refine XO.q (Q.fieldAddr rfl) ?_
 refine XO.q (Q.ld rfl rfl) ?_
 refine XO.len rfl fun l7 => ?_
 refine XO.q (Q.gtr rfl rfl) ?_
 refine XO.q (Q.move rfl) ?_
 refine XO.q (Quiet.guardF rfl rfl fun g10 p10 => Q.fieldAddr rfl) ?_
 refine XO.q (Quiet.guardF rfl rfl fun g11 p11 => Q.ld (lzv g11 rfl) rfl) ?_
 refine XO.q (Quiet.guardF rfl rfl fun g12 p12 => Q.len (lzv g12 rfl)) ?_
 refine XO.gcallF rfl rfl Tryz.call61 rfl (fun g13 => .c (lzv g13 rfl) (.c rfl (.c rfl .n))) rfl (fun g13 p13 => rin_spec _ _ _) ?_
 refine XO.q (Quiet.guardF rfl rfl fun g14 p14 => Q.not (lzv g14 rfl)) ?_
 refine XO.q (Q.or rfl (fun hp => lzv hp rfl)) ?_
 refine XO.done ?_
 refine XK.if rfl (fun c0 => ?_) (fun c0 => ?_)
 ·skip
  refine XK.seq (XK.region rfl (XO.q (Q.assign rfl) (XO.done ?_)))
  refine XK.rt [] Tryz.func20 Tryz.results20 (.t rfl .n) ?_
  have h0 : 8 < l.length ∨ rs.length < 1 ∨ 5 < rs.length := by
   rcases c0 with h | h
   ·left; omega
   ·rw [inR_iff] at h; omega
  exact ⟨by unfold pcheck; rw [if_pos (by dsimp only; rw [lm]; exact h0)], rfl⟩
 ·skip
  simp only [not_or, Decidable.not_not] at c0
  rw [inR_iff] at c0
  refine XK.skip (XK.seq (XK.seq (XK.region rfl (XO.q (Q.assign rfl) (XO.done ?_)))))
  refine XK.block ?_
  refine XK.while (X := Nat) [2, 3, 16, 17, 18, 19, 20, 21, 22, 23, 24, 25, 26, 27, 28, 29] (fun i => [(3, some (.int .i64 (i : Nat)))]) (fun i => []) (fun i => i ≤ l.length ∧ ∀ k, k < i → jobR (l.getD k default).2 = true) (fun i => l.length - i) (0) [] rfl ⟨by omega, fun k hk => absurd hk (Nat.not_lt_zero k)⟩ (.c rfl (.base 0 rfl rfl)) ?_
  rintro i ⟨hi, jr⟩ ih0
  dsimp only [lcA, lnA] at ih0 ⊢
  refine XK.seq (XK.seq (XK.region rfl (XO.q (Q.move rfl) ?_)))
  refine XO.q (Q.fieldAddr rfl) ?_
  refine XO.q (Q.ld rfl rfl) ?_
  refine XO.len rfl fun l19 => ?_
  refine XO.q (Q.lss rfl rfl) ?_
  refine XO.done ?_
  refine XK.if rfl (fun c1 => ?_) (fun c1 => ?_)
  ·skip
   have ai := aL i (by omega)
   refine XK.skip (XK.seq (XK.block (XK.seq (XK.region rfl ?_))))
   refine XO.q (Q.fieldAddr rfl) ?_
   refine XO.q (Q.ld rfl rfl) ?_
   refine XO.q (Q.move rfl) ?_
   refine XO.ix rfl rfl (by omega) (by omega) fun i26 => ?_
   refine XO.q (Q.ldEA [_, _, _, _, _, _] rfl (by first | assumption | omega) rfl rfl) ?_
   refine XO.call Tryz.call62 rfl rfl rfl (rightJ_spec (l.getD i default).2 (l.getD i default).1 K) fun v28 s28 R28 => ?_
   obtain ⟨rfl, rfl⟩ := R28
   dsimp only [lcA, lnA]
   refine XO.q (Q.not rfl) ?_
   refine XO.done ?_
   refine XK.if rfl (fun c2 => ?_) (fun c2 => ?_)
   ·skip
    refine XK.seq (XK.region rfl (XO.q (Q.assign rfl) (XO.done ?_)))
    refine XK.rt [] Tryz.func20 Tryz.results20 (.t rfl .n) ?_
    exact ⟨by unfold pcheck; rw [if_neg (by dsimp only; omega), if_pos (by rw [Bool.or_eq_true]; left; exact List.any_eq_true.2 ⟨(l.map Prod.snd).getD i default, getD_mem (by rw [lm]; omega), by rw [map_snd_atP, Bool.eq_false_iff.2 c2]; rfl⟩)], rfl⟩
   ·skip
    refine XK.skip ?_
    refine XK.inBlock ?_
    refine XK.region rfl (XO.q (Q.move rfl) ?_)
    refine XO.q (Q.add rfl rfl ⟨by omega, by omega⟩) ?_
    refine XO.q (Q.assign rfl) (XO.done ?_)
    exact ih0 (i + 1) _ _ ⟨by omega, fun k hk => by
     by_cases h : k = i
     ·subst h; exact Decidable.of_not_not c2
     ·exact jr k (by omega)⟩ (by first | omega | (dsimp only; omega)) (.c rfl (.base 32 rfl rfl)) inferInstance
  ·skip
   have hJ : (l.map Prod.snd).any (fun j => !jobR j) = false := any_false_of fun k hk => by rw [map_snd_atP, jr k (by rw [lm] at hk; omega)]; rfl
   refine XK.exit rfl ?_
   refine XK.seq (XK.seq (XK.region rfl (XO.q (Q.assign rfl) (XO.done (XK.block ?_)))))
   refine XK.while (X := Nat) [2, 4, 30, 31, 32, 33, 34, 35, 36, 37, 38, 39, 40, 41, 42, 43] (fun i => [(4, some (.int .i64 (i : Nat)))]) (fun i => []) (fun i => i ≤ rs.length ∧ ∀ k, k < i → rackR (rs.getD k default) = true) (fun i => rs.length - i) (0) [] rfl ⟨by omega, fun k hk => absurd hk (Nat.not_lt_zero k)⟩ (.c rfl (.base 0 rfl rfl)) ?_
   rintro i ⟨hi2, rr⟩ ih1
   dsimp only [lcA, lnA] at ih1 ⊢
   refine XK.seq (XK.seq (XK.region rfl (XO.q (Q.move rfl) ?_)))
   refine XO.q (Q.fieldAddr rfl) ?_
   refine XO.q (Q.ld rfl rfl) ?_
   refine XO.len rfl fun l33 => ?_
   refine XO.q (Q.lss rfl rfl) ?_
   refine XO.done ?_
   refine XK.if rfl (fun c3 => ?_) (fun c3 => ?_)
   ·skip
    refine XK.skip (XK.seq (XK.block (XK.seq (XK.region rfl ?_))))
    refine XO.q (Q.fieldAddr rfl) ?_
    refine XO.q (Q.ld rfl rfl) ?_
    refine XO.q (Q.move rfl) ?_
    refine XO.ix rfl rfl (by omega) (by omega) fun i40 => ?_
    refine XO.q (Q.ldEA [_, _, _, _, _] rfl (by first | assumption | omega) rfl rfl) ?_
    refine XO.call Tryz.call63 rfl rfl rfl (rackRef_spec (rs.getD i default)) fun v42 s42 R42 => ?_
    obtain ⟨rfl, rfl⟩ := R42
    dsimp only [lcA, lnA]
    refine XO.q (Q.not rfl) ?_
    refine XO.done ?_
    refine XK.if rfl (fun c4 => ?_) (fun c4 => ?_)
    ·skip
     refine XK.seq (XK.region rfl (XO.q (Q.assign rfl) (XO.done ?_)))
     refine XK.rt [] Tryz.func20 Tryz.results20 (.t rfl .n) ?_
     exact ⟨by unfold pcheck; rw [if_neg (by dsimp only; omega), if_pos (by rw [Bool.or_eq_true]; right; exact List.any_eq_true.2 ⟨rs.getD i default, getD_mem (by omega), by rw [Bool.eq_false_iff.2 c4]; rfl⟩)], rfl⟩
    ·skip
     refine XK.skip ?_
     refine XK.inBlock ?_
     refine XK.region rfl (XO.q (Q.move rfl) ?_)
     refine XO.q (Q.add rfl rfl ⟨by omega, by omega⟩) ?_
     refine XO.q (Q.assign rfl) (XO.done ?_)
     exact ih1 (i + 1) _ _ ⟨by omega, fun k hk => by
      by_cases h : k = i
      ·subst h; exact Decidable.of_not_not c4
      ·exact rr k (by omega)⟩ (by first | omega | (dsimp only; omega)) (.c rfl (.base 32 rfl rfl)) inferInstance
   ·skip
    have hR : rs.any (fun r => !rackR r) = false := any_false_of fun k hk => by rw [rr k (by omega)]; rfl
    refine XK.exit rfl ?_
    refine XK.seq (XK.seq (XK.region rfl ?_))
    refine XO.q (Q.fieldAddr rfl) ?_
    refine XO.q (Q.ldA [_, _] rfl rfl rfl) ?_
    refine XO.call Tryz.call64 rfl rfl rfl (chanceRef_spec m) fun v46 s46 R46 => ?_
    obtain ⟨rfl, rfl⟩ := R46
    dsimp only [lcA, lnA]
    refine XO.q (Q.not rfl) ?_
    refine XO.done ?_
    refine XK.if rfl (fun c5 => ?_) (fun c5 => ?_)
    ·skip
     refine XK.seq (XK.region rfl (XO.q (Q.assign rfl) (XO.done ?_)))
     refine XK.rt [] Tryz.func20 Tryz.results20 (.t rfl .n) ?_
     exact ⟨by unfold pcheck; rw [if_neg (by dsimp only; omega), if_neg (by dsimp only; rw [hJ, hR]; decide), if_pos c5], rfl⟩
    ·skip
     refine XK.skip (XK.seq (XK.region rfl (XO.q (Q.assign rfl) (XO.done ?_))))
     refine XK.rt [] Tryz.func20 Tryz.results20 (.t rfl .n) ?_
     exact ⟨by unfold pcheck; rw [if_neg (by dsimp only; omega), if_neg (by dsimp only; rw [hJ, hR]; decide), if_neg c5], rfl⟩
theorem members_spec (l : List (Value × PJob)) (vl : Value) (hl K : PHeap) [jl : Arr vl encPJ 6 hl l] (aL : JobsK l K) (rs : List PRack) (vr : Value) (hr : PHeap) [jr : Arr vr encRack 5 hr rs] (m : PRat) (w : List Int) (vw : Value) (hw : PHeap) [jw : Arr vw encI 1 hw w] (r : Int) (hwl : w.length ≤ l.length) (few : w.length ≤ 1000) : Spec Tryz.prog 70 #[.agg #[vl, vr, .int .i64 m.n, .int .i64 m.d], vw, .int .i64 r] [] [hl, K, hr, hw] (fun v hs => ∃ k, hs = [k] ∧ OArr v encPJ 6 124 k (inTo l w r w.length)) := by
 have nP : OArr (.slice none 0 0) encPJ 6 124 emp ([] : List (Value × PJob)) := OArr.nil (fun _ => rfl)
 refine Spec.intro (fn := Tryz.f70) (N := 30) Tryz.func70 rfl Tryz.ntmps70 rfl fun B => ?_
 refine XK.seq (XK.region rfl ?_)
 refine XO.box rfl fun b3 => ?_
 refine XO.q (Q.assign rfl) (XO.done (XK.seq (XK.region rfl (XO.q (Q.assign rfl) (XO.done ?_)))))
 refine XK.seq (XK.seq (XK.region rfl (XO.q (Q.assign rfl) (XO.done (XK.block ?_)))))
 refine XK.while (X := Nat × Value × PHeap) [7, 8, 9, 10, 11, 12, 13, 14, 15, 16, 17, 18, 19, 20, 21, 22, 23, 24, 25, 26, 27, 28] (fun ⟨i, vo, ho⟩ => [(8, some (.int .i64 (i : Nat))), (7, some (vo))]) (fun ⟨i, vo, ho⟩ => [ho]) (fun ⟨i, vo, ho⟩ => i ≤ w.length ∧ OArr vo encPJ 6 124 ho (inTo l w r i)) (fun ⟨i, vo, ho⟩ => w.length - i) (0, .slice none 0 0, emp) [emp] rfl ⟨by omega, nP⟩ (.c rfl (.c rfl (.base 0 rfl rfl))) ?_
 rintro ⟨i, vo, ho⟩ ⟨hi, OV⟩ ih0
 dsimp only [lcA, lnA] at ih0 ⊢
 refine XK.seq (XK.seq (XK.region rfl (XO.q (Q.move rfl) (XO.q (Q.move rfl) ?_))))
 refine XO.len rfl fun l11 => ?_
 refine XO.q (Q.lss rfl rfl) ?_
 refine XO.done ?_
 refine XK.if rfl (fun c0 => ?_) (fun c0 => ?_)
 ·skip
  have ai := aL i (by omega)
  refine XK.skip (XK.seq (XK.block (XK.seq (XK.region rfl (XO.q (Q.move rfl) ?_)))))
  refine XO.q (Q.move rfl) ?_
  refine XO.ix rfl rfl (by omega) (by omega) fun i17 => ?_
  refine XO.q (Q.ldE rfl (by first | assumption | omega) rfl) ?_
  refine XO.q (Q.move rfl) ?_
  refine XO.q (Q.eql rfl rfl) ?_
  refine XO.done ?_
  refine XK.if rfl (fun c1 => ?_) (fun c1 => ?_)
  ·skip
   refine XK.region rfl (XO.q (Q.move rfl) ?_)
   refine XO.q (Q.fieldAddr rfl) ?_
   refine XO.q (Q.ld rfl rfl) ?_
   refine XO.q (Q.move rfl) ?_
   refine XO.ix rfl rfl (by omega) (by omega) fun i25 => ?_
   refine XO.q (Q.ldEA [_, _, _, _, _, _] rfl (by first | assumption | omega) rfl rfl) ?_
   refine XO.lit [_, _, _, _, _, _] [_, _, _, _, _, _] [l.getD i default] encPJ (by rfl) (by rfl) rfl (by rfl) (by exact .c 0 6 rfl rfl rfl (.n _)) (fun _ => rfl) (by rfl) rfl (by infer_instance) rfl fun v27 h27 O27 => ?_
   refine XO.append rfl rfl rfl rfl (by have := inTo_len l w r i; simp only [List.length_cons, List.length_nil]; omega) fun v28 h28 O28 => ?_
   refine XO.q (Q.assign rfl) (XO.done ?_)
   refine XK.inBlock ?_
   refine XK.region rfl (XO.q (Q.move rfl) ?_)
   refine XO.q (Q.add rfl rfl ⟨by omega, by omega⟩) ?_
   refine XO.q (Q.assign rfl) (XO.done ?_)
   exact ih0 (i + 1, v28, h28) _ _ ⟨by dsimp only; omega, by dsimp only; rw [inTo, if_pos c1]; exact O28⟩ (by first | omega | (dsimp only; omega)) (.c rfl (.c rfl (.base 46 rfl rfl))) inferInstance
  ·skip
   refine XK.skip ?_
   refine XK.inBlock ?_
   refine XK.region rfl (XO.q (Q.move rfl) ?_)
   refine XO.q (Q.add rfl rfl ⟨by omega, by omega⟩) ?_
   refine XO.q (Q.assign rfl) (XO.done ?_)
   exact ih0 (i + 1, vo, ho) _ _ ⟨by dsimp only; omega, by dsimp only; rw [inTo, if_neg c1, List.append_nil]; exact OV⟩ (by first | omega | (dsimp only; omega)) (.c rfl (.c rfl (.base 37 rfl rfl))) inferInstance
 ·skip
  have hil : i = w.length := by omega
  subst hil
  refine XK.exit rfl ?_
  refine XK.seq (XK.region rfl (XO.q (Q.move rfl) (XO.q (Q.assign rfl) (XO.done ?_))))
  refine XK.rt [ho] Tryz.func70 Tryz.results70 (.t rfl .n) ?_
  exact ⟨ho, rfl, OV⟩
theorem rready_spec (l : List (Value × PJob)) (vl : Value) (hl K : PHeap) [jl : Arr vl encPJ 6 hl l] (aL : JobsK l K) (rs : List PRack) (vr : Value) (hr : PHeap) [jr : Arr vr encRack 5 hr rs] (m : PRat) : Spec Tryz.prog 77 #[.agg #[vl, vr, .int .i64 m.n, .int .i64 m.d]] [] [hl, K, hr] (fun v hs => v = .int .i64 (readyG (⟨(l.map Prod.snd), rs, m⟩ : PTask)) ∧ hs = []) := by
 refine Spec.intro (fn := Tryz.f77) (N := 18) Tryz.func77 rfl Tryz.ntmps77 rfl fun B => ?_
 refine XK.seq (XK.region rfl ?_)
 refine XO.box rfl fun b1 => ?_
 refine XO.q (Q.assign rfl) (XO.done (XK.seq (XK.seq (XK.region rfl ?_))))
 refine XO.q (Q.ldA [_, _, _, _] rfl rfl rfl) ?_
 refine XO.call Tryz.call20 rfl rfl rfl (rCheck_spec l vl hl K aL rs vr hr m) fun v7 s7 R7 => ?_
 obtain ⟨rfl, rfl⟩ := R7
 dsimp only [lcA, lnA]
 refine XO.q (Q.assign rfl) (XO.done (XK.seq (XK.region rfl (XO.q (Q.move rfl) ?_))))
 refine XO.q (Q.neq rfl rfl) ?_
 refine XO.done ?_
 refine XK.if rfl (fun c0 => ?_) (fun c0 => ?_)
 ·skip
  refine XK.seq (XK.region rfl (XO.q (Q.move rfl) (XO.q (Q.assign rfl) (XO.done ?_))))
  refine XK.rt [] Tryz.func77 Tryz.results77 (.t rfl .n) ?_
  exact ⟨by rw [readyG, if_pos c0], rfl⟩
 ·skip
  refine XK.skip (XK.seq (XK.region rfl ?_))
  refine XO.q (Q.fieldAddr rfl) ?_
  refine XO.q (Q.ld rfl rfl) ?_
  refine XO.call Tryz.call91 rfl rfl rfl (rlisted_spec l vl hl K aL) fun v14 s14 R14 => ?_
  obtain ⟨rfl, rfl⟩ := R14
  dsimp only [lcA, lnA]
  refine XO.q (Q.move rfl) ?_
  refine XO.q (Q.extract rfl rfl) ?_
  refine XO.q (Q.extract rfl rfl) ?_
  refine XO.q (Q.assign rfl) (XO.q (Q.assign rfl) (XO.done (XK.seq (XK.region rfl (XO.q (Q.move rfl) ?_)))))
  refine XO.q (Q.assign rfl) (XO.done ?_)
  refine XK.rt [] Tryz.func77 Tryz.results77 (.t rfl .n) ?_
  exact ⟨by rw [readyG, if_neg c0], rfl⟩
set_option maxHeartbeats 1000000 in
theorem rformed_spec (l : List (Value × PJob)) (vl : Value) (hl K : PHeap) [jl : Arr vl encPJ 6 hl l] (aL : JobsK l K) (rs : List PRack) (vr : Value) (hr : PHeap) [jr : Arr vr encRack 5 hr rs] (m : PRat) (w : List Int) (vw : Value) (hw : PHeap) [jw : Arr vw encI 1 hw w] : Spec Tryz.prog 67 #[.agg #[vl, vr, .int .i64 m.n, .int .i64 m.d], vw] [] [hl, K, hr, hw] (fun v hs => v = .int .i64 (formedG (⟨(l.map Prod.snd), rs, m⟩ : PTask) w) ∧ hs = []) := by
 have lm : (l.map Prod.snd).length = l.length := List.length_map ..
 refine Spec.intro (fn := Tryz.f67) (N := 55) Tryz.func67 rfl Tryz.ntmps67 rfl fun B => ?_
 refine XK.seq (XK.region rfl ?_)
 refine XO.box rfl fun b2 => ?_
 refine XO.q (Q.assign rfl) (XO.done (XK.seq (XK.seq (XK.region rfl ?_))))
 refine XO.q (Q.ldA [_, _, _, _] rfl rfl rfl) ?_
 refine XO.call Tryz.call20 rfl rfl rfl (rCheck_spec l vl hl K aL rs vr hr m) fun v11 s11 R11 => ?_
 obtain ⟨rfl, rfl⟩ := R11
 dsimp only [lcA, lnA]
 refine XO.q (Q.assign rfl) (XO.done (XK.seq (XK.region rfl (XO.q (Q.move rfl) ?_))))
 refine XO.q (Q.neq rfl rfl) ?_
 refine XO.done ?_
 refine XK.if rfl (fun c0 => ?_) (fun c0 => ?_)
 ·skip
  refine XK.seq (XK.region rfl (XO.q (Q.move rfl) (XO.q (Q.assign rfl) (XO.done ?_))))
  refine XK.rt [] Tryz.func67 Tryz.results67 (.t rfl .n) ?_
  exact ⟨by rw [formedG, if_pos c0], rfl⟩
 ·skip
  have tk := pcheck_iff.1 (Decidable.of_not_not c0)
  have few := tk.few
  have rk5 := tk.rk5
  dsimp only at few rk5
  refine XK.skip (XK.seq (XK.seq (XK.region rfl (XO.q (Q.move rfl) ?_))))
  refine XO.len rfl fun l16 => ?_
  refine XO.q (Q.fieldAddr rfl) ?_
  refine XO.q (Q.ld rfl rfl) ?_
  refine XO.len rfl fun l19 => ?_
  refine XO.q (Q.neq rfl rfl) ?_
  refine XO.done ?_
  refine XK.if rfl (fun c1 => ?_) (fun c1 => ?_)
  ·skip
   refine XK.seq (XK.region rfl (XO.q (Q.assign rfl) (XO.done ?_)))
   refine XK.rt [] Tryz.func67 Tryz.results67 (.t rfl .n) ?_
   exact ⟨by rw [formedG, if_neg c0, if_pos (by dsimp only; rw [lm]; left; omega)], rfl⟩
  ·skip
   have hwl : w.length = l.length := by omega
   refine XK.skip (XK.seq (XK.seq (XK.region rfl (XO.q (Q.assign rfl) (XO.done ?_)))))
   refine XK.block ?_
   refine XK.while (X := Nat) [4, 6, 21, 22, 23, 24, 25, 26, 27, 28, 29, 30, 31, 32, 33, 34, 35, 36] (fun i => [(6, some (.int .i64 (i : Nat)))]) (fun i => []) (fun i => i ≤ w.length ∧ ∀ k, k < i → outW (⟨(l.map Prod.snd), rs, m⟩ : PTask) (w.getD k default) = false) (fun i => w.length - i) (0) [] rfl ⟨by omega, fun k hk => absurd hk (Nat.not_lt_zero k)⟩ (.c rfl (.base 0 rfl rfl)) ?_
   rintro i ⟨hi, nr⟩ ih0
   dsimp only [lcA, lnA] at ih0 ⊢
   refine XK.seq (XK.seq (XK.region rfl (XO.q (Q.move rfl) (XO.q (Q.move rfl) ?_))))
   refine XO.len rfl fun l23 => ?_
   refine XO.q (Q.lss rfl rfl) ?_
   refine XO.done ?_
   refine XK.if rfl (fun c2 => ?_) (fun c2 => ?_)
   ·skip
    refine XK.skip (XK.seq (XK.block (XK.seq ?_)))
    refine XK.drawn [0, 1, 2, 3, 4, 5, 6, 7, 9] [b2] [] (.q 0 (.q 1 (.q 2 (.q 3 (.q 4 (.q 5 (.q 6 (.q 7 (.br 8 true (.q 9 .done) .stop))))))))) Tryz.mixed rfl (by kernel_rfl) ?_
    refine XT.q rfl rfl (Q.move rfl) ?_
    refine XT.q rfl rfl (Q.move rfl) ?_
    refine XT.ix rfl rfl rfl rfl (by omega) (by omega) fun i29 => ?_
    refine XT.q rfl rfl (Q.ldE rfl (by first | assumption | omega) rfl) ?_
    refine XT.q rfl rfl (Q.fieldAddr rfl) ?_
    refine XT.q rfl rfl (Q.ld rfl rfl) ?_
    refine XT.q rfl rfl (Q.len rfl) ?_
    refine XT.q rfl rfl (Q.sub rfl rfl ⟨by omega, by omega⟩) ?_
    refine XT.call rfl rfl Tryz.call61 rfl rfl rfl (rin_spec _ _ _) (fun v35 s35 R35 => ?_) XT.stop
    obtain ⟨rfl, rfl⟩ := R35
    dsimp only [lcA, lnA]
    refine ⟨inferInstance, ?_⟩
    refine XT.q rfl rfl (Q.not rfl) ?_
    refine XT.done ?_
    refine XK.if rfl (fun c3 => ?_) (fun c3 => ?_)
    ·skip
     refine XK.seq (XK.region rfl (XO.q (Q.assign rfl) (XO.done ?_)))
     refine XK.rt [] Tryz.func67 Tryz.results67 (.t rfl .n) ?_
     have ho : w.any (outW (⟨(l.map Prod.snd), rs, m⟩ : PTask)) = true := List.any_eq_true.2 ⟨w.getD i default, getD_mem (by omega), by
      rw [inR_iff] at c3
      unfold outW
      rw [Bool.or_eq_true, decide_eq_true_eq, decide_eq_true_eq]
      dsimp only; omega⟩
     exact ⟨by rw [formedG, if_neg c0, if_pos (.inr ho)], rfl⟩
    ·skip
     refine XK.skip ?_
     refine XK.inBlock ?_
     refine XK.region rfl (XO.q (Q.move rfl) ?_)
     refine XO.q (Q.add rfl rfl ⟨by omega, by omega⟩) ?_
     refine XO.q (Q.assign rfl) (XO.done ?_)
     exact ih0 (i + 1) _ _ ⟨by omega, fun k hk => by
      by_cases h : k = i
      ·subst h
       have := Decidable.of_not_not c3
       rw [inR_iff] at this
       unfold outW
       rw [Bool.or_eq_false_iff, decide_eq_false_iff_not, decide_eq_false_iff_not]
       dsimp only; omega
      ·exact nr k (by omega)⟩ (by first | omega | (dsimp only; omega)) (.c rfl (.base 36 rfl rfl)) inferInstance
   ·skip
    have hany : w.any (outW (⟨(l.map Prod.snd), rs, m⟩ : PTask)) = false := any_false_of fun k hk => nr k (by omega)
    refine XK.exit rfl ?_
    refine XK.seq (XK.seq (XK.region rfl (XO.q (Q.assign rfl) (XO.done (XK.block ?_)))))
    refine XK.while (X := Nat) [4, 7, 8, 9, 37, 38, 39, 40, 41, 42, 43, 44, 45, 46, 47, 48, 49, 50, 51, 52, 53, 54] (fun r => [(7, some (.int .i64 (r : Nat)))]) (fun r => []) (fun r => r ≤ rs.length ∧ refTo (⟨(l.map Prod.snd), rs, m⟩ : PTask) w r = 0) (fun r => rs.length - r) (0) [] rfl ⟨by omega, rfl⟩ (.c rfl (.base 0 rfl rfl)) ?_
    rintro r ⟨hr_, rz⟩ ih1
    dsimp only [lcA, lnA] at ih1 ⊢
    refine XK.seq (XK.seq (XK.region rfl (XO.q (Q.move rfl) ?_)))
    refine XO.q (Q.fieldAddr rfl) ?_
    refine XO.q (Q.ld rfl rfl) ?_
    refine XO.len rfl fun l40 => ?_
    refine XO.q (Q.lss rfl rfl) ?_
    refine XO.done ?_
    refine XK.if rfl (fun c4 => ?_) (fun c4 => ?_)
    ·skip
     refine XK.skip (XK.seq (XK.block (XK.seq (XK.region rfl ?_))))
     refine XO.q (Q.ldA [_, _, _, _] rfl rfl rfl) ?_
     refine XO.q (Q.move rfl) (XO.q (Q.move rfl) ?_)
     refine XO.call Tryz.call70 rfl rfl rfl (members_spec l vl hl K aL rs vr hr m w vw hw (r : Nat) (by omega) (by omega)) fun v48 s48 R48 => ?_
     obtain ⟨k48, rfl, O48⟩ := R48
     dsimp only [lcA, lnA]
     refine XO.call Tryz.call91 rfl rfl rfl (rlisted_spec (inTo l w (r : Nat) w.length) v48 k48 K (aL.inTo (by omega))) fun v49 s49 R49 => ?_
     obtain ⟨rfl, rfl⟩ := R49
     dsimp only [lcA, lnA]
     rw [in_mem]
     refine XO.q (Q.move rfl) ?_
     refine XO.q (Q.extract rfl rfl) ?_
     refine XO.q (Q.extract rfl rfl) ?_
     refine XO.q (Q.assign rfl) (XO.q (Q.assign rfl) (XO.done (XK.seq (XK.region rfl (XO.q (Q.move rfl) ?_)))))
     refine XO.q (Q.neq rfl rfl) ?_
     refine XO.done ?_
     refine XK.if rfl (fun c5 => ?_) (fun c5 => ?_)
     ·skip
      refine XK.seq (XK.region rfl (XO.q (Q.move rfl) (XO.q (Q.assign rfl) (XO.done ?_))))
      refine XK.rt [] Tryz.func67 Tryz.results67 (.t rfl .n) ?_
      have e1 : refTo (⟨(l.map Prod.snd), rs, m⟩ : PTask) w (r + 1) = (listedG (inTo (l.map Prod.snd) w (r : Nat) w.length)).2 := by rw [refTo, if_neg (by rw [rz]; decide)]; rfl
      have e2 := refTo_keep (t := (⟨(l.map Prod.snd), rs, m⟩ : PTask)) (w := w) (n := r + 1) (by rw [e1]; exact c5) rs.length (by omega)
      exact ⟨by rw [formedG, if_neg c0, if_neg (by dsimp only; rw [lm, hany, not_or]; exact ⟨by omega, by decide⟩)]; dsimp only; rw [e2, e1], rfl⟩
     ·skip
      refine XK.skip ?_
      refine XK.inBlock ?_
      refine XK.region rfl (XO.q (Q.move rfl) ?_)
      refine XO.q (Q.add rfl rfl ⟨by omega, by omega⟩) ?_
      refine XO.q (Q.assign rfl) (XO.done ?_)
      exact ih1 (r + 1) _ _ ⟨by omega, by rw [refTo, if_neg (by rw [rz]; decide)]; exact Decidable.of_not_not c5⟩ (by first | omega | (dsimp only; omega)) (.c rfl (.base 43 rfl rfl)) inferInstance
    ·skip
     have hrl : r = rs.length := by omega
     subst hrl
     refine XK.exit rfl ?_
     refine XK.seq (XK.region rfl (XO.q (Q.assign rfl) (XO.done ?_)))
     refine XK.rt [] Tryz.func67 Tryz.results67 (.t rfl .n) ?_
     exact ⟨by rw [formedG, if_neg c0, if_neg (by dsimp only; rw [lm, hany, not_or]; exact ⟨by omega, by decide⟩)]; dsimp only; rw [rz], rfl⟩
end Go.X

set_option linter.unusedSimpArgs false
set_option linter.unusedVariables false
set_option maxRecDepth 20000
namespace Go.X
open Go.Proofs
set_option maxHeartbeats 4000000 in
theorem rallowed_spec (l : List (Value × PJob)) (vl : Value) (hl K : PHeap) [jl : Arr vl encPJ 6 hl l] (aL : JobsK l K) (rs : List PRack) (vr : Value) (hr : PHeap) [jr : Arr vr encRack 5 hr rs] (m : PRat) (w : List Int) (vw : Value) (hw : PHeap) [jw : Arr vw encI 1 hw w] (ok : TaskOk (⟨(l.map Prod.snd), rs, m⟩ : PTask)) (wok : WOk (⟨(l.map Prod.snd), rs, m⟩ : PTask) w) (hwl : w.length ≤ l.length) (lok : ∀ r, r < rs.length → ListOk (inL (⟨(l.map Prod.snd), rs, m⟩ : PTask) w r)) : Spec Tryz.prog 68 #[.agg #[vl, vr, .int .i64 m.n, .int .i64 m.d], vw] [] [hl, K, hr, hw] (fun v hs => v = .bool (allowedB (⟨(l.map Prod.snd), rs, m⟩ : PTask) w) ∧ hs = []) := by
 have ll := jl.le
 have lm : (l.map Prod.snd).length = l.length := List.length_map ..
 have few := ok.few
 have few2 : l.length ≤ 8 := by rw [← lm]; exact few
 refine Spec.intro (fn := Tryz.f68) (N := 98) Tryz.func68 rfl Tryz.ntmps68 rfl fun B => ?_
 refine XK.seq (XK.region rfl ?_)
 refine XO.box rfl fun b2 => ?_
 refine XO.q (Q.assign rfl) (XO.done (XK.seq (XK.seq (XK.region rfl (XO.q (Q.assign rfl) ?_)))))
 refine XO.done (XK.block ?_)
 refine XK.while (X := Nat) [4, 5, 6, 7, 9, 10, 11, 12, 13, 14, 15, 16, 17, 18, 19, 20, 21, 22, 23, 24, 25, 26, 27, 28, 29, 30, 31, 32, 33, 34, 35, 36, 37, 38, 39, 40, 41, 42, 43, 44, 45, 46, 47, 48, 49, 50, 51, 52, 53, 54, 55, 56, 57, 58, 59, 60, 61, 62, 63, 64, 65, 66, 67, 68, 69, 70, 71, 72, 73, 74, 75, 76, 77] (fun i => [(5, some (.int .i64 (i : Nat)))]) (fun i => []) (fun i => i ≤ w.length ∧ ∀ a, a < i → ∀ j, j < a → ¬ badP (⟨(l.map Prod.snd), rs, m⟩ : PTask) w a j) (fun i => w.length - i) (0) [] rfl ⟨by omega, fun a ha => absurd ha (Nat.not_lt_zero a)⟩ (.c rfl (.base 0 rfl rfl)) ?_
 rintro i ⟨hi, np⟩ ih0
 dsimp only [lcA, lnA] at ih0 ⊢
 refine XK.seq (XK.seq (XK.region rfl (XO.q (Q.move rfl) (XO.q (Q.move rfl) ?_))))
 refine XO.len rfl fun l11 => ?_
 refine XO.q (Q.lss rfl rfl) ?_
 refine XO.done ?_
 refine XK.if rfl (fun c0 => ?_) (fun c0 => ?_)
 ·skip
  have ji := map_snd_atP l i
  have wi := wok.rng i (by omega)
  dsimp only at wi
  refine XK.skip (XK.seq (XK.block (XK.seq (XK.region rfl (XO.q (Q.assign rfl) ?_)))))
  refine XO.done (XK.block ?_)
  refine XK.while (X := Nat) [4, 6, 7, 15, 16, 17, 18, 19, 20, 21, 22, 23, 24, 25, 26, 27, 28, 29, 30, 31, 32, 33, 34, 35, 36, 37, 38, 39, 40, 41, 42, 43, 44, 45, 46, 47, 48, 49, 50, 51, 52, 53, 54, 55, 56, 57, 58, 59, 60, 61, 62, 63, 64, 65, 66, 67, 68, 69, 70, 71, 72, 73, 74, 75, 76, 77] (fun j => [(6, some (.int .i64 (j : Nat)))]) (fun j => []) (fun j => j ≤ i ∧ ∀ b, b < j → ¬ badP (⟨(l.map Prod.snd), rs, m⟩ : PTask) w i b) (fun j => i - j) (0) [] rfl ⟨by omega, fun b hb => absurd hb (Nat.not_lt_zero b)⟩ (.c rfl (.base 0 rfl rfl)) ?_
  rintro j ⟨hj_, nq⟩ ih1
  dsimp only [lcA, lnA] at ih1 ⊢
  refine XK.seq (XK.seq (XK.region rfl (XO.q (Q.move rfl) (XO.q (Q.move rfl) ?_))))
  refine XO.q (Q.lss rfl rfl) ?_
  refine XO.done ?_
  refine XK.if rfl (fun c1 => ?_) (fun c1 => ?_)
  ·skip
   have jj := map_snd_atP l j
   have wj := wok.rng j (by omega)
   dsimp only at wj
   refine XK.skip (XK.seq (XK.block (XK.seq ?_)))
   refine XK.drawn [0, 1, 2, 3, 4, 5, 6, 7, 8, 9, 10, 11, 12, 13, 14, 15, 16, 17, 18, 19, 20, 21, 22] [b2] [] (.q 0 (.q 1 (.q 2 (.q 3 (.q 4 (.q 5 (.q 6 (.q 7 (.q 8 (.q 9 (.q 10 (.q 11 (.q 12 (.q 13 (.q 14 (.q 15 (.q 16 (.q 17 (.q 18 (.q 19 (.q 20 (.q 21 (.q 22 .done))))))))))))))))))))))) Tryz.mixed rfl (by kernel_rfl) ?_
   refine XT.q rfl rfl (Q.fieldAddr rfl) ?_
   refine XT.q rfl rfl (Q.ld rfl rfl) ?_
   refine XT.q rfl rfl (Q.move rfl) ?_
   refine XT.ix rfl rfl rfl rfl (by omega) (by omega) fun i23 => ?_
   refine XT.q rfl rfl (Q.fieldQ rfl (by first | assumption | omega)) ?_
   refine XT.q rfl rfl (Q.ldE rfl (by first | assumption | omega) rfl) ?_
   refine XT.q rfl rfl (Q.fieldAddr rfl) ?_
   refine XT.q rfl rfl (Q.ld rfl rfl) ?_
   refine XT.q rfl rfl (Q.move rfl) ?_
   refine XT.ix rfl rfl rfl rfl (by omega) (by omega) fun i29 => ?_
   refine XT.q rfl rfl (Q.fieldQ rfl (by first | assumption | omega)) ?_
   refine XT.q rfl rfl (Q.ldE rfl (by first | assumption | omega) rfl) ?_
   refine XT.q rfl rfl (Q.eql rfl rfl) ?_
   refine XT.q rfl rfl (Q.move rfl) ?_
   refine XT.q rfl rfl (Quiet.guardT rfl rfl fun g34 p34 => Q.fieldAddr rfl) ?_
   refine XT.q rfl rfl (Quiet.guardT rfl rfl fun g35 p35 => Q.ld (lzv g35 rfl) rfl) ?_
   refine XT.q rfl rfl (Quiet.guardT rfl rfl fun g36 p36 => Q.move rfl) ?_
   refine XT.q rfl rfl (Quiet.guardT rfl rfl fun g37 p37 => Q.ix (lzv g37 rfl) (lzv g37 rfl) (by omega) (by omega)) ?_
   refine XT.q rfl rfl (Quiet.guardT rfl rfl fun g38 p38 => Q.fieldQ (lzv g38 rfl) (by first | assumption | omega)) ?_
   refine XT.q rfl rfl (Quiet.guardT rfl rfl fun g39 p39 => Q.ldE (lzv g39 rfl) (by first | assumption | omega) rfl) ?_
   refine XT.q rfl rfl (Quiet.guardT rfl rfl fun g40 p40 => Q.gtr (lzv g40 rfl) rfl) ?_
   refine XT.q rfl rfl (Q.and rfl (fun hp => lzv hp rfl)) ?_
   refine XT.q rfl rfl (Q.assign rfl) ?_
   refine XT.done ?_
   refine XK.seq ?_
   refine XK.drawn [0, 1, 2, 3, 4, 5, 6, 7, 8, 9, 10, 11, 12, 13, 14, 15, 16, 17, 18, 19, 20, 21, 22, 23, 24, 25, 26, 27, 28, 29, 30, 31, 32, 33, 34, 35] [b2] [] (.q 0 (.q 1 (.q 2 (.q 3 (.q 4 (.q 5 (.q 6 (.q 7 (.q 8 (.q 9 (.q 10 (.q 11 (.q 12 (.q 13 (.q 14 (.q 15 (.q 16 (.q 17 (.q 18 (.q 19 (.q 20 (.q 21 (.q 22 (.q 23 (.q 24 (.q 25 (.q 26 (.q 27 (.q 28 (.q 29 (.q 30 (.q 31 (.q 32 (.q 33 (.q 34 (.q 35 .done)))))))))))))))))))))))))))))))))))) Tryz.mixed rfl (by kernel_rfl) ?_
   refine XT.q rfl rfl (Q.move rfl) ?_
   refine XT.q rfl rfl (Q.move rfl) ?_
   refine XT.q rfl rfl (Quiet.guardT rfl rfl fun g44 p44 => Q.move rfl) ?_
   refine XT.q rfl rfl (Quiet.guardT rfl rfl fun g45 p45 => Q.move rfl) ?_
   refine XT.q rfl rfl (Quiet.guardT rfl rfl fun g46 p46 => Q.ix (lzv g46 rfl) (lzv g46 rfl) (by omega) (by omega)) ?_
   refine XT.q rfl rfl (Quiet.guardT rfl rfl fun g47 p47 => Q.ldE (lzv g47 rfl) (by first | assumption | omega) rfl) ?_
   refine XT.q rfl rfl (Quiet.guardT rfl rfl fun g48 p48 => Q.geq (lzv g48 rfl) rfl) ?_
   refine XT.q rfl rfl (Q.and rfl (fun hp => lzv hp rfl)) ?_
   refine XT.q rfl rfl (Q.move rfl) ?_
   refine XT.q rfl rfl (Quiet.guardT rfl rfl fun g51 p51 => Q.move rfl) ?_
   refine XT.q rfl rfl (Quiet.guardT rfl rfl fun g52 p52 => Q.move rfl) ?_
   refine XT.q rfl rfl (Quiet.guardT rfl rfl fun g53 p53 => Q.ix (lzv g53 rfl) (lzv g53 rfl) (by omega) (by omega)) ?_
   refine XT.q rfl rfl (Quiet.guardT rfl rfl fun g54 p54 => Q.ldE (lzv g54 rfl) (by first | assumption | omega) rfl) ?_
   refine XT.q rfl rfl (Quiet.guardT rfl rfl fun g55 p55 => Q.geq (lzv g55 rfl) rfl) ?_
   refine XT.q rfl rfl (Q.and rfl (fun hp => lzv hp rfl)) ?_
   refine XT.q rfl rfl (Q.move rfl) ?_
   refine XT.q rfl rfl (Quiet.guardT rfl rfl fun g58 p58 => Q.fieldAddr rfl) ?_
   refine XT.q rfl rfl (Quiet.guardT rfl rfl fun g59 p59 => Q.ld (lzv g59 rfl) rfl) ?_
   refine XT.q rfl rfl (Quiet.guardT rfl rfl fun g60 p60 => Q.move rfl) ?_
   refine XT.q rfl rfl (Quiet.guardT rfl rfl fun g61 p61 => Q.move rfl) ?_
   refine XT.q rfl rfl (Quiet.guardT rfl rfl fun g62 p62 => Q.ix (lzv g62 rfl) (lzv g62 rfl) (by omega) (by omega)) ?_
   refine XT.q rfl rfl (Quiet.guardT rfl rfl fun g63 p63 => Q.ldE (lzv g63 rfl) (by first | assumption | omega) rfl) ?_
   refine XT.q rfl rfl (Quiet.guardT rfl rfl fun g64 p64 => Q.ix (lzv g64 rfl) (lzv g64 rfl) (by omega) (by omega)) ?_
   refine XT.q rfl rfl (Quiet.guardT rfl rfl fun g65 p65 => Q.fieldQ (lzv g65 rfl) (by first | assumption | omega)) ?_
   refine XT.q rfl rfl (Quiet.guardT rfl rfl fun g66 p66 => Q.ldE (lzv g66 rfl) (by first | assumption | omega) rfl) ?_
   refine XT.q rfl rfl (Quiet.guardT rfl rfl fun g67 p67 => Q.fieldAddr rfl) ?_
   refine XT.q rfl rfl (Quiet.guardT rfl rfl fun g68 p68 => Q.ld (lzv g68 rfl) rfl) ?_
   refine XT.q rfl rfl (Quiet.guardT rfl rfl fun g69 p69 => Q.move rfl) ?_
   refine XT.q rfl rfl (Quiet.guardT rfl rfl fun g70 p70 => Q.move rfl) ?_
   refine XT.q rfl rfl (Quiet.guardT rfl rfl fun g71 p71 => Q.ix (lzv g71 rfl) (lzv g71 rfl) (by omega) (by omega)) ?_
   refine XT.q rfl rfl (Quiet.guardT rfl rfl fun g72 p72 => Q.ldE (lzv g72 rfl) (by first | assumption | omega) rfl) ?_
   refine XT.q rfl rfl (Quiet.guardT rfl rfl fun g73 p73 => Q.ix (lzv g73 rfl) (lzv g73 rfl) (by omega) (by omega)) ?_
   refine XT.q rfl rfl (Quiet.guardT rfl rfl fun g74 p74 => Q.fieldQ (lzv g74 rfl) (by first | assumption | omega)) ?_
   refine XT.q rfl rfl (Quiet.guardT rfl rfl fun g75 p75 => Q.ldE (lzv g75 rfl) (by first | assumption | omega) rfl) ?_
   refine XT.q rfl rfl (Quiet.guardT rfl rfl fun g76 p76 => Q.eql (lzv g76 rfl) (lzv g76 rfl)) ?_
   refine XT.q rfl rfl (Q.and rfl (fun hp => lzv hp rfl)) ?_
   refine XT.done ?_
   refine XK.if rfl (fun c2 => ?_) (fun c2 => ?_)
   ·skip
    have bad : badP (⟨(l.map Prod.snd), rs, m⟩ : PTask) w i j := by
     unfold badP
     dsimp only
     rw [ji, jj]
     simpa using c2
    have ap0 : apartG (⟨(l.map Prod.snd), rs, m⟩ : PTask) w = false := Bool.eq_false_iff.2 fun h => (apart_pairs ok _ (by dsimp only; omega)).1 h i (by omega) j (by omega) bad
    refine XK.seq (XK.region rfl (XO.q (Q.assign rfl) (XO.done ?_)))
    refine XK.rt [] Tryz.func68 Tryz.results68 (.t rfl .n) ?_
    exact ⟨by rw [allowedB, ap0, Bool.and_false], rfl⟩
   ·skip
    have good : ¬ badP (⟨(l.map Prod.snd), rs, m⟩ : PTask) w i j := by
     unfold badP
     dsimp only
     rw [ji, jj]
     simpa using c2
    refine XK.skip ?_
    refine XK.inBlock ?_
    refine XK.region rfl (XO.q (Q.move rfl) ?_)
    refine XO.q (Q.add rfl rfl ⟨by omega, by omega⟩) ?_
    refine XO.q (Q.assign rfl) (XO.done ?_)
    exact ih1 (j + 1) _ _ ⟨by omega, fun b hb => by
     by_cases h : b = j
     ·subst h; exact good
     ·exact nq b (by omega)⟩ (by first | omega | (dsimp only; omega)) (.c rfl (.base 132 rfl rfl)) inferInstance
  ·skip
   have hji : j = i := by omega
   rw [hji] at nq
   refine XK.exit rfl ?_
   refine XK.inBlock ?_
   refine XK.region rfl (XO.q (Q.move rfl) ?_)
   refine XO.q (Q.add rfl rfl ⟨by omega, by omega⟩) ?_
   refine XO.q (Q.assign rfl) (XO.done ?_)
   exact ih0 (i + 1) _ _ ⟨by omega, fun a ha b hb => by
    by_cases h : a = i
    ·subst h; exact nq b hb
    ·exact np a (by omega) b hb⟩ (by first | omega | (dsimp only; omega)) (.c rfl (.base 152 rfl rfl)) inferInstance
 ·skip
  have hil : i = w.length := by omega
  subst hil
  have ap : apartG (⟨(l.map Prod.snd), rs, m⟩ : PTask) w = true := (apart_pairs ok _ (by dsimp only; omega)).2 np
  refine XK.exit rfl ?_
  refine XK.seq (XK.seq (XK.region rfl (XO.q (Q.assign rfl) (XO.done (XK.block ?_)))))
  refine XK.while (X := Nat) [4, 8, 78, 79, 80, 81, 82, 83, 84, 85, 86, 87, 88, 89, 90, 91, 92, 93, 94, 95, 96, 97] (fun r => [(8, some (.int .i64 (r : Nat)))]) (fun r => []) (fun r => r ≤ rs.length ∧ (fitTo (⟨(l.map Prod.snd), rs, m⟩ : PTask) w r) = true) (fun r => rs.length - r) (0) [] rfl ⟨by omega, rfl⟩ (.c rfl (.base 0 rfl rfl)) ?_
  rintro r ⟨hr_, ft⟩ ih2
  dsimp only [lcA, lnA] at ih2 ⊢
  refine XK.seq (XK.seq (XK.region rfl (XO.q (Q.move rfl) ?_)))
  refine XO.q (Q.fieldAddr rfl) ?_
  refine XO.q (Q.ld rfl rfl) ?_
  refine XO.len rfl fun l81 => ?_
  refine XO.q (Q.lss rfl rfl) ?_
  refine XO.done ?_
  refine XK.if rfl (fun c3 => ?_) (fun c3 => ?_)
  ·skip
   refine XK.skip (XK.seq (XK.block (XK.seq ?_)))
   refine XK.drawn [0, 1, 2, 4, 5, 6, 7, 8, 9, 10, 12] [b2] [] (.q 0 (.q 1 (.q 2 (.q 4 (.q 5 (.q 6 (.q 7 (.q 8 (.q 9 (.q 10 (.br 3 true (.br 11 true (.q 12 .done) .stop) .stop))))))))))) Tryz.mixed rfl (by kernel_rfl) ?_
   refine XT.q rfl rfl (Q.ldA [_, _, _, _] rfl rfl rfl) ?_
   refine XT.q rfl rfl (Q.move rfl) ?_
   refine XT.q rfl rfl (Q.move rfl) ?_
   refine XT.q rfl rfl (Q.fieldAddr rfl) ?_
   refine XT.q rfl rfl (Q.ld rfl rfl) ?_
   refine XT.q rfl rfl (Q.move rfl) ?_
   refine XT.ix rfl rfl rfl rfl (by omega) (by omega) fun i92 => ?_
   refine XT.q rfl rfl (Q.ldEA [_, _, _, _, _] rfl (by first | assumption | omega) rfl rfl) ?_
   refine XT.q rfl rfl (Q.fieldAddr rfl) ?_
   refine XT.q rfl rfl (Q.ldA [_, _] rfl rfl rfl) ?_
   refine XT.call rfl rfl Tryz.call70 rfl rfl rfl (members_spec l vl hl K aL rs vr hr m w vw hw (r : Nat) (by omega) (by omega)) (fun v88 s88 R88 => ?_) XT.stop
   obtain ⟨k88, rfl, O88⟩ := R88
   dsimp only [lcA, lnA]
   refine ⟨inferInstance, ?_⟩
   have em : ((inTo l w (r : Nat) w.length).map Prod.snd) = inL (⟨(l.map Prod.snd), rs, m⟩ : PTask) w r := in_mem _
   refine XT.call rfl rfl Tryz.call95 rfl rfl rfl (rfits_spec (inTo l w (r : Nat) w.length) v88 k88 K (aL.inTo (by omega)) (by rw [em]; exact lok r (by omega)) (rs.getD r default) m ok.most) (fun v96 s96 R96 => ?_) XT.stop
   obtain ⟨rfl, rfl⟩ := R96
   dsimp only [lcA, lnA]
   refine ⟨inferInstance, ?_⟩
   rw [show fitsG ((inTo l w (r : Nat) w.length).map Prod.snd) (rs.getD r default) m = fitAt (⟨(l.map Prod.snd), rs, m⟩ : PTask) w r by rw [em]; rfl]
   refine XT.q rfl rfl (Q.not rfl) ?_
   refine XT.done ?_
   refine XK.if rfl (fun c4 => ?_) (fun c4 => ?_)
   ·skip
    refine XK.seq (XK.region rfl (XO.q (Q.assign rfl) (XO.done ?_)))
    refine XK.rt [] Tryz.func68 Tryz.results68 (.t rfl .n) ?_
    exact ⟨by rw [allowedB, fitTo_false (n := r + 1) (by rw [fitTo, ft, Bool.eq_false_iff.2 c4]; rfl) _ (by dsimp only; omega)]; rfl, rfl⟩
   ·skip
    refine XK.skip ?_
    refine XK.inBlock ?_
    refine XK.region rfl (XO.q (Q.move rfl) ?_)
    refine XO.q (Q.add rfl rfl ⟨by omega, by omega⟩) ?_
    refine XO.q (Q.assign rfl) (XO.done ?_)
    exact ih2 (r + 1) _ _ ⟨by omega, by rw [fitTo, ft, Decidable.of_not_not c4]; rfl⟩ (by first | omega | (dsimp only; omega)) (.c rfl (.base 44 rfl rfl)) inferInstance
  ·skip
   have hrl : r = rs.length := by omega
   subst hrl
   refine XK.exit rfl ?_
   refine XK.seq (XK.region rfl (XO.q (Q.assign rfl) (XO.done ?_)))
   refine XK.rt [] Tryz.func68 Tryz.results68 (.t rfl .n) ?_
   exact ⟨by rw [allowedB, ap]; dsimp only; rw [ft]; rfl, rfl⟩
theorem rAllowed_spec (l : List (Value × PJob)) (vl : Value) (hl K : PHeap) [jl : Arr vl encPJ 6 hl l] (aL : JobsK l K) (rs : List PRack) (vr : Value) (hr : PHeap) [jr : Arr vr encRack 5 hr rs] (m : PRat) (w : List Int) (vw : Value) (hw : PHeap) [jw : Arr vw encI 1 hw w] : Spec Tryz.prog 22 #[.agg #[vl, vr, .int .i64 m.n, .int .i64 m.d], vw] [] [hl, K, hr, hw] (fun v hs => v = .tuple #[.bool (allowedG (⟨(l.map Prod.snd), rs, m⟩ : PTask) w).1, .int .i64 (allowedG (⟨(l.map Prod.snd), rs, m⟩ : PTask) w).2] ∧ hs = []) := by
 have lm : (l.map Prod.snd).length = l.length := List.length_map ..
 refine Spec.intro (fn := Tryz.f22) (N := 16) Tryz.func22 rfl Tryz.ntmps22 rfl fun B => ?_
 refine XK.seq (XK.region rfl ?_)
 refine XO.box rfl fun b2 => ?_
 refine XO.q (Q.assign rfl) (XO.q (Q.assign rfl) (XO.done (XK.seq (XK.seq (XK.region rfl ?_)))))
 refine XO.q (Q.ldA [_, _, _, _] rfl rfl rfl) ?_
 refine XO.q (Q.move rfl) ?_
 refine XO.call Tryz.call67 rfl rfl rfl (rformed_spec l vl hl K aL rs vr hr m w vw hw) fun v9 s9 R9 => ?_
 obtain ⟨rfl, rfl⟩ := R9
 dsimp only [lcA, lnA]
 refine XO.q (Q.assign rfl) (XO.done (XK.seq (XK.region rfl (XO.q (Q.move rfl) ?_))))
 refine XO.q (Q.neq rfl rfl) ?_
 refine XO.done ?_
 refine XK.if rfl (fun c0 => ?_) (fun c0 => ?_)
 ·skip
  refine XK.seq (XK.region rfl (XO.q (Q.move rfl) (XO.q (Q.assign rfl) (XO.q (Q.assign rfl) (XO.done ?_)))))
  refine XK.rt [] Tryz.func22 Tryz.results22 (.t rfl (.t rfl .n)) ?_
  exact ⟨by rw [allowedG, if_pos c0], rfl⟩
 ·skip
  have fk := formed_iff (Decidable.of_not_not c0)
  refine XK.skip (XK.seq (XK.region rfl ?_))
  refine XO.q (Q.ldA [_, _, _, _] rfl rfl rfl) ?_
  refine XO.q (Q.move rfl) ?_
  refine XO.call Tryz.call68 rfl rfl rfl (rallowed_spec l vl hl K aL rs vr hr m w vw hw fk.1 fk.2.1 (by have := fk.2.2.1; dsimp only at this; omega) fk.2.2.2) fun v15 s15 R15 => ?_
  obtain ⟨rfl, rfl⟩ := R15
  dsimp only [lcA, lnA]
  refine XO.q (Q.assign rfl) (XO.q (Q.assign rfl) (XO.done ?_))
  refine XK.rt [] Tryz.func22 Tryz.results22 (.t rfl (.t rfl .n)) ?_
  exact ⟨by rw [allowedG, if_neg c0], rfl⟩
end Go.X

set_option linter.unusedSimpArgs false
set_option linter.unusedVariables false
set_option maxRecDepth 20000
namespace Go.X
open Go.Proofs
end Go.X

set_option linter.unusedSimpArgs false
set_option linter.unusedVariables false
set_option maxRecDepth 20000
namespace Go.X
open Go.Proofs
def encRow4 (x : PRow) : List Value := [.int .i64 x.a, .int .i64 x.b, .int .i64 x.c, .int .i64 x.d]
set_option maxHeartbeats 4000000 in
theorem Spare_spec (l : List (Value × PJob)) (vl : Value) (hl K : PHeap) [jl : Arr vl encPJ 6 hl l] (aL : JobsK l K) (rs : List PRack) (vr : Value) (hr : PHeap) [jr : Arr vr encRack 5 hr rs] (m : PRat) (w : List Int) (vw : Value) (hw : PHeap) [jw : Arr vw encI 1 hw w] : Spec Tryz.prog 23 #[.agg #[vl, vr, .int .i64 m.n, .int .i64 m.d], vw] [] [hl, K, hr, hw] (fun v hs => ∃ vo ko, v = .tuple #[vo, .int .i64 (spareG (⟨(l.map Prod.snd), rs, m⟩ : PTask) w).2] ∧ hs = [ko] ∧ OArr vo encRow4 4 74 ko (spareG (⟨(l.map Prod.snd), rs, m⟩ : PTask) w).1) := by
 have nR : OArr (.slice none 0 0) encRow4 4 74 emp ([] : List PRow) := OArr.nil (fun _ => rfl)
 have lm : (l.map Prod.snd).length = l.length := List.length_map ..
 refine Spec.intro (fn := Tryz.f23) (N := 87) Tryz.func23 rfl Tryz.ntmps23 rfl fun B => ?_
 refine XK.seq (XK.region rfl ?_)
 refine XO.box rfl fun b2 => ?_
 refine XO.q (Q.assign rfl) (XO.q (Q.assign rfl) (XO.done (XK.seq (XK.seq (XK.region rfl ?_)))))
 refine XO.q (Q.ldA [_, _, _, _] rfl rfl rfl) ?_
 refine XO.q (Q.move rfl) ?_
 refine XO.call Tryz.call65 rfl rfl rfl (formed_spec l vl hl K aL rs vr hr m w vw hw) fun v17 s17 R17 => ?_
 obtain ⟨rfl, rfl⟩ := R17
 dsimp only [lcA, lnA]
 refine XO.q (Q.assign rfl) (XO.done (XK.seq (XK.region rfl (XO.q (Q.move rfl) ?_))))
 refine XO.q (Q.neq rfl rfl) ?_
 refine XO.done ?_
 refine XK.if rfl (fun c0 => ?_) (fun c0 => ?_)
 ·skip
  refine XK.seq (XK.region rfl (XO.q (Q.move rfl) (XO.q (Q.assign rfl) (XO.q (Q.assign rfl) (XO.done ?_)))))
  refine XK.rt [emp] Tryz.func23 Tryz.results23 (.t rfl (.t rfl .n)) ?_
  have hz : spareG (⟨(l.map Prod.snd), rs, m⟩ : PTask) w = ([], formedG (⟨(l.map Prod.snd), rs, m⟩ : PTask) w) := by rw [spareG, if_pos c0]
  rw [hz]
  exact ⟨.slice none 0 0, emp, rfl, rfl, nR⟩
 ·skip
  have fk := formed_iff (Decidable.of_not_not c0)
  have few := fk.1.few
  have rk5 := fk.1.rk5
  have hwl : w.length = l.length := by have := fk.2.2.1; dsimp only at this; omega
  dsimp only at few rk5
  refine XK.skip (XK.seq (XK.seq (XK.region rfl ?_)))
  refine XO.q (Q.ldA [_, _, _, _] rfl rfl rfl) ?_
  refine XO.q (Q.move rfl) ?_
  refine XO.call Tryz.call66 rfl rfl rfl (allowed_spec l vl hl K aL rs vr hr m w vw hw fk.1 fk.2.1 fk.2.2.2) fun v23 s23 R23 => ?_
  obtain ⟨rfl, rfl⟩ := R23
  dsimp only [lcA, lnA]
  refine XO.q (Q.not rfl) ?_
  refine XO.done ?_
  refine XK.if rfl (fun c1 => ?_) (fun c1 => ?_)
  ·skip
   refine XK.seq (XK.region rfl (XO.q (Q.assign rfl) (XO.q (Q.assign rfl) (XO.done ?_))))
   refine XK.rt [emp] Tryz.func23 Tryz.results23 (.t rfl (.t rfl .n)) ?_
   have hz : spareG (⟨(l.map Prod.snd), rs, m⟩ : PTask) w = ([], 90) := by rw [spareG, if_neg c0, if_pos c1]
   rw [hz]
   exact ⟨.slice none 0 0, emp, rfl, rfl, nR⟩
  ·skip
   refine XK.skip (XK.seq (XK.region rfl (XO.q (Q.assign rfl) (XO.done (XK.seq ?_)))))
   refine XK.seq (XK.region rfl ?_)
   refine XO.q (Q.fieldAddr rfl) ?_
   refine XO.q (Q.ld rfl rfl) ?_
   refine XO.len rfl fun l27 => ?_
   refine XO.q (Q.move rfl) (XO.done (XK.block ?_))
   refine XK.while (X := Nat × Value × PHeap) [7, 8, 9, 10, 12, 13, 14, 28, 29, 30, 31, 32, 33, 34, 35, 36, 37, 38, 39, 40, 41, 42, 43, 44, 45, 46, 47, 48, 49, 50, 51, 52, 53, 54, 55, 56, 57, 58, 59, 60, 61, 62, 63, 64, 65, 66, 67, 68, 69, 70, 71, 72, 73, 74, 75, 76, 77, 78, 79, 80, 81, 82, 83, 84, 85] (fun ⟨i, vo, ko⟩ => [(28, some (.int .i64 (i : Nat))), (7, some (vo))]) (fun ⟨i, vo, ko⟩ => [ko]) (fun ⟨i, vo, ko⟩ => i ≤ rs.length ∧ OArr vo encRow4 4 74 ko (rowsTo (⟨(l.map Prod.snd), rs, m⟩ : PTask) w i)) (fun ⟨i, vo, ko⟩ => rs.length - i) (0, .slice none 0 0, emp) [emp] rfl ⟨by omega, nR⟩ (.c rfl (.c rfl (.base 0 rfl rfl))) ?_
   rintro ⟨i, vo, ko⟩ ⟨hi, OV⟩ ih0
   dsimp only [lcA, lnA] at ih0 ⊢
   refine XK.seq (XK.region rfl ?_)
   refine XO.q (Q.lss rfl rfl) ?_
   refine XO.done (XK.seq ?_)
   refine XK.if rfl (fun c2 => ?_) (fun c2 => ?_)
   ·skip
    have rr := fk.1.rack i (by dsimp only; omega)
    dsimp only at rr
    unfold rackR at rr
    rw [Bool.and_eq_true, Bool.and_eq_true] at rr
    have q3 := pin_three.1 rr.1.1
    have q1 := pin_one.1 rr.1.2
    refine XK.skip (XK.seq (XK.block (XK.seq (XK.region rfl (XO.q (Q.move rfl) ?_)))))
    refine XO.ix rfl rfl (by omega) (by omega) fun i31 => ?_
    refine XO.q (Q.ldEA [_, _, _, _, _] rfl (by first | assumption | omega) rfl rfl) ?_
    refine XO.alloc fun b9 => ?_
    refine XO.q (Q.assign rfl) ?_
    refine XO.st rfl rfl rfl ?_
    refine XO.done (XK.seq (XK.region rfl ?_))
    refine XO.q (Q.fieldAddr rfl) ?_
    refine XO.q (Q.ixA rfl rfl (by omega) (by omega)) ?_
    refine XO.q (Q.ld rfl rfl) ?_
    refine XO.q (Q.fieldAddr rfl) ?_
    refine XO.q (Q.ixA rfl rfl (by omega) (by omega)) ?_
    refine XO.q (Q.ld rfl rfl) ?_
    refine XO.q (Q.fieldAddr rfl) ?_
    refine XO.q (Q.ixA rfl rfl (by omega) (by omega)) ?_
    refine XO.q (Q.ld rfl rfl) ?_
    refine XO.q (Q.fieldAddr rfl) ?_
    refine XO.q (Q.ld rfl rfl) ?_
    refine XO.q (Q.build [_, _, _, _] (.c 0 1 rfl rfl rfl (.c 1 1 rfl rfl rfl (.c 2 1 rfl rfl rfl (.c 3 1 rfl rfl rfl (.n _)))))) ?_
    refine XO.alloc fun b10 => ?_
    refine XO.st rfl rfl rfl ?_
    refine XO.done (XK.seq (XK.seq (XK.region rfl ?_)))
    refine XO.q (Q.ldA [_, _, _, _] rfl rfl rfl) ?_
    refine XO.q (Q.move rfl) (XO.q (Q.move rfl) ?_)
    refine XO.call Tryz.call69 rfl rfl rfl (in_spec l vl hl K aL rs vr hr m w vw hw (i : Nat) (by omega) (by omega)) fun v48 s48 R48 => ?_
    obtain ⟨k48, rfl, O48⟩ := R48
    dsimp only [lcA, lnA]
    have em : ((inTo l w (i : Nat) w.length).map Prod.snd) = inL (⟨(l.map Prod.snd), rs, m⟩ : PTask) w i := in_mem _
    have il : ((inTo l w (i : Nat) w.length).map Prod.snd).length = (inTo l w (i : Nat) w.length).length := List.length_map ..
    have lok := fk.2.2.2 i (by dsimp only; omega)
    rw [← em] at lok
    have kk := aL.inTo (w := w) (r := (i : Nat)) (n := w.length) (by omega)
    refine XO.len rfl fun l49 => ?_
    refine XO.q (Q.move rfl) (XO.done (XK.block ?_))
    refine XK.while (X := Nat × Int × Int × Int × Int) [12, 13, 14, 50, 51, 52, 53, 54, 55, 56, 57, 58, 59, 60, 61, 62, 63, 64, 65, 66, 67, 68, 69, 70, 71, 72, 73, 74, 75, 76, 77, 78, 79, 80] (fun ⟨j, xa, xb, xc, xd⟩ => [(50, some (.int .i64 (j : Nat)))]) (fun ⟨j, xa, xb, xc, xd⟩ => [blk b10 [.int .i64 xa, .int .i64 xb, .int .i64 xc, .int .i64 xd] 74]) (fun ⟨j, xa, xb, xc, xd⟩ => j ≤ (inTo l w (i : Nat) w.length).length ∧ xa = (rs.getD i default).r0 - needK ((inTo l w (i : Nat) w.length).map Prod.snd) 0 j ∧ xb = (rs.getD i default).r1 - needK ((inTo l w (i : Nat) w.length).map Prod.snd) 1 j ∧ xc = (rs.getD i default).r2 - needK ((inTo l w (i : Nat) w.length).map Prod.snd) 2 j ∧ xd = (rs.getD i default).cap - topK ((inTo l w (i : Nat) w.length).map Prod.snd) j) (fun ⟨j, xa, xb, xc, xd⟩ => (inTo l w (i : Nat) w.length).length - j) (0, (rs.getD i default).r0, (rs.getD i default).r1, (rs.getD i default).r2, (rs.getD i default).cap) [blk b10 [.int .i64 (rs.getD i default).r0, .int .i64 (rs.getD i default).r1, .int .i64 (rs.getD i default).r2, .int .i64 (rs.getD i default).cap] 74] rfl ⟨by omega, by simp [needK], by simp [needK], by simp [needK], by simp [topK]⟩ (.c rfl (.base 0 rfl rfl)) ?_
    rintro ⟨j, xa, xb, xc, xd⟩ ⟨hj_, ea, eb, ec, ed⟩ ih1
    dsimp only [lcA, lnA] at ih1 ⊢
    refine XK.seq (XK.region rfl ?_)
    refine XO.q (Q.lss rfl rfl) ?_
    refine XO.done (XK.seq ?_)
    refine XK.if rfl (fun c3 => ?_) (fun c3 => ?_)
    ·skip
     have ji := map_snd_atP (inTo l w (i : Nat) w.length) j
     have ai := kk j (by omega)
     have jok := lok.job j (by omega)
     rw [ji] at jok
     have nr := pin_three.1 jok.need
     have na := need_succ (l := ((inTo l w (i : Nat) w.length).map Prod.snd)) (i := j) (by omega)
     rw [ji] at na
     have nb := need_rng lok j (by omega)
     have lf := lok.few
     have tb := topK_rng lok.job j (by omega)
     have tj := topJ_rng jok
     have nt : topK ((inTo l w (i : Nat) w.length).map Prod.snd) (j + 1) = topK ((inTo l w (i : Nat) w.length).map Prod.snd) j + topJ ((inTo l w (i : Nat) w.length).getD j default).2 := by rw [topK, ji]
     obtain ⟨na0, na1, na2⟩ := na
     have dw := jok.few
     unfold topJ at tj nt
     refine XK.skip (XK.seq (XK.block (XK.seq (XK.region rfl ?_))))
     refine XO.ix rfl rfl (by omega) (by omega) fun i52 => ?_
     refine XO.q (Q.ldEA [_, _, _, _, _, _] rfl (by first | assumption | omega) rfl rfl) ?_
     refine XO.alloc fun b12 => ?_
     refine XO.st rfl rfl rfl ?_
     refine XO.done (XK.seq (XK.seq (XK.region rfl ?_)))
     refine XO.q (Q.fieldAddr rfl) ?_
     refine XO.q (Q.ldA [_, _, _] rfl rfl rfl) ?_
     refine XO.q (Q.move rfl) ?_
     (try rw [show ((0 : Int) + 1) = 1 from rfl])
     (try rw [show ((1 : Int) + 1) = 2 from rfl])
     (try rw [show ((2 : Int) + 1) = 3 from rfl])
     refine XO.done (XK.block ?_)
     refine XK.loop' ?_
     refine XK.seq (XK.region rfl ?_)
     refine XO.q (Q.lss rfl rfl) ?_
     refine XO.done (XK.seq ?_)
     refine XK.if rfl (fun c4 => ?_) (fun c4 => ?_)
     ·skip
      refine XK.skip (XK.seq (XK.block (XK.seq (XK.region rfl (XO.q (Q.move rfl) ?_)))))
      refine XO.q (Q.index rfl rfl (by decide) (Nat.le_of_ble_eq_true rfl)) ?_
      refine XO.q (Q.assign rfl) (XO.q (Q.assign rfl) (XO.done (XK.region rfl (XO.q (Q.move rfl) ?_))))
      refine XO.q (Q.ixA rfl rfl (by omega) (by omega)) ?_
      (try rw [show (0 + Int.toNat 0 * 1 : Nat) = 0 from rfl])
      (try rw [show (0 + Int.toNat 1 * 1 : Nat) = 1 from rfl])
      (try rw [show (0 + Int.toNat 2 * 1 : Nat) = 2 from rfl])
      refine XO.q (Q.ld rfl rfl) ?_
      refine XO.q (Q.move rfl) ?_
      refine XO.q (Q.sub rfl rfl ⟨by omega, by omega⟩) ?_
      refine XO.q (Q.ixA rfl rfl (by omega) (by omega)) ?_
      (try rw [show (0 + Int.toNat 0 * 1 : Nat) = 0 from rfl])
      (try rw [show (0 + Int.toNat 1 * 1 : Nat) = 1 from rfl])
      (try rw [show (0 + Int.toNat 2 * 1 : Nat) = 2 from rfl])
      refine XO.st rfl rfl rfl ?_
      refine XO.done ?_
      refine XK.inBlock ?_
      refine XK.region rfl ?_
      refine XO.q (Q.add rfl rfl ⟨by omega, by omega⟩) ?_
      (try rw [show ((0 : Int) + 1) = 1 from rfl])
      (try rw [show ((1 : Int) + 1) = 2 from rfl])
      (try rw [show ((2 : Int) + 1) = 3 from rfl])
      refine XO.q (Q.move rfl) ?_
      (try rw [show ((0 : Int) + 1) = 1 from rfl])
      (try rw [show ((1 : Int) + 1) = 2 from rfl])
      (try rw [show ((2 : Int) + 1) = 3 from rfl])
      refine XO.done ?_
      refine XK.inLoop' ?_
      refine XK.seq (XK.region rfl ?_)
      refine XO.q (Q.lss rfl rfl) ?_
      refine XO.done (XK.seq ?_)
      refine XK.if rfl (fun c5 => ?_) (fun c5 => ?_)
      ·skip
       refine XK.skip (XK.seq (XK.block (XK.seq (XK.region rfl (XO.q (Q.move rfl) ?_)))))
       refine XO.q (Q.index rfl rfl (by decide) (Nat.le_of_ble_eq_true rfl)) ?_
       refine XO.q (Q.assign rfl) (XO.q (Q.assign rfl) (XO.done (XK.region rfl (XO.q (Q.move rfl) ?_))))
       refine XO.q (Q.ixA rfl rfl (by omega) (by omega)) ?_
       (try rw [show (0 + Int.toNat 0 * 1 : Nat) = 0 from rfl])
       (try rw [show (0 + Int.toNat 1 * 1 : Nat) = 1 from rfl])
       (try rw [show (0 + Int.toNat 2 * 1 : Nat) = 2 from rfl])
       refine XO.q (Q.ld rfl rfl) ?_
       refine XO.q (Q.move rfl) ?_
       refine XO.q (Q.sub rfl rfl ⟨by omega, by omega⟩) ?_
       refine XO.q (Q.ixA rfl rfl (by omega) (by omega)) ?_
       (try rw [show (0 + Int.toNat 0 * 1 : Nat) = 0 from rfl])
       (try rw [show (0 + Int.toNat 1 * 1 : Nat) = 1 from rfl])
       (try rw [show (0 + Int.toNat 2 * 1 : Nat) = 2 from rfl])
       refine XO.st rfl rfl rfl ?_
       refine XO.done ?_
       refine XK.inBlock ?_
       refine XK.region rfl ?_
       refine XO.q (Q.add rfl rfl ⟨by omega, by omega⟩) ?_
       (try rw [show ((0 : Int) + 1) = 1 from rfl])
       (try rw [show ((1 : Int) + 1) = 2 from rfl])
       (try rw [show ((2 : Int) + 1) = 3 from rfl])
       refine XO.q (Q.move rfl) ?_
       (try rw [show ((0 : Int) + 1) = 1 from rfl])
       (try rw [show ((1 : Int) + 1) = 2 from rfl])
       (try rw [show ((2 : Int) + 1) = 3 from rfl])
       refine XO.done ?_
       refine XK.inLoop' ?_
       refine XK.seq (XK.region rfl ?_)
       refine XO.q (Q.lss rfl rfl) ?_
       refine XO.done (XK.seq ?_)
       refine XK.if rfl (fun c6 => ?_) (fun c6 => ?_)
       ·skip
        refine XK.skip (XK.seq (XK.block (XK.seq (XK.region rfl (XO.q (Q.move rfl) ?_)))))
        refine XO.q (Q.index rfl rfl (by decide) (Nat.le_of_ble_eq_true rfl)) ?_
        refine XO.q (Q.assign rfl) (XO.q (Q.assign rfl) (XO.done (XK.region rfl (XO.q (Q.move rfl) ?_))))
        refine XO.q (Q.ixA rfl rfl (by omega) (by omega)) ?_
        (try rw [show (0 + Int.toNat 0 * 1 : Nat) = 0 from rfl])
        (try rw [show (0 + Int.toNat 1 * 1 : Nat) = 1 from rfl])
        (try rw [show (0 + Int.toNat 2 * 1 : Nat) = 2 from rfl])
        refine XO.q (Q.ld rfl rfl) ?_
        refine XO.q (Q.move rfl) ?_
        refine XO.q (Q.sub rfl rfl ⟨by omega, by omega⟩) ?_
        refine XO.q (Q.ixA rfl rfl (by omega) (by omega)) ?_
        (try rw [show (0 + Int.toNat 0 * 1 : Nat) = 0 from rfl])
        (try rw [show (0 + Int.toNat 1 * 1 : Nat) = 1 from rfl])
        (try rw [show (0 + Int.toNat 2 * 1 : Nat) = 2 from rfl])
        refine XO.st rfl rfl rfl ?_
        refine XO.done ?_
        refine XK.inBlock ?_
        refine XK.region rfl ?_
        refine XO.q (Q.add rfl rfl ⟨by omega, by omega⟩) ?_
        (try rw [show ((0 : Int) + 1) = 1 from rfl])
        (try rw [show ((1 : Int) + 1) = 2 from rfl])
        (try rw [show ((2 : Int) + 1) = 3 from rfl])
        refine XO.q (Q.move rfl) ?_
        (try rw [show ((0 : Int) + 1) = 1 from rfl])
        (try rw [show ((1 : Int) + 1) = 2 from rfl])
        (try rw [show ((2 : Int) + 1) = 3 from rfl])
        refine XO.done ?_
        refine XK.inLoop' ?_
        refine XK.seq (XK.region rfl ?_)
        refine XO.q (Q.lss rfl rfl) ?_
        refine XO.done (XK.seq ?_)
        refine XK.if rfl (fun c7 => ?_) (fun c7 => ?_)
        ·skip
         exact absurd c7 (by first | decide | simp)
        ·skip
         refine XK.exit rfl ?_
         refine XK.drawn [0, 1, 2, 3, 4, 5, 6, 7, 8, 9, 10, 11, 12] [b10, b12] [] (.q 0 (.q 1 (.q 2 (.q 3 (.q 4 (.q 5 (.q 6 (.q 7 (.q 8 (.q 9 (.q 10 (.q 11 (.q 12 (.br 13 false .done .stop)))))))))))))) Tryz.mixed rfl (by kernel_rfl) ?_
         refine XT.q rfl rfl (Q.ixA rfl rfl (by omega) (by omega)) ?_
         (try rw [show (0 + Int.toNat 3 * 1 : Nat) = 3 from rfl])
         refine XT.q rfl rfl (Q.ld rfl rfl) ?_
         refine XT.q rfl rfl (Q.fieldAddr rfl) ?_
         refine XT.q rfl rfl (Q.ld rfl rfl) ?_
         refine XT.q rfl rfl (Q.fieldAddr rfl) ?_
         refine XT.q rfl rfl (Q.ld rfl rfl) ?_
         refine XT.q rfl rfl (Q.len rfl) ?_
         refine XT.q rfl rfl (Q.sub rfl rfl ⟨by omega, by omega⟩) ?_
         refine XT.ix rfl rfl rfl rfl (by omega) (by omega) fun i75 => ?_
         refine XT.q rfl rfl (Q.fieldQ rfl (by first | assumption | omega)) ?_
         refine XT.q rfl rfl (Q.ldE rfl (by first | assumption | omega) rfl) ?_
         rw [show ((((inTo l w (i : Nat) w.length).getD j default).2.draws.length : Int) - 1).toNat = ((inTo l w (i : Nat) w.length).getD j default).2.draws.length - 1 by omega]
         refine XT.q rfl rfl (Q.sub rfl rfl ⟨by omega, by omega⟩) ?_
         refine XT.q rfl rfl (Q.ixA rfl rfl (by omega) (by omega)) ?_
         (try rw [show (0 + Int.toNat 3 * 1 : Nat) = 3 from rfl])
         refine XT.st rfl rfl rfl rfl rfl ⟨inferInstance, ?_⟩ XT.stop
         refine XT.done ?_
         refine XK.inBlock ?_
         refine XK.region rfl ?_
         refine XO.q (Q.add rfl rfl ⟨by omega, by omega⟩) ?_
         refine XO.q (Q.move rfl) (XO.done ?_)
         exact ih1 (j + 1, xa - ((inTo l w (i : Nat) w.length).getD j default).2.n0, xb - ((inTo l w (i : Nat) w.length).getD j default).2.n1, xc - ((inTo l w (i : Nat) w.length).getD j default).2.n2, xd - (((inTo l w (i : Nat) w.length).getD j default).2.draws.getD (((inTo l w (i : Nat) w.length).getD j default).2.draws.length - 1) default).power) _ _ ⟨by dsimp only; omega, by dsimp only; omega, by dsimp only; omega, by dsimp only; omega, by dsimp only; omega⟩ (by first | omega | (dsimp only; omega)) (.c rfl (.base 97 rfl rfl)) inferInstance
       ·skip
        exact absurd (by first | decide | simp) c6
      ·skip
       exact absurd (by first | decide | simp) c5
     ·skip
      exact absurd (by first | decide | simp) c4
    ·skip
     have hj : j = ((inTo l w (i : Nat) w.length).map Prod.snd).length := by omega
     subst hj
     subst ea eb ec ed
     refine XK.exit rfl ?_
     refine XK.region rfl (XO.q (Q.move rfl) ?_)
     refine XO.q (Q.ldA [_, _, _, _] rfl rfl rfl) ?_
     refine XO.lit [_, _, _, _] [_, _, _, _] [leftR (rs.getD i default) ((inTo l w (i : Nat) w.length).map Prod.snd) ((inTo l w (i : Nat) w.length).map Prod.snd).length] encRow4 (by rfl) (by rfl) rfl (by rfl) (by exact .c 0 4 rfl rfl rfl (.n _)) (fun _ => rfl) (by rfl) rfl (by infer_instance) rfl fun v83 h83 O83 => ?_
     refine XO.append rfl rfl rfl rfl (by have := rowsTo_len (⟨l.map Prod.snd, rs, m⟩ : PTask) w i; simp only [List.length_cons, List.length_nil]; omega) fun v84 h84 O84 => ?_
     refine XO.q (Q.assign rfl) (XO.done ?_)
     refine XK.inBlock ?_
     refine XK.region rfl ?_
     refine XO.q (Q.add rfl rfl ⟨by omega, by omega⟩) ?_
     refine XO.q (Q.move rfl) (XO.done ?_)
     exact ih0 (i + 1, v84, h84) _ _ ⟨by dsimp only; omega, by dsimp only; rw [rowsTo, rowG, ← em]; exact O84⟩ (by first | omega | (dsimp only; omega)) (.c rfl (.c rfl (.base 135 rfl rfl))) inferInstance
   ·skip
    have hin : i = rs.length := by omega
    subst hin
    refine XK.exit rfl ?_
    refine XK.seq (XK.region rfl (XO.q (Q.move rfl) (XO.q (Q.assign rfl) (XO.q (Q.assign rfl) (XO.done ?_)))))
    refine XK.rt [ko] Tryz.func23 Tryz.results23 (.t rfl (.t rfl .n)) ?_
    have hz : spareG (⟨(l.map Prod.snd), rs, m⟩ : PTask) w = (rowsTo (⟨(l.map Prod.snd), rs, m⟩ : PTask) w rs.length, 0) := by rw [spareG, if_neg c0, if_neg c1]
    rw [hz]
    exact ⟨vo, ko, rfl, rfl, OV⟩
end Go.X

set_option linter.unusedSimpArgs false
set_option linter.unusedVariables false
set_option maxRecDepth 20000
namespace Go.X
open Go.Proofs
set_option maxHeartbeats 4000000 in
theorem rSpare_spec (l : List (Value × PJob)) (vl : Value) (hl K : PHeap) [jl : Arr vl encPJ 6 hl l] (aL : JobsK l K) (rs : List PRack) (vr : Value) (hr : PHeap) [jr : Arr vr encRack 5 hr rs] (m : PRat) (w : List Int) (vw : Value) (hw : PHeap) [jw : Arr vw encI 1 hw w] : Spec Tryz.prog 24 #[.agg #[vl, vr, .int .i64 m.n, .int .i64 m.d], vw] [] [hl, K, hr, hw] (fun v hs => ∃ vo ko, v = .tuple #[vo, .int .i64 (spareG (⟨(l.map Prod.snd), rs, m⟩ : PTask) w).2] ∧ hs = [ko] ∧ OArr vo encRow4 4 74 ko (spareG (⟨(l.map Prod.snd), rs, m⟩ : PTask) w).1) := by
 have nR : OArr (.slice none 0 0) encRow4 4 74 emp ([] : List PRow) := OArr.nil (fun _ => rfl)
 have lm : (l.map Prod.snd).length = l.length := List.length_map ..
 refine Spec.intro (fn := Tryz.f24) (N := 111) Tryz.func24 rfl Tryz.ntmps24 rfl fun B => ?_
 refine XK.seq (XK.region rfl ?_)
 refine XO.box rfl fun b2 => ?_
 refine XO.q (Q.assign rfl) (XO.q (Q.assign rfl) (XO.done (XK.seq (XK.seq (XK.region rfl ?_)))))
 refine XO.q (Q.ldA [_, _, _, _] rfl rfl rfl) ?_
 refine XO.q (Q.move rfl) ?_
 refine XO.call Tryz.call67 rfl rfl rfl (rformed_spec l vl hl K aL rs vr hr m w vw hw) fun v15 s15 R15 => ?_
 obtain ⟨rfl, rfl⟩ := R15
 dsimp only [lcA, lnA]
 refine XO.q (Q.assign rfl) (XO.done (XK.seq (XK.region rfl (XO.q (Q.move rfl) ?_))))
 refine XO.q (Q.neq rfl rfl) ?_
 refine XO.done ?_
 refine XK.if rfl (fun c0 => ?_) (fun c0 => ?_)
 ·skip
  refine XK.seq (XK.region rfl (XO.q (Q.move rfl) (XO.q (Q.assign rfl) (XO.q (Q.assign rfl) (XO.done ?_)))))
  refine XK.rt [emp] Tryz.func24 Tryz.results24 (.t rfl (.t rfl .n)) ?_
  have hz : spareG (⟨(l.map Prod.snd), rs, m⟩ : PTask) w = ([], formedG (⟨(l.map Prod.snd), rs, m⟩ : PTask) w) := by rw [spareG, if_pos c0]
  rw [hz]
  exact ⟨.slice none 0 0, emp, rfl, rfl, nR⟩
 ·skip
  have fk := formed_iff (Decidable.of_not_not c0)
  have few := fk.1.few
  have rk5 := fk.1.rk5
  have hwl : w.length = l.length := by have := fk.2.2.1; dsimp only at this; omega
  dsimp only at few rk5
  refine XK.skip (XK.seq (XK.seq (XK.region rfl ?_)))
  refine XO.q (Q.ldA [_, _, _, _] rfl rfl rfl) ?_
  refine XO.q (Q.move rfl) ?_
  refine XO.call Tryz.call68 rfl rfl rfl (rallowed_spec l vl hl K aL rs vr hr m w vw hw fk.1 fk.2.1 (by omega) fk.2.2.2) fun v21 s21 R21 => ?_
  obtain ⟨rfl, rfl⟩ := R21
  dsimp only [lcA, lnA]
  refine XO.q (Q.not rfl) ?_
  refine XO.done ?_
  refine XK.if rfl (fun c1 => ?_) (fun c1 => ?_)
  ·skip
   refine XK.seq (XK.region rfl (XO.q (Q.assign rfl) (XO.q (Q.assign rfl) (XO.done ?_))))
   refine XK.rt [emp] Tryz.func24 Tryz.results24 (.t rfl (.t rfl .n)) ?_
   have hz : spareG (⟨(l.map Prod.snd), rs, m⟩ : PTask) w = ([], 90) := by rw [spareG, if_neg c0, if_pos c1]
   rw [hz]
   exact ⟨.slice none 0 0, emp, rfl, rfl, nR⟩
  ·skip
   refine XK.skip (XK.seq (XK.region rfl (XO.q (Q.assign rfl) (XO.done (XK.seq ?_)))))
   refine XK.seq (XK.region rfl (XO.q (Q.assign rfl) (XO.done (XK.block ?_))))
   refine XK.while (X := Nat × Value × PHeap) [7, 8, 9, 10, 11, 12, 23, 24, 25, 26, 27, 28, 29, 30, 31, 32, 33, 34, 35, 36, 37, 38, 39, 40, 41, 42, 43, 44, 45, 46, 47, 48, 49, 50, 51, 52, 53, 54, 55, 56, 57, 58, 59, 60, 61, 62, 63, 64, 65, 66, 67, 68, 69, 70, 71, 72, 73, 74, 75, 76, 77, 78, 79, 80, 81, 82, 83, 84, 85, 86, 87, 88, 89, 90, 91, 92, 93, 94, 95, 96, 97, 98, 99, 100, 101, 102, 103, 104, 105, 106, 107, 108, 109] (fun ⟨i, vo, ko⟩ => [(8, some (.int .i64 (i : Nat))), (7, some (vo))]) (fun ⟨i, vo, ko⟩ => [ko]) (fun ⟨i, vo, ko⟩ => i ≤ rs.length ∧ OArr vo encRow4 4 74 ko (rowsTo (⟨(l.map Prod.snd), rs, m⟩ : PTask) w i)) (fun ⟨i, vo, ko⟩ => rs.length - i) (0, .slice none 0 0, emp) [emp] rfl ⟨by omega, nR⟩ (.c rfl (.c rfl (.base 0 rfl rfl))) ?_
   rintro ⟨i, vo, ko⟩ ⟨hi, OV⟩ ih0
   dsimp only [lcA, lnA] at ih0 ⊢
   refine XK.seq (XK.seq (XK.region rfl (XO.q (Q.move rfl) ?_)))
   refine XO.q (Q.fieldAddr rfl) ?_
   refine XO.q (Q.ld rfl rfl) ?_
   refine XO.len rfl fun l26 => ?_
   refine XO.q (Q.lss rfl rfl) ?_
   refine XO.done ?_
   refine XK.if rfl (fun c2 => ?_) (fun c2 => ?_)
   ·skip
    have rr := fk.1.rack i (by dsimp only; omega)
    dsimp only at rr
    unfold rackR at rr
    rw [Bool.and_eq_true, Bool.and_eq_true] at rr
    have q3 := pin_three.1 rr.1.1
    have q1 := pin_one.1 rr.1.2
    refine XK.skip (XK.seq (XK.block (XK.seq (XK.region rfl ?_))))
    refine XO.q (Q.fieldAddr rfl) ?_
    refine XO.q (Q.ld rfl rfl) ?_
    refine XO.q (Q.move rfl) ?_
    refine XO.ix rfl rfl (by omega) (by omega) fun i33 => ?_
    refine XO.q (Q.ldEA [_, _, _, _, _] rfl (by first | assumption | omega) rfl rfl) ?_
    refine XO.alloc fun b9 => ?_
    refine XO.st rfl rfl rfl ?_
    refine XO.done (XK.seq (XK.region rfl ?_))
    refine XO.q (Q.fieldAddr rfl) ?_
    refine XO.q (Q.ixA rfl rfl (by omega) (by omega)) ?_
    (try rw [show (0 + Int.toNat 0 * 1 : Nat) = 0 from rfl])
    refine XO.q (Q.ld rfl rfl) ?_
    refine XO.q (Q.fieldAddr rfl) ?_
    refine XO.q (Q.ixA rfl rfl (by omega) (by omega)) ?_
    (try rw [show (0 + Int.toNat 1 * 1 : Nat) = 1 from rfl])
    refine XO.q (Q.ld rfl rfl) ?_
    refine XO.q (Q.fieldAddr rfl) ?_
    refine XO.q (Q.ixA rfl rfl (by omega) (by omega)) ?_
    (try rw [show (0 + Int.toNat 2 * 1 : Nat) = 2 from rfl])
    refine XO.q (Q.ld rfl rfl) ?_
    refine XO.q (Q.fieldAddr rfl) ?_
    refine XO.q (Q.ld rfl rfl) ?_
    refine XO.q (Q.build [_, _, _, _] (.c 0 1 rfl rfl rfl (.c 1 1 rfl rfl rfl (.c 2 1 rfl rfl rfl (.c 3 1 rfl rfl rfl (.n _)))))) ?_
    refine XO.alloc fun b10 => ?_
    refine XO.st rfl rfl rfl ?_
    refine XO.done (XK.seq (XK.region rfl ?_))
    refine XO.q (Q.ldA [_, _, _, _] rfl rfl rfl) ?_
    refine XO.q (Q.move rfl) (XO.q (Q.move rfl) ?_)
    refine XO.call Tryz.call70 rfl rfl rfl (members_spec l vl hl K aL rs vr hr m w vw hw (i : Nat) (by omega) (by omega)) fun v50 s50 R50 => ?_
    obtain ⟨k50, rfl, O50⟩ := R50
    dsimp only [lcA, lnA]
    have em : ((inTo l w (i : Nat) w.length).map Prod.snd) = inL (⟨(l.map Prod.snd), rs, m⟩ : PTask) w i := in_mem _
    have il : ((inTo l w (i : Nat) w.length).map Prod.snd).length = (inTo l w (i : Nat) w.length).length := List.length_map ..
    have lok := fk.2.2.2 i (by dsimp only; omega)
    rw [← em] at lok
    have kk := aL.inTo (w := w) (r := (i : Nat)) (n := w.length) (by omega)
    refine XO.q (Q.assign rfl) (XO.done (XK.seq (XK.seq (XK.region rfl (XO.q (Q.assign rfl) ?_)))))
    refine XO.done (XK.block ?_)
    refine XK.while (X := Nat × Int × Int × Int × Int) [12, 51, 52, 53, 54, 55, 56, 57, 58, 59, 60, 61, 62, 63, 64, 65, 66, 67, 68, 69, 70, 71, 72, 73, 74, 75, 76, 77, 78, 79, 80, 81, 82, 83, 84, 85, 86, 87, 88, 89, 90, 91, 92, 93, 94, 95, 96, 97, 98, 99, 100, 101, 102, 103, 104, 105] (fun ⟨j, xa, xb, xc, xd⟩ => [(12, some (.int .i64 (j : Nat)))]) (fun ⟨j, xa, xb, xc, xd⟩ => [blk b10 [.int .i64 xa, .int .i64 xb, .int .i64 xc, .int .i64 xd] 74]) (fun ⟨j, xa, xb, xc, xd⟩ => j ≤ (inTo l w (i : Nat) w.length).length ∧ xa = (rs.getD i default).r0 - needK ((inTo l w (i : Nat) w.length).map Prod.snd) 0 j ∧ xb = (rs.getD i default).r1 - needK ((inTo l w (i : Nat) w.length).map Prod.snd) 1 j ∧ xc = (rs.getD i default).r2 - needK ((inTo l w (i : Nat) w.length).map Prod.snd) 2 j ∧ xd = (rs.getD i default).cap - topK ((inTo l w (i : Nat) w.length).map Prod.snd) j) (fun ⟨j, xa, xb, xc, xd⟩ => (inTo l w (i : Nat) w.length).length - j) (0, (rs.getD i default).r0, (rs.getD i default).r1, (rs.getD i default).r2, (rs.getD i default).cap) [blk b10 [.int .i64 (rs.getD i default).r0, .int .i64 (rs.getD i default).r1, .int .i64 (rs.getD i default).r2, .int .i64 (rs.getD i default).cap] 74] rfl ⟨by omega, by simp [needK], by simp [needK], by simp [needK], by simp [topK]⟩ (.c rfl (.base 0 rfl rfl)) ?_
    rintro ⟨j, xa, xb, xc, xd⟩ ⟨hj_, ea, eb, ec, ed⟩ ih1
    dsimp only [lcA, lnA] at ih1 ⊢
    refine XK.seq (XK.seq (XK.region rfl (XO.q (Q.move rfl) (XO.q (Q.move rfl) ?_))))
    refine XO.len rfl fun l53 => ?_
    refine XO.q (Q.lss rfl rfl) ?_
    refine XO.done ?_
    refine XK.if rfl (fun c3 => ?_) (fun c3 => ?_)
    ·skip
     have ji := map_snd_atP (inTo l w (i : Nat) w.length) j
     have ai := kk j (by omega)
     have jok := lok.job j (by omega)
     rw [ji] at jok
     have nr := pin_three.1 jok.need
     have na := need_succ (l := ((inTo l w (i : Nat) w.length).map Prod.snd)) (i := j) (by omega)
     rw [ji] at na
     have nb := need_rng lok j (by omega)
     have lf := lok.few
     have tb := topK_rng lok.job j (by omega)
     have tj := topJ_rng jok
     have nt : topK ((inTo l w (i : Nat) w.length).map Prod.snd) (j + 1) = topK ((inTo l w (i : Nat) w.length).map Prod.snd) j + topJ ((inTo l w (i : Nat) w.length).getD j default).2 := by rw [topK, ji]
     obtain ⟨na0, na1, na2⟩ := na
     have dw := jok.few
     unfold topJ at tj nt
     refine XK.skip (XK.seq (XK.block (XK.seq ?_)))
     refine XK.drawn [0, 1, 2, 3, 4, 5, 6, 7, 8, 9] [b10] [k50] (.q 0 (.q 1 (.q 2 (.q 3 (.q 4 (.q 5 (.q 6 (.q 7 (.q 8 (.q 9 (.br 10 false .done .stop))))))))))) Tryz.mixed rfl (by kernel_rfl) ?_
     refine XT.q rfl rfl (Q.ixA rfl rfl (by omega) (by omega)) ?_
     (try rw [show (0 + Int.toNat 0 * 1 : Nat) = 0 from rfl])
     refine XT.q rfl rfl (Q.ld rfl rfl) ?_
     refine XT.q rfl rfl (Q.move rfl) ?_
     refine XT.q rfl rfl (Q.move rfl) ?_
     refine XT.ix rfl rfl rfl rfl (by omega) (by omega) fun i61 => ?_
     refine XT.q rfl rfl (Q.fieldQ rfl (by first | assumption | omega)) ?_
     refine XT.q rfl rfl (Q.ixE rfl (by first | assumption | omega) rfl (by omega) (by omega)) ?_
     refine XT.q rfl rfl (Q.ldE rfl (by first | assumption | omega) rfl) ?_
     refine XT.q rfl rfl (Q.sub rfl rfl ⟨by omega, by omega⟩) ?_
     refine XT.q rfl rfl (Q.ixA rfl rfl (by omega) (by omega)) ?_
     (try rw [show (0 + Int.toNat 0 * 1 : Nat) = 0 from rfl])
     refine XT.st rfl rfl rfl rfl rfl ⟨inferInstance, ?_⟩ XT.stop
     refine XT.done ?_
     refine XK.seq ?_
     refine XK.drawn [0, 1, 2, 3, 4, 5, 6, 7, 8, 9] [b10] [k50] (.q 0 (.q 1 (.q 2 (.q 3 (.q 4 (.q 5 (.q 6 (.q 7 (.q 8 (.q 9 (.br 10 false .done .stop))))))))))) Tryz.mixed rfl (by kernel_rfl) ?_
     refine XT.q rfl rfl (Q.ixA rfl rfl (by omega) (by omega)) ?_
     (try rw [show (0 + Int.toNat 1 * 1 : Nat) = 1 from rfl])
     refine XT.q rfl rfl (Q.ld rfl rfl) ?_
     refine XT.q rfl rfl (Q.move rfl) ?_
     refine XT.q rfl rfl (Q.move rfl) ?_
     refine XT.ix rfl rfl rfl rfl (by omega) (by omega) fun i71 => ?_
     refine XT.q rfl rfl (Q.fieldQ rfl (by first | assumption | omega)) ?_
     refine XT.q rfl rfl (Q.ixE rfl (by first | assumption | omega) rfl (by omega) (by omega)) ?_
     refine XT.q rfl rfl (Q.ldE rfl (by first | assumption | omega) rfl) ?_
     refine XT.q rfl rfl (Q.sub rfl rfl ⟨by omega, by omega⟩) ?_
     refine XT.q rfl rfl (Q.ixA rfl rfl (by omega) (by omega)) ?_
     (try rw [show (0 + Int.toNat 1 * 1 : Nat) = 1 from rfl])
     refine XT.st rfl rfl rfl rfl rfl ⟨inferInstance, ?_⟩ XT.stop
     refine XT.done ?_
     refine XK.seq ?_
     refine XK.drawn [0, 1, 2, 3, 4, 5, 6, 7, 8, 9] [b10] [k50] (.q 0 (.q 1 (.q 2 (.q 3 (.q 4 (.q 5 (.q 6 (.q 7 (.q 8 (.q 9 (.br 10 false .done .stop))))))))))) Tryz.mixed rfl (by kernel_rfl) ?_
     refine XT.q rfl rfl (Q.ixA rfl rfl (by omega) (by omega)) ?_
     (try rw [show (0 + Int.toNat 2 * 1 : Nat) = 2 from rfl])
     refine XT.q rfl rfl (Q.ld rfl rfl) ?_
     refine XT.q rfl rfl (Q.move rfl) ?_
     refine XT.q rfl rfl (Q.move rfl) ?_
     refine XT.ix rfl rfl rfl rfl (by omega) (by omega) fun i81 => ?_
     refine XT.q rfl rfl (Q.fieldQ rfl (by first | assumption | omega)) ?_
     refine XT.q rfl rfl (Q.ixE rfl (by first | assumption | omega) rfl (by omega) (by omega)) ?_
     refine XT.q rfl rfl (Q.ldE rfl (by first | assumption | omega) rfl) ?_
     refine XT.q rfl rfl (Q.sub rfl rfl ⟨by omega, by omega⟩) ?_
     refine XT.q rfl rfl (Q.ixA rfl rfl (by omega) (by omega)) ?_
     (try rw [show (0 + Int.toNat 2 * 1 : Nat) = 2 from rfl])
     refine XT.st rfl rfl rfl rfl rfl ⟨inferInstance, ?_⟩ XT.stop
     refine XT.done ?_
     refine XK.drawn [0, 1, 2, 3, 4, 5, 6, 7, 8, 9, 10, 11, 12, 13, 14, 15, 16, 17, 18] [b10] [k50] (.q 0 (.q 1 (.q 2 (.q 3 (.q 4 (.q 5 (.q 6 (.q 7 (.q 8 (.q 9 (.q 10 (.q 11 (.q 12 (.q 13 (.q 14 (.q 15 (.q 16 (.q 17 (.q 18 (.br 19 false .done .stop)))))))))))))))))))) Tryz.mixed rfl (by kernel_rfl) ?_
     refine XT.q rfl rfl (Q.ixA rfl rfl (by omega) (by omega)) ?_
     (try rw [show (0 + Int.toNat 3 * 1 : Nat) = 3 from rfl])
     refine XT.q rfl rfl (Q.ld rfl rfl) ?_
     refine XT.q rfl rfl (Q.move rfl) ?_
     refine XT.q rfl rfl (Q.move rfl) ?_
     refine XT.ix rfl rfl rfl rfl (by omega) (by omega) fun i91 => ?_
     refine XT.q rfl rfl (Q.fieldQ rfl (by first | assumption | omega)) ?_
     refine XT.q rfl rfl (Q.ldE rfl (by first | assumption | omega) rfl) ?_
     refine XT.q rfl rfl (Q.move rfl) ?_
     refine XT.q rfl rfl (Q.move rfl) ?_
     refine XT.ix rfl rfl rfl rfl (by omega) (by omega) fun i96 => ?_
     refine XT.q rfl rfl (Q.fieldQ rfl (by first | assumption | omega)) ?_
     refine XT.q rfl rfl (Q.ldE rfl (by first | assumption | omega) rfl) ?_
     refine XT.q rfl rfl (Q.len rfl) ?_
     refine XT.q rfl rfl (Q.sub rfl rfl ⟨by omega, by omega⟩) ?_
     refine XT.ix rfl rfl rfl rfl (by omega) (by omega) fun i101 => ?_
     refine XT.q rfl rfl (Q.fieldQ rfl (by first | assumption | omega)) ?_
     refine XT.q rfl rfl (Q.ldE rfl (by first | assumption | omega) rfl) ?_
     rw [show ((((inTo l w (i : Nat) w.length).getD j default).2.draws.length : Int) - 1).toNat = ((inTo l w (i : Nat) w.length).getD j default).2.draws.length - 1 by omega]
     refine XT.q rfl rfl (Q.sub rfl rfl ⟨by omega, by omega⟩) ?_
     refine XT.q rfl rfl (Q.ixA rfl rfl (by omega) (by omega)) ?_
     (try rw [show (0 + Int.toNat 3 * 1 : Nat) = 3 from rfl])
     refine XT.st rfl rfl rfl rfl rfl ⟨inferInstance, ?_⟩ XT.stop
     refine XT.done ?_
     refine XK.inBlock ?_
     refine XK.region rfl (XO.q (Q.move rfl) ?_)
     refine XO.q (Q.add rfl rfl ⟨by omega, by omega⟩) ?_
     refine XO.q (Q.assign rfl) (XO.done ?_)
     exact ih1 (j + 1, xa - ((inTo l w (i : Nat) w.length).getD j default).2.n0, xb - ((inTo l w (i : Nat) w.length).getD j default).2.n1, xc - ((inTo l w (i : Nat) w.length).getD j default).2.n2, xd - (((inTo l w (i : Nat) w.length).getD j default).2.draws.getD (((inTo l w (i : Nat) w.length).getD j default).2.draws.length - 1) default).power) _ _ ⟨by dsimp only; omega, by dsimp only; omega, by dsimp only; omega, by dsimp only; omega, by dsimp only; omega⟩ (by first | omega | (dsimp only; omega)) (.c rfl (.base 113 rfl rfl)) inferInstance
    ·skip
     have hj : j = ((inTo l w (i : Nat) w.length).map Prod.snd).length := by omega
     subst hj
     subst ea eb ec ed
     refine XK.exit rfl ?_
     refine XK.region rfl (XO.q (Q.move rfl) ?_)
     refine XO.q (Q.ldA [_, _, _, _] rfl rfl rfl) ?_
     refine XO.lit [_, _, _, _] [_, _, _, _] [leftR (rs.getD i default) ((inTo l w (i : Nat) w.length).map Prod.snd) ((inTo l w (i : Nat) w.length).map Prod.snd).length] encRow4 (by rfl) (by rfl) rfl (by rfl) (by exact .c 0 4 rfl rfl rfl (.n _)) (fun _ => rfl) (by rfl) rfl (by infer_instance) rfl fun v108 h108 O108 => ?_
     refine XO.append rfl rfl rfl rfl (by have := rowsTo_len (⟨l.map Prod.snd, rs, m⟩ : PTask) w i; simp only [List.length_cons, List.length_nil]; omega) fun v109 h109 O109 => ?_
     refine XO.q (Q.assign rfl) (XO.done ?_)
     refine XK.inBlock ?_
     refine XK.region rfl (XO.q (Q.move rfl) ?_)
     refine XO.q (Q.add rfl rfl ⟨by omega, by omega⟩) ?_
     refine XO.q (Q.assign rfl) (XO.done ?_)
     exact ih0 (i + 1, v109, h109) _ _ ⟨by dsimp only; omega, by dsimp only; rw [rowsTo, rowG, ← em]; exact O109⟩ (by first | omega | (dsimp only; omega)) (.c rfl (.c rfl (.base 194 rfl rfl))) inferInstance
   ·skip
    have hin : i = rs.length := by omega
    subst hin
    refine XK.exit rfl ?_
    refine XK.seq (XK.region rfl (XO.q (Q.move rfl) (XO.q (Q.assign rfl) (XO.q (Q.assign rfl) (XO.done ?_)))))
    refine XK.rt [ko] Tryz.func24 Tryz.results24 (.t rfl (.t rfl .n)) ?_
    have hz : spareG (⟨(l.map Prod.snd), rs, m⟩ : PTask) w = (rowsTo (⟨(l.map Prod.snd), rs, m⟩ : PTask) w rs.length, 0) := by rw [spareG, if_neg c0, if_neg c1]
    rw [hz]
    exact ⟨vo, ko, rfl, rfl, OV⟩
end Go.X

set_option linter.unusedSimpArgs false
set_option linter.unusedVariables false
set_option maxRecDepth 20000
namespace Go.X
open Go.Proofs
set_option maxHeartbeats 1000000 in
theorem rWorth_spec (l : List (Value × PJob)) (vl : Value) (hl K : PHeap) [jl : Arr vl encPJ 6 hl l] (aL : JobsK l K) (rs : List PRack) (vr : Value) (hr : PHeap) [jr : Arr vr encRack 5 hr rs] (m : PRat) (w : List Int) (vw : Value) (hw : PHeap) [jw : Arr vw encI 1 hw w] (ok : TaskOk (⟨(l.map Prod.snd), rs, m⟩ : PTask)) (hwl : w.length ≤ l.length) : Spec Tryz.prog 79 #[.agg #[vl, vr, .int .i64 m.n, .int .i64 m.d], vw] [] [hl, K, hr, hw] (fun v hs => v = .tuple #[.int .i64 (worthG (⟨(l.map Prod.snd), rs, m⟩ : PTask) w), .int .i64 (hopeG (⟨(l.map Prod.snd), rs, m⟩ : PTask) w)] ∧ hs = []) := by
 have ll := jl.le
 have lm : (l.map Prod.snd).length = l.length := List.length_map ..
 have few := ok.few
 have few2 : l.length ≤ 8 := by rw [← lm]; exact few
 refine Spec.intro (fn := Tryz.f79) (N := 56) Tryz.func79 rfl Tryz.ntmps79 rfl fun B => ?_
 refine XK.seq (XK.region rfl ?_)
 refine XO.box rfl fun b2 => ?_
 refine XO.q (Q.assign rfl) (XO.q (Q.assign rfl) (XO.done (XK.seq (XK.region rfl (XO.q (Q.assign rfl) ?_)))))
 refine XO.q (Q.assign rfl) (XO.done (XK.seq (XK.seq (XK.region rfl (XO.q (Q.assign rfl) ?_)))))
 refine XO.done (XK.block ?_)
 refine XK.while (X := Nat × Int × Int) [6, 7, 8, 9, 10, 11, 12, 13, 14, 15, 16, 17, 18, 19, 20, 21, 22, 23, 24, 25, 26, 27, 28, 29, 30, 31, 32, 33, 34, 35, 36, 37, 38, 39, 40, 41, 42, 43, 44, 45, 46, 47, 48, 49, 50, 51, 52, 53] (fun ⟨i, xa, xb⟩ => [(8, some (.int .i64 (i : Nat))), (6, some (.int .i64 xa)), (7, some (.int .i64 xb))]) (fun ⟨i, xa, xb⟩ => []) (fun ⟨i, xa, xb⟩ => i ≤ l.length ∧ xa = (worthTo (⟨(l.map Prod.snd), rs, m⟩ : PTask) w (min i w.length)) ∧ xb = (worthTo (⟨(l.map Prod.snd), rs, m⟩ : PTask) w (min i w.length) + restTo (⟨(l.map Prod.snd), rs, m⟩ : PTask) w.length (i - w.length))) (fun ⟨i, xa, xb⟩ => l.length - i) (0, 0, 0) [] rfl ⟨by omega, by simp [worthTo], by simp [worthTo, restTo]⟩ (.c rfl (.c rfl (.c rfl (.base 0 rfl rfl)))) ?_
 rintro ⟨i, xa, xb⟩ ⟨hi, ea, eb⟩ ih0
 dsimp only [lcA, lnA] at ih0 ⊢
 refine XK.seq (XK.seq (XK.region rfl (XO.q (Q.move rfl) ?_)))
 refine XO.q (Q.fieldAddr rfl) ?_
 refine XO.q (Q.ld rfl rfl) ?_
 refine XO.len rfl fun l12 => ?_
 refine XO.q (Q.lss rfl rfl) ?_
 refine XO.done ?_
 refine XK.if rfl (fun c0 => ?_) (fun c0 => ?_)
 ·skip
  have ai := aL i (by omega)
  have ji := map_snd_atP l i
  have wj := (ok.job i (by dsimp only; omega)).wor
  dsimp only at wj
  rw [ji] at wj
  have r1 := worth_rng ok (w := w) (min i w.length) (by dsimp only; omega)
  have r2 := rest_rng ok (n := w.length) (i - w.length) (by dsimp only; omega)
  have sA : i < w.length → 0 ≤ w.getD i default → (worthTo (⟨(l.map Prod.snd), rs, m⟩ : PTask) w (min (i + 1) w.length)) = (worthTo (⟨(l.map Prod.snd), rs, m⟩ : PTask) w (min i w.length)) + (l.getD i default).2.worth ∧ (worthTo (⟨(l.map Prod.snd), rs, m⟩ : PTask) w (min (i + 1) w.length) + restTo (⟨(l.map Prod.snd), rs, m⟩ : PTask) w.length ((i + 1) - w.length)) = (worthTo (⟨(l.map Prod.snd), rs, m⟩ : PTask) w (min i w.length) + restTo (⟨(l.map Prod.snd), rs, m⟩ : PTask) w.length (i - w.length)) + (l.getD i default).2.worth := fun h1 h2 => by
   rw [show min (i + 1) w.length = i + 1 by omega, show min i w.length = i by omega, show i + 1 - w.length = 0 by omega, show i - w.length = 0 by omega, worthTo, if_pos h2]
   dsimp only
   rw [ji, restTo]; omega
  have sB : i < w.length → ¬ 0 ≤ w.getD i default → (worthTo (⟨(l.map Prod.snd), rs, m⟩ : PTask) w (min (i + 1) w.length)) = (worthTo (⟨(l.map Prod.snd), rs, m⟩ : PTask) w (min i w.length)) ∧ (worthTo (⟨(l.map Prod.snd), rs, m⟩ : PTask) w (min (i + 1) w.length) + restTo (⟨(l.map Prod.snd), rs, m⟩ : PTask) w.length ((i + 1) - w.length)) = (worthTo (⟨(l.map Prod.snd), rs, m⟩ : PTask) w (min i w.length) + restTo (⟨(l.map Prod.snd), rs, m⟩ : PTask) w.length (i - w.length)) := fun h1 h2 => by
   rw [show min (i + 1) w.length = i + 1 by omega, show min i w.length = i by omega, show i + 1 - w.length = 0 by omega, show i - w.length = 0 by omega, worthTo, if_neg h2]
   omega
  have sC : w.length ≤ i → (worthTo (⟨(l.map Prod.snd), rs, m⟩ : PTask) w (min (i + 1) w.length)) = (worthTo (⟨(l.map Prod.snd), rs, m⟩ : PTask) w (min i w.length)) ∧ (worthTo (⟨(l.map Prod.snd), rs, m⟩ : PTask) w (min (i + 1) w.length) + restTo (⟨(l.map Prod.snd), rs, m⟩ : PTask) w.length ((i + 1) - w.length)) = (worthTo (⟨(l.map Prod.snd), rs, m⟩ : PTask) w (min i w.length) + restTo (⟨(l.map Prod.snd), rs, m⟩ : PTask) w.length (i - w.length)) + (l.getD i default).2.worth := fun h1 => by
   rw [show min (i + 1) w.length = w.length by omega, show min i w.length = w.length by omega, show i + 1 - w.length = (i - w.length) + 1 by omega, restTo, show w.length + (i - w.length) = i by omega]
   dsimp only
   rw [ji]; omega
  refine XK.skip (XK.seq (XK.block (XK.seq (XK.seq (XK.region rfl ?_)))))
  refine XO.q (Q.move rfl) (XO.q (Q.move rfl) ?_)
  refine XO.len rfl fun l18 => ?_
  refine XO.q (Q.lss rfl rfl) ?_
  refine XO.q (Q.move rfl) ?_
  refine XO.q (Quiet.guardT rfl rfl fun g21 p21 => Q.move rfl) ?_
  refine XO.q (Quiet.guardT rfl rfl fun g22 p22 => Q.move rfl) ?_
  refine XO.q (Quiet.guardT rfl rfl fun g23 p23 => Q.ix (lzv g23 rfl) (lzv g23 rfl) (by omega) (by omega)) ?_
  refine XO.q (Quiet.guardT rfl rfl fun g24 p24 => Q.ldE (lzv g24 rfl) (by first | assumption | omega) rfl) ?_
  refine XO.q (Quiet.guardT rfl rfl fun g25 p25 => Q.geq (lzv g25 rfl) rfl) ?_
  refine XO.q (Q.and rfl (fun hp => lzv hp rfl)) ?_
  refine XO.done ?_
  refine XK.if rfl (fun c1 => ?_) (fun c1 => ?_)
  ·skip
   refine XK.region rfl (XO.q (Q.move rfl) ?_)
   refine XO.q (Q.fieldAddr rfl) ?_
   refine XO.q (Q.ld rfl rfl) ?_
   refine XO.q (Q.move rfl) ?_
   refine XO.ix rfl rfl (by omega) (by omega) fun i31 => ?_
   refine XO.q (Q.fieldQ rfl (by first | assumption | omega)) ?_
   refine XO.q (Q.ldE rfl (by first | assumption | omega) rfl) ?_
   refine XO.q (Q.add rfl rfl ⟨by omega, by omega⟩) ?_
   refine XO.q (Q.assign rfl) (XO.done (XK.seq (XK.region rfl (XO.q (Q.move rfl) (XO.q (Q.move rfl) ?_)))))
   refine XO.len rfl fun l37 => ?_
   refine XO.q (Q.geq rfl rfl) ?_
   refine XO.q (Q.move rfl) ?_
   refine XO.q (Quiet.guardF rfl rfl fun g40 p40 => Q.move rfl) ?_
   refine XO.q (Quiet.guardF rfl rfl fun g41 p41 => Q.move rfl) ?_
   refine XO.q (Quiet.guardF rfl rfl fun g42 p42 => Q.ix (lzv g42 rfl) (lzv g42 rfl) (by omega) (by omega)) ?_
   refine XO.q (Quiet.guardF rfl rfl fun g43 p43 => Q.ldE (lzv g43 rfl) (by first | assumption | omega) rfl) ?_
   refine XO.q (Quiet.guardF rfl rfl fun g44 p44 => Q.geq (lzv g44 rfl) rfl) ?_
   refine XO.q (Q.or rfl (fun hp => lzv hp rfl)) ?_
   refine XO.done ?_
   refine XK.if rfl (fun c2 => ?_) (fun c2 => ?_)
   ·skip
    refine XK.region rfl (XO.q (Q.move rfl) ?_)
    refine XO.q (Q.fieldAddr rfl) ?_
    refine XO.q (Q.ld rfl rfl) ?_
    refine XO.q (Q.move rfl) ?_
    refine XO.ix rfl rfl (by omega) (by omega) fun i50 => ?_
    refine XO.q (Q.fieldQ rfl (by first | assumption | omega)) ?_
    refine XO.q (Q.ldE rfl (by first | assumption | omega) rfl) ?_
    refine XO.q (Q.add rfl rfl ⟨by omega, by omega⟩) ?_
    refine XO.q (Q.assign rfl) (XO.done ?_)
    refine XK.inBlock ?_
    refine XK.region rfl (XO.q (Q.move rfl) ?_)
    refine XO.q (Q.add rfl rfl ⟨by omega, by omega⟩) ?_
    refine XO.q (Q.assign rfl) (XO.done ?_)
    exact ih0 (i + 1, xa + (l.getD i default).2.worth, xb + (l.getD i default).2.worth) _ _ ⟨by dsimp only; omega, by have := sA (by omega) (by omega); dsimp only; omega, by have := sA (by omega) (by omega); dsimp only; omega⟩ (by first | omega | (dsimp only; omega)) (.c rfl (.c rfl (.c rfl (.base 99 rfl rfl)))) inferInstance
   ·skip
    refine XK.skip ?_
    refine XK.inBlock ?_
    refine XK.region rfl (XO.q (Q.move rfl) ?_)
    refine XO.q (Q.add rfl rfl ⟨by omega, by omega⟩) ?_
    refine XO.q (Q.assign rfl) (XO.done ?_)
    exact ih0 (i + 1, xa + (l.getD i default).2.worth, xb) _ _ (by exfalso; omega) (by first | omega | (dsimp only; omega)) (.c rfl (.c rfl (.c rfl (.base 90 rfl rfl)))) inferInstance
  ·skip
   refine XK.skip (XK.seq (XK.region rfl (XO.q (Q.move rfl) (XO.q (Q.move rfl) ?_))))
   refine XO.len rfl fun l37 => ?_
   refine XO.q (Q.geq rfl rfl) ?_
   refine XO.q (Q.move rfl) ?_
   refine XO.q (Quiet.guardF rfl rfl fun g40 p40 => Q.move rfl) ?_
   refine XO.q (Quiet.guardF rfl rfl fun g41 p41 => Q.move rfl) ?_
   refine XO.q (Quiet.guardF rfl rfl fun g42 p42 => Q.ix (lzv g42 rfl) (lzv g42 rfl) (by omega) (by omega)) ?_
   refine XO.q (Quiet.guardF rfl rfl fun g43 p43 => Q.ldE (lzv g43 rfl) (by first | assumption | omega) rfl) ?_
   refine XO.q (Quiet.guardF rfl rfl fun g44 p44 => Q.geq (lzv g44 rfl) rfl) ?_
   refine XO.q (Q.or rfl (fun hp => lzv hp rfl)) ?_
   refine XO.done ?_
   refine XK.if rfl (fun c3 => ?_) (fun c3 => ?_)
   ·skip
    refine XK.region rfl (XO.q (Q.move rfl) ?_)
    refine XO.q (Q.fieldAddr rfl) ?_
    refine XO.q (Q.ld rfl rfl) ?_
    refine XO.q (Q.move rfl) ?_
    refine XO.ix rfl rfl (by omega) (by omega) fun i50 => ?_
    refine XO.q (Q.fieldQ rfl (by first | assumption | omega)) ?_
    refine XO.q (Q.ldE rfl (by first | assumption | omega) rfl) ?_
    refine XO.q (Q.add rfl rfl ⟨by omega, by omega⟩) ?_
    refine XO.q (Q.assign rfl) (XO.done ?_)
    refine XK.inBlock ?_
    refine XK.region rfl (XO.q (Q.move rfl) ?_)
    refine XO.q (Q.add rfl rfl ⟨by omega, by omega⟩) ?_
    refine XO.q (Q.assign rfl) (XO.done ?_)
    exact ih0 (i + 1, xa, xb + (l.getD i default).2.worth) _ _ ⟨by dsimp only; omega, by have := sC (by omega); dsimp only; omega, by have := sC (by omega); dsimp only; omega⟩ (by first | omega | (dsimp only; omega)) (.c rfl (.c rfl (.c rfl (.base 90 rfl rfl)))) inferInstance
   ·skip
    refine XK.skip ?_
    refine XK.inBlock ?_
    refine XK.region rfl (XO.q (Q.move rfl) ?_)
    refine XO.q (Q.add rfl rfl ⟨by omega, by omega⟩) ?_
    refine XO.q (Q.assign rfl) (XO.done ?_)
    exact ih0 (i + 1, xa, xb) _ _ ⟨by dsimp only; omega, by have := sB (by omega) (by omega); dsimp only; omega, by have := sB (by omega) (by omega); dsimp only; omega⟩ (by first | omega | (dsimp only; omega)) (.c rfl (.c rfl (.c rfl (.base 81 rfl rfl)))) inferInstance
 ·skip
  have hil : i = l.length := by omega
  subst hil
  rw [show min l.length w.length = w.length by omega] at ea eb
  refine XK.exit rfl ?_
  refine XK.seq (XK.region rfl (XO.q (Q.move rfl) (XO.q (Q.move rfl) (XO.q (Q.assign rfl) (XO.q (Q.assign rfl) ?_)))))
  refine XO.done ?_
  refine XK.rt [] Tryz.func79 Tryz.results79 (.t rfl (.t rfl .n)) ?_
  exact ⟨by rw [hopeG, worthG]; dsimp only; rw [lm, ea, eb], rfl⟩
end Go.X

set_option linter.unusedSimpArgs false
set_option linter.unusedVariables false
set_option maxRecDepth 20000
namespace Go.X
open Go.Proofs
set_option maxHeartbeats 2000000 in
theorem rsons_spec (l : List (Value × PJob)) (vl : Value) (hl K : PHeap) [jl : Arr vl encPJ 6 hl l] (aL : JobsK l K) (rs : List PRack) (vr : Value) (hr : PHeap) [jr : Arr vr encRack 5 hr rs] (m : PRat) (w : List Int) (vw : Value) (hw : PHeap) [jw : Arr vw encI 1 hw w] (ok : TaskOk (⟨(l.map Prod.snd), rs, m⟩ : PTask)) (lok : ListOk (l.map Prod.snd)) (hwl : w.length < l.length) (wok : WOk (⟨(l.map Prod.snd), rs, m⟩ : PTask) w) (al : allowedB (⟨(l.map Prod.snd), rs, m⟩ : PTask) w = true) : Spec Tryz.prog 107 #[.agg #[vl, vr, .int .i64 m.n, .int .i64 m.d], vw] [] [hl, K, hr, hw] (fun v hs => ∃ ho us Ks, hs = [ho, join Ks] ∧ OArr v encV 1 28 ho us ∧ ORows 3 us Ks (psons (⟨(l.map Prod.snd), rs, m⟩ : PTask) w)) := by
 have nV : OArr (.slice none 0 0) encV 1 28 emp ([] : List Value) := OArr.nil (fun _ => rfl)
 have nI : OArr (.slice none 0 0) encI 1 3 emp ([] : List Int) := OArr.nil (fun _ => rfl)
 have lm : (l.map Prod.snd).length = l.length := List.length_map ..
 have few := ok.few
 have rk5 := ok.rk5
 dsimp only at few rk5
 refine Spec.intro (fn := Tryz.f107) (N := 37) Tryz.func107 rfl Tryz.ntmps107 rfl fun B => ?_
 refine XK.seq (XK.region rfl ?_)
 refine XO.box rfl fun b2 => ?_
 refine XO.q (Q.assign rfl) (XO.done (XK.seq (XK.region rfl (XO.q (Q.assign rfl) (XO.done ?_)))))
 refine XK.seq (XK.seq (XK.region rfl (XO.q (Q.assign rfl) (XO.done (XK.block ?_)))))
 refine XK.while (X := Nat × Value × PHeap × List Value × List PHeap) [5, 6, 7, 8, 9, 10, 11, 12, 13, 14, 15, 16, 17, 18, 19, 20, 21, 22, 23, 24, 25, 26, 27, 28, 29, 30, 31, 32, 33, 34, 35] (fun ⟨i, vo, ho, us, Ks⟩ => [(6, some (.int .i64 (i : Nat))), (5, some (vo))]) (fun ⟨i, vo, ho, us, Ks⟩ => [ho, join Ks]) (fun ⟨i, vo, ho, us, Ks⟩ => i ≤ rs.length + 1 ∧ OArr vo encV 1 28 ho us ∧ ORows 3 us Ks (sonsTo (⟨(l.map Prod.snd), rs, m⟩ : PTask) w i)) (fun ⟨i, vo, ho, us, Ks⟩ => rs.length + 1 - i) (0, .slice none 0 0, emp, [], []) [emp, emp] rfl ⟨by omega, nV, by unfold sonsTo; rw [if_pos (Nat.zero_le _)]; exact ORows.nil⟩ (.c rfl (.c rfl (.base 0 rfl rfl))) ?_
 rintro ⟨i, vo, ho, us, Ks⟩ ⟨hi, OV, or_⟩ ih0
 dsimp only [lcA, lnA] at ih0 ⊢
 refine XK.seq (XK.seq (XK.region rfl (XO.q (Q.move rfl) ?_)))
 refine XO.q (Q.fieldAddr rfl) ?_
 refine XO.q (Q.ld rfl rfl) ?_
 refine XO.len rfl fun l12 => ?_
 refine XO.q (Q.leq rfl rfl) ?_
 refine XO.done ?_
 refine XK.if rfl (fun c0 => ?_) (fun c0 => ?_)
 ·skip
  refine XK.skip (XK.seq (XK.block (XK.seq (XK.region rfl (XO.q (Q.move rfl) ?_)))))
  refine XO.q (Q.assign rfl) (XO.done (XK.seq (XK.seq (XK.region rfl (XO.q (Q.move rfl) ?_)))))
  refine XO.q (Q.fieldAddr rfl) ?_
  refine XO.q (Q.ld rfl rfl) ?_
  refine XO.len rfl fun l20 => ?_
  refine XO.q (Q.eql rfl rfl) ?_
  refine XO.done ?_
  refine XK.meet (X := Int) [7] (fun x => [(7, some (.int .i64 x))]) (fun x => []) (fun x => (-1 ≤ x ∧ x < rs.length) ∧ allowedB (⟨(l.map Prod.snd), rs, m⟩ : PTask) (w ++ [x]) = decide (x = -1 ∨ sonOk (⟨(l.map Prod.snd), rs, m⟩ : PTask) w i = true) ∧ (sonsTo (⟨(l.map Prod.snd), rs, m⟩ : PTask) w (i + 1)) = (sonsTo (⟨(l.map Prod.snd), rs, m⟩ : PTask) w i) ++ (if allowedB (⟨(l.map Prod.snd), rs, m⟩ : PTask) (w ++ [x]) = true then [w ++ [x]] else [])) [] ?_ ?_
  ·rintro x ⟨⟨x1, x2⟩, x3, x4⟩
   dsimp only [lcA, lnA]
   refine XK.seq (XK.region rfl (XO.q (Q.assign rfl) (XO.done (XK.seq (XK.region rfl ?_)))))
   refine XO.q (Q.move rfl) (XO.q (Q.move rfl) ?_)
   refine XO.drop (o' := [emp, ho, join Ks, blk b2 [vl, vr, .int .i64 m.n, .int .i64 m.d] 47]) ?_
   refine XO.append rfl rfl rfl rfl (by simp only [List.length_nil]; omega) fun v24 h24 O24 => ?_
   refine XO.q (Q.assign rfl) (XO.done (XK.seq (XK.region rfl ?_)))
   rw [List.nil_append] at O24
   refine XO.q (Q.move rfl) (XO.q (Q.move rfl) ?_)
   refine XO.lit [_] [_] [x] encI (by rfl) (by rfl) rfl (by rfl) (by exact .c 0 1 rfl rfl rfl (.n _)) (fun _ => rfl) (by rfl) rfl (by infer_instance) rfl fun v27 h27 O27 => ?_
   refine XO.append rfl rfl rfl rfl (by simp only [List.length_append, List.length_nil, List.length_cons]; omega) fun v28 h28 O28 => ?_
   refine XO.q (Q.assign rfl) (XO.done (XK.seq (XK.region rfl ?_)))
   refine XO.q (Q.ldA [_, _, _, _] rfl rfl rfl) ?_
   refine XO.q (Q.move rfl) ?_
   refine XO.call Tryz.call68 rfl rfl rfl (rallowed_spec l vl hl K aL rs vr hr m (w ++ [x]) v28 h28 ok (wok.snoc (by dsimp only; omega) (by omega) (by dsimp only; omega)) (by rw [List.length_append]; simp; omega) (fun r _ => inL_ok lok (by rw [List.length_append]; simp; omega) _)) fun v31 s31 R31 => ?_
   obtain ⟨rfl, rfl⟩ := R31
   dsimp only [lcA, lnA]
   refine XO.done ?_
   refine XK.if rfl (fun c2 => ?_) (fun c2 => ?_)
   ·skip
    rw [if_pos c2] at x4
    refine XK.region rfl (XO.q (Q.move rfl) (XO.q (Q.move rfl) ?_))
    refine XO.joinSnoc Ks h28 or_.pd fun pd2 => ?_
    refine XO.lit [_] [_] [v28] encV (by rfl) (by rfl) rfl (by rfl) (by exact .c 0 1 rfl rfl rfl (.n _)) (fun _ => rfl) (by rfl) rfl (by infer_instance) rfl fun v34 h34 O34 => ?_
    refine XO.append rfl rfl rfl rfl (by have := sonsTo_len (⟨l.map Prod.snd, rs, m⟩ : PTask) w i; have := or_.lu; dsimp only at *; simp only [List.length_cons, List.length_nil]; omega) fun v35 h35 O35 => ?_
    refine XO.q (Q.assign rfl) (XO.done ?_)
    refine XK.inBlock ?_
    refine XK.region rfl (XO.q (Q.move rfl) ?_)
    refine XO.q (Q.add rfl rfl ⟨by omega, by omega⟩) ?_
    refine XO.q (Q.assign rfl) (XO.done ?_)
    exact ih0 (i + 1, v35, h35, us ++ [v28], Ks ++ [h28]) _ _ ⟨by dsimp only; omega, O35, by dsimp only; rw [x4]; exact or_.snoc O28 pd2⟩ (by first | omega | (dsimp only; omega)) (.c rfl (.c rfl (.base 68 rfl rfl))) inferInstance
   ·skip
    rw [if_neg c2, List.append_nil] at x4
    refine XK.skip ?_
    refine XK.inBlock ?_
    refine XK.region rfl (XO.q (Q.move rfl) ?_)
    refine XO.q (Q.add rfl rfl ⟨by omega, by omega⟩) ?_
    refine XO.q (Q.assign rfl) (XO.done ?_)
    exact ih0 (i + 1, vo, ho, us, Ks) _ _ ⟨by dsimp only; omega, OV, by dsimp only; rw [x4]; exact or_⟩ (by first | omega | (dsimp only; omega)) (.c rfl (.c rfl (.base 63 rfl rfl))) inferInstance
  ·intro mt1
   dsimp only [lcA, lnA] at mt1
   refine XK.if rfl (fun c1 => ?_) (fun c1 => ?_)
   ·skip
    refine XK.region rfl (XO.q (Q.assign rfl) (XO.done ?_))
    exact mt1 (-1) _ _ ⟨by omega, by rw [allowed_outw al]; rfl, by
     have hir : i = rs.length := by omega
     rw [allowed_outw al, if_pos rfl, hir]; exact sonsTo_out _ w⟩ (.c rfl (.base 1 rfl rfl)) inferInstance
   ·skip
    refine XK.skip ?_
    exact mt1 ((i : Int)) _ _ ⟨by omega, by rw [allowed_son al (by dsimp only; omega)]; cases sonOk (⟨(l.map Prod.snd), rs, m⟩ : PTask) w i <;> simp, by rw [allowed_son al (by dsimp only; omega)]; exact sonsTo_in (by dsimp only; omega)⟩ (.c rfl (.base 0 rfl rfl)) inferInstance
 ·skip
  have hir : i = rs.length + 1 := by omega
  refine XK.exit rfl ?_
  refine XK.seq (XK.region rfl (XO.q (Q.move rfl) (XO.q (Q.assign rfl) (XO.done ?_))))
  refine XK.rt [ho, join Ks] Tryz.func107 Tryz.results107 (.t rfl .n) ?_
  have hz : sonsTo (⟨l.map Prod.snd, rs, m⟩ : PTask) w i = psons (⟨l.map Prod.snd, rs, m⟩ : PTask) w := by rw [hir]; unfold sonsTo; rw [if_neg (by dsimp only; omega)]
  rw [hz] at or_
  exact ⟨ho, us, Ks, rfl, OV, or_⟩
end Go.X
