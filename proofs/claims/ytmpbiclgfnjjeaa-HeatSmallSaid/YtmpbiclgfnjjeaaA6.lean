/- A part of the proof: a small program logic, plain laws and contracts of functions, each proved by a walk through its operations. No condition but those that stand in each theorem. -/
import Derived.Test.YtmpbiclgfnjjeaaA5
set_option linter.unusedSimpArgs false
set_option linter.unusedVariables false
set_option maxRecDepth 20000
namespace Go.X
open Go.Proofs
set_option maxHeartbeats 32000000 in
set_option synthInstance.maxSize 1000 in
set_option synthInstance.maxHeartbeats 400000 in
theorem HeatSmall_spec : Spec Try.prog 7 #[] [] [] (fun v hs => v = .bool true ∧ hs = []) := by
  have nW : OArr (.slice none 0 0) encWall 3 50 emp ([] : List HWall) := OArr.nil (fun _ => rfl)
  have sI : ∀ h, Arr (.slice none 0 0) encI 1 h ([] : List Int) := fun h => Arr.nil (fun _ => rfl)
  have sC : ∀ h, Arr (.slice none 0 0) encCV 3 h ([] : List (Value × HCase)) := fun h => Arr.nil (fun _ => rfl)
  refine Spec.intro (fn := Try.f7) (N := 434) Try.func7 rfl Try.ntmps7 rfl fun B => ?_
  refine XK.seq (XK.region rfl (XO.q (Q.assign rfl) (XO.done (XK.seq (XK.region rfl ?_)))))
  refine XO.call Try.call25 rfl rfl rfl (example7 500) fun v30 s30 R30 => ?_
  obtain ⟨vr, vw, vb, vc, ve, kr, kw, kb, kc, ke, rfl, rfl, Or, Ow, Ob, Oc, Oe⟩ := R30
  dsimp only [lcA, lnA]
  refine XO.q (Q.move rfl) ?_
  refine XO.q (Q.extract rfl rfl) ?_
  refine XO.q (Q.extract rfl rfl) ?_
  refine XO.alloc fun b1 => ?_
  refine XO.alloc fun b2 => ?_
  refine XO.st rfl rfl rfl ?_
  refine XO.st rfl rfl rfl ?_
  refine XO.done (XK.seq (XK.region rfl ?_))
  refine XO.lit [_] [_] [90000] encI (by rfl) (by rfl) rfl (by rfl) (by exact .c 0 1 rfl rfl rfl (.n _)) (fun _ => rfl) (by rfl) rfl (by infer_instance) rfl fun v33 h33 O33 => ?_
  refine XO.q (Q.build [_, _, _] (.c 0 1 rfl rfl rfl (.c 1 1 rfl rfl rfl (.c 2 1 rfl rfl rfl (.n _))))) ?_
  refine XO.q (Q.ldA [_, _, _] rfl rfl rfl) ?_
  refine XO.q (Q.build [_, _, _, _, _, _] (.c 0 3 rfl rfl rfl (.c 3 3 rfl rfl rfl (.n _)))) ?_
  refine XO.alloc fun b3 => ?_
  refine XO.st rfl rfl rfl ?_
  refine XO.done (XK.seq (XK.region rfl ?_))
  refine XO.lit [_, _, _, _, _, _, _, _, _, _, _, _] [_, _, _, _, _, _, _, _, _, _, _, _] [-2, -1, 0, 1, 100, 101, 1000, 1001, 100000, 100001, 1000000, 1000001] encI (by rfl) (by rfl) rfl (by rfl) (by exact .c 0 1 rfl rfl rfl (.c 1 1 rfl rfl rfl (.c 2 1 rfl rfl rfl (.c 3 1 rfl rfl rfl (.c 4 1 rfl rfl rfl (.c 5 1 rfl rfl rfl (.c 6 1 rfl rfl rfl (.c 7 1 rfl rfl rfl (.c 8 1 rfl rfl rfl (.c 9 1 rfl rfl rfl (.c 10 1 rfl rfl rfl (.c 11 1 rfl rfl rfl (.n _))))))))))))) (fun _ => rfl) (by rfl) rfl (by infer_instance) rfl fun v37 h37 O37 => ?_
  refine XO.q (Q.assign rfl) (XO.done (XK.seq (XK.seq (XK.region rfl (XO.q (Q.move rfl) ?_)))))
  refine XO.done (XK.block ?_)
  refine XK.while (X := Nat) [0, 5, 7, 8, 9, 38, 39, 40, 41, 42, 43, 44, 45, 46, 47, 48, 49, 50, 51, 52, 53, 54, 55, 56, 57, 58, 59, 60, 61, 62, 63, 64, 65, 66, 67, 68, 69, 70, 71, 72, 73, 74, 75, 76, 77, 78, 79, 80, 81, 82, 83, 84, 85, 86, 87, 88, 89, 90, 91, 92, 93, 94, 95, 96, 97, 98, 99, 100, 101, 102, 103, 104, 105, 106, 107, 108, 109, 110, 111, 112, 113, 114, 115, 116, 117, 118, 119, 120, 121, 122, 123, 124, 125, 126] (fun i => [(38, some (.int .i64 (i : Nat)))]) (fun i => []) (fun i => i ≤ 13) (fun i => 13 - i) (0) [] rfl (by omega) (.c rfl (.base 0 rfl rfl)) ?_
  rintro i hi ih0
  dsimp only [lcA, lnA] at ih0 ⊢
  refine XK.seq (XK.region rfl ?_)
  refine XO.q (Q.lss rfl rfl) ?_
  refine XO.done (XK.seq ?_)
  refine XK.if rfl (fun c0 => ?_) (fun c0 => ?_)
  · skip
    refine XK.skip (XK.seq (XK.block (XK.seq (XK.region rfl (XO.q (Q.move rfl) ?_)))))
    refine XO.q (Q.assign rfl) (XO.done (XK.seq (XK.region rfl (XO.q (Q.move rfl) ?_))))
    refine XO.len rfl fun l42 => ?_
    rw [show ((([-2, -1, 0, 1, 100, 101, 1000, 1001, 100000, 100001, 1000000, 1000001] : List Int).length : Nat) : Int) = 12 from rfl]
    refine XO.q (Q.move rfl) (XO.done (XK.block ?_))
    refine XK.while (X := Nat) [0, 7, 8, 9, 43, 44, 45, 46, 47, 48, 49, 50, 51, 52, 53, 54, 55, 56, 57, 58, 59, 60, 61, 62, 63, 64, 65, 66, 67, 68, 69, 70, 71, 72, 73, 74, 75, 76, 77, 78, 79, 80, 81, 82, 83, 84, 85, 86, 87, 88, 89, 90, 91, 92, 93, 94, 95, 96, 97, 98, 99, 100, 101, 102, 103, 104, 105, 106, 107, 108, 109, 110, 111, 112, 113, 114, 115, 116, 117, 118, 119, 120, 121, 122, 123, 124, 125] (fun k => [(43, some (.int .i64 (k : Nat)))]) (fun k => []) (fun k => k ≤ 12) (fun k => 12 - k) (0) [] rfl (by omega) (.c rfl (.base 0 rfl rfl)) ?_
    rintro k hk ih1
    dsimp only [lcA, lnA] at ih1 ⊢
    refine XK.seq (XK.region rfl ?_)
    refine XO.q (Q.lss rfl rfl) ?_
    refine XO.done (XK.seq ?_)
    refine XK.if rfl (fun c1 => ?_) (fun c1 => ?_)
    · skip
      refine XK.skip (XK.seq (XK.block (XK.seq (XK.region rfl ?_))))
      refine XO.ix rfl rfl (by omega) (by show (k : Int) < 12; omega) fun i45 => ?_
      refine XO.q (Q.ldE rfl (by first | assumption | omega) rfl) ?_
      obtain ⟨x, ex⟩ : ∃ x : Int, x = ([-2, -1, 0, 1, 100, 101, 1000, 1001, 100000, 100001, 1000000, 1000001] : List Int).getD k default := ⟨_, rfl⟩
      rw [← ex]
      clear ex
      refine XO.q (Q.assign rfl) (XO.done (XK.seq (XK.region rfl ?_)))
      refine XO.q (Q.ldA [_, _, _, _] rfl rfl rfl) ?_
      refine XO.call Try.call26 rfl rfl rfl (copied07 exHall vr vw vb vc kr kw kb kc (by first | omega | decide | (dsimp only; omega) | (simp only [List.length_cons, List.length_nil, List.length_append, List.length_set, List.length_replicate]; omega)) (by first | omega | decide | (dsimp only; omega) | (simp only [List.length_cons, List.length_nil, List.length_append, List.length_set, List.length_replicate]; omega)) (by first | omega | decide | (dsimp only; omega) | (simp only [List.length_cons, List.length_nil, List.length_append, List.length_set, List.length_replicate]; omega)) (by first | omega | decide | (dsimp only; omega) | (simp only [List.length_cons, List.length_nil, List.length_append, List.length_set, List.length_replicate]; omega))) fun v49 s49 R49 => ?_
      obtain ⟨a1, a2, a3, a4, b1_, b2_, b3_, b4_, k1, k2, k3, k4, j1, j2, j3, j4, rfl, rfl, ⟨A1, A2, A3, A4⟩, B1, B2, B3, B4⟩ := R49
      dsimp only [lcA, lnA]
      have bn0 : Int.toNat 0 < exHall.rooms.length := by decide
      have bn1 : Int.toNat 0 < exHall.walls.length := by decide
      have bn2 : Int.toNat 0 < exHall.branches.length := by decide
      have bn3 : Int.toNat 0 < exHall.coolers.length := by decide
      have on0 : ∀ off, One (pat a1 2 (Int.toNat 0) off) := fun off => pat_one (OArr.arr (s := A1)) bn0 off
      have on1 : ∀ off, One (pat a2 3 (Int.toNat 0) off) := fun off => pat_one (OArr.arr (s := A2)) bn1 off
      have on2 : ∀ off, One (pat a3 3 (Int.toNat 0) off) := fun off => pat_one (OArr.arr (s := A3)) bn2 off
      have on3 : ∀ off, One (pat a4 5 (Int.toNat 0) off) := fun off => pat_one (OArr.arr (s := A4)) bn3 off
      refine XO.q (Q.move rfl) ?_
      refine XO.q (Q.extract rfl rfl) ?_
      refine XO.q (Q.extract rfl rfl) ?_
      refine XO.alloc fun b8 => ?_
      refine XO.alloc fun b9 => ?_
      refine XO.st rfl rfl rfl ?_
      refine XO.st rfl rfl rfl ?_
      refine XO.done (XK.seq ?_)
      refine XK.meet (X := Hall × PHeap × PHeap × PHeap × PHeap) [52, 53, 54, 55, 56, 57, 58, 59, 60, 61, 62, 63, 64, 65, 66, 67, 68, 69, 70, 71, 72, 73, 74, 75, 76, 77, 78, 79, 80, 81, 82, 83, 84, 85, 86, 87, 88, 89, 90, 91, 92, 93, 94, 95, 96, 97, 98, 99, 100, 101, 102, 103, 104, 105, 106, 107, 108, 109] (fun ⟨hx, g1, g2, g3, g4⟩ => []) (fun ⟨hx, g1, g2, g3, g4⟩ => [g1, g2, g3, g4]) (fun ⟨hx, g1, g2, g3, g4⟩ => OArr a1 encRoom 2 48 g1 hx.rooms ∧ OArr a2 encWall 3 50 g2 hx.walls ∧ OArr a3 encBranch 3 38 g3 hx.branches ∧ OArr a4 encCooler 5 52 g4 hx.coolers ∧ hx.rooms.length ≤ 20 ∧ hx.walls.length ≤ 20 ∧ hx.branches.length ≤ 20 ∧ hx.coolers.length ≤ 20) [k1, k2, k3, k4] ?_ ?_
      · rintro ⟨hx, g1, g2, g3, g4⟩ ⟨G1, G2, G3, G4, z1, z2, z3, z4⟩
        dsimp only [lcA, lnA]
        refine XK.seq (XK.region rfl ?_)
        refine XO.q (Q.ldA [_, _, _, _] rfl rfl rfl) ?_
        refine XO.lit [_] [_] [22000] encI (by rfl) (by rfl) rfl (by rfl) (by exact .c 0 1 rfl rfl rfl (.n _)) (fun _ => rfl) (by rfl) rfl (by infer_instance) rfl fun v111 h111 O111 => ?_
        refine XO.q (Q.ldA [_, _, _] rfl rfl rfl) ?_
        refine XO.lit [_, _, _] [_, _, _] [(ve, (exCase 500))] encCV (by rfl) (by rfl) rfl (by rfl) (by exact .c 0 3 rfl rfl rfl (.n _)) (fun _ => rfl) (by rfl) rfl (by infer_instance) rfl fun v113 h113 O113 => ?_
        refine XO.call Try.call27 rfl rfl rfl (steps1 hx a1 a2 a3 a4 g1 g2 g3 g4 [22000] v111 h111 (exCase 500) ve ke v113 h113 300 (by first | omega | decide | (dsimp only; omega) | (simp only [List.length_cons, List.length_nil, List.length_append, List.length_set, List.length_replicate]; omega)) (by first | omega | decide | (dsimp only; omega) | (simp only [List.length_cons, List.length_nil, List.length_append, List.length_set, List.length_replicate]; omega)) (by first | omega | decide | (dsimp only; omega) | (simp only [List.length_cons, List.length_nil, List.length_append, List.length_set, List.length_replicate]; omega)) (by first | omega | decide | (dsimp only; omega) | (simp only [List.length_cons, List.length_nil, List.length_append, List.length_set, List.length_replicate]; omega)) (by first | omega | decide | (dsimp only; omega) | (simp only [List.length_cons, List.length_nil, List.length_append, List.length_set, List.length_replicate]; omega)) (by first | omega | decide | (dsimp only; omega) | (simp only [List.length_cons, List.length_nil, List.length_append, List.length_set, List.length_replicate]; omega))) fun v114 s114 R114 => ?_
        obtain ⟨rfl, rfl⟩ := R114
        dsimp only [lcA, lnA]
        refine XO.q (Q.not rfl) ?_
        refine XO.q (Q.move rfl) ?_
        refine XO.q (Quiet.guardF rfl rfl fun g117 p117 => Q.ldA [_, _, _, _] rfl rfl rfl) ?_
        refine XO.litG [_] [_] [20000] encI rfl rfl rfl (by rfl) (by rfl) rfl (by rfl) (by exact .c 0 1 rfl rfl rfl (.n _)) (fun _ => rfl) (by rfl) rfl (by infer_instance) rfl fun v118 h118 O118 => ?_
        refine XO.litG [_] [_] [25000] encI rfl rfl rfl (by rfl) (by rfl) rfl (by rfl) (by exact .c 0 1 rfl rfl rfl (.n _)) (fun _ => rfl) (by rfl) rfl (by infer_instance) rfl fun v119 h119 O119 => ?_
        refine XO.q (Quiet.guardF rfl rfl fun g120 p120 => Q.ldA [_, _, _, _, _, _] rfl rfl rfl) ?_
        refine XO.q (Quiet.guardF rfl rfl fun g121 p121 => Q.ldA [_, _, _] rfl rfl rfl) ?_
        refine XO.callS rfl rfl rfl Try.call28 rfl (.c (lzv rfl rfl) (.c rfl (.c rfl (.c (lzv rfl rfl) (.c (lzv rfl rfl) (.c rfl .n)))))) rfl (HeatBounds_spec hx a1 a2 a3 a4 g1 g2 g3 g4 [20000] [25000] v118 v119 h118 h119 (⟨[90000], 10000, 600⟩ : HCase) (exCase 500) v33 ve h33 ke (exCase 500) ve ke 3 (by first | omega | decide | (dsimp only; omega) | (simp only [List.length_cons, List.length_nil, List.length_append, List.length_set, List.length_replicate]; omega)) (by first | omega | decide | (dsimp only; omega) | (simp only [List.length_cons, List.length_nil, List.length_append, List.length_set, List.length_replicate]; omega)) (by first | omega | decide | (dsimp only; omega) | (simp only [List.length_cons, List.length_nil, List.length_append, List.length_set, List.length_replicate]; omega)) (by first | omega | decide | (dsimp only; omega) | (simp only [List.length_cons, List.length_nil, List.length_append, List.length_set, List.length_replicate]; omega)) (by first | omega | decide | (dsimp only; omega) | (simp only [List.length_cons, List.length_nil, List.length_append, List.length_set, List.length_replicate]; omega)) (by first | omega | decide | (dsimp only; omega) | (simp only [List.length_cons, List.length_nil, List.length_append, List.length_set, List.length_replicate]; omega)) (by first | omega | decide | (dsimp only; omega) | (simp only [List.length_cons, List.length_nil, List.length_append, List.length_set, List.length_replicate]; omega)) (by first | omega | decide | (dsimp only; omega) | (simp only [List.length_cons, List.length_nil, List.length_append, List.length_set, List.length_replicate]; omega)) (by first | omega | decide | (dsimp only; omega) | (simp only [List.length_cons, List.length_nil, List.length_append, List.length_set, List.length_replicate]; omega))) fun v122 s122 R122 => ?_
        obtain ⟨rfl, rfl⟩ := R122
        dsimp only [lcA, lnA]
        refine XO.q (Quiet.guardF rfl rfl fun g123 p123 => Q.not rfl) ?_
        refine XO.q (Q.or rfl (fun hp => lzv hp rfl)) ?_
        refine XO.done ?_
        refine XK.if rfl (fun c2 => ?_) (fun c2 => ?_)
        · skip
          simp at c2
        · skip
          refine XK.skip ?_
          refine XK.inBlock ?_
          refine XK.region rfl ?_
          refine XO.q (Q.add rfl rfl ⟨by omega, by omega⟩) ?_
          refine XO.q (Q.move rfl) (XO.done ?_)
          exact ih1 (k + 1) _ _ (by omega) (by first | omega | (dsimp only; omega)) (.c rfl (.base 174 rfl rfl)) inferInstance
      · intro mtr11
        dsimp only [lcA, lnA] at mtr11
        refine XK.drawn [0, 1, 2, 3, 4, 5, 6, 7, 8, 9, 10, 11, 12, 13, 14, 15, 16, 17, 18, 19, 20, 21, 22, 23, 24, 25, 26, 27, 28, 29, 30, 31, 32, 33, 34, 35, 36, 37, 38, 39, 40, 41, 42, 43, 44, 45, 46, 47, 48, 49, 50, 51, 53, 56, 54, 57] [b8] [k1, k2, k3, k4] (.q 0 (.q 1 (.q 2 (.q 3 (.q 4 (.q 5 (.q 6 (.q 7 (.q 8 (.q 9 (.q 10 (.q 11 (.q 12 (.q 13 (.q 14 (.q 15 (.q 16 (.q 17 (.q 18 (.q 19 (.q 20 (.q 21 (.q 22 (.q 23 (.q 24 (.q 25 (.q 26 (.q 27 (.q 28 (.q 29 (.q 30 (.q 31 (.q 32 (.q 33 (.q 34 (.q 35 (.q 36 (.q 37 (.q 38 (.q 39 (.q 40 (.q 41 (.q 42 (.q 43 (.q 44 (.q 45 (.q 46 (.q 47 (.q 48 (.q 49 (.q 50 (.q 51 (.q 53 (.q 56 (.br 52 true (.q 54 (.br 55 true (.q 57 (.br 58 false .done .stop)) .stop)) .stop))))))))))))))))))))))))))))))))))))))))))))))))))))))) Try.mixed rfl (by kernel_rfl) ?_
        refine XT.q rfl rfl (Q.fieldAddr rfl) ?_
        refine XT.q rfl rfl (Q.ld rfl rfl) ?_
        refine XT.ix rfl rfl rfl rfl (by decide) (by decide) fun i54 => ?_
        refine XT.q rfl rfl (Q.fieldQ rfl (by first | assumption | omega)) ?_
        refine XT.q rfl rfl (Q.fieldAddr rfl) ?_
        refine XT.q rfl rfl (Q.ld rfl rfl) ?_
        refine XT.ix rfl rfl rfl rfl (by decide) (by decide) fun i58 => ?_
        refine XT.q rfl rfl (Q.fieldQ rfl (by first | assumption | omega)) ?_
        refine XT.q rfl rfl (Q.fieldAddr rfl) ?_
        refine XT.q rfl rfl (Q.ld rfl rfl) ?_
        refine XT.ix rfl rfl rfl rfl (by decide) (by decide) fun i62 => ?_
        refine XT.q rfl rfl (Q.fieldQ rfl (by first | assumption | omega)) ?_
        refine XT.q rfl rfl (Q.fieldAddr rfl) ?_
        refine XT.q rfl rfl (Q.ld rfl rfl) ?_
        refine XT.ix rfl rfl rfl rfl (by decide) (by decide) fun i66 => ?_
        refine XT.q rfl rfl (Q.fieldQ rfl (by first | assumption | omega)) ?_
        refine XT.q rfl rfl (Q.fieldAddr rfl) ?_
        refine XT.q rfl rfl (Q.ld rfl rfl) ?_
        refine XT.ix rfl rfl rfl rfl (by decide) (by decide) fun i70 => ?_
        refine XT.q rfl rfl (Q.fieldQ rfl (by first | assumption | omega)) ?_
        refine XT.q rfl rfl (Q.fieldAddr rfl) ?_
        refine XT.q rfl rfl (Q.ld rfl rfl) ?_
        refine XT.ix rfl rfl rfl rfl (by decide) (by decide) fun i74 => ?_
        refine XT.q rfl rfl (Q.fieldQ rfl (by first | assumption | omega)) ?_
        refine XT.q rfl rfl (Q.fieldAddr rfl) ?_
        refine XT.q rfl rfl (Q.ld rfl rfl) ?_
        refine XT.ix rfl rfl rfl rfl (by decide) (by decide) fun i78 => ?_
        refine XT.q rfl rfl (Q.fieldQ rfl (by first | assumption | omega)) ?_
        refine XT.q rfl rfl (Q.fieldAddr rfl) ?_
        refine XT.q rfl rfl (Q.ld rfl rfl) ?_
        refine XT.ix rfl rfl rfl rfl (by decide) (by decide) fun i82 => ?_
        refine XT.q rfl rfl (Q.fieldQ rfl (by first | assumption | omega)) ?_
        refine XT.q rfl rfl (Q.fieldAddr rfl) ?_
        refine XT.q rfl rfl (Q.ld rfl rfl) ?_
        refine XT.ix rfl rfl rfl rfl (by decide) (by decide) fun i86 => ?_
        refine XT.q rfl rfl (Q.fieldQ rfl (by first | assumption | omega)) ?_
        refine XT.q rfl rfl (Q.fieldAddr rfl) ?_
        refine XT.q rfl rfl (Q.ld rfl rfl) ?_
        refine XT.ix rfl rfl rfl rfl (by decide) (by decide) fun i90 => ?_
        refine XT.q rfl rfl (Q.fieldQ rfl (by first | assumption | omega)) ?_
        refine XT.q rfl rfl (Q.fieldAddr rfl) ?_
        refine XT.q rfl rfl (Q.ld rfl rfl) ?_
        refine XT.ix rfl rfl rfl rfl (by decide) (by decide) fun i94 => ?_
        refine XT.q rfl rfl (Q.fieldQ rfl (by first | assumption | omega)) ?_
        refine XT.q rfl rfl (Q.fieldAddr rfl) ?_
        refine XT.q rfl rfl (Q.ld rfl rfl) ?_
        refine XT.ix rfl rfl rfl rfl (by decide) (by decide) fun i98 => ?_
        refine XT.q rfl rfl (Q.fieldQ rfl (by first | assumption | omega)) ?_
        refine XT.q rfl rfl (Q.fieldAddr rfl) ?_
        refine XT.q rfl rfl (Q.ld rfl rfl) ?_
        refine XT.ix rfl rfl rfl rfl (by decide) (by decide) fun i102 => ?_
        refine XT.q rfl rfl (Q.fieldQ rfl (by first | assumption | omega)) ?_
        refine XT.q rfl rfl (Q.move rfl) ?_
        refine XT.q rfl rfl (Q.move rfl) ?_
        refine XT.lit [_, _, _, _, _, _, _, _, _, _, _, _, _] [_, _, _, _, _, _, _, _, _, _, _, _, _] [_, _, _, _, _, _, _, _, _, _, _, _, _] encV rfl rfl (by rfl) (by rfl) rfl (by rfl) (by exact .c 0 1 rfl rfl rfl (.c 1 1 rfl rfl rfl (.c 2 1 rfl rfl rfl (.c 3 1 rfl rfl rfl (.c 4 1 rfl rfl rfl (.c 5 1 rfl rfl rfl (.c 6 1 rfl rfl rfl (.c 7 1 rfl rfl rfl (.c 8 1 rfl rfl rfl (.c 9 1 rfl rfl rfl (.c 10 1 rfl rfl rfl (.c 11 1 rfl rfl rfl (.c 12 1 rfl rfl rfl (.n _)))))))))))))) (fun _ => rfl) (by rfl) rfl (by infer_instance) rfl (fun v104 h104 O104 => ⟨inferInstance, ?_⟩) XT.stop
        refine XT.ix rfl rfl rfl rfl (by omega) (by show (i : Int) < 13; omega) fun i106 => ?_
        refine XT.qs rfl rfl (Q.ldE rfl (by show (i : Nat) < 13; omega) rfl) ⟨inferInstance, ?_⟩ XT.stop
        rcases (show i = 0 ∨ i = 1 ∨ i = 2 ∨ i = 3 ∨ i = 4 ∨ i = 5 ∨ i = 6 ∨ i = 7 ∨ i = 8 ∨ i = 9 ∨ i = 10 ∨ i = 11 ∨ i = 12 by omega) with rfl | rfl | rfl | rfl | rfl | rfl | rfl | rfl | rfl | rfl | rfl | rfl | rfl
        · have _ts := True.intro
          refine XT.q rfl rfl (Q.nilCheckE rfl (by first | assumption | omega)) ?_
          refine XT.stE (⟨x, (exHall.rooms.getD 0 default).limit⟩ : HRoom) rfl rfl rfl rfl rfl (by assumption) rfl rfl (fun h11_58 O11_58 => ⟨inferInstance, ?_⟩) XT.stop
          refine XT.done ?_
          exact mtr11 ((⟨exHall.rooms.set 0 (⟨x, (exHall.rooms.getD 0 default).limit⟩ : HRoom), exHall.walls, exHall.branches, exHall.coolers⟩, h11_58, k2, k3, k4)) _ _ ⟨O11_58, A2, A3, A4, by (try dsimp only); (try simp only [List.length_set]); first | omega | decide, by (try dsimp only); (try simp only [List.length_set]); first | omega | decide, by (try dsimp only); (try simp only [List.length_set]); first | omega | decide, by (try dsimp only); (try simp only [List.length_set]); first | omega | decide⟩ (.base 58 rfl rfl) inferInstance
        · have _ts := True.intro
          refine XT.q rfl rfl (Q.nilCheckE rfl (by first | assumption | omega)) ?_
          refine XT.stE (⟨(exHall.rooms.getD 0 default).store, x⟩ : HRoom) rfl rfl rfl rfl rfl (by assumption) rfl rfl (fun h11_58 O11_58 => ⟨inferInstance, ?_⟩) XT.stop
          refine XT.done ?_
          exact mtr11 ((⟨exHall.rooms.set 0 (⟨(exHall.rooms.getD 0 default).store, x⟩ : HRoom), exHall.walls, exHall.branches, exHall.coolers⟩, h11_58, k2, k3, k4)) _ _ ⟨O11_58, A2, A3, A4, by (try dsimp only); (try simp only [List.length_set]); first | omega | decide, by (try dsimp only); (try simp only [List.length_set]); first | omega | decide, by (try dsimp only); (try simp only [List.length_set]); first | omega | decide, by (try dsimp only); (try simp only [List.length_set]); first | omega | decide⟩ (.base 58 rfl rfl) inferInstance
        · have _ts := True.intro
          refine XT.q rfl rfl (Q.nilCheckE rfl (by first | assumption | omega)) ?_
          refine XT.stE (⟨x, (exHall.walls.getD 0 default).b, (exHall.walls.getD 0 default).pass⟩ : HWall) rfl rfl rfl rfl rfl (by assumption) rfl rfl (fun h11_58 O11_58 => ⟨inferInstance, ?_⟩) XT.stop
          refine XT.done ?_
          exact mtr11 ((⟨exHall.rooms, exHall.walls.set 0 (⟨x, (exHall.walls.getD 0 default).b, (exHall.walls.getD 0 default).pass⟩ : HWall), exHall.branches, exHall.coolers⟩, k1, h11_58, k3, k4)) _ _ ⟨A1, O11_58, A3, A4, by (try dsimp only); (try simp only [List.length_set]); first | omega | decide, by (try dsimp only); (try simp only [List.length_set]); first | omega | decide, by (try dsimp only); (try simp only [List.length_set]); first | omega | decide, by (try dsimp only); (try simp only [List.length_set]); first | omega | decide⟩ (.base 58 rfl rfl) inferInstance
        · have _ts := True.intro
          refine XT.q rfl rfl (Q.nilCheckE rfl (by first | assumption | omega)) ?_
          refine XT.stE (⟨(exHall.walls.getD 0 default).a, x, (exHall.walls.getD 0 default).pass⟩ : HWall) rfl rfl rfl rfl rfl (by assumption) rfl rfl (fun h11_58 O11_58 => ⟨inferInstance, ?_⟩) XT.stop
          refine XT.done ?_
          exact mtr11 ((⟨exHall.rooms, exHall.walls.set 0 (⟨(exHall.walls.getD 0 default).a, x, (exHall.walls.getD 0 default).pass⟩ : HWall), exHall.branches, exHall.coolers⟩, k1, h11_58, k3, k4)) _ _ ⟨A1, O11_58, A3, A4, by (try dsimp only); (try simp only [List.length_set]); first | omega | decide, by (try dsimp only); (try simp only [List.length_set]); first | omega | decide, by (try dsimp only); (try simp only [List.length_set]); first | omega | decide, by (try dsimp only); (try simp only [List.length_set]); first | omega | decide⟩ (.base 58 rfl rfl) inferInstance
        · have _ts := True.intro
          refine XT.q rfl rfl (Q.nilCheckE rfl (by first | assumption | omega)) ?_
          refine XT.stE (⟨(exHall.walls.getD 0 default).a, (exHall.walls.getD 0 default).b, x⟩ : HWall) rfl rfl rfl rfl rfl (by assumption) rfl rfl (fun h11_58 O11_58 => ⟨inferInstance, ?_⟩) XT.stop
          refine XT.done ?_
          exact mtr11 ((⟨exHall.rooms, exHall.walls.set 0 (⟨(exHall.walls.getD 0 default).a, (exHall.walls.getD 0 default).b, x⟩ : HWall), exHall.branches, exHall.coolers⟩, k1, h11_58, k3, k4)) _ _ ⟨A1, O11_58, A3, A4, by (try dsimp only); (try simp only [List.length_set]); first | omega | decide, by (try dsimp only); (try simp only [List.length_set]); first | omega | decide, by (try dsimp only); (try simp only [List.length_set]); first | omega | decide, by (try dsimp only); (try simp only [List.length_set]); first | omega | decide⟩ (.base 58 rfl rfl) inferInstance
        · have _ts := True.intro
          refine XT.q rfl rfl (Q.nilCheckE rfl (by first | assumption | omega)) ?_
          refine XT.stE (⟨x, (exHall.branches.getD 0 default).opn, (exHall.branches.getD 0 default).leak⟩ : HBranch) rfl rfl rfl rfl rfl (by assumption) rfl rfl (fun h11_58 O11_58 => ⟨inferInstance, ?_⟩) XT.stop
          refine XT.done ?_
          exact mtr11 ((⟨exHall.rooms, exHall.walls, exHall.branches.set 0 (⟨x, (exHall.branches.getD 0 default).opn, (exHall.branches.getD 0 default).leak⟩ : HBranch), exHall.coolers⟩, k1, k2, h11_58, k4)) _ _ ⟨A1, A2, O11_58, A4, by (try dsimp only); (try simp only [List.length_set]); first | omega | decide, by (try dsimp only); (try simp only [List.length_set]); first | omega | decide, by (try dsimp only); (try simp only [List.length_set]); first | omega | decide, by (try dsimp only); (try simp only [List.length_set]); first | omega | decide⟩ (.base 58 rfl rfl) inferInstance
        · have _ts := True.intro
          refine XT.q rfl rfl (Q.nilCheckE rfl (by first | assumption | omega)) ?_
          refine XT.stE (⟨(exHall.branches.getD 0 default).up, x, (exHall.branches.getD 0 default).leak⟩ : HBranch) rfl rfl rfl rfl rfl (by assumption) rfl rfl (fun h11_58 O11_58 => ⟨inferInstance, ?_⟩) XT.stop
          refine XT.done ?_
          exact mtr11 ((⟨exHall.rooms, exHall.walls, exHall.branches.set 0 (⟨(exHall.branches.getD 0 default).up, x, (exHall.branches.getD 0 default).leak⟩ : HBranch), exHall.coolers⟩, k1, k2, h11_58, k4)) _ _ ⟨A1, A2, O11_58, A4, by (try dsimp only); (try simp only [List.length_set]); first | omega | decide, by (try dsimp only); (try simp only [List.length_set]); first | omega | decide, by (try dsimp only); (try simp only [List.length_set]); first | omega | decide, by (try dsimp only); (try simp only [List.length_set]); first | omega | decide⟩ (.base 58 rfl rfl) inferInstance
        · have _ts := True.intro
          refine XT.q rfl rfl (Q.nilCheckE rfl (by first | assumption | omega)) ?_
          refine XT.stE (⟨(exHall.branches.getD 0 default).up, (exHall.branches.getD 0 default).opn, x⟩ : HBranch) rfl rfl rfl rfl rfl (by assumption) rfl rfl (fun h11_58 O11_58 => ⟨inferInstance, ?_⟩) XT.stop
          refine XT.done ?_
          exact mtr11 ((⟨exHall.rooms, exHall.walls, exHall.branches.set 0 (⟨(exHall.branches.getD 0 default).up, (exHall.branches.getD 0 default).opn, x⟩ : HBranch), exHall.coolers⟩, k1, k2, h11_58, k4)) _ _ ⟨A1, A2, O11_58, A4, by (try dsimp only); (try simp only [List.length_set]); first | omega | decide, by (try dsimp only); (try simp only [List.length_set]); first | omega | decide, by (try dsimp only); (try simp only [List.length_set]); first | omega | decide, by (try dsimp only); (try simp only [List.length_set]); first | omega | decide⟩ (.base 58 rfl rfl) inferInstance
        · have _ts := True.intro
          refine XT.q rfl rfl (Q.nilCheckE rfl (by first | assumption | omega)) ?_
          refine XT.stE (⟨x, (exHall.coolers.getD 0 default).br, (exHall.coolers.getD 0 default).gain, (exHall.coolers.getD 0 default).carry, (exHall.coolers.getD 0 default).supply⟩ : HCooler) rfl rfl rfl rfl rfl (by assumption) rfl rfl (fun h11_58 O11_58 => ⟨inferInstance, ?_⟩) XT.stop
          refine XT.done ?_
          exact mtr11 ((⟨exHall.rooms, exHall.walls, exHall.branches, exHall.coolers.set 0 (⟨x, (exHall.coolers.getD 0 default).br, (exHall.coolers.getD 0 default).gain, (exHall.coolers.getD 0 default).carry, (exHall.coolers.getD 0 default).supply⟩ : HCooler)⟩, k1, k2, k3, h11_58)) _ _ ⟨A1, A2, A3, O11_58, by (try dsimp only); (try simp only [List.length_set]); first | omega | decide, by (try dsimp only); (try simp only [List.length_set]); first | omega | decide, by (try dsimp only); (try simp only [List.length_set]); first | omega | decide, by (try dsimp only); (try simp only [List.length_set]); first | omega | decide⟩ (.base 58 rfl rfl) inferInstance
        · have _ts := True.intro
          refine XT.q rfl rfl (Q.nilCheckE rfl (by first | assumption | omega)) ?_
          refine XT.stE (⟨(exHall.coolers.getD 0 default).room, x, (exHall.coolers.getD 0 default).gain, (exHall.coolers.getD 0 default).carry, (exHall.coolers.getD 0 default).supply⟩ : HCooler) rfl rfl rfl rfl rfl (by assumption) rfl rfl (fun h11_58 O11_58 => ⟨inferInstance, ?_⟩) XT.stop
          refine XT.done ?_
          exact mtr11 ((⟨exHall.rooms, exHall.walls, exHall.branches, exHall.coolers.set 0 (⟨(exHall.coolers.getD 0 default).room, x, (exHall.coolers.getD 0 default).gain, (exHall.coolers.getD 0 default).carry, (exHall.coolers.getD 0 default).supply⟩ : HCooler)⟩, k1, k2, k3, h11_58)) _ _ ⟨A1, A2, A3, O11_58, by (try dsimp only); (try simp only [List.length_set]); first | omega | decide, by (try dsimp only); (try simp only [List.length_set]); first | omega | decide, by (try dsimp only); (try simp only [List.length_set]); first | omega | decide, by (try dsimp only); (try simp only [List.length_set]); first | omega | decide⟩ (.base 58 rfl rfl) inferInstance
        · have _ts := True.intro
          refine XT.q rfl rfl (Q.nilCheckE rfl (by first | assumption | omega)) ?_
          refine XT.stE (⟨(exHall.coolers.getD 0 default).room, (exHall.coolers.getD 0 default).br, x, (exHall.coolers.getD 0 default).carry, (exHall.coolers.getD 0 default).supply⟩ : HCooler) rfl rfl rfl rfl rfl (by assumption) rfl rfl (fun h11_58 O11_58 => ⟨inferInstance, ?_⟩) XT.stop
          refine XT.done ?_
          exact mtr11 ((⟨exHall.rooms, exHall.walls, exHall.branches, exHall.coolers.set 0 (⟨(exHall.coolers.getD 0 default).room, (exHall.coolers.getD 0 default).br, x, (exHall.coolers.getD 0 default).carry, (exHall.coolers.getD 0 default).supply⟩ : HCooler)⟩, k1, k2, k3, h11_58)) _ _ ⟨A1, A2, A3, O11_58, by (try dsimp only); (try simp only [List.length_set]); first | omega | decide, by (try dsimp only); (try simp only [List.length_set]); first | omega | decide, by (try dsimp only); (try simp only [List.length_set]); first | omega | decide, by (try dsimp only); (try simp only [List.length_set]); first | omega | decide⟩ (.base 58 rfl rfl) inferInstance
        · have _ts := True.intro
          refine XT.q rfl rfl (Q.nilCheckE rfl (by first | assumption | omega)) ?_
          refine XT.stE (⟨(exHall.coolers.getD 0 default).room, (exHall.coolers.getD 0 default).br, (exHall.coolers.getD 0 default).gain, x, (exHall.coolers.getD 0 default).supply⟩ : HCooler) rfl rfl rfl rfl rfl (by assumption) rfl rfl (fun h11_58 O11_58 => ⟨inferInstance, ?_⟩) XT.stop
          refine XT.done ?_
          exact mtr11 ((⟨exHall.rooms, exHall.walls, exHall.branches, exHall.coolers.set 0 (⟨(exHall.coolers.getD 0 default).room, (exHall.coolers.getD 0 default).br, (exHall.coolers.getD 0 default).gain, x, (exHall.coolers.getD 0 default).supply⟩ : HCooler)⟩, k1, k2, k3, h11_58)) _ _ ⟨A1, A2, A3, O11_58, by (try dsimp only); (try simp only [List.length_set]); first | omega | decide, by (try dsimp only); (try simp only [List.length_set]); first | omega | decide, by (try dsimp only); (try simp only [List.length_set]); first | omega | decide, by (try dsimp only); (try simp only [List.length_set]); first | omega | decide⟩ (.base 58 rfl rfl) inferInstance
        · have _ts := True.intro
          refine XT.q rfl rfl (Q.nilCheckE rfl (by first | assumption | omega)) ?_
          refine XT.stE (⟨(exHall.coolers.getD 0 default).room, (exHall.coolers.getD 0 default).br, (exHall.coolers.getD 0 default).gain, (exHall.coolers.getD 0 default).carry, x⟩ : HCooler) rfl rfl rfl rfl rfl (by assumption) rfl rfl (fun h11_58 O11_58 => ⟨inferInstance, ?_⟩) XT.stop
          refine XT.done ?_
          exact mtr11 ((⟨exHall.rooms, exHall.walls, exHall.branches, exHall.coolers.set 0 (⟨(exHall.coolers.getD 0 default).room, (exHall.coolers.getD 0 default).br, (exHall.coolers.getD 0 default).gain, (exHall.coolers.getD 0 default).carry, x⟩ : HCooler)⟩, k1, k2, k3, h11_58)) _ _ ⟨A1, A2, A3, O11_58, by (try dsimp only); (try simp only [List.length_set]); first | omega | decide, by (try dsimp only); (try simp only [List.length_set]); first | omega | decide, by (try dsimp only); (try simp only [List.length_set]); first | omega | decide, by (try dsimp only); (try simp only [List.length_set]); first | omega | decide⟩ (.base 58 rfl rfl) inferInstance
    · skip
      refine XK.exit rfl ?_
      refine XK.inBlock ?_
      refine XK.region rfl ?_
      refine XO.q (Q.add rfl rfl ⟨by omega, by omega⟩) ?_
      refine XO.q (Q.move rfl) (XO.done ?_)
      exact ih0 (i + 1) _ _ (by omega) (by first | omega | (dsimp only; omega)) (.c rfl (.base 192 rfl rfl)) inferInstance
  · skip
    refine XK.exit rfl ?_
    refine XK.seq (XK.seq (XK.region rfl (XO.q (Q.move rfl) ?_)))
    refine XO.lit [_, _] [_, _] [10000000, 10000001] encI (by rfl) (by rfl) rfl (by rfl) (by exact .c 0 1 rfl rfl rfl (.c 1 1 rfl rfl rfl (.n _))) (fun _ => rfl) (by rfl) rfl (by infer_instance) rfl fun v128 h128 O128 => ?_
    refine XO.append rfl rfl rfl rfl (by simp only [List.length_cons, List.length_nil]; omega) fun v129 h129 O129 => ?_
    obtain ⟨E, eE⟩ : ∃ x : List Int, x = [-2, -1, 0, 1, 100, 101, 1000, 1001, 100000, 100001, 1000000, 1000001] ++ [10000000, 10000001] := ⟨_, rfl⟩
    rw [← eE] at O129
    have lE : E.length = 14 := by rw [eE]; rfl
    clear eE
    refine XO.len rfl fun l130 => ?_
    refine XO.q (Q.move rfl) (XO.done (XK.block ?_))
    refine XK.while (X := Nat) [0, 11, 12, 13, 14, 15, 131, 132, 133, 134, 135, 136, 137, 138, 139, 140, 141, 142, 143, 144, 145, 146, 147, 148, 149, 150, 151, 152, 153, 154, 155, 156, 157, 158, 159, 160, 161, 162, 163, 164, 165, 166, 167, 168, 169, 170, 171, 172, 173, 174, 175, 176, 177, 178, 179, 180, 181, 182, 183, 184, 185, 186, 187, 188, 189, 190, 191, 192, 193, 194, 195, 196, 197, 198, 199, 200] (fun k => [(131, some (.int .i64 (k : Nat)))]) (fun k => []) (fun k => k ≤ E.length) (fun k => E.length - k) (0) [] rfl (by omega) (.c rfl (.base 0 rfl rfl)) ?_
    rintro k hk ih2
    dsimp only [lcA, lnA] at ih2 ⊢
    refine XK.seq (XK.region rfl ?_)
    refine XO.q (Q.lss rfl rfl) ?_
    refine XO.done (XK.seq ?_)
    refine XK.if rfl (fun c3 => ?_) (fun c3 => ?_)
    · skip
      refine XK.skip (XK.seq (XK.block (XK.seq (XK.region rfl ?_))))
      refine XO.ix rfl rfl (by omega) (by omega) fun i133 => ?_
      refine XO.q (Q.ldE rfl (by first | assumption | omega) rfl) ?_
      obtain ⟨x, ex⟩ : ∃ x : Int, x = E.getD k default := ⟨_, rfl⟩
      rw [← ex]
      clear ex
      obtain ⟨y, ey⟩ : ∃ y, Int.tmod x 7 = y := ⟨_, rfl⟩
      refine XO.q (Q.assign rfl) (XO.done (XK.seq (XK.region rfl (XO.q (Q.move rfl) (XO.done ?_)))))
      refine XK.block ?_
      refine XK.while (X := Nat) [0, 12, 13, 14, 15, 135, 136, 137, 138, 139, 140, 141, 142, 143, 144, 145, 146, 147, 148, 149, 150, 151, 152, 153, 154, 155, 156, 157, 158, 159, 160, 161, 162, 163, 164, 165, 166, 167, 168, 169, 170, 171, 172, 173, 174, 175, 176, 177, 178, 179, 180, 181, 182, 183, 184, 185, 186, 187, 188, 189, 190, 191, 192, 193, 194, 195, 196, 197, 198, 199] (fun i => [(135, some (.int .i64 (i : Nat)))]) (fun i => []) (fun i => i ≤ 4) (fun i => 4 - i) (0) [] rfl (by omega) (.c rfl (.base 0 rfl rfl)) ?_
      rintro i hi ih3
      dsimp only [lcA, lnA] at ih3 ⊢
      refine XK.seq (XK.region rfl ?_)
      refine XO.q (Q.lss rfl rfl) ?_
      refine XO.done (XK.seq ?_)
      refine XK.if rfl (fun c4 => ?_) (fun c4 => ?_)
      · skip
        refine XK.skip (XK.seq (XK.block (XK.seq (XK.region rfl (XO.q (Q.move rfl) ?_)))))
        refine XO.q (Q.assign rfl) (XO.done (XK.seq (XK.region rfl ?_)))
        refine XO.q (Q.ldA [_, _, _] rfl rfl rfl) ?_
        refine XO.call Try.call29 rfl rfl rfl (caseOf07 (exCase 500) ve ke (by first | omega | decide | (dsimp only; omega) | (simp only [List.length_cons, List.length_nil, List.length_append, List.length_set, List.length_replicate]; omega))) fun v140 s140 R140 => ?_
        obtain ⟨w1, w2, q1, q2, rfl, rfl, Q1, Q2⟩ := R140
        dsimp only [lcA, lnA]
        have bw : Int.toNat 0 < (exCase 500).load.length := Nat.le_of_ble_eq_true rfl
        have ow : ∀ off, One (pat w1 1 (Int.toNat 0) off) := fun off => pat_one (OArr.arr (s := Q1)) bw off
        refine XO.q (Q.move rfl) ?_
        refine XO.q (Q.extract rfl rfl) ?_
        refine XO.q (Q.extract rfl rfl) ?_
        refine XO.alloc fun b13 => ?_
        refine XO.alloc fun b14 => ?_
        refine XO.st rfl rfl rfl ?_
        refine XO.st rfl rfl rfl ?_
        refine XO.done (XK.seq (XK.region rfl ?_))
        refine XO.lit [_] [_] [22000] encI (by rfl) (by rfl) rfl (by rfl) (by exact .c 0 1 rfl rfl rfl (.n _)) (fun _ => rfl) (by rfl) rfl (by infer_instance) rfl fun v143 h143 O143 => ?_
        have bt : Int.toNat 0 < ([22000] : List Int).length := by decide
        have ot : ∀ off, One (pat v143 1 (Int.toNat 0) off) := fun off => pat_one (OArr.arr (s := O143)) bt off
        refine XO.q (Q.assign rfl) (XO.done (XK.seq ?_))
        refine XK.meet (X := HCase × List Int × PHeap × PHeap) [144, 145, 146, 147, 148, 149, 150, 151, 152, 153, 154, 155, 156] (fun ⟨cd, tt, g1, g2⟩ => []) (fun ⟨cd, tt, g1, g2⟩ => [blk b13 [w1, .int .i64 cd.out, .int .i64 cd.pump] 43, g1, g2]) (fun ⟨cd, tt, g1, g2⟩ => OArr w1 encI 1 3 g1 cd.load ∧ OArr v143 encI 1 3 g2 tt ∧ cd.load.length ≤ 1000 ∧ tt.length ≤ 1000) [blk b13 [w1, .int .i64 (exCase 500).out, .int .i64 (exCase 500).pump] 43, q1, h143] ?_ ?_
        · rintro ⟨cd, tt, g1, g2⟩ ⟨G1, G2, z1, z2⟩
          dsimp only [lcA, lnA]
          refine XK.seq (XK.region rfl ?_)
          refine XO.q (Q.ldA [_, _, _, _] rfl rfl rfl) ?_
          refine XO.q (Q.move rfl) ?_
          refine XO.q (Q.ldA [_, _, _] rfl rfl rfl) ?_
          refine XO.q (Q.ldA [_, _, _] rfl rfl rfl) ?_
          refine XO.lit [_, _, _, _, _, _] [_, _, _, _, _, _] [(ve, (exCase 500)), (w1, cd)] encCV (by rfl) (by rfl) rfl (by rfl) (by exact .c 0 3 rfl rfl rfl (.c 3 3 rfl rfl rfl (.n _))) (fun _ => rfl) (by rfl) rfl (by infer_instance) rfl fun v161 h161 O161 => ?_
          refine XO.q (Q.move rfl) ?_
          refine XO.call Try.call27 rfl rfl rfl (steps2 exHall vr vw vb vc kr kw kb kc tt v143 g2 (exCase 500) ve ke cd w1 g1 v161 h161 x (by first | omega | decide | (dsimp only; omega) | (simp only [List.length_cons, List.length_nil, List.length_append, List.length_set, List.length_replicate]; omega)) (by first | omega | decide | (dsimp only; omega) | (simp only [List.length_cons, List.length_nil, List.length_append, List.length_set, List.length_replicate]; omega)) (by first | omega | decide | (dsimp only; omega) | (simp only [List.length_cons, List.length_nil, List.length_append, List.length_set, List.length_replicate]; omega)) (by first | omega | decide | (dsimp only; omega) | (simp only [List.length_cons, List.length_nil, List.length_append, List.length_set, List.length_replicate]; omega)) (by first | omega | decide | (dsimp only; omega) | (simp only [List.length_cons, List.length_nil, List.length_append, List.length_set, List.length_replicate]; omega)) (by first | omega | decide | (dsimp only; omega) | (simp only [List.length_cons, List.length_nil, List.length_append, List.length_set, List.length_replicate]; omega)) (by first | omega | decide | (dsimp only; omega) | (simp only [List.length_cons, List.length_nil, List.length_append, List.length_set, List.length_replicate]; omega))) fun v163 s163 R163 => ?_
          obtain ⟨rfl, rfl⟩ := R163
          dsimp only [lcA, lnA]
          refine XO.q (Q.not rfl) ?_
          refine XO.q (Q.move rfl) ?_
          refine XO.q (Quiet.guardF rfl rfl fun g166 p166 => Q.ldA [_, _, _, _] rfl rfl rfl) ?_
          refine XO.q (Quiet.guardF rfl rfl fun g167 p167 => Q.move rfl) ?_
          refine XO.q (Quiet.guardF rfl rfl fun g168 p168 => Q.move rfl) ?_
          refine XO.q (Quiet.guardF rfl rfl fun g169 p169 => Q.fieldAddr rfl) ?_
          refine XO.q (Quiet.guardF rfl rfl fun g170 p170 => Q.ldA [_, _, _] (lzv rfl rfl) rfl rfl) ?_
          refine XO.q (Quiet.guardF rfl rfl fun g171 p171 => Q.ldA [_, _, _] rfl rfl rfl) ?_
          refine XO.q (Quiet.guardF rfl rfl fun g172 p172 => Q.build [_, _, _, _, _, _] (.c 0 3 (lzv rfl rfl) rfl rfl (.c 3 3 (lzv rfl rfl) rfl rfl (.n _)))) ?_
          refine XO.q (Quiet.guardF rfl rfl fun g173 p173 => Q.ldA [_, _, _] rfl rfl rfl) ?_
          refine XO.callS rfl rfl rfl Try.call28 rfl (.c (lzv rfl rfl) (.c (lzv rfl rfl) (.c (lzv rfl rfl) (.c (lzv rfl rfl) (.c (lzv rfl rfl) (.c rfl .n)))))) rfl (HeatBounds_spec exHall vr vw vb vc kr kw kb kc tt tt v143 v143 g2 g2 (⟨[90000], 10000, 600⟩ : HCase) cd v33 w1 h33 g1 cd w1 g1 2 (by first | omega | decide | (dsimp only; omega) | (simp only [List.length_cons, List.length_nil, List.length_append, List.length_set, List.length_replicate]; omega)) (by first | omega | decide | (dsimp only; omega) | (simp only [List.length_cons, List.length_nil, List.length_append, List.length_set, List.length_replicate]; omega)) (by first | omega | decide | (dsimp only; omega) | (simp only [List.length_cons, List.length_nil, List.length_append, List.length_set, List.length_replicate]; omega)) (by first | omega | decide | (dsimp only; omega) | (simp only [List.length_cons, List.length_nil, List.length_append, List.length_set, List.length_replicate]; omega)) (by first | omega | decide | (dsimp only; omega) | (simp only [List.length_cons, List.length_nil, List.length_append, List.length_set, List.length_replicate]; omega)) (by first | omega | decide | (dsimp only; omega) | (simp only [List.length_cons, List.length_nil, List.length_append, List.length_set, List.length_replicate]; omega)) (by first | omega | decide | (dsimp only; omega) | (simp only [List.length_cons, List.length_nil, List.length_append, List.length_set, List.length_replicate]; omega)) (by first | omega | decide | (dsimp only; omega) | (simp only [List.length_cons, List.length_nil, List.length_append, List.length_set, List.length_replicate]; omega)) (by first | omega | decide | (dsimp only; omega) | (simp only [List.length_cons, List.length_nil, List.length_append, List.length_set, List.length_replicate]; omega))) fun v174 s174 R174 => ?_
          obtain ⟨rfl, rfl⟩ := R174
          dsimp only [lcA, lnA]
          refine XO.q (Quiet.guardF rfl rfl fun g175 p175 => Q.not rfl) ?_
          refine XO.q (Q.or rfl (fun hp => lzv hp rfl)) ?_
          refine XO.q (Q.move rfl) ?_
          refine XO.q (Quiet.guardF rfl rfl fun g178 p178 => Q.ldA [_, _, _, _] rfl rfl rfl) ?_
          refine XO.q (Quiet.guardF rfl rfl fun g179 p179 => Q.move rfl) ?_
          refine XO.litG [_] [_] [25000] encI rfl rfl rfl (by rfl) (by rfl) rfl (by rfl) (by exact .c 0 1 rfl rfl rfl (.n _)) (fun _ => rfl) (by rfl) rfl (by infer_instance) rfl fun v180 h180 O180 => ?_
          refine XO.q (Quiet.guardF rfl rfl fun g181 p181 => Q.ldA [_, _, _] rfl rfl rfl) ?_
          refine XO.q (Quiet.guardF rfl rfl fun g182 p182 => Q.ldA [_, _, _] rfl rfl rfl) ?_
          refine XO.q (Quiet.guardF rfl rfl fun g183 p183 => Q.build [_, _, _, _, _, _] (.c 0 3 (lzv rfl rfl) rfl rfl (.c 3 3 (lzv rfl rfl) rfl rfl (.n _)))) ?_
          refine XO.q (Quiet.guardF rfl rfl fun g184 p184 => Q.ldA [_, _, _] rfl rfl rfl) ?_
          refine XO.callS rfl rfl rfl Try.call28 rfl (.c (lzv rfl rfl) (.c (lzv rfl rfl) (.c rfl (.c (lzv rfl rfl) (.c (lzv rfl rfl) (.c rfl .n)))))) rfl (HeatBounds_spec exHall vr vw vb vc kr kw kb kc tt [25000] v143 v180 g2 h180 cd (exCase 500) w1 ve g1 ke cd w1 g1 2 (by first | omega | decide | (dsimp only; omega) | (simp only [List.length_cons, List.length_nil, List.length_append, List.length_set, List.length_replicate]; omega)) (by first | omega | decide | (dsimp only; omega) | (simp only [List.length_cons, List.length_nil, List.length_append, List.length_set, List.length_replicate]; omega)) (by first | omega | decide | (dsimp only; omega) | (simp only [List.length_cons, List.length_nil, List.length_append, List.length_set, List.length_replicate]; omega)) (by first | omega | decide | (dsimp only; omega) | (simp only [List.length_cons, List.length_nil, List.length_append, List.length_set, List.length_replicate]; omega)) (by first | omega | decide | (dsimp only; omega) | (simp only [List.length_cons, List.length_nil, List.length_append, List.length_set, List.length_replicate]; omega)) (by first | omega | decide | (dsimp only; omega) | (simp only [List.length_cons, List.length_nil, List.length_append, List.length_set, List.length_replicate]; omega)) (by first | omega | decide | (dsimp only; omega) | (simp only [List.length_cons, List.length_nil, List.length_append, List.length_set, List.length_replicate]; omega)) (by first | omega | decide | (dsimp only; omega) | (simp only [List.length_cons, List.length_nil, List.length_append, List.length_set, List.length_replicate]; omega)) (by first | omega | decide | (dsimp only; omega) | (simp only [List.length_cons, List.length_nil, List.length_append, List.length_set, List.length_replicate]; omega))) fun v185 s185 R185 => ?_
          obtain ⟨rfl, rfl⟩ := R185
          dsimp only [lcA, lnA]
          refine XO.q (Quiet.guardF rfl rfl fun g186 p186 => Q.not rfl) ?_
          refine XO.q (Q.or rfl (fun hp => lzv hp rfl)) ?_
          refine XO.q (Q.move rfl) ?_
          refine XO.q (Quiet.guardF rfl rfl fun g189 p189 => Q.ldA [_, _, _, _] rfl rfl rfl) ?_
          refine XO.litG [_] [_] [1] encI rfl rfl rfl (by rfl) (by rfl) rfl (by rfl) (by exact .c 0 1 rfl rfl rfl (.n _)) (fun _ => rfl) (by rfl) rfl (by infer_instance) rfl fun v190 h190 O190 => ?_
          refine XO.q (Quiet.guardF rfl rfl fun g191 p191 => Q.move rfl) ?_
          refine XO.q (Quiet.guardF rfl rfl fun g192 p192 => Q.ldA [_, _, _, _, _, _] rfl rfl rfl) ?_
          refine XO.q (Quiet.guardF rfl rfl fun g193 p193 => Q.ldA [_, _, _] rfl rfl rfl) ?_
          refine XO.q (Quiet.guardF rfl rfl fun g194 p194 => Q.move rfl) ?_
          refine XO.q (Quiet.guardF rfl rfl fun g195 p195 => Q.remY (m := x) (n := 7) (lzv g195 rfl) rfl (by decide) ey) ?_
          refine XO.callS rfl rfl rfl Try.call28 rfl (.c (lzv rfl rfl) (.c rfl (.c (lzv rfl rfl) (.c (lzv rfl rfl) (.c (lzv rfl rfl) (.c (lzv rfl rfl) .n)))))) rfl (HeatBounds_spec exHall vr vw vb vc kr kw kb kc [1] tt v190 v143 h190 g2 (⟨[90000], 10000, 600⟩ : HCase) (exCase 500) v33 ve h33 ke cd w1 g1 y (by first | omega | decide | (dsimp only; omega) | (simp only [List.length_cons, List.length_nil, List.length_append, List.length_set, List.length_replicate]; omega)) (by first | omega | decide | (dsimp only; omega) | (simp only [List.length_cons, List.length_nil, List.length_append, List.length_set, List.length_replicate]; omega)) (by first | omega | decide | (dsimp only; omega) | (simp only [List.length_cons, List.length_nil, List.length_append, List.length_set, List.length_replicate]; omega)) (by first | omega | decide | (dsimp only; omega) | (simp only [List.length_cons, List.length_nil, List.length_append, List.length_set, List.length_replicate]; omega)) (by first | omega | decide | (dsimp only; omega) | (simp only [List.length_cons, List.length_nil, List.length_append, List.length_set, List.length_replicate]; omega)) (by first | omega | decide | (dsimp only; omega) | (simp only [List.length_cons, List.length_nil, List.length_append, List.length_set, List.length_replicate]; omega)) (by first | omega | decide | (dsimp only; omega) | (simp only [List.length_cons, List.length_nil, List.length_append, List.length_set, List.length_replicate]; omega)) (by first | omega | decide | (dsimp only; omega) | (simp only [List.length_cons, List.length_nil, List.length_append, List.length_set, List.length_replicate]; omega)) (by first | omega | decide | (dsimp only; omega) | (simp only [List.length_cons, List.length_nil, List.length_append, List.length_set, List.length_replicate]; omega))) fun v196 s196 R196 => ?_
          obtain ⟨rfl, rfl⟩ := R196
          dsimp only [lcA, lnA]
          refine XO.q (Quiet.guardF rfl rfl fun g197 p197 => Q.not rfl) ?_
          refine XO.q (Q.or rfl (fun hp => lzv hp rfl)) ?_
          refine XO.done ?_
          refine XK.if rfl (fun c5 => ?_) (fun c5 => ?_)
          · skip
            simp at c5
          · skip
            refine XK.skip ?_
            refine XK.inBlock ?_
            refine XK.region rfl ?_
            refine XO.q (Q.add rfl rfl ⟨by omega, by omega⟩) ?_
            refine XO.q (Q.move rfl) (XO.done ?_)
            exact ih3 (i + 1) _ _ (by omega) (by first | omega | (dsimp only; omega)) (.c rfl (.base 140 rfl rfl)) inferInstance
        · intro mtr24
          dsimp only [lcA, lnA] at mtr24
          refine XK.drawn [0, 1, 2, 3, 4, 5, 6, 8, 11, 9, 12] [b13] [q1, h143] (.q 0 (.q 1 (.q 2 (.q 3 (.q 4 (.q 5 (.q 6 (.q 8 (.q 11 (.br 7 true (.q 9 (.br 10 true (.q 12 (.br 13 false .done .stop)) .stop)) .stop)))))))))) Try.mixed rfl (by kernel_rfl) ?_
          refine XT.q rfl rfl (Q.fieldAddr rfl) ?_
          refine XT.q rfl rfl (Q.ld rfl rfl) ?_
          refine XT.ix rfl rfl rfl rfl (by decide) (by decide) fun i146 => ?_
          refine XT.q rfl rfl (Q.fieldAddr rfl) ?_
          refine XT.q rfl rfl (Q.fieldAddr rfl) ?_
          refine XT.q rfl rfl (Q.move rfl) ?_
          refine XT.ix rfl rfl rfl rfl (by decide) (by decide) fun i150 => ?_
          refine XT.q rfl rfl (Q.move rfl) ?_
          refine XT.q rfl rfl (Q.move rfl) ?_
          refine XT.lit [_, _, _, _] [_, _, _, _] [_, _, _, _] encV rfl rfl (by rfl) (by rfl) rfl (by rfl) (by exact .c 0 1 rfl rfl rfl (.c 1 1 rfl rfl rfl (.c 2 1 rfl rfl rfl (.c 3 1 rfl rfl rfl (.n _))))) (fun _ => rfl) (by rfl) rfl (by infer_instance) rfl (fun v151 h151 O151 => ⟨inferInstance, ?_⟩) XT.stop
          refine XT.ix rfl rfl rfl rfl (by omega) (by show (i : Int) < 4; omega) fun i153 => ?_
          refine XT.qs rfl rfl (Q.ldE rfl (by show (i : Nat) < 4; omega) rfl) ⟨inferInstance, ?_⟩ XT.stop
          rcases (show i = 0 ∨ i = 1 ∨ i = 2 ∨ i = 3 by omega) with rfl | rfl | rfl | rfl
          · have _ts := True.intro
            refine XT.q rfl rfl (Q.nilCheckE rfl (by first | assumption | omega)) ?_
            refine XT.stE x rfl rfl rfl rfl rfl (by assumption) rfl rfl (fun h24_13 O24_13 => ⟨inferInstance, ?_⟩) XT.stop
            refine XT.done ?_
            exact mtr24 ((⟨([100000] : List Int).set 0 x, (exCase 500).out, (exCase 500).pump⟩, [22000], h24_13, h143)) _ _ ⟨O24_13, O143, by (try dsimp only); (try simp only [List.length_set]); first | omega | decide, by (try dsimp only); (try simp only [List.length_set]); first | omega | decide⟩ (.base 13 rfl rfl) inferInstance
          · have _ts := True.intro
            refine XT.q rfl rfl (Q.nilCheck rfl) ?_
            refine XT.st rfl rfl rfl rfl rfl ⟨inferInstance, ?_⟩ XT.stop
            refine XT.done ?_
            exact mtr24 ((⟨[100000], x, (exCase 500).pump⟩, [22000], q1, h143)) _ _ ⟨Q1, O143, by (try dsimp only); (try simp only [List.length_set]); first | omega | decide, by (try dsimp only); (try simp only [List.length_set]); first | omega | decide⟩ (.base 13 rfl rfl) inferInstance
          · have _ts := True.intro
            refine XT.q rfl rfl (Q.nilCheck rfl) ?_
            refine XT.st rfl rfl rfl rfl rfl ⟨inferInstance, ?_⟩ XT.stop
            refine XT.done ?_
            exact mtr24 ((⟨[100000], (exCase 500).out, x⟩, [22000], q1, h143)) _ _ ⟨Q1, O143, by (try dsimp only); (try simp only [List.length_set]); first | omega | decide, by (try dsimp only); (try simp only [List.length_set]); first | omega | decide⟩ (.base 13 rfl rfl) inferInstance
          · have _ts := True.intro
            refine XT.q rfl rfl (Q.nilCheckE rfl (by first | assumption | omega)) ?_
            refine XT.stE x rfl rfl rfl rfl rfl (by assumption) rfl rfl (fun h24_13 O24_13 => ⟨inferInstance, ?_⟩) XT.stop
            refine XT.done ?_
            exact mtr24 ((⟨[100000], (exCase 500).out, (exCase 500).pump⟩, ([22000] : List Int).set 0 x, q1, h24_13)) _ _ ⟨Q1, O24_13, by (try dsimp only); (try simp only [List.length_set]); first | omega | decide, by (try dsimp only); (try simp only [List.length_set]); first | omega | decide⟩ (.base 13 rfl rfl) inferInstance
      · skip
        refine XK.exit rfl ?_
        refine XK.inBlock ?_
        refine XK.region rfl ?_
        refine XO.q (Q.add rfl rfl ⟨by omega, by omega⟩) ?_
        refine XO.q (Q.move rfl) (XO.done ?_)
        exact ih2 (k + 1) _ _ (by omega) (by first | omega | (dsimp only; omega)) (.c rfl (.base 156 rfl rfl)) inferInstance
    · skip
      refine XK.exit rfl ?_
      refine XK.seq (XK.seq (XK.region rfl (XO.q (Q.move rfl) (XO.done (XK.block ?_)))))
      refine XK.while (X := Nat) [0, 16, 17, 201, 202, 203, 204, 205, 206, 207, 208, 209, 210, 211, 212, 213, 214, 215, 216, 217, 218, 219, 220, 221, 222, 223, 224, 225, 226, 227, 228, 229, 230, 231, 232, 233, 234, 235, 236, 237, 238, 239, 240, 241, 242, 243, 244, 245, 246, 247, 248, 249, 250, 251, 252, 253, 254, 255, 256, 257, 258, 259, 260, 261, 262, 263, 264, 265, 266, 267] (fun n => [(201, some (.int .i64 (n : Nat)))]) (fun n => []) (fun n => n ≤ 1152) (fun n => 1152 - n) (0) [] rfl (by omega) (.c rfl (.base 0 rfl rfl)) ?_
      rintro n hn ih4
      dsimp only [lcA, lnA] at ih4 ⊢
      refine XK.seq (XK.region rfl ?_)
      refine XO.q (Q.lss rfl rfl) ?_
      refine XO.done (XK.seq ?_)
      refine XK.if rfl (fun c6 => ?_) (fun c6 => ?_)
      · skip
        refine XK.skip (XK.seq (XK.block (XK.seq (XK.region rfl (XO.q (Q.move rfl) ?_)))))
        refine XO.q (Q.assign rfl) (XO.done (XK.seq (XK.region rfl ?_)))
        refine XO.q (Q.build [_, _] (.c 0 1 rfl rfl rfl (.c 1 1 rfl rfl rfl (.n _)))) ?_
        refine XO.lit [_, _] [_, _] [⟨9, 5⟩] encRoom (by rfl) (by rfl) rfl (by rfl) (by exact .c 0 2 rfl rfl rfl (.n _)) (fun _ => rfl) (by rfl) rfl (by infer_instance) rfl fun v205 h205 O205 => ?_
        obtain ⟨R3, eR3⟩ : ∃ x : List HRoom, x = [⟨9, 5⟩] := ⟨_, rfl⟩
        rw [← eR3] at O205
        have lR3 : R3.length = 1 := by rw [eR3]; rfl
        clear eR3
        refine XO.q (Q.move rfl) ?_
        refine XO.q (Q.rem rfl rfl (by omega) (by omega)) ?_
        refine XO.q (Q.build [_, _, _] (.c 0 1 rfl rfl rfl (.c 2 1 rfl rfl rfl (.n _)))) ?_
        refine XO.q (Q.move rfl) ?_
        refine XO.q (Q.quo rfl rfl (by omega) (by omega) (by omega)) ?_
        refine XO.q (Q.rem rfl rfl (by omega) (by omega)) ?_
        refine XO.q (Q.build [_, _, _] (.c 0 1 rfl rfl rfl (.c 1 1 rfl rfl rfl (.n _)))) ?_
        refine XO.q (Q.move rfl) ?_
        refine XO.q (Q.quo rfl rfl (by omega) (by omega) (by omega)) ?_
        refine XO.q (Q.rem rfl rfl (by omega) (by omega)) ?_
        refine XO.q (Q.move rfl) ?_
        refine XO.q (Q.rem rfl rfl (by omega) (by omega)) ?_
        refine XO.q (Q.build [_, _, _] (.c 0 1 rfl rfl rfl (.c 1 1 rfl rfl rfl (.c 2 1 rfl rfl rfl (.n _))))) ?_
        refine XO.q (Q.move rfl) ?_
        refine XO.q (Q.quo rfl rfl (by omega) (by omega) (by omega)) ?_
        refine XO.q (Q.rem rfl rfl (by omega) (by omega)) ?_
        refine XO.q (Q.build [_, _, _] (.c 0 1 rfl rfl rfl (.c 1 1 rfl rfl rfl (.n _)))) ?_
        refine XO.lit [_, _, _, _, _, _, _, _, _, _, _, _] [_, _, _, _, _, _, _, _, _, _, _, _] [⟨-1, 0, (n : Int) % 4⟩, ⟨0, (n : Int) / 4 % 4, 0⟩, ⟨0, (n : Int) / 16 % 4, (n : Int) % 2⟩, ⟨(n : Int) / 64 % 3, 2, 0⟩] encBranch (by rfl) (by rfl) rfl (by rfl) (by exact .c 0 3 rfl rfl rfl (.c 3 3 rfl rfl rfl (.c 6 3 rfl rfl rfl (.c 9 3 rfl rfl rfl (.n _))))) (fun _ => rfl) (by rfl) rfl (by infer_instance) rfl fun v223 h223 O223 => ?_
        obtain ⟨B3, eB3⟩ : ∃ x : List HBranch, x = [⟨-1, 0, (n : Int) % 4⟩, ⟨0, (n : Int) / 4 % 4, 0⟩, ⟨0, (n : Int) / 16 % 4, (n : Int) % 2⟩, ⟨(n : Int) / 64 % 3, 2, 0⟩] := ⟨_, rfl⟩
        rw [← eB3] at O223
        have lB3 : B3.length = 4 := by rw [eB3]; rfl
        clear eB3
        refine XO.q (Q.move rfl) ?_
        refine XO.q (Q.quo rfl rfl (by omega) (by omega) (by omega)) ?_
        refine XO.q (Q.build [_, _, _, _, _] (.c 1 1 rfl rfl rfl (.c 2 1 rfl rfl rfl (.c 3 1 rfl rfl rfl (.c 4 1 rfl rfl rfl (.n _)))))) ?_
        refine XO.q (Q.move rfl) ?_
        refine XO.q (Q.rem rfl rfl (by omega) (by omega)) ?_
        refine XO.q (Q.add rfl rfl ⟨by omega, by omega⟩) ?_
        refine XO.q (Q.move rfl) ?_
        refine XO.q (Q.rem rfl rfl (by omega) (by omega)) ?_
        refine XO.q (Q.build [_, _, _, _, _] (.c 1 1 rfl rfl rfl (.c 2 1 rfl rfl rfl (.c 3 1 rfl rfl rfl (.c 4 1 rfl rfl rfl (.n _)))))) ?_
        refine XO.lit [_, _, _, _, _, _, _, _, _, _] [_, _, _, _, _, _, _, _, _, _] [⟨0, (n : Int) / 192, 4, 3, 2⟩, ⟨0, 1, 5, 1 + (n : Int) % 3, (n : Int) % 5⟩] encCooler (by rfl) (by rfl) rfl (by rfl) (by exact .c 0 5 rfl rfl rfl (.c 5 5 rfl rfl rfl (.n _))) (fun _ => rfl) (by rfl) rfl (by infer_instance) rfl fun v233 h233 O233 => ?_
        obtain ⟨C3, eC3⟩ : ∃ x : List HCooler, x = [⟨0, (n : Int) / 192, 4, 3, 2⟩, ⟨0, 1, 5, 1 + (n : Int) % 3, (n : Int) % 5⟩] := ⟨_, rfl⟩
        rw [← eC3] at O233
        have lC3 : C3.length = 2 := by rw [eC3]; rfl
        clear eC3
        refine XO.q (Q.build [_, _, _, _] (.c 0 1 rfl rfl rfl (.c 2 1 rfl rfl rfl (.c 3 1 rfl rfl rfl (.n _))))) ?_
        refine XO.alloc fun b17 => ?_
        refine XO.st rfl rfl rfl ?_
        refine XO.done (XK.seq (XK.seq (XK.region rfl (XO.q (Q.move rfl) ?_))))
        refine XO.q (Q.quo rfl rfl (by omega) (by omega) (by omega)) ?_
        refine XO.q (Q.gtr rfl rfl) ?_
        refine XO.done ?_
        refine XK.meet (X := PHeap × PHeap × Value × List HWall × List HCooler) [238, 239, 240, 241, 242, 243, 244, 245, 246, 247, 248, 249] (fun ⟨gw, gc, ww, W2, C2⟩ => []) (fun ⟨gw, gc, ww, W2, C2⟩ => [blk b17 [v205, ww, v223, v233] 29, gw, gc]) (fun ⟨gw, gc, ww, W2, C2⟩ => OArr ww encWall 3 50 gw W2 ∧ OArr v233 encCooler 5 52 gc C2 ∧ W2.length ≤ 20 ∧ C2.length ≤ 20) [blk b17 [v205, .slice none 0 0, v223, v233] 29, emp, h233] ?_ ?_
        · rintro ⟨gw, gc, ww, W2, C2⟩ ⟨OW2, OC2, lW2, lC2⟩
          dsimp only [lcA, lnA]
          refine XK.seq (XK.region rfl ?_)
          refine XO.q (Q.ldA [_, _, _, _] rfl rfl rfl) ?_
          refine XO.q (Q.move rfl) ?_
          refine XO.q (Q.rem rfl rfl (by omega) (by omega)) ?_
          refine XO.lit [_] [_] [(n : Int) % 11] encI (by rfl) (by rfl) rfl (by rfl) (by exact .c 0 1 rfl rfl rfl (.n _)) (fun _ => rfl) (by rfl) rfl (by infer_instance) rfl fun v253 h253 O253 => ?_
          refine XO.q (Q.move rfl) ?_
          refine XO.q (Q.rem rfl rfl (by omega) (by omega)) ?_
          refine XO.lit [_] [_] [(n : Int) % 13] encI (by rfl) (by rfl) rfl (by rfl) (by exact .c 0 1 rfl rfl rfl (.n _)) (fun _ => rfl) (by rfl) rfl (by infer_instance) rfl fun v256 h256 O256 => ?_
          refine XO.q (Q.move rfl) ?_
          refine XO.q (Q.rem rfl rfl (by omega) (by omega)) ?_
          refine XO.q (Q.move rfl) ?_
          refine XO.q (Q.rem rfl rfl (by omega) (by omega)) ?_
          refine XO.q (Q.build [_, _, _] (.c 0 1 rfl rfl rfl (.c 1 1 rfl rfl rfl (.c 2 1 rfl rfl rfl (.n _))))) ?_
          refine XO.lit [_, _, _] [_, _, _] [(v256, ⟨[(n : Int) % 13], (n : Int) % 9, (n : Int) % 10⟩)] encCV (by rfl) (by rfl) rfl (by rfl) (by exact .c 0 3 rfl rfl rfl (.n _)) (fun _ => rfl) (by rfl) rfl (by infer_instance) rfl fun v262 h262 O262 => ?_
          refine XO.q (Q.move rfl) ?_
          refine XO.q (Q.rem rfl rfl (by omega) (by omega)) ?_
          refine XO.call Try.call27 rfl rfl rfl (steps1 ⟨R3, W2, B3, C2⟩ v205 ww v223 v233 h205 gw h223 gc [(n : Int) % 11] v253 h253 ⟨[(n : Int) % 13], (n : Int) % 9, (n : Int) % 10⟩ v256 h256 v262 h262 ((n : Int) % 12) (by first | omega | decide | (dsimp only; omega) | (simp only [List.length_cons, List.length_nil, List.length_append, List.length_set, List.length_replicate]; omega)) (by first | omega | decide | (dsimp only; omega) | (simp only [List.length_cons, List.length_nil, List.length_append, List.length_set, List.length_replicate]; omega)) (by first | omega | decide | (dsimp only; omega) | (simp only [List.length_cons, List.length_nil, List.length_append, List.length_set, List.length_replicate]; omega)) (by first | omega | decide | (dsimp only; omega) | (simp only [List.length_cons, List.length_nil, List.length_append, List.length_set, List.length_replicate]; omega)) (by first | omega | decide | (dsimp only; omega) | (simp only [List.length_cons, List.length_nil, List.length_append, List.length_set, List.length_replicate]; omega)) (by first | omega | decide | (dsimp only; omega) | (simp only [List.length_cons, List.length_nil, List.length_append, List.length_set, List.length_replicate]; omega))) fun v265 s265 R265 => ?_
          obtain ⟨rfl, rfl⟩ := R265
          dsimp only [lcA, lnA]
          refine XO.q (Q.not rfl) ?_
          refine XO.done ?_
          refine XK.if rfl (fun c8 => ?_) (fun c8 => ?_)
          · skip
            simp at c8
          · skip
            refine XK.skip ?_
            refine XK.inBlock ?_
            refine XK.region rfl ?_
            refine XO.q (Q.add rfl rfl ⟨by omega, by omega⟩) ?_
            refine XO.q (Q.move rfl) (XO.done ?_)
            exact ih4 (n + 1) _ _ (by omega) (by first | omega | (dsimp only; omega)) (.c rfl (.base 140 rfl rfl)) inferInstance
        · intro mt7
          dsimp only [lcA, lnA] at mt7
          refine XK.if rfl (fun c7 => ?_) (fun c7 => ?_)
          · skip
            refine XK.seq (XK.region rfl ?_)
            refine XO.q (Q.fieldAddr rfl) ?_
            refine XO.q (Q.ld rfl rfl) ?_
            refine XO.q (Q.move rfl) ?_
            refine XO.q (Q.quo rfl rfl (by omega) (by omega) (by omega)) ?_
            refine XO.q (Q.sub rfl rfl ⟨by omega, by omega⟩) ?_
            refine XO.ix rfl rfl (by omega) (by omega) fun i243 => ?_
            refine XO.q (Q.fieldQ rfl (by first | assumption | omega)) ?_
            refine XO.stE (⟨(C3.getD 0 default).room, (n : Int) / 192 - 4, (C3.getD 0 default).gain, (C3.getD 0 default).carry, (C3.getD 0 default).supply⟩ : HCooler) rfl rfl rfl (by assumption) rfl rfl fun h34_7 O34_7 => ?_
            refine XO.done (XK.region rfl (XO.q (Q.move rfl) ?_))
            refine XO.q (Q.rem rfl rfl (by omega) (by omega)) ?_
            refine XO.q (Q.build [_, _, _] (.c 0 1 rfl rfl rfl (.c 1 1 rfl rfl rfl (.c 2 1 rfl rfl rfl (.n _))))) ?_
            refine XO.lit [_, _, _] [_, _, _] [⟨0, -1, (n : Int) % 5⟩] encWall (by rfl) (by rfl) rfl (by rfl) (by exact .c 0 3 rfl rfl rfl (.n _)) (fun _ => rfl) (by rfl) rfl (by infer_instance) rfl fun v248 h248 O248 => ?_
            refine XO.q (Q.fieldAddr rfl) ?_
            refine XO.st rfl rfl rfl ?_
            refine XO.done ?_
            exact mt7 ((h248, h34_7, v248, _, _)) _ _ ⟨O248, O34_7, Nat.le_of_ble_eq_true rfl, by (try dsimp only); (try simp only [List.length_set]); first | omega | decide⟩ (.base 12 rfl rfl) inferInstance
          · skip
            refine XK.skip ?_
            exact mt7 ((emp, h233, .slice none 0 0, _, _)) _ _ ⟨nW, O233, by (try dsimp only); (try simp only [List.length_set]); first | omega | decide, by (try dsimp only); (try simp only [List.length_set]); first | omega | decide⟩ (.base 0 rfl rfl) inferInstance
      · skip
        refine XK.exit rfl ?_
        refine XK.seq (XK.region rfl ?_)
        refine XO.q (Q.build [_, _] (.c 0 1 rfl rfl rfl (.c 1 1 rfl rfl rfl (.n _)))) ?_
        refine XO.q (Q.build [_, _] (.c 0 1 rfl rfl rfl (.c 1 1 rfl rfl rfl (.n _)))) ?_
        refine XO.lit [_, _, _, _] [_, _, _, _] [⟨6, 7⟩, ⟨5, 9⟩] encRoom (by rfl) (by rfl) rfl (by rfl) (by exact .c 0 2 rfl rfl rfl (.c 2 2 rfl rfl rfl (.n _))) (fun _ => rfl) (by rfl) rfl (by infer_instance) rfl fun v270 h270 O270 => ?_
        refine XO.q (Q.build [_, _, _] (.c 0 1 rfl rfl rfl (.c 1 1 rfl rfl rfl (.c 2 1 rfl rfl rfl (.n _))))) ?_
        refine XO.q (Q.build [_, _, _] (.c 0 1 rfl rfl rfl (.c 1 1 rfl rfl rfl (.c 2 1 rfl rfl rfl (.n _))))) ?_
        refine XO.lit [_, _, _, _, _, _] [_, _, _, _, _, _] [⟨0, 1, 2⟩, ⟨1, -1, 3⟩] encWall (by rfl) (by rfl) rfl (by rfl) (by exact .c 0 3 rfl rfl rfl (.c 3 3 rfl rfl rfl (.n _))) (fun _ => rfl) (by rfl) rfl (by infer_instance) rfl fun v273 h273 O273 => ?_
        refine XO.q (Q.build [_, _, _] (.c 0 1 rfl rfl rfl (.n _))) ?_
        refine XO.lit [_, _, _] [_, _, _] [⟨-1, 0, 0⟩] encBranch (by rfl) (by rfl) rfl (by rfl) (by exact .c 0 3 rfl rfl rfl (.n _)) (fun _ => rfl) (by rfl) rfl (by infer_instance) rfl fun v275 h275 O275 => ?_
        refine XO.q (Q.build [_, _, _, _, _] (.c 0 1 rfl rfl rfl (.c 2 1 rfl rfl rfl (.c 3 1 rfl rfl rfl (.c 4 1 rfl rfl rfl (.n _)))))) ?_
        refine XO.lit [_, _, _, _, _] [_, _, _, _, _] [⟨0, 0, 3, 1, 2⟩] encCooler (by rfl) (by rfl) rfl (by rfl) (by exact .c 0 5 rfl rfl rfl (.n _)) (fun _ => rfl) (by rfl) rfl (by infer_instance) rfl fun v277 h277 O277 => ?_
        refine XO.q (Q.build [_, _, _, _] (.c 0 1 rfl rfl rfl (.c 1 1 rfl rfl rfl (.c 2 1 rfl rfl rfl (.c 3 1 rfl rfl rfl (.n _)))))) ?_
        refine XO.alloc fun b18 => ?_
        refine XO.st rfl rfl rfl ?_
        refine XO.done (XK.seq (XK.seq (XK.region rfl (XO.q (Q.move rfl) (XO.done ?_)))))
        refine XK.block ?_
        refine XK.while (X := Nat) [0, 19, 20, 21, 22, 279, 280, 281, 282, 283, 284, 285, 286, 287, 288, 289, 290, 291, 292, 293, 294, 295, 296, 297, 298, 299, 300, 301, 302, 303, 304, 305, 306, 307, 308, 309, 310, 311, 312, 313, 314, 315, 316, 317, 318, 319, 320, 321, 322, 323, 324, 325, 326, 327, 328, 329, 330] (fun m => [(279, some (.int .i64 (m : Nat)))]) (fun m => []) (fun m => m ≤ 12) (fun m => 12 - m) (0) [] rfl (by omega) (.c rfl (.base 0 rfl rfl)) ?_
        rintro m hm ih5
        dsimp only [lcA, lnA] at ih5 ⊢
        refine XK.seq (XK.region rfl ?_)
        refine XO.q (Q.lss rfl rfl) ?_
        refine XO.done (XK.seq ?_)
        refine XK.if rfl (fun c9 => ?_) (fun c9 => ?_)
        · skip
          refine XK.skip (XK.seq (XK.block (XK.seq (XK.region rfl (XO.q (Q.move rfl) ?_)))))
          refine XO.q (Q.assign rfl) (XO.done (XK.seq (XK.region rfl (XO.q (Q.move rfl) (XO.done ?_)))))
          refine XK.block ?_
          refine XK.while (X := Nat) [0, 20, 21, 22, 282, 283, 284, 285, 286, 287, 288, 289, 290, 291, 292, 293, 294, 295, 296, 297, 298, 299, 300, 301, 302, 303, 304, 305, 306, 307, 308, 309, 310, 311, 312, 313, 314, 315, 316, 317, 318, 319, 320, 321, 322, 323, 324, 325, 326, 327, 328, 329] (fun n => [(282, some (.int .i64 (n : Nat)))]) (fun n => []) (fun n => n ≤ 12) (fun n => 12 - n) (0) [] rfl (by omega) (.c rfl (.base 0 rfl rfl)) ?_
          rintro n hn ih6
          dsimp only [lcA, lnA] at ih6 ⊢
          refine XK.seq (XK.region rfl ?_)
          refine XO.q (Q.lss rfl rfl) ?_
          refine XO.done (XK.seq ?_)
          refine XK.if rfl (fun c10 => ?_) (fun c10 => ?_)
          · skip
            refine XK.skip (XK.seq (XK.block (XK.seq (XK.region rfl (XO.q (Q.move rfl) ?_)))))
            refine XO.q (Q.assign rfl) (XO.done (XK.seq (XK.region rfl (XO.q (Q.move rfl) ?_))))
            refine XO.q (Q.rem rfl rfl (by omega) (by omega)) ?_
            refine XO.q (Q.move rfl) ?_
            refine XO.q (Q.rem rfl rfl (by omega) (by omega)) ?_
            refine XO.lit [_, _] [_, _] [(m : Int) % 5, (n : Int) % 4] encI (by rfl) (by rfl) rfl (by rfl) (by exact .c 0 1 rfl rfl rfl (.c 1 1 rfl rfl rfl (.n _))) (fun _ => rfl) (by rfl) rfl (by infer_instance) rfl fun v289 h289 O289 => ?_
            refine XO.q (Q.move rfl) ?_
            refine XO.q (Q.rem rfl rfl (by omega) (by omega)) ?_
            refine XO.q (Q.build [_, _, _] (.c 0 1 rfl rfl rfl (.c 1 1 rfl rfl rfl (.c 2 1 rfl rfl rfl (.n _))))) ?_
            refine XO.alloc fun b21 => ?_
            refine XO.st rfl rfl rfl ?_
            refine XO.done (XK.seq (XK.region rfl (XO.q (Q.move rfl) ?_)))
            refine XO.q (Q.rem rfl rfl (by omega) (by omega)) ?_
            refine XO.q (Q.move rfl) ?_
            refine XO.q (Q.rem rfl rfl (by omega) (by omega)) ?_
            refine XO.q (Q.add rfl rfl ⟨by omega, by omega⟩) ?_
            refine XO.q (Q.move rfl) ?_
            refine XO.q (Q.rem rfl rfl (by omega) (by omega)) ?_
            refine XO.lit [_, _] [_, _] [(m : Int) % 5 + (n : Int) % 3, (n : Int) % 4] encI (by rfl) (by rfl) rfl (by rfl) (by exact .c 0 1 rfl rfl rfl (.c 1 1 rfl rfl rfl (.n _))) (fun _ => rfl) (by rfl) rfl (by infer_instance) rfl fun v300 h300 O300 => ?_
            refine XO.q (Q.move rfl) ?_
            refine XO.q (Q.rem rfl rfl (by omega) (by omega)) ?_
            refine XO.q (Q.add rfl rfl ⟨by omega, by omega⟩) ?_
            refine XO.q (Q.move rfl) ?_
            refine XO.q (Q.rem rfl rfl (by omega) (by omega)) ?_
            refine XO.q (Q.build [_, _, _] (.c 0 1 rfl rfl rfl (.c 1 1 rfl rfl rfl (.c 2 1 rfl rfl rfl (.n _))))) ?_
            refine XO.alloc fun b22 => ?_
            refine XO.st rfl rfl rfl ?_
            refine XO.done (XK.seq (XK.region rfl ?_))
            refine XO.q (Q.ldA [_, _, _, _] rfl rfl rfl) ?_
            refine XO.q (Q.move rfl) (XO.q (Q.move rfl) ?_)
            refine XO.lit [_, _] [_, _] [(m : Int), (n : Int)] encI (by rfl) (by rfl) rfl (by rfl) (by exact .c 0 1 rfl rfl rfl (.c 1 1 rfl rfl rfl (.n _))) (fun _ => rfl) (by rfl) rfl (by infer_instance) rfl fun v310 h310 O310 => ?_
            refine XO.q (Q.move rfl) (XO.q (Q.move rfl) ?_)
            refine XO.q (Q.rem rfl rfl (by omega) (by omega)) ?_
            refine XO.q (Q.add rfl rfl ⟨by omega, by omega⟩) ?_
            refine XO.q (Q.move rfl) (XO.q (Q.move rfl) ?_)
            refine XO.q (Q.rem rfl rfl (by omega) (by omega)) ?_
            refine XO.q (Q.add rfl rfl ⟨by omega, by omega⟩) ?_
            refine XO.lit [_, _] [_, _] [(m : Int) + (n : Int) % 3, (n : Int) + (m : Int) % 4] encI (by rfl) (by rfl) rfl (by rfl) (by exact .c 0 1 rfl rfl rfl (.c 1 1 rfl rfl rfl (.n _))) (fun _ => rfl) (by rfl) rfl (by infer_instance) rfl fun v319 h319 O319 => ?_
            refine XO.q (Q.ldA [_, _, _] rfl rfl rfl) ?_
            refine XO.q (Q.ldA [_, _, _] rfl rfl rfl) ?_
            refine XO.q (Q.build [_, _, _, _, _, _] (.c 0 3 rfl rfl rfl (.c 3 3 rfl rfl rfl (.n _)))) ?_
            refine XO.lit [_, _] [_, _] [3, 3] encI (by rfl) (by rfl) rfl (by rfl) (by exact .c 0 1 rfl rfl rfl (.c 1 1 rfl rfl rfl (.n _))) (fun _ => rfl) (by rfl) rfl (by infer_instance) rfl fun v323 h323 O323 => ?_
            refine XO.q (Q.move rfl) (XO.q (Q.move rfl) ?_)
            refine XO.q (Q.build [_, _, _] (.c 0 1 rfl rfl rfl (.c 1 1 rfl rfl rfl (.c 2 1 rfl rfl rfl (.n _))))) ?_
            refine XO.call Try.call28 rfl rfl rfl (HeatBounds_spec (⟨[⟨6, 7⟩, ⟨5, 9⟩], [⟨0, 1, 2⟩, ⟨1, -1, 3⟩], [⟨-1, 0, 0⟩], [⟨0, 0, 3, 1, 2⟩]⟩ : Hall) v270 v273 v275 v277 h270 h273 h275 h277 [(m : Int), (n : Int)] [(m : Int) + (n : Int) % 3, (n : Int) + (m : Int) % 4] v310 v319 h310 h319 ⟨[(m : Int) % 5, (n : Int) % 4], (m : Int) % 7, 4⟩ ⟨[(m : Int) % 5 + (n : Int) % 3, (n : Int) % 4], (m : Int) % 7 + 2, (n : Int) % 5⟩ v289 v300 h289 h300 ⟨[3, 3], (n : Int), (m : Int)⟩ v323 h323 40 (by first | omega | decide | (dsimp only; omega) | (simp only [List.length_cons, List.length_nil, List.length_append, List.length_set, List.length_replicate]; omega)) (by first | omega | decide | (dsimp only; omega) | (simp only [List.length_cons, List.length_nil, List.length_append, List.length_set, List.length_replicate]; omega)) (by first | omega | decide | (dsimp only; omega) | (simp only [List.length_cons, List.length_nil, List.length_append, List.length_set, List.length_replicate]; omega)) (by first | omega | decide | (dsimp only; omega) | (simp only [List.length_cons, List.length_nil, List.length_append, List.length_set, List.length_replicate]; omega)) (by first | omega | decide | (dsimp only; omega) | (simp only [List.length_cons, List.length_nil, List.length_append, List.length_set, List.length_replicate]; omega)) (by first | omega | decide | (dsimp only; omega) | (simp only [List.length_cons, List.length_nil, List.length_append, List.length_set, List.length_replicate]; omega)) (by first | omega | decide | (dsimp only; omega) | (simp only [List.length_cons, List.length_nil, List.length_append, List.length_set, List.length_replicate]; omega)) (by first | omega | decide | (dsimp only; omega) | (simp only [List.length_cons, List.length_nil, List.length_append, List.length_set, List.length_replicate]; omega)) (by first | omega | decide | (dsimp only; omega) | (simp only [List.length_cons, List.length_nil, List.length_append, List.length_set, List.length_replicate]; omega))) fun v327 s327 R327 => ?_
            obtain ⟨rfl, rfl⟩ := R327
            dsimp only [lcA, lnA]
            refine XO.q (Q.not rfl) ?_
            refine XO.done ?_
            refine XK.if rfl (fun c11 => ?_) (fun c11 => ?_)
            · skip
              simp at c11
            · skip
              refine XK.skip ?_
              refine XK.inBlock ?_
              refine XK.region rfl ?_
              refine XO.q (Q.add rfl rfl ⟨by omega, by omega⟩) ?_
              refine XO.q (Q.move rfl) (XO.done ?_)
              exact ih6 (n + 1) _ _ (by omega) (by first | omega | (dsimp only; omega)) (.c rfl (.base 104 rfl rfl)) inferInstance
          · skip
            refine XK.exit rfl ?_
            refine XK.inBlock ?_
            refine XK.region rfl ?_
            refine XO.q (Q.add rfl rfl ⟨by omega, by omega⟩) ?_
            refine XO.q (Q.move rfl) (XO.done ?_)
            exact ih5 (m + 1) _ _ (by omega) (by first | omega | (dsimp only; omega)) (.c rfl (.base 118 rfl rfl)) inferInstance
        · skip
          refine XK.exit rfl ?_
          refine XK.seq (XK.seq ?_)
          refine XK.drawNet [0, 3, 4, 7, 8, 11, 12, 15, 16, 19, 20, 21, 24, 23] [blk b1 [vr, vw, vb, vc] 29] [0, 3, 4, 7, 8, 11, 12, 15, 16, 19, 20, 21, 24] [([1, 2], 2, (.br 1 false (.br 2 false .done .stop) .stop)), ([5, 6], 6, (.br 5 false (.br 6 false .done .stop) .stop)), ([9, 10], 10, (.br 9 false (.br 10 false .done .stop) .stop)), ([13, 14], 14, (.br 13 false (.br 14 false .done .stop) .stop)), ([17, 18], 18, (.br 17 false (.br 18 false .done .stop) .stop))] [332, 333, 336, 337, 340, 341, 344, 345, 348, 349] (.br 22 true (.q 23 .done) .stop) Try.mixed rfl (by kernel_rfl) inferInstance ?_
          refine XQ.q rfl rfl (Q.build [_, _, _, _] (.n _)) ?_
          refine XQ.q rfl rfl (Q.fieldAddr rfl) ?_
          refine XQ.q rfl rfl (Q.ld rfl rfl) ?_
          refine XQ.q rfl rfl (Q.fieldAddr rfl) ?_
          refine XQ.q rfl rfl (Q.ld rfl rfl) ?_
          refine XQ.q rfl rfl (Q.fieldAddr rfl) ?_
          refine XQ.q rfl rfl (Q.ld rfl rfl) ?_
          refine XQ.q rfl rfl (Q.fieldAddr rfl) ?_
          refine XQ.q rfl rfl (Q.ld rfl rfl) ?_
          refine XQ.q rfl rfl (Q.fieldAddr rfl) ?_
          refine XQ.q rfl rfl (Q.ld rfl rfl) ?_
          refine XQ.q rfl rfl (Q.build [_, _, _, _] (.c 0 1 rfl rfl rfl (.n _))) ?_
          refine XQ.q rfl rfl (Q.move rfl) ?_
          refine XQ.nil ?_
          refine XN.intro [fun el ol => ∃ v h, el = [(333, some (.agg #[v, .slice none 0 0, .slice none 0 0, .slice none 0 0])), (332, some v)] ∧ ol = [h] ∧ OArr v encRoom 2 48 h (List.replicate 9 (⟨0, 0⟩ : HRoom)), fun el ol => ∃ v h, el = [(337, some (.agg #[vr, v, .slice none 0 0, .slice none 0 0])), (336, some v)] ∧ ol = [h] ∧ OArr v encWall 3 50 h (List.replicate 17 (⟨0, 0, 0⟩ : HWall)), fun el ol => ∃ v h, el = [(341, some (.agg #[vr, .slice none 0 0, v, .slice none 0 0])), (340, some v)] ∧ ol = [h] ∧ OArr v encBranch 3 38 h (List.replicate 17 (⟨0, 0, 0⟩ : HBranch)), fun el ol => ∃ v h, el = [(345, some (.agg #[vr, .slice none 0 0, .slice none 0 0, v])), (344, some v)] ∧ ol = [h] ∧ OArr v encCooler 5 52 h (List.replicate 17 (⟨0, 0, 0, 0, 0⟩ : HCooler)), fun el ol => ∃ v h, el = [(349, some (.agg #[vr, .slice none 0 0, .slice none 0 0, v])), (348, some v)] ∧ ol = [h] ∧ OArr v encCooler 5 52 h (List.replicate 1 (⟨0, 0, 0, 0, 0⟩ : HCooler))] (CTs.cons ?_ (CTs.cons ?_ (CTs.cons ?_ (CTs.cons ?_ (CTs.cons ?_ (CTs.nil)))))) ?_
          · have _tn := True.intro
            dsimp only [List.cons_append, List.nil_append, List.append_nil]
            refine CT.make encRoom ((⟨0, 0⟩ : HRoom)) rfl rfl rfl rfl rfl (by omega) (by omega) (fun _ => rfl) rfl rfl rfl (by dsimp only [encRoom]; infer_instance) (fun v332 h332 O332 => ?_) CT.stop
            refine CT.qs rfl rfl (Q.build [_, _, _, _] (.c 0 1 rfl rfl rfl (.n _))) ?_ CT.stop
            refine CT.done ?_
            exact ⟨v332, h332, rfl, rfl, O332⟩
          · have _tn := True.intro
            dsimp only [List.cons_append, List.nil_append, List.append_nil]
            refine CT.make encWall ((⟨0, 0, 0⟩ : HWall)) rfl rfl rfl rfl rfl (by omega) (by omega) (fun _ => rfl) rfl rfl rfl (by dsimp only [encWall]; infer_instance) (fun v336 h336 O336 => ?_) CT.stop
            refine CT.qs rfl rfl (Q.build [_, _, _, _] (.c 0 1 rfl rfl rfl (.c 1 1 rfl rfl rfl (.n _)))) ?_ CT.stop
            refine CT.done ?_
            exact ⟨v336, h336, rfl, rfl, O336⟩
          · have _tn := True.intro
            dsimp only [List.cons_append, List.nil_append, List.append_nil]
            refine CT.make encBranch ((⟨0, 0, 0⟩ : HBranch)) rfl rfl rfl rfl rfl (by omega) (by omega) (fun _ => rfl) rfl rfl rfl (by dsimp only [encBranch]; infer_instance) (fun v340 h340 O340 => ?_) CT.stop
            refine CT.qs rfl rfl (Q.build [_, _, _, _] (.c 0 1 rfl rfl rfl (.c 2 1 rfl rfl rfl (.n _)))) ?_ CT.stop
            refine CT.done ?_
            exact ⟨v340, h340, rfl, rfl, O340⟩
          · have _tn := True.intro
            dsimp only [List.cons_append, List.nil_append, List.append_nil]
            refine CT.make encCooler ((⟨0, 0, 0, 0, 0⟩ : HCooler)) rfl rfl rfl rfl rfl (by omega) (by omega) (fun _ => rfl) rfl rfl rfl (by dsimp only [encCooler]; infer_instance) (fun v344 h344 O344 => ?_) CT.stop
            refine CT.qs rfl rfl (Q.build [_, _, _, _] (.c 0 1 rfl rfl rfl (.c 3 1 rfl rfl rfl (.n _)))) ?_ CT.stop
            refine CT.done ?_
            exact ⟨v344, h344, rfl, rfl, O344⟩
          · have _tn := True.intro
            dsimp only [List.cons_append, List.nil_append, List.append_nil]
            refine CT.make encCooler ((⟨0, 0, 0, 0, 0⟩ : HCooler)) rfl rfl rfl rfl rfl (by omega) (by omega) (fun _ => rfl) rfl rfl rfl (by dsimp only [encCooler]; infer_instance) (fun v348 h348 O348 => ?_) CT.stop
            refine CT.qs rfl rfl (Q.build [_, _, _, _] (.c 0 1 rfl rfl rfl (.c 3 1 rfl rfl rfl (.n _)))) ?_ CT.stop
            refine CT.done ?_
            exact ⟨v348, h348, rfl, rfl, O348⟩
          rintro _ _ ⟨v332, h332, rfl, rfl, O332⟩
          rintro _ _ ⟨v336, h336, rfl, rfl, O336⟩
          rintro _ _ ⟨v340, h340, rfl, rfl, O340⟩
          rintro _ _ ⟨v344, h344, rfl, rfl, O344⟩
          rintro _ _ ⟨v348, h348, rfl, rfl, O348⟩
          dsimp only [FinAll, List.cons_append, List.nil_append, List.append_nil]
          refine XT.lit [_, _, _, _, _, _, _, _, _, _, _, _, _, _, _, _, _, _, _, _, _, _, _, _, _, _, _, _] [_, _, _, _, _, _, _, _, _, _, _, _, _, _, _, _, _, _, _, _, _, _, _, _, _, _, _, _] ([((.slice none 0 0), (.slice none 0 0), (.slice none 0 0), (.slice none 0 0)), (v332, (.slice none 0 0), (.slice none 0 0), (.slice none 0 0)), (vr, v336, (.slice none 0 0), (.slice none 0 0)), (vr, (.slice none 0 0), v340, (.slice none 0 0)), (vr, (.slice none 0 0), (.slice none 0 0), v344), (vr, (.slice none 0 0), (.slice none 0 0), v348), (vr, (.slice none 0 0), (.slice none 0 0), (.slice none 0 0))] : List (Value × Value × Value × Value)) encHV rfl rfl (by rfl) (by rfl) rfl (by rfl) (by exact .c 0 4 rfl rfl rfl (.c 4 4 rfl rfl rfl (.c 8 4 rfl rfl rfl (.c 12 4 rfl rfl rfl (.c 16 4 rfl rfl rfl (.c 20 4 rfl rfl rfl (.c 24 4 rfl rfl rfl (.n _)))))))) (fun _ => rfl) (by rfl) rfl (by infer_instance) rfl (fun v353 h353 O353 => ⟨inferInstance, ?_⟩) XT.stop
          refine XT.q rfl rfl (Q.len rfl) ?_
          rw [show ((([((.slice none 0 0), (.slice none 0 0), (.slice none 0 0), (.slice none 0 0)), (v332, (.slice none 0 0), (.slice none 0 0), (.slice none 0 0)), (vr, v336, (.slice none 0 0), (.slice none 0 0)), (vr, (.slice none 0 0), v340, (.slice none 0 0)), (vr, (.slice none 0 0), (.slice none 0 0), v344), (vr, (.slice none 0 0), (.slice none 0 0), v348), (vr, (.slice none 0 0), (.slice none 0 0), (.slice none 0 0))] : List (Value × Value × Value × Value)).length : Nat) : Int) = 7 from rfl]
          have hA : ∀ k, k < 7 → ∃ (gr gc : PHeap) (H : Hall), Either gr kr h332 ∧ Either gc h344 h348 ∧ Arr (([((.slice none 0 0), (.slice none 0 0), (.slice none 0 0), (.slice none 0 0)), (v332, (.slice none 0 0), (.slice none 0 0), (.slice none 0 0)), (vr, v336, (.slice none 0 0), (.slice none 0 0)), (vr, (.slice none 0 0), v340, (.slice none 0 0)), (vr, (.slice none 0 0), (.slice none 0 0), v344), (vr, (.slice none 0 0), (.slice none 0 0), v348), (vr, (.slice none 0 0), (.slice none 0 0), (.slice none 0 0))] : List (Value × Value × Value × Value)).getD k default).1 encRoom 2 gr H.rooms ∧ Arr (([((.slice none 0 0), (.slice none 0 0), (.slice none 0 0), (.slice none 0 0)), (v332, (.slice none 0 0), (.slice none 0 0), (.slice none 0 0)), (vr, v336, (.slice none 0 0), (.slice none 0 0)), (vr, (.slice none 0 0), v340, (.slice none 0 0)), (vr, (.slice none 0 0), (.slice none 0 0), v344), (vr, (.slice none 0 0), (.slice none 0 0), v348), (vr, (.slice none 0 0), (.slice none 0 0), (.slice none 0 0))] : List (Value × Value × Value × Value)).getD k default).2.1 encWall 3 h336 H.walls ∧ Arr (([((.slice none 0 0), (.slice none 0 0), (.slice none 0 0), (.slice none 0 0)), (v332, (.slice none 0 0), (.slice none 0 0), (.slice none 0 0)), (vr, v336, (.slice none 0 0), (.slice none 0 0)), (vr, (.slice none 0 0), v340, (.slice none 0 0)), (vr, (.slice none 0 0), (.slice none 0 0), v344), (vr, (.slice none 0 0), (.slice none 0 0), v348), (vr, (.slice none 0 0), (.slice none 0 0), (.slice none 0 0))] : List (Value × Value × Value × Value)).getD k default).2.2.1 encBranch 3 h340 H.branches ∧ Arr (([((.slice none 0 0), (.slice none 0 0), (.slice none 0 0), (.slice none 0 0)), (v332, (.slice none 0 0), (.slice none 0 0), (.slice none 0 0)), (vr, v336, (.slice none 0 0), (.slice none 0 0)), (vr, (.slice none 0 0), v340, (.slice none 0 0)), (vr, (.slice none 0 0), (.slice none 0 0), v344), (vr, (.slice none 0 0), (.slice none 0 0), v348), (vr, (.slice none 0 0), (.slice none 0 0), (.slice none 0 0))] : List (Value × Value × Value × Value)).getD k default).2.2.2 encCooler 5 gc H.coolers ∧ H.rooms.length ≤ 20 ∧ H.walls.length ≤ 20 ∧ H.branches.length ≤ 20 ∧ H.coolers.length ≤ 20 := fun k hk => by
            rcases (show k = 0 ∨ k = 1 ∨ k = 2 ∨ k = 3 ∨ k = 4 ∨ k = 5 ∨ k = 6 by omega) with rfl | rfl | rfl | rfl | rfl | rfl | rfl
            · exact ⟨kr, h344, ⟨[], [], [], []⟩, ⟨.inl rfl⟩, ⟨.inl rfl⟩, Arr.nil (fun _ => rfl), Arr.nil (fun _ => rfl), Arr.nil (fun _ => rfl), Arr.nil (fun _ => rfl), by decide, by decide, by decide, by decide⟩
            · exact ⟨h332, h344, ⟨List.replicate 9 (⟨0, 0⟩ : HRoom), [], [], []⟩, ⟨.inr rfl⟩, ⟨.inl rfl⟩, OArr.arr (s := O332), Arr.nil (fun _ => rfl), Arr.nil (fun _ => rfl), Arr.nil (fun _ => rfl), by decide, by decide, by decide, by decide⟩
            · exact ⟨kr, h344, ⟨exHall.rooms, List.replicate 17 (⟨0, 0, 0⟩ : HWall), [], []⟩, ⟨.inl rfl⟩, ⟨.inl rfl⟩, OArr.arr (s := Or), OArr.arr (s := O336), Arr.nil (fun _ => rfl), Arr.nil (fun _ => rfl), by decide, by decide, by decide, by decide⟩
            · exact ⟨kr, h344, ⟨exHall.rooms, [], List.replicate 17 (⟨0, 0, 0⟩ : HBranch), []⟩, ⟨.inl rfl⟩, ⟨.inl rfl⟩, OArr.arr (s := Or), Arr.nil (fun _ => rfl), OArr.arr (s := O340), Arr.nil (fun _ => rfl), by decide, by decide, by decide, by decide⟩
            · exact ⟨kr, h344, ⟨exHall.rooms, [], [], List.replicate 17 (⟨0, 0, 0, 0, 0⟩ : HCooler)⟩, ⟨.inl rfl⟩, ⟨.inl rfl⟩, OArr.arr (s := Or), Arr.nil (fun _ => rfl), Arr.nil (fun _ => rfl), OArr.arr (s := O344), by decide, by decide, by decide, by decide⟩
            · exact ⟨kr, h348, ⟨exHall.rooms, [], [], List.replicate 1 (⟨0, 0, 0, 0, 0⟩ : HCooler)⟩, ⟨.inl rfl⟩, ⟨.inr rfl⟩, OArr.arr (s := Or), Arr.nil (fun _ => rfl), Arr.nil (fun _ => rfl), OArr.arr (s := O348), by decide, by decide, by decide, by decide⟩
            · exact ⟨kr, h344, ⟨exHall.rooms, [], [], []⟩, ⟨.inl rfl⟩, ⟨.inl rfl⟩, OArr.arr (s := Or), Arr.nil (fun _ => rfl), Arr.nil (fun _ => rfl), Arr.nil (fun _ => rfl), by decide, by decide, by decide, by decide⟩
          refine XT.done ?_
          refine XK.block ?_
          refine XK.while (X := Nat) [0, 24, 355, 356, 357, 358, 359, 360, 361, 362, 363, 364, 365, 366, 367, 368, 369, 370, 371, 372, 373, 374, 375, 376, 377, 378] (fun k => [(355, some (.int .i64 (k : Nat)))]) (fun k => []) (fun k => k ≤ 7) (fun k => 7 - k) (0) [] rfl (by omega) (.c rfl (.base 0 rfl rfl)) ?_
          rintro k hk ih7
          dsimp only [lcA, lnA] at ih7 ⊢
          refine XK.seq (XK.region rfl ?_)
          refine XO.q (Q.lss rfl rfl) ?_
          refine XO.done (XK.seq ?_)
          refine XK.if rfl (fun c12 => ?_) (fun c12 => ?_)
          · skip
            obtain ⟨gr, gc, H, er, ec, s1, s2, s3, s4, z1, z2, z3, z4⟩ := hA k (by omega)
            refine XK.skip (XK.seq (XK.block (XK.seq (XK.region rfl ?_))))
            refine XO.ix rfl rfl (by omega) (by show (k : Int) < 7; omega) fun i357 => ?_
            refine XO.q (Q.ldEA [_, _, _, _] rfl (by first | assumption | omega) rfl rfl) ?_
            obtain ⟨w, ew⟩ : ∃ w, w = ([((.slice none 0 0), (.slice none 0 0), (.slice none 0 0), (.slice none 0 0)), (v332, (.slice none 0 0), (.slice none 0 0), (.slice none 0 0)), (vr, v336, (.slice none 0 0), (.slice none 0 0)), (vr, (.slice none 0 0), v340, (.slice none 0 0)), (vr, (.slice none 0 0), (.slice none 0 0), v344), (vr, (.slice none 0 0), (.slice none 0 0), v348), (vr, (.slice none 0 0), (.slice none 0 0), (.slice none 0 0))] : List (Value × Value × Value × Value)).getD k default := ⟨_, rfl⟩
            rw [← ew] at s1 s2 s3 s4 ⊢
            refine XO.alloc fun b24 => ?_
            refine XO.st rfl rfl rfl ?_
            refine XO.done (XK.seq (XK.region rfl ?_))
            refine XO.q (Q.ldA [_, _, _, _] rfl rfl rfl) ?_
            refine XO.lit [_] [_] [1] encI (by rfl) (by rfl) rfl (by rfl) (by exact .c 0 1 rfl rfl rfl (.n _)) (fun _ => rfl) (by rfl) rfl (by infer_instance) rfl fun v360 h360 O360 => ?_
            refine XO.q (Q.ldA [_, _, _] rfl rfl rfl) ?_
            refine XO.lit [_, _, _] [_, _, _] [(ve, (exCase 500))] encCV (by rfl) (by rfl) rfl (by rfl) (by exact .c 0 3 rfl rfl rfl (.n _)) (fun _ => rfl) (by rfl) rfl (by infer_instance) rfl fun v362 h362 O362 => ?_
            refine XO.call Try.call27 rfl rfl rfl (steps1 H w.1 w.2.1 w.2.2.1 w.2.2.2 gr h336 h340 gc [1] v360 h360 (exCase 500) ve ke v362 h362 1 (by first | omega | decide | (dsimp only; omega) | (simp only [List.length_cons, List.length_nil, List.length_append, List.length_set, List.length_replicate]; omega)) (by first | omega | decide | (dsimp only; omega) | (simp only [List.length_cons, List.length_nil, List.length_append, List.length_set, List.length_replicate]; omega)) (by first | omega | decide | (dsimp only; omega) | (simp only [List.length_cons, List.length_nil, List.length_append, List.length_set, List.length_replicate]; omega)) (by first | omega | decide | (dsimp only; omega) | (simp only [List.length_cons, List.length_nil, List.length_append, List.length_set, List.length_replicate]; omega)) (by first | omega | decide | (dsimp only; omega) | (simp only [List.length_cons, List.length_nil, List.length_append, List.length_set, List.length_replicate]; omega)) (by first | omega | decide | (dsimp only; omega) | (simp only [List.length_cons, List.length_nil, List.length_append, List.length_set, List.length_replicate]; omega))) fun v363 s363 R363 => ?_
            obtain ⟨rfl, rfl⟩ := R363
            dsimp only [lcA, lnA]
            refine XO.q (Q.not rfl) ?_
            refine XO.q (Q.move rfl) ?_
            refine XO.q (Quiet.guardF rfl rfl fun g366 p366 => Q.ldA [_, _, _, _] rfl rfl rfl) ?_
            refine XO.callS rfl rfl rfl Try.call27 rfl (.c (lzv rfl rfl) (.c rfl (.c rfl (.c rfl .n)))) rfl (steps0 (it := sI h336) (jl := sC h336) H w.1 w.2.1 w.2.2.1 w.2.2.2 gr h336 h340 gc [] (.slice none 0 0) h336 (.slice none 0 0) h336 1 (by first | omega | decide | (dsimp only; omega) | (simp only [List.length_cons, List.length_nil, List.length_append, List.length_set, List.length_replicate]; omega)) (by first | omega | decide | (dsimp only; omega) | (simp only [List.length_cons, List.length_nil, List.length_append, List.length_set, List.length_replicate]; omega)) (by first | omega | decide | (dsimp only; omega) | (simp only [List.length_cons, List.length_nil, List.length_append, List.length_set, List.length_replicate]; omega)) (by first | omega | decide | (dsimp only; omega) | (simp only [List.length_cons, List.length_nil, List.length_append, List.length_set, List.length_replicate]; omega)) (by first | omega | decide | (dsimp only; omega) | (simp only [List.length_cons, List.length_nil, List.length_append, List.length_set, List.length_replicate]; omega))) fun v367 s367 R367 => ?_
            obtain ⟨rfl, rfl⟩ := R367
            dsimp only [lcA, lnA]
            refine XO.q (Quiet.guardF rfl rfl fun g368 p368 => Q.not rfl) ?_
            refine XO.q (Q.or rfl (fun hp => lzv hp rfl)) ?_
            refine XO.q (Q.move rfl) ?_
            refine XO.q (Quiet.guardF rfl rfl fun g371 p371 => Q.ldA [_, _, _, _] rfl rfl rfl) ?_
            refine XO.litG [_] [_] [1] encI rfl rfl rfl (by rfl) (by rfl) rfl (by rfl) (by exact .c 0 1 rfl rfl rfl (.n _)) (fun _ => rfl) (by rfl) rfl (by infer_instance) rfl fun v372 h372 O372 => ?_
            refine XO.q (Quiet.guardF rfl rfl fun g373 p373 => Q.build [_, _, _] (.n _)) ?_
            refine XO.litG [_, _, _] [_, _, _] [((.slice none 0 0), ⟨[], 0, 0⟩)] encCV rfl rfl rfl (by rfl) (by rfl) rfl (by rfl) (by exact .c 0 3 (lzv rfl rfl) rfl rfl (.n _)) (fun _ => rfl) (by rfl) rfl (by infer_instance) rfl fun v374 h374 O374 => ?_
            refine XO.callS rfl rfl rfl Try.call27 rfl (.c (lzv rfl rfl) (.c rfl (.c rfl (.c rfl .n)))) rfl (steps1 (i1 := sI h336) H w.1 w.2.1 w.2.2.1 w.2.2.2 gr h336 h340 gc [1] v372 h372 ⟨[], 0, 0⟩ (.slice none 0 0) h336 v374 h374 (-1) (by first | omega | decide | (dsimp only; omega) | (simp only [List.length_cons, List.length_nil, List.length_append, List.length_set, List.length_replicate]; omega)) (by first | omega | decide | (dsimp only; omega) | (simp only [List.length_cons, List.length_nil, List.length_append, List.length_set, List.length_replicate]; omega)) (by first | omega | decide | (dsimp only; omega) | (simp only [List.length_cons, List.length_nil, List.length_append, List.length_set, List.length_replicate]; omega)) (by first | omega | decide | (dsimp only; omega) | (simp only [List.length_cons, List.length_nil, List.length_append, List.length_set, List.length_replicate]; omega)) (by first | omega | decide | (dsimp only; omega) | (simp only [List.length_cons, List.length_nil, List.length_append, List.length_set, List.length_replicate]; omega)) (by first | omega | decide | (dsimp only; omega) | (simp only [List.length_cons, List.length_nil, List.length_append, List.length_set, List.length_replicate]; omega))) fun v375 s375 R375 => ?_
            obtain ⟨rfl, rfl⟩ := R375
            dsimp only [lcA, lnA]
            refine XO.q (Quiet.guardF rfl rfl fun g376 p376 => Q.not rfl) ?_
            refine XO.q (Q.or rfl (fun hp => lzv hp rfl)) ?_
            refine XO.done ?_
            refine XK.if rfl (fun c13 => ?_) (fun c13 => ?_)
            · skip
              simp at c13
            · skip
              refine XK.skip ?_
              refine XK.inBlock ?_
              refine XK.region rfl ?_
              refine XO.q (Q.add rfl rfl ⟨by omega, by omega⟩) ?_
              refine XO.q (Q.move rfl) (XO.done ?_)
              exact ih7 (k + 1) _ _ (by omega) (by first | omega | (dsimp only; omega)) (.c rfl (.base 52 rfl rfl)) inferInstance
          · skip
            refine XK.exit rfl ?_
            refine XK.seq (XK.seq (XK.region rfl ?_))
            refine XO.lit [_, _, _, _] [_, _, _, _] [-1, 0, 1, 20001] encI (by rfl) (by rfl) rfl (by rfl) (by exact .c 0 1 rfl rfl rfl (.c 1 1 rfl rfl rfl (.c 2 1 rfl rfl rfl (.c 3 1 rfl rfl rfl (.n _))))) (fun _ => rfl) (by rfl) rfl (by infer_instance) rfl fun v379 h379 O379 => ?_
            refine XO.len rfl fun l380 => ?_
            rw [show ((([-1, 0, 1, 20001] : List Int).length : Nat) : Int) = 4 from rfl]
            refine XO.q (Q.move rfl) (XO.done (XK.block ?_))
            refine XK.while (X := Nat) [0, 26, 381, 382, 383, 384, 385, 386, 387, 388, 389, 390, 391, 392, 393, 394, 395, 396, 397, 398, 399, 400, 401, 402, 403, 404, 405, 406, 407, 408, 409, 410, 411, 412, 413, 414, 415, 416, 417, 418, 419, 420, 421] (fun k => [(381, some (.int .i64 (k : Nat)))]) (fun k => []) (fun k => k ≤ 4) (fun k => 4 - k) (0) [] rfl (by omega) (.c rfl (.base 0 rfl rfl)) ?_
            rintro k hk ih8
            dsimp only [lcA, lnA] at ih8 ⊢
            refine XK.seq (XK.region rfl ?_)
            refine XO.q (Q.lss rfl rfl) ?_
            refine XO.done (XK.seq ?_)
            refine XK.if rfl (fun c14 => ?_) (fun c14 => ?_)
            · skip
              refine XK.skip (XK.seq (XK.block (XK.seq (XK.region rfl ?_))))
              refine XO.ix rfl rfl (by omega) (by show (k : Int) < 4; omega) fun i383 => ?_
              refine XO.q (Q.ldE rfl (by first | assumption | omega) rfl) ?_
              obtain ⟨x, ex⟩ : ∃ x : Int, x = ([-1, 0, 1, 20001] : List Int).getD k default := ⟨_, rfl⟩
              rw [← ex]
              clear ex
              refine XO.q (Q.assign rfl) (XO.done (XK.seq (XK.region rfl ?_)))
              refine XO.q (Q.ldA [_, _, _, _] rfl rfl rfl) ?_
              refine XO.lit [_] [_] [20000] encI (by rfl) (by rfl) rfl (by rfl) (by exact .c 0 1 rfl rfl rfl (.n _)) (fun _ => rfl) (by rfl) rfl (by infer_instance) rfl fun v386 h386 O386 => ?_
              refine XO.lit [_] [_] [25000] encI (by rfl) (by rfl) rfl (by rfl) (by exact .c 0 1 rfl rfl rfl (.n _)) (fun _ => rfl) (by rfl) rfl (by infer_instance) rfl fun v387 h387 O387 => ?_
              refine XO.q (Q.ldA [_, _, _, _, _, _] rfl rfl rfl) ?_
              refine XO.q (Q.ldA [_, _, _] rfl rfl rfl) ?_
              refine XO.q (Q.move rfl) ?_
              refine XO.call Try.call28 rfl rfl rfl (HeatBounds_spec exHall vr vw vb vc kr kw kb kc [20000] [25000] v386 v387 h386 h387 (⟨[90000], 10000, 600⟩ : HCase) (exCase 500) v33 ve h33 ke (exCase 500) ve ke x (by first | omega | decide | (dsimp only; omega) | (simp only [List.length_cons, List.length_nil, List.length_append, List.length_set, List.length_replicate]; omega)) (by first | omega | decide | (dsimp only; omega) | (simp only [List.length_cons, List.length_nil, List.length_append, List.length_set, List.length_replicate]; omega)) (by first | omega | decide | (dsimp only; omega) | (simp only [List.length_cons, List.length_nil, List.length_append, List.length_set, List.length_replicate]; omega)) (by first | omega | decide | (dsimp only; omega) | (simp only [List.length_cons, List.length_nil, List.length_append, List.length_set, List.length_replicate]; omega)) (by first | omega | decide | (dsimp only; omega) | (simp only [List.length_cons, List.length_nil, List.length_append, List.length_set, List.length_replicate]; omega)) (by first | omega | decide | (dsimp only; omega) | (simp only [List.length_cons, List.length_nil, List.length_append, List.length_set, List.length_replicate]; omega)) (by first | omega | decide | (dsimp only; omega) | (simp only [List.length_cons, List.length_nil, List.length_append, List.length_set, List.length_replicate]; omega)) (by first | omega | decide | (dsimp only; omega) | (simp only [List.length_cons, List.length_nil, List.length_append, List.length_set, List.length_replicate]; omega)) (by first | omega | decide | (dsimp only; omega) | (simp only [List.length_cons, List.length_nil, List.length_append, List.length_set, List.length_replicate]; omega))) fun v391 s391 R391 => ?_
              obtain ⟨rfl, rfl⟩ := R391
              dsimp only [lcA, lnA]
              refine XO.q (Q.not rfl) ?_
              refine XO.q (Q.move rfl) ?_
              refine XO.q (Quiet.guardF rfl rfl fun g394 p394 => Q.ldA [_, _, _, _] rfl rfl rfl) ?_
              refine XO.litG [_] [_] [40000] encI rfl rfl rfl (by rfl) (by rfl) rfl (by rfl) (by exact .c 0 1 rfl rfl rfl (.n _)) (fun _ => rfl) (by rfl) rfl (by infer_instance) rfl fun v395 h395 O395 => ?_
              refine XO.litG [_] [_] [40001] encI rfl rfl rfl (by rfl) (by rfl) rfl (by rfl) (by exact .c 0 1 rfl rfl rfl (.n _)) (fun _ => rfl) (by rfl) rfl (by infer_instance) rfl fun v396 h396 O396 => ?_
              refine XO.q (Quiet.guardF rfl rfl fun g397 p397 => Q.ldA [_, _, _, _, _, _] rfl rfl rfl) ?_
              refine XO.q (Quiet.guardF rfl rfl fun g398 p398 => Q.ldA [_, _, _] rfl rfl rfl) ?_
              refine XO.q (Quiet.guardF rfl rfl fun g399 p399 => Q.move rfl) ?_
              refine XO.callS rfl rfl rfl Try.call28 rfl (.c (lzv rfl rfl) (.c rfl (.c rfl (.c (lzv rfl rfl) (.c (lzv rfl rfl) (.c (lzv rfl rfl) .n)))))) rfl (HeatBounds_spec exHall vr vw vb vc kr kw kb kc [40000] [40001] v395 v396 h395 h396 (⟨[90000], 10000, 600⟩ : HCase) (exCase 500) v33 ve h33 ke (exCase 500) ve ke x (by first | omega | decide | (dsimp only; omega) | (simp only [List.length_cons, List.length_nil, List.length_append, List.length_set, List.length_replicate]; omega)) (by first | omega | decide | (dsimp only; omega) | (simp only [List.length_cons, List.length_nil, List.length_append, List.length_set, List.length_replicate]; omega)) (by first | omega | decide | (dsimp only; omega) | (simp only [List.length_cons, List.length_nil, List.length_append, List.length_set, List.length_replicate]; omega)) (by first | omega | decide | (dsimp only; omega) | (simp only [List.length_cons, List.length_nil, List.length_append, List.length_set, List.length_replicate]; omega)) (by first | omega | decide | (dsimp only; omega) | (simp only [List.length_cons, List.length_nil, List.length_append, List.length_set, List.length_replicate]; omega)) (by first | omega | decide | (dsimp only; omega) | (simp only [List.length_cons, List.length_nil, List.length_append, List.length_set, List.length_replicate]; omega)) (by first | omega | decide | (dsimp only; omega) | (simp only [List.length_cons, List.length_nil, List.length_append, List.length_set, List.length_replicate]; omega)) (by first | omega | decide | (dsimp only; omega) | (simp only [List.length_cons, List.length_nil, List.length_append, List.length_set, List.length_replicate]; omega)) (by first | omega | decide | (dsimp only; omega) | (simp only [List.length_cons, List.length_nil, List.length_append, List.length_set, List.length_replicate]; omega))) fun v400 s400 R400 => ?_
              obtain ⟨rfl, rfl⟩ := R400
              dsimp only [lcA, lnA]
              refine XO.q (Quiet.guardF rfl rfl fun g401 p401 => Q.not rfl) ?_
              refine XO.q (Q.or rfl (fun hp => lzv hp rfl)) ?_
              refine XO.q (Q.move rfl) ?_
              refine XO.q (Quiet.guardF rfl rfl fun g404 p404 => Q.ldA [_, _, _, _] rfl rfl rfl) ?_
              refine XO.q (Quiet.guardF rfl rfl fun g405 p405 => Q.ldA [_, _, _, _, _, _] rfl rfl rfl) ?_
              refine XO.q (Quiet.guardF rfl rfl fun g406 p406 => Q.ldA [_, _, _] rfl rfl rfl) ?_
              refine XO.q (Quiet.guardF rfl rfl fun g407 p407 => Q.move rfl) ?_
              refine XO.callS rfl rfl rfl Try.call28 rfl (.c (lzv rfl rfl) (.c rfl (.c rfl (.c (lzv rfl rfl) (.c (lzv rfl rfl) (.c (lzv rfl rfl) .n)))))) rfl (HeatBounds_spec (ilo := sI ke) (ihi := sI ke) exHall vr vw vb vc kr kw kb kc [] [] (.slice none 0 0) (.slice none 0 0) ke ke (⟨[90000], 10000, 600⟩ : HCase) (exCase 500) v33 ve h33 ke (exCase 500) ve ke x (by first | omega | decide | (dsimp only; omega) | (simp only [List.length_cons, List.length_nil, List.length_append, List.length_set, List.length_replicate]; omega)) (by first | omega | decide | (dsimp only; omega) | (simp only [List.length_cons, List.length_nil, List.length_append, List.length_set, List.length_replicate]; omega)) (by first | omega | decide | (dsimp only; omega) | (simp only [List.length_cons, List.length_nil, List.length_append, List.length_set, List.length_replicate]; omega)) (by first | omega | decide | (dsimp only; omega) | (simp only [List.length_cons, List.length_nil, List.length_append, List.length_set, List.length_replicate]; omega)) (by first | omega | decide | (dsimp only; omega) | (simp only [List.length_cons, List.length_nil, List.length_append, List.length_set, List.length_replicate]; omega)) (by first | omega | decide | (dsimp only; omega) | (simp only [List.length_cons, List.length_nil, List.length_append, List.length_set, List.length_replicate]; omega)) (by first | omega | decide | (dsimp only; omega) | (simp only [List.length_cons, List.length_nil, List.length_append, List.length_set, List.length_replicate]; omega)) (by first | omega | decide | (dsimp only; omega) | (simp only [List.length_cons, List.length_nil, List.length_append, List.length_set, List.length_replicate]; omega)) (by first | omega | decide | (dsimp only; omega) | (simp only [List.length_cons, List.length_nil, List.length_append, List.length_set, List.length_replicate]; omega))) fun v408 s408 R408 => ?_
              obtain ⟨rfl, rfl⟩ := R408
              dsimp only [lcA, lnA]
              refine XO.q (Quiet.guardF rfl rfl fun g409 p409 => Q.not rfl) ?_
              refine XO.q (Q.or rfl (fun hp => lzv hp rfl)) ?_
              refine XO.q (Q.move rfl) ?_
              refine XO.q (Quiet.guardF rfl rfl fun g412 p412 => Q.ldA [_, _, _, _] rfl rfl rfl) ?_
              refine XO.litG [_] [_] [20000] encI rfl rfl rfl (by rfl) (by rfl) rfl (by rfl) (by exact .c 0 1 rfl rfl rfl (.n _)) (fun _ => rfl) (by rfl) rfl (by infer_instance) rfl fun v413 h413 O413 => ?_
              refine XO.litG [_] [_] [19000] encI rfl rfl rfl (by rfl) (by rfl) rfl (by rfl) (by exact .c 0 1 rfl rfl rfl (.n _)) (fun _ => rfl) (by rfl) rfl (by infer_instance) rfl fun v414 h414 O414 => ?_
              refine XO.q (Quiet.guardF rfl rfl fun g415 p415 => Q.ldA [_, _, _, _, _, _] rfl rfl rfl) ?_
              refine XO.q (Quiet.guardF rfl rfl fun g416 p416 => Q.ldA [_, _, _] rfl rfl rfl) ?_
              refine XO.q (Quiet.guardF rfl rfl fun g417 p417 => Q.move rfl) ?_
              refine XO.callS rfl rfl rfl Try.call28 rfl (.c (lzv rfl rfl) (.c rfl (.c rfl (.c (lzv rfl rfl) (.c (lzv rfl rfl) (.c (lzv rfl rfl) .n)))))) rfl (HeatBounds_spec exHall vr vw vb vc kr kw kb kc [20000] [19000] v413 v414 h413 h414 (⟨[90000], 10000, 600⟩ : HCase) (exCase 500) v33 ve h33 ke (exCase 500) ve ke x (by first | omega | decide | (dsimp only; omega) | (simp only [List.length_cons, List.length_nil, List.length_append, List.length_set, List.length_replicate]; omega)) (by first | omega | decide | (dsimp only; omega) | (simp only [List.length_cons, List.length_nil, List.length_append, List.length_set, List.length_replicate]; omega)) (by first | omega | decide | (dsimp only; omega) | (simp only [List.length_cons, List.length_nil, List.length_append, List.length_set, List.length_replicate]; omega)) (by first | omega | decide | (dsimp only; omega) | (simp only [List.length_cons, List.length_nil, List.length_append, List.length_set, List.length_replicate]; omega)) (by first | omega | decide | (dsimp only; omega) | (simp only [List.length_cons, List.length_nil, List.length_append, List.length_set, List.length_replicate]; omega)) (by first | omega | decide | (dsimp only; omega) | (simp only [List.length_cons, List.length_nil, List.length_append, List.length_set, List.length_replicate]; omega)) (by first | omega | decide | (dsimp only; omega) | (simp only [List.length_cons, List.length_nil, List.length_append, List.length_set, List.length_replicate]; omega)) (by first | omega | decide | (dsimp only; omega) | (simp only [List.length_cons, List.length_nil, List.length_append, List.length_set, List.length_replicate]; omega)) (by first | omega | decide | (dsimp only; omega) | (simp only [List.length_cons, List.length_nil, List.length_append, List.length_set, List.length_replicate]; omega))) fun v418 s418 R418 => ?_
              obtain ⟨rfl, rfl⟩ := R418
              dsimp only [lcA, lnA]
              refine XO.q (Quiet.guardF rfl rfl fun g419 p419 => Q.not rfl) ?_
              refine XO.q (Q.or rfl (fun hp => lzv hp rfl)) ?_
              refine XO.done ?_
              refine XK.if rfl (fun c15 => ?_) (fun c15 => ?_)
              · skip
                simp at c15
              · skip
                refine XK.skip ?_
                refine XK.inBlock ?_
                refine XK.region rfl ?_
                refine XO.q (Q.add rfl rfl ⟨by omega, by omega⟩) ?_
                refine XO.q (Q.move rfl) (XO.done ?_)
                exact ih8 (k + 1) _ _ (by omega) (by first | omega | (dsimp only; omega)) (.c rfl (.base 86 rfl rfl)) inferInstance
            · skip
              refine XK.exit rfl ?_
              refine XK.seq ?_
              refine XK.drawn [0, 4, 5, 6, 7, 8] [b1] [] (.q 0 (.br 1 true (.br 2 true (.br 3 true (.q 4 (.q 5 (.q 6 (.q 7 (.q 8 .done))))) .stop) .stop) (.br 2 true (.br 1 true (.br 3 true (.q 4 (.q 5 (.q 6 (.q 7 (.q 8 .done))))) .stop) .stop) .stop))) Try.mixed rfl (by kernel_rfl) ?_
              refine XT.q rfl rfl (Q.ldA [_, _, _, _] rfl rfl rfl) ?_
              refine XT.lit [_] [_] [1] encI rfl rfl (by rfl) (by rfl) rfl (by rfl) (by exact .c 0 1 rfl rfl rfl (.n _)) (fun _ => rfl) (by rfl) rfl (by infer_instance) rfl (fun v424 h424 O424 => ⟨inferInstance, ?_⟩) ?_
              · skip
                refine XT.make encCV (zeroC) rfl rfl rfl rfl rfl (by omega) (by omega) (fun _ => rfl) rfl rfl rfl (by dsimp only [encCV]; infer_instance) (fun v425 h425 O425 => ⟨inferInstance, ?_⟩) XT.stop
                refine XT.call rfl rfl Try.call30 rfl rfl rfl (run_zero exHall vr vw vb vc kr kw kb kc rfl [1] v424 h424 v425 h425 (Int.toNat 20001) (by decide)) (fun v426 s426 R426 => ?_) XT.stop
                obtain ⟨vz, kz, Kz, uz, rfl, rfl, OZ⟩ := R426
                dsimp only [lcA, lnA]
                refine ⟨inferInstance, ?_⟩
                refine XT.q rfl rfl (Q.move rfl) ?_
                refine XT.q rfl rfl (Q.extract rfl rfl) ?_
                refine XT.q rfl rfl (Q.extract rfl rfl) ?_
                refine XT.q rfl rfl (Q.assign rfl) ?_
                refine XT.q rfl rfl (Q.assign rfl) ?_
                refine XT.done ?_
                refine XK.seq (XK.region rfl (XO.q (Q.move rfl) ?_))
                refine XO.q (Q.eql rfl rfl) ?_
                refine XO.q (Q.move rfl) ?_
                refine XO.gcallT rfl rfl Try.call12 rfl (fun g432 => .n) rfl (fun g432 p432 => awake7) ?_
                refine XO.q (Q.and rfl (fun hp => lzv hp rfl)) ?_
                refine XO.q (Q.assign rfl) (XO.done ?_)
                refine XK.rt [] Try.func7 Try.results7 (.t rfl .n) ?_
                exact ⟨by simp, rfl⟩
              · skip
                refine XT.make encCV (zeroC) rfl rfl rfl rfl rfl (by omega) (by omega) (fun _ => rfl) rfl rfl rfl (by dsimp only [encCV]; infer_instance) (fun v425 h425 O425 => ⟨inferInstance, ?_⟩) XT.stop
                refine XT.lit [_] [_] [1] encI rfl rfl (by rfl) (by rfl) rfl (by rfl) (by exact .c 0 1 rfl rfl rfl (.n _)) (fun _ => rfl) (by rfl) rfl (by infer_instance) rfl (fun v424 h424 O424 => ⟨inferInstance, ?_⟩) XT.stop
                refine XT.call rfl rfl Try.call30 rfl rfl rfl (run_zero exHall vr vw vb vc kr kw kb kc rfl [1] v424 h424 v425 h425 (Int.toNat 20001) (by decide)) (fun v426 s426 R426 => ?_) XT.stop
                obtain ⟨vz, kz, Kz, uz, rfl, rfl, OZ⟩ := R426
                dsimp only [lcA, lnA]
                refine ⟨inferInstance, ?_⟩
                refine XT.q rfl rfl (Q.move rfl) ?_
                refine XT.q rfl rfl (Q.extract rfl rfl) ?_
                refine XT.q rfl rfl (Q.extract rfl rfl) ?_
                refine XT.q rfl rfl (Q.assign rfl) ?_
                refine XT.q rfl rfl (Q.assign rfl) ?_
                refine XT.done ?_
                refine XK.seq (XK.region rfl (XO.q (Q.move rfl) ?_))
                refine XO.q (Q.eql rfl rfl) ?_
                refine XO.q (Q.move rfl) ?_
                refine XO.gcallT rfl rfl Try.call12 rfl (fun g432 => .n) rfl (fun g432 p432 => awake7) ?_
                refine XO.q (Q.and rfl (fun hp => lzv hp rfl)) ?_
                refine XO.q (Q.assign rfl) (XO.done ?_)
                refine XK.rt [] Try.func7 Try.results7 (.t rfl .n) ?_
                exact ⟨by simp, rfl⟩
end Go.X
