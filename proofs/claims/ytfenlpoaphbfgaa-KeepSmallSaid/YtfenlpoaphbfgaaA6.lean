/- A part of the proof: a small program logic, plain laws and contracts of functions, each proved by a walk through its operations. No condition but those that stand in each theorem. -/
import Derived.Test.YtfenlpoaphbfgaaA5
set_option linter.unusedSimpArgs false
set_option linter.unusedVariables false
set_option maxRecDepth 20000
namespace Go.X
open Go.Proofs
theorem eight_bd : ∀ k, k < 8 → -1 ≤ ([-1, 0, 1, 2, 16, 17, 400, 401] : List Int).getD k default ∧ ([-1, 0, 1, 2, 16, 17, 400, 401] : List Int).getD k default ≤ 401 := by decide
theorem three_bd {a b c lo hi : Int} (ha : lo ≤ a ∧ a ≤ hi) (hb : lo ≤ b ∧ b ≤ hi) (hc : lo ≤ c ∧ c ≤ hi) {k : Nat} (hk : k < 3) : lo ≤ [a, b, c].getD k default ∧ [a, b, c].getD k default ≤ hi := by
  match k, hk with
  | 0, _ => exact ha
  | 1, _ => exact hb
  | 2, _ => exact hc
theorem two_bd {a b lo hi : Int} (ha : lo ≤ a ∧ a ≤ hi) (hb : lo ≤ b ∧ b ≤ hi) {k : Nat} (hk : k < 2) : lo ≤ [a, b].getD k default ∧ [a, b].getD k default ≤ hi := by
  match k, hk with
  | 0, _ => exact ha
  | 1, _ => exact hb
def Sized (a b c : Int) : Prop := (-1 ≤ a ∧ a ≤ 401) ∧ (0 ≤ max a 0 * max b 0 ∧ max a 0 * max b 0 ≤ 802) ∧ 0 ≤ max a 0 * max b 0 * max c 0 ∧ max a 0 * max b 0 * max c 0 ≤ 802
theorem sized1 {n : Int} (h : -1 ≤ n ∧ n ≤ 401) : Sized n 1 1 := by
  unfold Sized
  rw [show max (1 : Int) 0 = 1 from rfl, Int.mul_one, Int.mul_one]
  omega
theorem sized2 {n : Int} (h : -1 ≤ n ∧ n ≤ 401) : Sized 2 n 1 := by
  unfold Sized
  rw [show max (1 : Int) 0 = 1 from rfl, show max (2 : Int) 0 = 2 from rfl, Int.mul_one]
  omega
theorem sized3 {n : Int} (h : -1 ≤ n ∧ n ≤ 401) : Sized 2 1 n := by
  unfold Sized
  rw [show max (1 : Int) 0 = 1 from rfl, show max (2 : Int) 0 = 2 from rfl, Int.mul_one]
  omega
theorem exv : verifyG exG (solveG exG).1 (solveG exG).2.1 (solveG exG).2.2 = 0 := by decide +kernel
theorem ex_out {l : List Int} (h : ∀ x ∈ l, x = 0) : outside exG.K l = false := outside_no (m := 2) fun x hx => by rw [h x hx]; omega
theorem ex_play {l : List Int} (h : ∀ x ∈ l, x = 0) (hl : l.length ≤ 10000) : playG exG (solveG exG).1 (solveG exG).2.1 (solveG exG).2.2 0 l = (playL exG.next exG.C.toNat exG.K.toNat (solveG exG).2.1 0 l, 0) := by
  rw [playG, if_neg (by rw [exv]; simp), if_neg (by rw [ex_out h]; decide), if_neg (by omega), if_neg (by rw [ex6]; decide)]
theorem ex_long {l : List Int} (h : ∀ x ∈ l, x = 0) (hl : 10000 < l.length) : playG exG (solveG exG).1 (solveG exG).2.1 (solveG exG).2.2 0 l = ([], 2) := by
  rw [playG, if_neg (by rw [exv]; simp), if_neg (by rw [ex_out h]; decide), if_pos (by omega)]
set_option maxHeartbeats 8000000 in
set_option synthInstance.maxHeartbeats 400000 in
theorem KeepSmall_spec : Spec Try.prog 7 #[] [] [] (fun v hs => v = .bool true ∧ hs = []) := by
  have hnil : OArr (.slice none 0 0) encI 1 3 emp ([] : List Int) := OArr.nil (fun _ => rfl)
  refine Spec.intro (fn := Try.f7) (N := 326) Try.func7 rfl Try.ntmps7 rfl fun B => ?_
  refine XK.seq ?_
  refine XK.region rfl ?_
  refine XO.q (Q.assign rfl) ?_
  refine XO.done ?_
  refine XK.seq ?_
  refine XK.seq ?_
  refine XK.region rfl ?_
  refine XO.q (Q.move rfl) ?_
  refine XO.done ?_
  refine XK.block ?_
  refine XK.while (X := Nat) [0, 1, 2, 3, 4, 5, 6, 7, 8, 31, 32, 33, 34, 35, 36, 37, 38, 39, 40, 41, 42, 43, 44, 45, 46, 47, 48, 49, 50, 51, 52, 53, 54, 55, 56, 57, 58, 59, 60, 61, 62, 63, 64, 65, 66, 67, 68, 69, 70, 71, 72, 73, 74, 75, 76, 77, 78, 79, 80, 81, 82, 83, 84, 85, 86, 87, 88, 89, 90, 91, 92, 93, 94, 95, 96, 97, 98, 99, 100, 101, 102, 103, 104, 105, 106, 107, 108, 109, 110, 111, 112, 113, 114, 115, 116, 117, 118, 119, 120, 121, 122] (fun n => [(31, some (.int .i64 (n : Nat)))]) (fun n => []) (fun n => n ≤ 324) (fun n => 324 - n) (0) [] rfl (by omega) (.c rfl (.base 0 rfl rfl)) ?_
  rintro n hn ih0
  dsimp only [List.cons_append, List.nil_append] at ih0 ⊢
  refine XK.seq ?_
  refine XK.region rfl ?_
  refine XO.q (Q.lss rfl rfl) ?_
  refine XO.done ?_
  refine XK.seq ?_
  refine XK.if rfl (fun c0 => ?_) (fun c0 => ?_)
  · have _t0 := True.intro
    refine XK.skip ?_
    refine XK.seq ?_
    refine XK.block ?_
    refine XK.seq ?_
    refine XK.region rfl ?_
    refine XO.q (Q.move rfl) ?_
    refine XO.q (Q.assign rfl) ?_
    refine XO.done ?_
    refine XK.seq ?_
    refine XK.region rfl ?_
    refine XO.q (Q.move rfl) ?_
    refine XO.q (Q.quo rfl rfl (by omega) (by omega) (by omega)) ?_
    refine XO.q (Q.rem rfl rfl (by omega) (by omega)) ?_
    refine XO.q (Q.eql rfl rfl) ?_
    refine XO.q (Q.move rfl) ?_
    refine XO.q (Q.quo rfl rfl (by omega) (by omega) (by omega)) ?_
    refine XO.q (Q.eql rfl rfl) ?_
    refine XO.lit [_, _] [_, _] [_, _] encB (by rfl) (by rfl) rfl (by rfl) (by exact .c 0 1 rfl rfl rfl (.c 1 1 rfl rfl rfl (.n _))) (fun _ => rfl) (by rfl) rfl (by infer_instance) rfl fun v41 h41 O41 => ?_
    refine XO.q (Q.build [_, _, _, _, _] (.c 0 1 rfl rfl rfl (.c 1 1 rfl rfl rfl (.c 2 1 rfl rfl rfl (.c 4 1 rfl rfl rfl (.n _)))))) ?_
    refine XO.alloc fun b2 => ?_
    refine XO.st rfl rfl rfl ?_
    refine XO.done ?_
    refine XK.seq ?_
    refine XK.seq ?_
    refine XK.region rfl ?_
    refine XO.q (Q.move rfl) ?_
    refine XO.q (Q.assign rfl) ?_
    refine XO.q (Q.assign rfl) ?_
    refine XO.done ?_
    refine XK.block ?_
    refine XK.while (X := Nat × Int × Value × PHeap × List Int) [3, 4, 44, 45, 46, 47, 48, 49, 50, 51, 52, 53, 54, 55, 56, 57] (fun ⟨i, x, vN, hN, nx⟩ => [(3, some (.int .i64 (i : Nat))), (4, some (.int .i64 x))]) (fun ⟨i, x, vN, hN, nx⟩ => [blk b2 [.int .i64 2, .int .i64 2, .int .i64 1, vN, v41] 25, hN]) (fun ⟨i, x, vN, hN, nx⟩ => i ≤ 4 ∧ nx.length = i ∧ OArr vN encI 1 3 hN nx) (fun ⟨i, x, vN, hN, nx⟩ => 4 - i) (0, (n : Int), .slice none 0 0, emp, []) [blk b2 [.int .i64 2, .int .i64 2, .int .i64 1, .slice none 0 0, v41] 25, emp] rfl ⟨by omega, rfl, hnil⟩ (.c rfl (.c rfl (.base 0 rfl rfl))) ?_
    rintro ⟨i, x, vN, hN, nx⟩ ⟨hi, hnl, ON⟩ ih1
    dsimp only [List.cons_append, List.nil_append] at ih1 ⊢
    refine XK.seq ?_
    refine XK.seq ?_
    refine XK.region rfl ?_
    refine XO.q (Q.move rfl) ?_
    refine XO.q (Q.lss rfl rfl) ?_
    refine XO.done ?_
    refine XK.if rfl (fun c1 => ?_) (fun c1 => ?_)
    · have _t1 := True.intro
      refine XK.skip ?_
      refine XK.seq ?_
      refine XK.block ?_
      refine XK.seq ?_
      refine XK.region rfl ?_
      refine XO.q (Q.fieldAddr rfl) ?_
      refine XO.q (Q.ld rfl rfl) ?_
      refine XO.q (Q.move rfl) ?_
      refine XO.q (Q.remT rfl rfl (by omega)) ?_
      refine XO.q (Q.subW rfl rfl) ?_
      refine XO.lit [_] [_] [_] encI (by rfl) (by rfl) rfl (by rfl) (by exact .c 0 1 rfl rfl rfl (.n _)) (fun _ => rfl) (by rfl) rfl (by infer_instance) rfl fun v53 h53 O53 => ?_
      refine XO.append rfl rfl rfl rfl (by simp only [List.length_cons, List.length_nil]; omega) fun v54 h54 O54 => ?_
      refine XO.q (Q.fieldAddr rfl) ?_
      refine XO.st rfl rfl rfl ?_
      refine XO.done ?_
      refine XK.region rfl ?_
      refine XO.q (Q.move rfl) ?_
      refine XO.q (Q.quoT rfl rfl (by omega)) ?_
      refine XO.q (Q.assign rfl) ?_
      refine XO.done ?_
      refine XK.inBlock ?_
      refine XK.region rfl ?_
      refine XO.q (Q.move rfl) ?_
      refine XO.q (Q.add rfl rfl ⟨by omega, by omega⟩) ?_
      rw [show ((i : Int) + 1) = ((i + 1 : Nat) : Int) from rfl]
      refine XO.q (Q.assign rfl) ?_
      refine XO.done ?_
      exact ih1 (i + 1, _, v54, h54, _) _ _ ⟨by dsimp only; omega, by simp only [List.length_append, List.length_cons, List.length_nil]; omega, O54⟩ (by first | omega | (dsimp only; omega)) (.c rfl (.c rfl (.base 34 rfl rfl))) inferInstance
    · have _t1 := True.intro
      refine XK.exit rfl ?_
      refine XK.seq ?_
      refine XK.region rfl ?_
      refine XO.q (Q.move rfl) ?_
      refine XO.q (Q.rem rfl rfl (by omega) (by omega)) ?_
      refine XO.q (Q.eql rfl rfl) ?_
      refine XO.q (Q.move rfl) ?_
      refine XO.q (Q.rem rfl rfl (by omega) (by omega)) ?_
      refine XO.q (Q.eql rfl rfl) ?_
      refine XO.lit [_, _] [_, _] [_, _] encB (by rfl) (by rfl) rfl (by rfl) (by exact .c 0 1 rfl rfl rfl (.c 1 1 rfl rfl rfl (.n _))) (fun _ => rfl) (by rfl) rfl (by infer_instance) rfl fun v64 h64 O64 => ?_
      refine XO.q (Q.move rfl) ?_
      refine XO.q (Q.rem rfl rfl (by omega) (by omega)) ?_
      refine XO.q (Q.sub rfl rfl ⟨by omega, by omega⟩) ?_
      refine XO.q (Q.move rfl) ?_
      refine XO.q (Q.quo rfl rfl (by omega) (by omega) (by omega)) ?_
      refine XO.q (Q.rem rfl rfl (by omega) (by omega)) ?_
      refine XO.q (Q.sub rfl rfl ⟨by omega, by omega⟩) ?_
      refine XO.lit [_, _] [_, _] [_, _] encI (by rfl) (by rfl) rfl (by rfl) (by exact .c 0 1 rfl rfl rfl (.c 1 1 rfl rfl rfl (.n _))) (fun _ => rfl) (by rfl) rfl (by infer_instance) rfl fun v72 h72 O72 => ?_
      refine XO.q (Q.move rfl) ?_
      refine XO.q (Q.rem rfl rfl (by omega) (by omega)) ?_
      refine XO.q (Q.sub rfl rfl ⟨by omega, by omega⟩) ?_
      refine XO.q (Q.move rfl) ?_
      refine XO.q (Q.quo rfl rfl (by omega) (by omega) (by omega)) ?_
      refine XO.q (Q.rem rfl rfl (by omega) (by omega)) ?_
      refine XO.q (Q.sub rfl rfl ⟨by omega, by omega⟩) ?_
      refine XO.lit [_, _] [_, _] [_, _] encI (by rfl) (by rfl) rfl (by rfl) (by exact .c 0 1 rfl rfl rfl (.c 1 1 rfl rfl rfl (.n _))) (fun _ => rfl) (by rfl) rfl (by infer_instance) rfl fun v80 h80 O80 => ?_
      refine XO.q (Q.build [_, _, _] (.c 0 1 rfl rfl rfl (.c 1 1 rfl rfl rfl (.c 2 1 rfl rfl rfl (.n _))))) ?_
      refine XO.alloc fun b5 => ?_
      refine XO.st rfl rfl rfl ?_
      refine XO.done ?_
      refine XK.seq ?_
      refine XK.seq ?_
      refine XK.region rfl ?_
      refine XO.q (Q.assign rfl) ?_
      refine XO.done ?_
      refine XK.block ?_
      refine XK.while (X := Int) [0, 6, 82, 83, 84, 85, 86, 87, 88, 89, 90, 91, 92, 93, 94, 95, 96, 97] (fun st => [(6, some (.int .i64 st))]) (fun st => []) (fun st => -1 ≤ st ∧ st ≤ 3) (fun st => (3 - st).toNat) (-1) [] rfl ⟨by omega, by omega⟩ (.c rfl (.base 0 rfl rfl)) ?_
      rintro st ⟨hst1, hst2⟩ ih2
      dsimp only [List.cons_append, List.nil_append] at ih2 ⊢
      refine XK.seq ?_
      refine XK.seq ?_
      refine XK.region rfl ?_
      refine XO.q (Q.move rfl) ?_
      refine XO.q (Q.leq rfl rfl) ?_
      refine XO.done ?_
      refine XK.if rfl (fun c2 => ?_) (fun c2 => ?_)
      · have _t2 := True.intro
        refine XK.skip ?_
        refine XK.seq ?_
        refine XK.block ?_
        refine XK.seq ?_
        refine XK.region rfl ?_
        refine XO.q (Q.ldA [_, _, _, _, _] rfl rfl rfl) ?_
        refine XO.q (Q.ldA [_, _, _] rfl rfl rfl) ?_
        refine XO.q (Q.move rfl) ?_
        refine XO.q (Q.move rfl) ?_
        refine XO.q (Q.rem rfl rfl (by omega) (by omega)) ?_
        refine XO.lit [_, _, _, _] [_, _, _, _] [_, _, _, _] encI (by rfl) (by rfl) rfl (by rfl) (by exact .c 0 1 rfl rfl rfl (.c 1 1 rfl rfl rfl (.c 2 1 rfl rfl rfl (.c 3 1 rfl rfl rfl (.n _))))) (fun _ => rfl) (by rfl) rfl (by infer_instance) rfl fun v91 h91 O91 => ?_
        refine XO.q (Q.move rfl) ?_
        refine XO.q (Q.move rfl) ?_
        refine XO.q (Q.rem rfl rfl (by omega) (by omega)) ?_
        refine XO.q (Q.sub rfl rfl ⟨by omega, by omega⟩) ?_
        refine XO.call Try.call28 rfl rfl rfl (games_spec  ⟨2, 2, 1, nx, _⟩ vN v41 hN h41 v64 v72 v80 h64 h72 h80 _ _ _ st v91 h91 _ _ _ ⟨by omega, by omega⟩ ⟨by omega, by omega⟩ (by first | (simp; done) | (dsimp only; omega) | (dsimp only; rw [List.length_replicate]; omega) | (dsimp only; rw [List.length_set]; decide) | decide | (dsimp only; decide) | omega) (by first | (simp; done) | (dsimp only; omega) | (dsimp only; rw [List.length_replicate]; omega) | (dsimp only; rw [List.length_set]; decide) | decide | (dsimp only; decide) | omega) (by first | (simp; done) | (dsimp only; omega) | (dsimp only; rw [List.length_replicate]; omega) | (dsimp only; rw [List.length_set]; decide) | decide | (dsimp only; decide) | omega) (by first | (simp; done) | (dsimp only; omega) | (dsimp only; rw [List.length_replicate]; omega) | (dsimp only; rw [List.length_set]; decide) | decide | (dsimp only; decide) | omega) (by first | (simp; done) | (dsimp only; omega) | (dsimp only; rw [List.length_replicate]; omega) | (dsimp only; rw [List.length_set]; decide) | decide | (dsimp only; decide) | omega) (by first | (simp; done) | (dsimp only; omega) | (dsimp only; rw [List.length_replicate]; omega) | (dsimp only; rw [List.length_set]; decide) | decide | (dsimp only; decide) | omega)) fun v96 s96 R96 => ?_
        obtain ⟨rfl, rfl⟩ := R96
        dsimp only [List.cons_append, List.nil_append]
        refine XO.q (Q.not rfl) ?_
        refine XO.done ?_
        refine XK.if rfl (fun c3 => ?_) (fun c3 => ?_)
        · have _t3 := True.intro
          simp at c3
        · have _t3 := True.intro
          refine XK.skip ?_
          refine XK.inBlock ?_
          refine XK.region rfl ?_
          refine XO.q (Q.move rfl) ?_
          refine XO.q (Q.add rfl rfl ⟨by omega, by omega⟩) ?_
          refine XO.q (Q.assign rfl) ?_
          refine XO.done ?_
          exact ih2 (st + 1) _ _ ⟨by omega, by omega⟩ (by first | omega | (dsimp only; omega)) (.c rfl (.base 36 rfl rfl)) inferInstance
      · have _t2 := True.intro
        refine XK.exit rfl ?_
        refine XK.seq ?_
        refine XK.region rfl ?_
        refine XO.q (Q.ldA [_, _, _, _, _] rfl rfl rfl) ?_
        refine XO.call Try.call12 rfl rfl rfl (copied ⟨2, 2, 1, nx, _⟩ vN v41 hN h41 (by first | (simp; done) | (dsimp only; omega) | (dsimp only; rw [List.length_replicate]; omega) | (dsimp only; rw [List.length_set]; decide) | decide | (dsimp only; decide) | omega) (by first | (simp; done) | (dsimp only; omega) | (dsimp only; rw [List.length_replicate]; omega) | (dsimp only; rw [List.length_set]; decide) | decide | (dsimp only; decide) | omega)) fun v100 s100 R100 => ?_
        obtain ⟨a100, b100, c100, d100, ka100, kb100, kc100, kd100, rfl, rfl, OA100, OB100, OC100, OD100⟩ := R100
        dsimp only [List.cons_append, List.nil_append]
        refine XO.q (Q.move rfl) ?_
        refine XO.q (Q.extract rfl rfl) ?_
        refine XO.q (Q.extract rfl rfl) ?_
        refine XO.alloc fun b7 => ?_
        refine XO.alloc fun b8 => ?_
        refine XO.st rfl rfl rfl ?_
        refine XO.st rfl rfl rfl ?_
        refine XO.done ?_
        refine XK.seq ?_
        refine XK.region rfl ?_
        refine XO.q (Q.fieldAddr rfl) ?_
        refine XO.st rfl rfl rfl ?_
        refine XO.q (Q.fieldAddr rfl) ?_
        refine XO.st rfl rfl rfl ?_
        refine XO.done ?_
        refine XK.seq ?_
        refine XK.region rfl ?_
        refine XO.q (Q.ldA [_, _, _, _, _] rfl rfl rfl) ?_
        refine XO.q (Q.ldA [_, _, _] rfl rfl rfl) ?_
        refine XO.q (Q.move rfl) ?_
        refine XO.q (Q.rem rfl rfl (by omega) (by omega)) ?_
        refine XO.lit [_, _, _] [_, _, _] [_, _, _] encI (by rfl) (by rfl) rfl (by rfl) (by exact .c 0 1 rfl rfl rfl (.c 1 1 rfl rfl rfl (.c 2 1 rfl rfl rfl (.n _)))) (fun _ => rfl) (by rfl) rfl (by infer_instance) rfl fun v109 h109 O109 => ?_
        refine XO.q (Q.move rfl) ?_
        refine XO.call Try.call28 rfl rfl rfl (games_spec  ⟨2, 1, 2, nx, _⟩ a100 b100 ka100 kb100 v64 v72 v80 h64 h72 h80 _ _ _ _ v109 h109 _ _ _ ⟨by omega, by omega⟩ ⟨by omega, by omega⟩ (by first | (simp; done) | (dsimp only; omega) | (dsimp only; rw [List.length_replicate]; omega) | (dsimp only; rw [List.length_set]; decide) | decide | (dsimp only; decide) | omega) (by first | (simp; done) | (dsimp only; omega) | (dsimp only; rw [List.length_replicate]; omega) | (dsimp only; rw [List.length_set]; decide) | decide | (dsimp only; decide) | omega) (by first | (simp; done) | (dsimp only; omega) | (dsimp only; rw [List.length_replicate]; omega) | (dsimp only; rw [List.length_set]; decide) | decide | (dsimp only; decide) | omega) (by first | (simp; done) | (dsimp only; omega) | (dsimp only; rw [List.length_replicate]; omega) | (dsimp only; rw [List.length_set]; decide) | decide | (dsimp only; decide) | omega) (by first | (simp; done) | (dsimp only; omega) | (dsimp only; rw [List.length_replicate]; omega) | (dsimp only; rw [List.length_set]; decide) | decide | (dsimp only; decide) | omega) (by first | (simp; done) | (dsimp only; omega) | (dsimp only; rw [List.length_replicate]; omega) | (dsimp only; rw [List.length_set]; decide) | decide | (dsimp only; decide) | omega)) fun v111 s111 R111 => ?_
        obtain ⟨rfl, rfl⟩ := R111
        dsimp only [List.cons_append, List.nil_append]
        refine XO.q (Q.not rfl) ?_
        refine XO.q (Q.move rfl) ?_
        refine XO.q (Quiet.guardF rfl rfl fun g114 p114 => Q.ldA [_, _, _, _, _] rfl rfl rfl) ?_
        refine XO.q (Quiet.guardF rfl rfl fun g115 p115 => Q.ldA [_, _, _, _, _] rfl rfl rfl) ?_
        refine XO.q (Quiet.guardF rfl rfl fun g116 p116 => Q.move rfl) ?_
        refine XO.q (Quiet.guardF rfl rfl fun g117 p117 => Q.rem (lzv g117 rfl) rfl (by omega) (by omega)) ?_
        refine XO.q (Quiet.guardF rfl rfl fun g118 p118 => Q.sub (lzv g118 rfl) rfl ⟨by omega, by omega⟩) ?_
        refine XO.gcallF rfl rfl Try.call3 rfl (fun g119 => .c (lzv g119 rfl) (.c (lzv g119 rfl) (.c (lzv g119 rfl) .n))) rfl (fun g119 p119 => KeepMakes_spec ⟨2, 2, 1, nx, _⟩ ⟨2, 1, 2, nx, _⟩ vN v41 a100 b100 hN h41 ka100 kb100 _) ?_
        refine XO.q (Quiet.guardF rfl rfl fun g120 p120 => Q.not (lzv g120 rfl)) ?_
        refine XO.q (Q.or rfl (fun hp => lzv hp rfl)) ?_
        refine XO.done ?_
        refine XK.if rfl (fun c4 => ?_) (fun c4 => ?_)
        · have _t4 := True.intro
          simp at c4
        · have _t4 := True.intro
          refine XK.skip ?_
          refine XK.inBlock ?_
          refine XK.region rfl ?_
          refine XO.q (Q.add rfl rfl ⟨by omega, by omega⟩) ?_
          refine XO.q (Q.move rfl) ?_
          refine XO.done ?_
          exact ih0 (n + 1) _ _ (by omega) (by first | omega | (dsimp only; omega)) (.c rfl (.base 213 rfl rfl)) inferInstance
  · have _t0 := True.intro
    refine XK.exit rfl ?_
    refine XK.seq ?_
    refine XK.seq ?_
    refine XK.region rfl ?_
    refine XO.q (Q.move rfl) ?_
    refine XO.done ?_
    refine XK.block ?_
    refine XK.while (X := Nat) [0, 9, 10, 11, 123, 124, 125, 126, 127, 128, 129, 130, 131, 132, 133, 134, 135, 136, 137, 138, 139, 140, 141, 142, 143, 144, 145, 146, 147, 148, 149, 150, 151, 152, 153, 154, 155, 156, 157, 158, 159, 160, 161, 162, 163, 164, 165, 166, 167, 168, 169, 170, 171] (fun n => [(123, some (.int .i64 (n : Nat)))]) (fun n => []) (fun n => n ≤ 2000) (fun n => 2000 - n) (0) [] rfl (by omega) (.c rfl (.base 0 rfl rfl)) ?_
    rintro n hn ih3
    dsimp only [List.cons_append, List.nil_append] at ih3 ⊢
    refine XK.seq ?_
    refine XK.region rfl ?_
    refine XO.q (Q.lss rfl rfl) ?_
    refine XO.done ?_
    refine XK.seq ?_
    refine XK.if rfl (fun c5 => ?_) (fun c5 => ?_)
    · have _t5 := True.intro
      refine XK.skip ?_
      refine XK.seq ?_
      refine XK.block ?_
      refine XK.seq ?_
      refine XK.region rfl ?_
      refine XO.q (Q.move rfl) ?_
      refine XO.q (Q.assign rfl) ?_
      refine XO.done ?_
      refine XK.seq ?_
      refine XK.region rfl ?_
      refine XO.q (Q.move rfl) ?_
      refine XO.q (Q.rem rfl rfl (by omega) (by omega)) ?_
      refine XO.q (Q.neq rfl rfl) ?_
      refine XO.q (Q.move rfl) ?_
      refine XO.q (Q.rem rfl rfl (by omega) (by omega)) ?_
      refine XO.q (Q.neq rfl rfl) ?_
      refine XO.q (Q.move rfl) ?_
      refine XO.q (Q.rem rfl rfl (by omega) (by omega)) ?_
      refine XO.q (Q.neq rfl rfl) ?_
      refine XO.lit [_, _, _] [_, _, _] [_, _, _] encB (by rfl) (by rfl) rfl (by rfl) (by exact .c 0 1 rfl rfl rfl (.c 1 1 rfl rfl rfl (.c 2 1 rfl rfl rfl (.n _)))) (fun _ => rfl) (by rfl) rfl (by infer_instance) rfl fun v135 h135 O135 => ?_
      refine XO.q (Q.build [_, _, _, _, _] (.c 0 1 rfl rfl rfl (.c 1 1 rfl rfl rfl (.c 2 1 rfl rfl rfl (.c 4 1 rfl rfl rfl (.n _)))))) ?_
      refine XO.alloc fun b10 => ?_
      refine XO.st rfl rfl rfl ?_
      refine XO.done ?_
      refine XK.seq ?_
      refine XK.region rfl ?_
      refine XO.q (Q.move rfl) ?_
      refine XO.q (Q.conv rfl) ?_
      refine XO.q (Q.assign rfl) ?_
      refine XO.done ?_
      refine XK.seq ?_
      refine XK.seq ?_
      refine XK.region rfl ?_
      refine XO.q (Q.move rfl) ?_
      refine XO.done ?_
      refine XK.block ?_
      refine XK.while (X := Nat × Int × Value × PHeap × List Int) [11, 139, 140, 141, 142, 143, 144, 145, 146, 147, 148, 149, 150, 151, 152, 153, 154, 155] (fun ⟨i, x, vN, hN, nx⟩ => [(139, some (.int .i64 (i : Nat))), (11, some (.int .u64 x))]) (fun ⟨i, x, vN, hN, nx⟩ => [blk b10 [.int .i64 3, .int .i64 2, .int .i64 2, vN, v135] 25, hN]) (fun ⟨i, x, vN, hN, nx⟩ => i ≤ 12 ∧ nx.length = i ∧ OArr vN encI 1 3 hN nx) (fun ⟨i, x, vN, hN, nx⟩ => 12 - i) (0, _, .slice none 0 0, emp, []) [blk b10 [.int .i64 3, .int .i64 2, .int .i64 2, .slice none 0 0, v135] 25, emp] rfl ⟨by omega, rfl, hnil⟩ (.c rfl (.c rfl (.base 0 rfl rfl))) ?_
      rintro ⟨i, x, vN, hN, nx⟩ ⟨hi, hnl, ON⟩ ih4
      dsimp only [List.cons_append, List.nil_append] at ih4 ⊢
      refine XK.seq ?_
      refine XK.region rfl ?_
      refine XO.q (Q.lss rfl rfl) ?_
      refine XO.done ?_
      refine XK.seq ?_
      refine XK.if rfl (fun c6 => ?_) (fun c6 => ?_)
      · have _t6 := True.intro
        refine XK.skip ?_
        refine XK.seq ?_
        refine XK.block ?_
        refine XK.seq ?_
        refine XK.region rfl ?_
        refine XO.q (Q.move rfl) ?_
        refine XO.q (Q.mulW rfl rfl) ?_
        refine XO.q (Q.addW rfl rfl) ?_
        refine XO.q (Q.assign rfl) ?_
        refine XO.done ?_
        refine XK.region rfl ?_
        refine XO.q (Q.fieldAddr rfl) ?_
        refine XO.q (Q.ld rfl rfl) ?_
        refine XO.q (Q.move rfl) ?_
        refine XO.q (Q.shrW rfl rfl (by omega)) ?_
        refine XO.q (Q.remT rfl rfl (by omega)) ?_
        refine XO.q (Q.conv rfl) ?_
        refine XO.q (Q.remT rfl rfl (by omega)) ?_
        refine XO.q (Q.subW rfl rfl) ?_
        refine XO.lit [_] [_] [_] encI (by rfl) (by rfl) rfl (by rfl) (by exact .c 0 1 rfl rfl rfl (.n _)) (fun _ => rfl) (by rfl) rfl (by infer_instance) rfl fun v152 h152 O152 => ?_
        refine XO.append rfl rfl rfl rfl (by simp only [List.length_cons, List.length_nil]; omega) fun v153 h153 O153 => ?_
        refine XO.q (Q.fieldAddr rfl) ?_
        refine XO.st rfl rfl rfl ?_
        refine XO.done ?_
        refine XK.inBlock ?_
        refine XK.region rfl ?_
        refine XO.q (Q.add rfl rfl ⟨by omega, by omega⟩) ?_
        refine XO.q (Q.move rfl) ?_
        refine XO.done ?_
        exact ih4 (i + 1, _, v153, h153, _) _ _ ⟨by dsimp only; omega, by simp only [List.length_append, List.length_cons, List.length_nil]; omega, O153⟩ (by first | omega | (dsimp only; omega)) (.c rfl (.c rfl (.base 38 rfl rfl))) inferInstance
      · have _t6 := True.intro
        refine XK.exit rfl ?_
        refine XK.seq ?_
        refine XK.region rfl ?_
        refine XO.q (Q.ldA [_, _, _, _, _] rfl rfl rfl) ?_
        refine XO.q (Q.build [_, _, _] (.n _)) ?_
        refine XO.q (Q.move rfl) ?_
        refine XO.q (Q.rem rfl rfl (by omega) (by omega)) ?_
        refine XO.q (Q.move rfl) ?_
        refine XO.q (Q.rem rfl rfl (by omega) (by omega)) ?_
        refine XO.q (Q.move rfl) ?_
        refine XO.q (Q.quo rfl rfl (by omega) (by omega) (by omega)) ?_
        refine XO.q (Q.rem rfl rfl (by omega) (by omega)) ?_
        refine XO.lit [_, _, _, _, _, _, _] [_, _, _, _, _, _, _] [_, _, _, _, _, _, _] encI (by rfl) (by rfl) rfl (by rfl) (by exact .c 0 1 rfl rfl rfl (.c 1 1 rfl rfl rfl (.c 2 1 rfl rfl rfl (.c 3 1 rfl rfl rfl (.c 4 1 rfl rfl rfl (.c 5 1 rfl rfl rfl (.c 6 1 rfl rfl rfl (.n _)))))))) (fun _ => rfl) (by rfl) rfl (by infer_instance) rfl fun v165 h165 O165 => ?_
        refine XO.q (Q.move rfl) ?_
        refine XO.q (Q.move rfl) ?_
        refine XO.q (Q.rem rfl rfl (by omega) (by omega)) ?_
        refine XO.call Try.call28 rfl rfl rfl (games_spec (si := Arr.nil (fun _ => rfl)) (sc := Arr.nil (fun _ => rfl)) (sr := Arr.nil (fun _ => rfl)) ⟨3, 2, 2, nx, _⟩ vN v135 hN h135 (.slice none 0 0) (.slice none 0 0) (.slice none 0 0) hN hN hN [] [] [] _ v165 h165 _ _ _ ⟨by omega, by omega⟩ ⟨by omega, by omega⟩ (by first | (simp; done) | (dsimp only; omega) | (dsimp only; rw [List.length_replicate]; omega) | (dsimp only; rw [List.length_set]; decide) | decide | (dsimp only; decide) | omega) (by first | (simp; done) | (dsimp only; omega) | (dsimp only; rw [List.length_replicate]; omega) | (dsimp only; rw [List.length_set]; decide) | decide | (dsimp only; decide) | omega) (by first | (simp; done) | (dsimp only; omega) | (dsimp only; rw [List.length_replicate]; omega) | (dsimp only; rw [List.length_set]; decide) | decide | (dsimp only; decide) | omega) (by first | (simp; done) | (dsimp only; omega) | (dsimp only; rw [List.length_replicate]; omega) | (dsimp only; rw [List.length_set]; decide) | decide | (dsimp only; decide) | omega) (by first | (simp; done) | (dsimp only; omega) | (dsimp only; rw [List.length_replicate]; omega) | (dsimp only; rw [List.length_set]; decide) | decide | (dsimp only; decide) | omega) (by first | (simp; done) | (dsimp only; omega) | (dsimp only; rw [List.length_replicate]; omega) | (dsimp only; rw [List.length_set]; decide) | decide | (dsimp only; decide) | omega)) fun v169 s169 R169 => ?_
        obtain ⟨rfl, rfl⟩ := R169
        dsimp only [List.cons_append, List.nil_append]
        refine XO.q (Q.not rfl) ?_
        refine XO.done ?_
        refine XK.if rfl (fun c7 => ?_) (fun c7 => ?_)
        · have _t7 := True.intro
          simp at c7
        · have _t7 := True.intro
          refine XK.skip ?_
          refine XK.inBlock ?_
          refine XK.region rfl ?_
          refine XO.q (Q.add rfl rfl ⟨by omega, by omega⟩) ?_
          refine XO.q (Q.move rfl) ?_
          refine XO.done ?_
          exact ih3 (n + 1) _ _ (by omega) (by first | omega | (dsimp only; omega)) (.c rfl (.base 111 rfl rfl)) inferInstance
    · have _t5 := True.intro
      refine XK.exit rfl ?_
      refine XK.seq ?_
      refine XK.seq ?_
      refine XK.region rfl ?_
      refine XO.lit [_, _, _, _, _, _, _, _] [_, _, _, _, _, _, _, _] [_, _, _, _, _, _, _, _] encI (by rfl) (by rfl) rfl (by rfl) (by exact .c 0 1 rfl rfl rfl (.c 1 1 rfl rfl rfl (.c 2 1 rfl rfl rfl (.c 3 1 rfl rfl rfl (.c 4 1 rfl rfl rfl (.c 5 1 rfl rfl rfl (.c 6 1 rfl rfl rfl (.c 7 1 rfl rfl rfl (.n _))))))))) (fun _ => rfl) (by rfl) rfl (by infer_instance) rfl fun v172 h172 O172 => ?_
      refine XO.len rfl fun l173 => ?_
      rw [show ((([-1, 0, 1, 2, 16, 17, 400, 401] : List Int).length : Nat) : Int) = 8 from rfl]
      refine XO.q (Q.move rfl) ?_
      refine XO.done ?_
      refine XK.block ?_
      refine XK.while (X := Nat) [0, 13, 14, 15, 16, 18, 20, 174, 175, 176, 177, 178, 179, 180, 181, 182, 183, 184, 185, 186, 187, 188, 189, 190, 191, 192, 193, 194, 195, 196, 197, 198, 199, 200, 201, 202, 203, 204, 205, 206, 207, 208, 209, 210, 211, 212, 213, 214, 215, 216, 217, 218, 219, 220, 221, 222, 223, 224, 225, 226, 227, 228, 229, 230, 231, 232, 233, 234, 235, 236, 237, 238, 239, 240, 241, 242, 243, 244, 245, 246, 247, 248, 249, 250, 251, 252, 253, 254, 255] (fun k => [(174, some (.int .i64 (k : Nat)))]) (fun k => []) (fun k => k ≤ 8) (fun k => 8 - k) (0) [] rfl (by omega) (.c rfl (.base 0 rfl rfl)) ?_
      rintro k hk ih5
      dsimp only [List.cons_append, List.nil_append] at ih5 ⊢
      refine XK.seq ?_
      refine XK.region rfl ?_
      refine XO.q (Q.lss rfl rfl) ?_
      refine XO.done ?_
      refine XK.seq ?_
      refine XK.if rfl (fun c8 => ?_) (fun c8 => ?_)
      · have _t8 := True.intro
        refine XK.skip ?_
        refine XK.seq ?_
        refine XK.block ?_
        refine XK.seq ?_
        refine XK.region rfl ?_
        refine XO.ix rfl rfl (by omega) (by show (k : Int) < 8; omega) fun i176 => ?_
        refine XO.q (Q.ldE rfl (by first | assumption | omega) rfl) ?_
        have hnb := eight_bd k (by omega)
        obtain ⟨n, en⟩ : ∃ n, n = ([-1, 0, 1, 2, 16, 17, 400, 401] : List Int).getD k default := ⟨_, rfl⟩
        rw [← en] at hnb ⊢
        refine XO.q (Q.assign rfl) ?_
        refine XO.done ?_
        refine XK.seq ?_
        refine XK.region rfl ?_
        refine XO.q (Q.move rfl) ?_
        refine XO.done ?_
        refine XK.block ?_
        refine XK.while (X := Nat) [0, 14, 15, 16, 18, 20, 178, 179, 180, 181, 182, 183, 184, 185, 186, 187, 188, 189, 190, 191, 192, 193, 194, 195, 196, 197, 198, 199, 200, 201, 202, 203, 204, 205, 206, 207, 208, 209, 210, 211, 212, 213, 214, 215, 216, 217, 218, 219, 220, 221, 222, 223, 224, 225, 226, 227, 228, 229, 230, 231, 232, 233, 234, 235, 236, 237, 238, 239, 240, 241, 242, 243, 244, 245, 246, 247, 248, 249, 250, 251, 252, 253, 254] (fun i => [(178, some (.int .i64 (i : Nat)))]) (fun i => []) (fun i => i ≤ 3) (fun i => 3 - i) (0) [] rfl (by omega) (.c rfl (.base 0 rfl rfl)) ?_
        rintro i hi ih6
        dsimp only [List.cons_append, List.nil_append] at ih6 ⊢
        refine XK.seq ?_
        refine XK.region rfl ?_
        refine XO.q (Q.lss rfl rfl) ?_
        refine XO.done ?_
        refine XK.seq ?_
        refine XK.if rfl (fun c9 => ?_) (fun c9 => ?_)
        · have _t9 := True.intro
          refine XK.skip ?_
          refine XK.seq ?_
          refine XK.block ?_
          refine XK.seq ?_
          refine XK.region rfl ?_
          refine XO.q (Q.move rfl) ?_
          refine XO.q (Q.assign rfl) ?_
          refine XO.done ?_
          refine XK.seq ?_
          refine XK.region rfl ?_
          refine XO.q (Q.build [_, _, _, _, _] (.c 0 1 rfl rfl rfl (.c 1 1 rfl rfl rfl (.c 2 1 rfl rfl rfl (.n _))))) ?_
          refine XO.alloc fun b15 => ?_
          refine XO.st rfl rfl rfl ?_
          refine XO.done ?_
          refine XK.seq ?_
          refine XK.meet (X := Int × Int × Int) [182, 183, 184, 185, 186, 187, 188, 189, 190] (fun ⟨zS, zC, zK⟩ => []) (fun ⟨zS, zC, zK⟩ => [blk b15 [.int .i64 zS, .int .i64 zC, .int .i64 zK, .slice none 0 0, .slice none 0 0] 25]) (fun ⟨zS, zC, zK⟩ => Sized zS zC zK) [blk b15 [.int .i64 2, .int .i64 1, .int .i64 1, .slice none 0 0, .slice none 0 0] 25] ?_ ?_
          · rintro ⟨zS, zC, zK⟩ ⟨z0, ⟨z1, z2⟩, z3, z4⟩
            dsimp only [List.cons_append, List.nil_append]
            refine XK.seq ?_
            refine XK.region rfl ?_
            refine XO.q (Q.fieldAddr rfl) ?_
            refine XO.q (Q.ld rfl rfl) ?_
            refine XO.q (Q.max rfl rfl) ?_
            refine XO.q (Q.fieldAddr rfl) ?_
            refine XO.q (Q.ld rfl rfl) ?_
            refine XO.q (Q.max rfl rfl) ?_
            refine XO.q (Q.mul rfl rfl ⟨by omega, by omega⟩) ?_
            refine XO.q (Q.fieldAddr rfl) ?_
            refine XO.q (Q.ld rfl rfl) ?_
            refine XO.q (Q.max rfl rfl) ?_
            refine XO.q (Q.mul rfl rfl ⟨by omega, by omega⟩) ?_
            obtain ⟨M, eM⟩ : ∃ M, M = max zS 0 * max zC 0 * max zK 0 := ⟨_, rfl⟩
            rw [← eM] at z3 z4 ⊢
            refine XO.q (Q.assign rfl) ?_
            refine XO.done ?_
            refine XK.seq ?_
            refine XK.region rfl ?_
            refine XO.q (Q.move rfl) ?_
            refine XO.q (Q.move rfl) ?_
            refine XO.q (Q.add rfl rfl ⟨by omega, by omega⟩) ?_
            refine XO.q (Q.move rfl) ?_
            refine XO.q (Q.sub rfl rfl ⟨by omega, by omega⟩) ?_
            refine XO.q (Q.max rfl rfl) ?_
            refine XO.lit [_, _, _] [_, _, _] [_, _, _] encI (by rfl) (by rfl) rfl (by rfl) (by exact .c 0 1 rfl rfl rfl (.c 1 1 rfl rfl rfl (.c 2 1 rfl rfl rfl (.n _)))) (fun _ => rfl) (by rfl) rfl (by infer_instance) rfl fun v208 h208 O208 => ?_
            refine XO.len rfl fun l209 => ?_
            rw [show ((([M, M + 1, max (M - 1) 0] : List Int).length : Nat) : Int) = 3 from rfl]
            refine XO.q (Q.move rfl) ?_
            refine XO.done ?_
            refine XK.block ?_
            refine XK.while (X := Nat × Value × Value) [0, 18, 20, 210, 211, 212, 213, 214, 215, 216, 217, 218, 219, 220, 221, 222, 223, 224, 225, 226, 227, 228, 229, 230, 231, 232, 233, 234, 235, 236, 237, 238, 239, 240, 241, 242, 243, 244, 245, 246, 247, 248, 249, 250, 251, 252, 253] (fun ⟨j, vn7, vg7⟩ => [(210, some (.int .i64 (j : Nat)))]) (fun ⟨j, vn7, vg7⟩ => [blk b15 [.int .i64 zS, .int .i64 zC, .int .i64 zK, vn7, vg7] 25]) (fun ⟨j, vn7, vg7⟩ => j ≤ 3) (fun ⟨j, vn7, vg7⟩ => 3 - j) (0, .slice none 0 0, .slice none 0 0) [blk b15 [.int .i64 zS, .int .i64 zC, .int .i64 zK, .slice none 0 0, .slice none 0 0] 25] rfl (by omega) (.c rfl (.base 0 rfl rfl)) ?_
            rintro ⟨j, vn7, vg7⟩ hj ih7
            dsimp only [List.cons_append, List.nil_append] at ih7 ⊢
            refine XK.seq ?_
            refine XK.region rfl ?_
            refine XO.q (Q.lss rfl rfl) ?_
            refine XO.done ?_
            refine XK.seq ?_
            refine XK.if rfl (fun c10 => ?_) (fun c10 => ?_)
            · have _t10 := True.intro
              refine XK.skip ?_
              refine XK.seq ?_
              refine XK.block ?_
              refine XK.seq ?_
              refine XK.region rfl ?_
              refine XO.ix rfl rfl (by omega) (by show (j : Int) < 3; omega) fun i212 => ?_
              refine XO.q (Q.ldE rfl (by first | assumption | omega) rfl) ?_
              have hm7 := three_bd (lo := 0) (hi := 803) (a := M) (b := M + 1) (c := max (M - 1) 0) (by omega) (by omega) (by omega) (show j < 3 by omega)
              obtain ⟨m7, em7⟩ : ∃ m, m = ([M, M + 1, max (M - 1) 0] : List Int).getD j default := ⟨_, rfl⟩
              rw [← em7] at hm7 ⊢
              refine XO.q (Q.assign rfl) ?_
              refine XO.done ?_
              refine XK.seq ?_
              refine XK.region rfl ?_
              refine XO.q (Q.move rfl) ?_
              refine XO.make encI (0) rfl rfl rfl (by omega) (by omega) (fun _ => rfl) rfl rfl rfl (by dsimp only [encI]; infer_instance) fun v215 h215 O215 => ?_
              refine XO.q (Q.fieldAddr rfl) ?_
              refine XO.st rfl rfl rfl ?_
              refine XO.done ?_
              refine XK.seq ?_
              refine XK.region rfl ?_
              refine XO.q (Q.fieldAddr rfl) ?_
              refine XO.q (Q.ld rfl rfl) ?_
              refine XO.q (Q.max rfl rfl) ?_
              refine XO.q (Q.fieldAddr rfl) ?_
              refine XO.q (Q.ld rfl rfl) ?_
              refine XO.q (Q.max rfl rfl) ?_
              refine XO.q (Q.add rfl rfl ⟨by omega, by omega⟩) ?_
              refine XO.lit [_, _] [_, _] [_, _] encI (by rfl) (by rfl) rfl (by rfl) (by exact .c 0 1 rfl rfl rfl (.c 1 1 rfl rfl rfl (.n _))) (fun _ => rfl) (by rfl) rfl (by infer_instance) rfl fun v224 h224 O224 => ?_
              refine XO.len rfl fun l225 => ?_
              rw [show ((([max zS 0, max zS 0 + 1] : List Int).length : Nat) : Int) = 2 from rfl]
              refine XO.q (Q.move rfl) ?_
              refine XO.done ?_
              refine XK.block ?_
              refine XK.while (X := Nat × Value) [0, 20, 226, 227, 228, 229, 230, 231, 232, 233, 234, 235, 236, 237, 238, 239, 240, 241, 242, 243, 244, 245, 246, 247, 248, 249, 250, 251, 252] (fun ⟨q, vg8⟩ => [(226, some (.int .i64 (q : Nat)))]) (fun ⟨q, vg8⟩ => [blk b15 [.int .i64 zS, .int .i64 zC, .int .i64 zK, v215, vg8] 25]) (fun ⟨q, vg8⟩ => q ≤ 2) (fun ⟨q, vg8⟩ => 2 - q) (0, vg7) [blk b15 [.int .i64 zS, .int .i64 zC, .int .i64 zK, v215, vg7] 25] rfl (by omega) (.c rfl (.base 0 rfl rfl)) ?_
              rintro ⟨q, vg8⟩ hq ih8
              dsimp only [List.cons_append, List.nil_append] at ih8 ⊢
              refine XK.seq ?_
              refine XK.region rfl ?_
              refine XO.q (Q.lss rfl rfl) ?_
              refine XO.done ?_
              refine XK.seq ?_
              refine XK.if rfl (fun c11 => ?_) (fun c11 => ?_)
              · have _t11 := True.intro
                refine XK.skip ?_
                refine XK.seq ?_
                refine XK.block ?_
                refine XK.seq ?_
                refine XK.region rfl ?_
                refine XO.ix rfl rfl (by omega) (by show (q : Int) < 2; omega) fun i228 => ?_
                refine XO.q (Q.ldE rfl (by first | assumption | omega) rfl) ?_
                have hm8 := two_bd (lo := 0) (hi := 402) (a := max zS 0) (b := max zS 0 + 1) (by omega) (by omega) (show q < 2 by omega)
                obtain ⟨m8, em8⟩ : ∃ m, m = ([max zS 0, max zS 0 + 1] : List Int).getD q default := ⟨_, rfl⟩
                rw [← em8] at hm8 ⊢
                refine XO.q (Q.assign rfl) ?_
                refine XO.done ?_
                refine XK.seq ?_
                refine XK.region rfl ?_
                refine XO.q (Q.move rfl) ?_
                refine XO.make encB (false) rfl rfl rfl (by omega) (by omega) (fun _ => rfl) rfl rfl rfl (by dsimp only [encB]; infer_instance) fun v231 h231 O231 => ?_
                refine XO.q (Q.fieldAddr rfl) ?_
                refine XO.st rfl rfl rfl ?_
                refine XO.done ?_
                refine XK.seq ?_
                refine XK.meet (X := Unit) [233, 234, 235, 236, 237, 238, 239, 240, 241, 242, 243, 244, 245, 246, 247, 248, 249, 250, 251] (fun ⟨⟩ => [(251, some (.bool ((!true || !true) || !true)))]) (fun ⟨⟩ => []) (fun ⟨⟩ => True) [] ?_ ?_
                · rintro ⟨⟩ _
                  dsimp only [List.cons_append, List.nil_append]
                  refine XK.if rfl (fun c12 => ?_) (fun c12 => ?_)
                  · have _t12 := True.intro
                    simp at c12
                  · have _t12 := True.intro
                    refine XK.skip ?_
                    refine XK.inBlock ?_
                    refine XK.region rfl ?_
                    refine XO.q (Q.add rfl rfl ⟨by omega, by omega⟩) ?_
                    refine XO.q (Q.move rfl) ?_
                    refine XO.done ?_
                    exact ih8 (q + 1, v231) _ _ (by dsimp only; omega) (by first | omega | (dsimp only; omega)) (.c rfl (.base 59 rfl rfl)) inferInstance
                · intro mtr51
                  dsimp only [List.cons_append, List.nil_append] at mtr51
                  refine XK.drawn [0, 4, 6, 7, 8, 11, 12, 13, 15, 17, 18] [b15] [] (.q 0 (.br 1 true (.br 2 true (.br 3 true (.q 4 (.br 5 true (.q 6 (.q 7 (.q 8 (.br 9 true (.br 10 true (.q 11 (.q 12 (.q 13 (.q 15 (.br 14 true (.br 16 true (.q 17 (.q 18 .done)) .stop) .stop))))) .stop) .stop)))) .stop)) .stop) (.br 3 true (.br 2 true (.q 4 (.br 5 true (.q 6 (.q 7 (.q 8 (.br 9 true (.br 10 true (.q 11 (.q 12 (.q 13 (.q 15 (.br 14 true (.br 16 true (.q 17 (.q 18 .done)) .stop) .stop))))) .stop) .stop)))) .stop)) .stop) .stop)) (.br 2 true (.br 1 true (.br 3 true (.q 4 (.br 5 true (.q 6 (.q 7 (.q 8 (.br 9 true (.br 10 true (.q 11 (.q 12 (.q 13 (.q 15 (.br 14 true (.br 16 true (.q 17 (.q 18 .done)) .stop) .stop))))) .stop) .stop)))) .stop)) .stop) (.br 3 true (.br 1 true (.q 4 (.br 5 true (.q 6 (.q 7 (.q 8 (.br 9 true (.br 10 true (.q 11 (.q 12 (.q 13 (.q 15 (.br 14 true (.br 16 true (.q 17 (.q 18 .done)) .stop) .stop))))) .stop) .stop)))) .stop)) .stop) .stop)) (.br 3 true (.br 1 true (.br 2 true (.q 4 (.br 5 true (.q 6 (.q 7 (.q 8 (.br 9 true (.br 10 true (.q 11 (.q 12 (.q 13 (.q 15 (.br 14 true (.br 16 true (.q 17 (.q 18 .done)) .stop) .stop))))) .stop) .stop)))) .stop)) .stop) (.br 2 true (.br 1 true (.q 4 (.br 5 true (.q 6 (.q 7 (.q 8 (.br 9 true (.br 10 true (.q 11 (.q 12 (.q 13 (.q 15 (.br 14 true (.br 16 true (.q 17 (.q 18 .done)) .stop) .stop))))) .stop) .stop)))) .stop)) .stop) .stop)) .stop)))) Try.mixed rfl (by kernel_rfl) ?_
                  refine XT.q rfl rfl (Q.ldA [_, _, _, _, _] rfl rfl rfl) ?_
                  refine XT.make encB (false) rfl rfl rfl rfl rfl (by omega) (by omega) (fun _ => rfl) rfl rfl rfl (by dsimp only [encB]; infer_instance) (fun v234 h234 O234 => ⟨inferInstance, ?_⟩) ?_
                  · skip
                    refine XT.lit [_, _] [_, _] [_, _] encI rfl rfl (by rfl) (by rfl) rfl (by rfl) (by exact .c 0 1 rfl rfl rfl (.c 1 1 rfl rfl rfl (.n _))) (fun _ => rfl) (by rfl) rfl (by infer_instance) rfl (fun v235 h235 O235 => ⟨inferInstance, ?_⟩) ?_
                    · skip
                      refine XT.make encI (0) rfl rfl rfl rfl rfl (by omega) (by omega) (fun _ => rfl) rfl rfl rfl (by dsimp only [encI]; infer_instance) (fun v236 h236 O236 => ⟨inferInstance, ?_⟩) XT.stop
                      refine XT.q rfl rfl (Q.build [_, _, _] (.c 0 1 rfl rfl rfl (.c 1 1 rfl rfl rfl (.c 2 1 rfl rfl rfl (.n _))))) ?_
                      refine XT.call rfl rfl Try.call28 rfl rfl rfl (games_spec (sl := Arr.nil (fun _ => rfl)) ⟨zS, zC, zK, List.replicate m7.toNat 0, List.replicate m8.toNat false⟩ v215 v231 h215 h231 v234 v235 v236 h234 h235 h236 _ _ _ 0 (.slice none 0 0) h215 [] 0 1 ⟨by omega, by omega⟩ ⟨by omega, by omega⟩ (by first | (simp; done) | (dsimp only; omega) | (dsimp only; rw [List.length_replicate]; omega) | (dsimp only; rw [List.length_set]; decide) | decide | (dsimp only; decide) | omega) (by first | (simp; done) | (dsimp only; omega) | (dsimp only; rw [List.length_replicate]; omega) | (dsimp only; rw [List.length_set]; decide) | decide | (dsimp only; decide) | omega) (by first | (simp; done) | (dsimp only; omega) | (dsimp only; rw [List.length_replicate]; omega) | (dsimp only; rw [List.length_set]; decide) | decide | (dsimp only; decide) | omega) (by first | (simp; done) | (dsimp only; omega) | (dsimp only; rw [List.length_replicate]; omega) | (dsimp only; rw [List.length_set]; decide) | decide | (dsimp only; decide) | omega) (by first | (simp; done) | (dsimp only; omega) | (dsimp only; rw [List.length_replicate]; omega) | (dsimp only; rw [List.length_set]; decide) | decide | (dsimp only; decide) | omega) (by first | (simp; done) | (dsimp only; omega) | (dsimp only; rw [List.length_replicate]; omega) | (dsimp only; rw [List.length_set]; decide) | decide | (dsimp only; decide) | omega)) (fun v238 s238 R238 => ?_) XT.stop
                      obtain ⟨rfl, rfl⟩ := R238
                      dsimp only [List.cons_append, List.nil_append]
                      refine ⟨inferInstance, ?_⟩
                      refine XT.q rfl rfl (Q.not rfl) ?_
                      refine XT.q rfl rfl (Q.move rfl) ?_
                      refine XT.q rfl rfl (Quiet.guardF rfl rfl fun g241 p241 => Q.ldA [_, _, _, _, _] rfl rfl rfl) ?_
                      refine XT.callS rfl rfl rfl rfl rfl Try.call29 rfl (.n) rfl (example_spec) (fun v242 s242 R242 => ?_) XT.stop
                      obtain ⟨x242, y242, kx242, ky242, rfl, rfl, OX242, OY242⟩ := R242
                      dsimp only [List.cons_append, List.nil_append]
                      refine ⟨inferInstance, ?_⟩
                      refine XT.callS rfl rfl rfl rfl rfl Try.call3 rfl (.c (lzv rfl rfl) (.c rfl (.c rfl .n))) rfl (KeepMakes_spec ⟨zS, zC, zK, List.replicate m7.toNat 0, List.replicate m8.toNat false⟩ exG v215 v231 x242 y242 h215 h231 kx242 ky242 0) (fun v243 s243 R243 => ?_) XT.stop
                      obtain ⟨rfl, rfl⟩ := R243
                      dsimp only [List.cons_append, List.nil_append]
                      refine ⟨inferInstance, ?_⟩
                      refine XT.q rfl rfl (Quiet.guardF rfl rfl fun g244 p244 => Q.not rfl) ?_
                      refine XT.q rfl rfl (Q.or rfl (fun hp => lzv hp rfl)) ?_
                      refine XT.q rfl rfl (Q.move rfl) ?_
                      refine XT.q rfl rfl (Quiet.guardF rfl rfl fun g248 p248 => Q.ldA [_, _, _, _, _] rfl rfl rfl) ?_
                      refine XT.callS rfl rfl rfl rfl rfl Try.call29 rfl (.n) rfl (example_spec) (fun v247 s247 R247 => ?_) XT.stop
                      obtain ⟨x247, y247, kx247, ky247, rfl, rfl, OX247, OY247⟩ := R247
                      dsimp only [List.cons_append, List.nil_append]
                      refine ⟨inferInstance, ?_⟩
                      refine XT.callS rfl rfl rfl rfl rfl Try.call3 rfl (.c rfl (.c (lzv rfl rfl) (.c rfl .n))) rfl (KeepMakes_spec exG ⟨zS, zC, zK, List.replicate m7.toNat 0, List.replicate m8.toNat false⟩ x247 y247 v215 v231 kx247 ky247 h215 h231 1) (fun v249 s249 R249 => ?_) XT.stop
                      obtain ⟨rfl, rfl⟩ := R249
                      dsimp only [List.cons_append, List.nil_append]
                      refine ⟨inferInstance, ?_⟩
                      refine XT.q rfl rfl (Quiet.guardF rfl rfl fun g250 p250 => Q.not rfl) ?_
                      refine XT.q rfl rfl (Q.or rfl (fun hp => lzv hp rfl)) ?_
                      refine XT.done ?_
                      exact mtr51 (()) _ _ trivial (.c rfl (.base 19 rfl rfl)) inferInstance
                    · skip
                      refine XT.make encI (0) rfl rfl rfl rfl rfl (by omega) (by omega) (fun _ => rfl) rfl rfl rfl (by dsimp only [encI]; infer_instance) (fun v236 h236 O236 => ⟨inferInstance, ?_⟩) XT.stop
                      refine XT.lit [_, _] [_, _] [_, _] encI rfl rfl (by rfl) (by rfl) rfl (by rfl) (by exact .c 0 1 rfl rfl rfl (.c 1 1 rfl rfl rfl (.n _))) (fun _ => rfl) (by rfl) rfl (by infer_instance) rfl (fun v235 h235 O235 => ⟨inferInstance, ?_⟩) XT.stop
                      refine XT.q rfl rfl (Q.build [_, _, _] (.c 0 1 rfl rfl rfl (.c 1 1 rfl rfl rfl (.c 2 1 rfl rfl rfl (.n _))))) ?_
                      refine XT.call rfl rfl Try.call28 rfl rfl rfl (games_spec (sl := Arr.nil (fun _ => rfl)) ⟨zS, zC, zK, List.replicate m7.toNat 0, List.replicate m8.toNat false⟩ v215 v231 h215 h231 v234 v235 v236 h234 h235 h236 _ _ _ 0 (.slice none 0 0) h215 [] 0 1 ⟨by omega, by omega⟩ ⟨by omega, by omega⟩ (by first | (simp; done) | (dsimp only; omega) | (dsimp only; rw [List.length_replicate]; omega) | (dsimp only; rw [List.length_set]; decide) | decide | (dsimp only; decide) | omega) (by first | (simp; done) | (dsimp only; omega) | (dsimp only; rw [List.length_replicate]; omega) | (dsimp only; rw [List.length_set]; decide) | decide | (dsimp only; decide) | omega) (by first | (simp; done) | (dsimp only; omega) | (dsimp only; rw [List.length_replicate]; omega) | (dsimp only; rw [List.length_set]; decide) | decide | (dsimp only; decide) | omega) (by first | (simp; done) | (dsimp only; omega) | (dsimp only; rw [List.length_replicate]; omega) | (dsimp only; rw [List.length_set]; decide) | decide | (dsimp only; decide) | omega) (by first | (simp; done) | (dsimp only; omega) | (dsimp only; rw [List.length_replicate]; omega) | (dsimp only; rw [List.length_set]; decide) | decide | (dsimp only; decide) | omega) (by first | (simp; done) | (dsimp only; omega) | (dsimp only; rw [List.length_replicate]; omega) | (dsimp only; rw [List.length_set]; decide) | decide | (dsimp only; decide) | omega)) (fun v238 s238 R238 => ?_) XT.stop
                      obtain ⟨rfl, rfl⟩ := R238
                      dsimp only [List.cons_append, List.nil_append]
                      refine ⟨inferInstance, ?_⟩
                      refine XT.q rfl rfl (Q.not rfl) ?_
                      refine XT.q rfl rfl (Q.move rfl) ?_
                      refine XT.q rfl rfl (Quiet.guardF rfl rfl fun g241 p241 => Q.ldA [_, _, _, _, _] rfl rfl rfl) ?_
                      refine XT.callS rfl rfl rfl rfl rfl Try.call29 rfl (.n) rfl (example_spec) (fun v242 s242 R242 => ?_) XT.stop
                      obtain ⟨x242, y242, kx242, ky242, rfl, rfl, OX242, OY242⟩ := R242
                      dsimp only [List.cons_append, List.nil_append]
                      refine ⟨inferInstance, ?_⟩
                      refine XT.callS rfl rfl rfl rfl rfl Try.call3 rfl (.c (lzv rfl rfl) (.c rfl (.c rfl .n))) rfl (KeepMakes_spec ⟨zS, zC, zK, List.replicate m7.toNat 0, List.replicate m8.toNat false⟩ exG v215 v231 x242 y242 h215 h231 kx242 ky242 0) (fun v243 s243 R243 => ?_) XT.stop
                      obtain ⟨rfl, rfl⟩ := R243
                      dsimp only [List.cons_append, List.nil_append]
                      refine ⟨inferInstance, ?_⟩
                      refine XT.q rfl rfl (Quiet.guardF rfl rfl fun g244 p244 => Q.not rfl) ?_
                      refine XT.q rfl rfl (Q.or rfl (fun hp => lzv hp rfl)) ?_
                      refine XT.q rfl rfl (Q.move rfl) ?_
                      refine XT.q rfl rfl (Quiet.guardF rfl rfl fun g248 p248 => Q.ldA [_, _, _, _, _] rfl rfl rfl) ?_
                      refine XT.callS rfl rfl rfl rfl rfl Try.call29 rfl (.n) rfl (example_spec) (fun v247 s247 R247 => ?_) XT.stop
                      obtain ⟨x247, y247, kx247, ky247, rfl, rfl, OX247, OY247⟩ := R247
                      dsimp only [List.cons_append, List.nil_append]
                      refine ⟨inferInstance, ?_⟩
                      refine XT.callS rfl rfl rfl rfl rfl Try.call3 rfl (.c rfl (.c (lzv rfl rfl) (.c rfl .n))) rfl (KeepMakes_spec exG ⟨zS, zC, zK, List.replicate m7.toNat 0, List.replicate m8.toNat false⟩ x247 y247 v215 v231 kx247 ky247 h215 h231 1) (fun v249 s249 R249 => ?_) XT.stop
                      obtain ⟨rfl, rfl⟩ := R249
                      dsimp only [List.cons_append, List.nil_append]
                      refine ⟨inferInstance, ?_⟩
                      refine XT.q rfl rfl (Quiet.guardF rfl rfl fun g250 p250 => Q.not rfl) ?_
                      refine XT.q rfl rfl (Q.or rfl (fun hp => lzv hp rfl)) ?_
                      refine XT.done ?_
                      exact mtr51 (()) _ _ trivial (.c rfl (.base 19 rfl rfl)) inferInstance
                  · skip
                    refine XT.lit [_, _] [_, _] [_, _] encI rfl rfl (by rfl) (by rfl) rfl (by rfl) (by exact .c 0 1 rfl rfl rfl (.c 1 1 rfl rfl rfl (.n _))) (fun _ => rfl) (by rfl) rfl (by infer_instance) rfl (fun v235 h235 O235 => ⟨inferInstance, ?_⟩) ?_
                    · skip
                      refine XT.make encB (false) rfl rfl rfl rfl rfl (by omega) (by omega) (fun _ => rfl) rfl rfl rfl (by dsimp only [encB]; infer_instance) (fun v234 h234 O234 => ⟨inferInstance, ?_⟩) ?_
                      · skip
                        refine XT.make encI (0) rfl rfl rfl rfl rfl (by omega) (by omega) (fun _ => rfl) rfl rfl rfl (by dsimp only [encI]; infer_instance) (fun v236 h236 O236 => ⟨inferInstance, ?_⟩) XT.stop
                        refine XT.q rfl rfl (Q.build [_, _, _] (.c 0 1 rfl rfl rfl (.c 1 1 rfl rfl rfl (.c 2 1 rfl rfl rfl (.n _))))) ?_
                        refine XT.call rfl rfl Try.call28 rfl rfl rfl (games_spec (sl := Arr.nil (fun _ => rfl)) ⟨zS, zC, zK, List.replicate m7.toNat 0, List.replicate m8.toNat false⟩ v215 v231 h215 h231 v234 v235 v236 h234 h235 h236 _ _ _ 0 (.slice none 0 0) h215 [] 0 1 ⟨by omega, by omega⟩ ⟨by omega, by omega⟩ (by first | (simp; done) | (dsimp only; omega) | (dsimp only; rw [List.length_replicate]; omega) | (dsimp only; rw [List.length_set]; decide) | decide | (dsimp only; decide) | omega) (by first | (simp; done) | (dsimp only; omega) | (dsimp only; rw [List.length_replicate]; omega) | (dsimp only; rw [List.length_set]; decide) | decide | (dsimp only; decide) | omega) (by first | (simp; done) | (dsimp only; omega) | (dsimp only; rw [List.length_replicate]; omega) | (dsimp only; rw [List.length_set]; decide) | decide | (dsimp only; decide) | omega) (by first | (simp; done) | (dsimp only; omega) | (dsimp only; rw [List.length_replicate]; omega) | (dsimp only; rw [List.length_set]; decide) | decide | (dsimp only; decide) | omega) (by first | (simp; done) | (dsimp only; omega) | (dsimp only; rw [List.length_replicate]; omega) | (dsimp only; rw [List.length_set]; decide) | decide | (dsimp only; decide) | omega) (by first | (simp; done) | (dsimp only; omega) | (dsimp only; rw [List.length_replicate]; omega) | (dsimp only; rw [List.length_set]; decide) | decide | (dsimp only; decide) | omega)) (fun v238 s238 R238 => ?_) XT.stop
                        obtain ⟨rfl, rfl⟩ := R238
                        dsimp only [List.cons_append, List.nil_append]
                        refine ⟨inferInstance, ?_⟩
                        refine XT.q rfl rfl (Q.not rfl) ?_
                        refine XT.q rfl rfl (Q.move rfl) ?_
                        refine XT.q rfl rfl (Quiet.guardF rfl rfl fun g241 p241 => Q.ldA [_, _, _, _, _] rfl rfl rfl) ?_
                        refine XT.callS rfl rfl rfl rfl rfl Try.call29 rfl (.n) rfl (example_spec) (fun v242 s242 R242 => ?_) XT.stop
                        obtain ⟨x242, y242, kx242, ky242, rfl, rfl, OX242, OY242⟩ := R242
                        dsimp only [List.cons_append, List.nil_append]
                        refine ⟨inferInstance, ?_⟩
                        refine XT.callS rfl rfl rfl rfl rfl Try.call3 rfl (.c (lzv rfl rfl) (.c rfl (.c rfl .n))) rfl (KeepMakes_spec ⟨zS, zC, zK, List.replicate m7.toNat 0, List.replicate m8.toNat false⟩ exG v215 v231 x242 y242 h215 h231 kx242 ky242 0) (fun v243 s243 R243 => ?_) XT.stop
                        obtain ⟨rfl, rfl⟩ := R243
                        dsimp only [List.cons_append, List.nil_append]
                        refine ⟨inferInstance, ?_⟩
                        refine XT.q rfl rfl (Quiet.guardF rfl rfl fun g244 p244 => Q.not rfl) ?_
                        refine XT.q rfl rfl (Q.or rfl (fun hp => lzv hp rfl)) ?_
                        refine XT.q rfl rfl (Q.move rfl) ?_
                        refine XT.q rfl rfl (Quiet.guardF rfl rfl fun g248 p248 => Q.ldA [_, _, _, _, _] rfl rfl rfl) ?_
                        refine XT.callS rfl rfl rfl rfl rfl Try.call29 rfl (.n) rfl (example_spec) (fun v247 s247 R247 => ?_) XT.stop
                        obtain ⟨x247, y247, kx247, ky247, rfl, rfl, OX247, OY247⟩ := R247
                        dsimp only [List.cons_append, List.nil_append]
                        refine ⟨inferInstance, ?_⟩
                        refine XT.callS rfl rfl rfl rfl rfl Try.call3 rfl (.c rfl (.c (lzv rfl rfl) (.c rfl .n))) rfl (KeepMakes_spec exG ⟨zS, zC, zK, List.replicate m7.toNat 0, List.replicate m8.toNat false⟩ x247 y247 v215 v231 kx247 ky247 h215 h231 1) (fun v249 s249 R249 => ?_) XT.stop
                        obtain ⟨rfl, rfl⟩ := R249
                        dsimp only [List.cons_append, List.nil_append]
                        refine ⟨inferInstance, ?_⟩
                        refine XT.q rfl rfl (Quiet.guardF rfl rfl fun g250 p250 => Q.not rfl) ?_
                        refine XT.q rfl rfl (Q.or rfl (fun hp => lzv hp rfl)) ?_
                        refine XT.done ?_
                        exact mtr51 (()) _ _ trivial (.c rfl (.base 19 rfl rfl)) inferInstance
                      · skip
                        refine XT.make encI (0) rfl rfl rfl rfl rfl (by omega) (by omega) (fun _ => rfl) rfl rfl rfl (by dsimp only [encI]; infer_instance) (fun v236 h236 O236 => ⟨inferInstance, ?_⟩) XT.stop
                        refine XT.make encB (false) rfl rfl rfl rfl rfl (by omega) (by omega) (fun _ => rfl) rfl rfl rfl (by dsimp only [encB]; infer_instance) (fun v234 h234 O234 => ⟨inferInstance, ?_⟩) XT.stop
                        refine XT.q rfl rfl (Q.build [_, _, _] (.c 0 1 rfl rfl rfl (.c 1 1 rfl rfl rfl (.c 2 1 rfl rfl rfl (.n _))))) ?_
                        refine XT.call rfl rfl Try.call28 rfl rfl rfl (games_spec (sl := Arr.nil (fun _ => rfl)) ⟨zS, zC, zK, List.replicate m7.toNat 0, List.replicate m8.toNat false⟩ v215 v231 h215 h231 v234 v235 v236 h234 h235 h236 _ _ _ 0 (.slice none 0 0) h215 [] 0 1 ⟨by omega, by omega⟩ ⟨by omega, by omega⟩ (by first | (simp; done) | (dsimp only; omega) | (dsimp only; rw [List.length_replicate]; omega) | (dsimp only; rw [List.length_set]; decide) | decide | (dsimp only; decide) | omega) (by first | (simp; done) | (dsimp only; omega) | (dsimp only; rw [List.length_replicate]; omega) | (dsimp only; rw [List.length_set]; decide) | decide | (dsimp only; decide) | omega) (by first | (simp; done) | (dsimp only; omega) | (dsimp only; rw [List.length_replicate]; omega) | (dsimp only; rw [List.length_set]; decide) | decide | (dsimp only; decide) | omega) (by first | (simp; done) | (dsimp only; omega) | (dsimp only; rw [List.length_replicate]; omega) | (dsimp only; rw [List.length_set]; decide) | decide | (dsimp only; decide) | omega) (by first | (simp; done) | (dsimp only; omega) | (dsimp only; rw [List.length_replicate]; omega) | (dsimp only; rw [List.length_set]; decide) | decide | (dsimp only; decide) | omega) (by first | (simp; done) | (dsimp only; omega) | (dsimp only; rw [List.length_replicate]; omega) | (dsimp only; rw [List.length_set]; decide) | decide | (dsimp only; decide) | omega)) (fun v238 s238 R238 => ?_) XT.stop
                        obtain ⟨rfl, rfl⟩ := R238
                        dsimp only [List.cons_append, List.nil_append]
                        refine ⟨inferInstance, ?_⟩
                        refine XT.q rfl rfl (Q.not rfl) ?_
                        refine XT.q rfl rfl (Q.move rfl) ?_
                        refine XT.q rfl rfl (Quiet.guardF rfl rfl fun g241 p241 => Q.ldA [_, _, _, _, _] rfl rfl rfl) ?_
                        refine XT.callS rfl rfl rfl rfl rfl Try.call29 rfl (.n) rfl (example_spec) (fun v242 s242 R242 => ?_) XT.stop
                        obtain ⟨x242, y242, kx242, ky242, rfl, rfl, OX242, OY242⟩ := R242
                        dsimp only [List.cons_append, List.nil_append]
                        refine ⟨inferInstance, ?_⟩
                        refine XT.callS rfl rfl rfl rfl rfl Try.call3 rfl (.c (lzv rfl rfl) (.c rfl (.c rfl .n))) rfl (KeepMakes_spec ⟨zS, zC, zK, List.replicate m7.toNat 0, List.replicate m8.toNat false⟩ exG v215 v231 x242 y242 h215 h231 kx242 ky242 0) (fun v243 s243 R243 => ?_) XT.stop
                        obtain ⟨rfl, rfl⟩ := R243
                        dsimp only [List.cons_append, List.nil_append]
                        refine ⟨inferInstance, ?_⟩
                        refine XT.q rfl rfl (Quiet.guardF rfl rfl fun g244 p244 => Q.not rfl) ?_
                        refine XT.q rfl rfl (Q.or rfl (fun hp => lzv hp rfl)) ?_
                        refine XT.q rfl rfl (Q.move rfl) ?_
                        refine XT.q rfl rfl (Quiet.guardF rfl rfl fun g248 p248 => Q.ldA [_, _, _, _, _] rfl rfl rfl) ?_
                        refine XT.callS rfl rfl rfl rfl rfl Try.call29 rfl (.n) rfl (example_spec) (fun v247 s247 R247 => ?_) XT.stop
                        obtain ⟨x247, y247, kx247, ky247, rfl, rfl, OX247, OY247⟩ := R247
                        dsimp only [List.cons_append, List.nil_append]
                        refine ⟨inferInstance, ?_⟩
                        refine XT.callS rfl rfl rfl rfl rfl Try.call3 rfl (.c rfl (.c (lzv rfl rfl) (.c rfl .n))) rfl (KeepMakes_spec exG ⟨zS, zC, zK, List.replicate m7.toNat 0, List.replicate m8.toNat false⟩ x247 y247 v215 v231 kx247 ky247 h215 h231 1) (fun v249 s249 R249 => ?_) XT.stop
                        obtain ⟨rfl, rfl⟩ := R249
                        dsimp only [List.cons_append, List.nil_append]
                        refine ⟨inferInstance, ?_⟩
                        refine XT.q rfl rfl (Quiet.guardF rfl rfl fun g250 p250 => Q.not rfl) ?_
                        refine XT.q rfl rfl (Q.or rfl (fun hp => lzv hp rfl)) ?_
                        refine XT.done ?_
                        exact mtr51 (()) _ _ trivial (.c rfl (.base 19 rfl rfl)) inferInstance
                    · skip
                      refine XT.make encI (0) rfl rfl rfl rfl rfl (by omega) (by omega) (fun _ => rfl) rfl rfl rfl (by dsimp only [encI]; infer_instance) (fun v236 h236 O236 => ⟨inferInstance, ?_⟩) XT.stop
                      refine XT.make encB (false) rfl rfl rfl rfl rfl (by omega) (by omega) (fun _ => rfl) rfl rfl rfl (by dsimp only [encB]; infer_instance) (fun v234 h234 O234 => ⟨inferInstance, ?_⟩) ?_
                      · skip
                        refine XT.lit [_, _] [_, _] [_, _] encI rfl rfl (by rfl) (by rfl) rfl (by rfl) (by exact .c 0 1 rfl rfl rfl (.c 1 1 rfl rfl rfl (.n _))) (fun _ => rfl) (by rfl) rfl (by infer_instance) rfl (fun v235 h235 O235 => ⟨inferInstance, ?_⟩) XT.stop
                        refine XT.q rfl rfl (Q.build [_, _, _] (.c 0 1 rfl rfl rfl (.c 1 1 rfl rfl rfl (.c 2 1 rfl rfl rfl (.n _))))) ?_
                        refine XT.call rfl rfl Try.call28 rfl rfl rfl (games_spec (sl := Arr.nil (fun _ => rfl)) ⟨zS, zC, zK, List.replicate m7.toNat 0, List.replicate m8.toNat false⟩ v215 v231 h215 h231 v234 v235 v236 h234 h235 h236 _ _ _ 0 (.slice none 0 0) h215 [] 0 1 ⟨by omega, by omega⟩ ⟨by omega, by omega⟩ (by first | (simp; done) | (dsimp only; omega) | (dsimp only; rw [List.length_replicate]; omega) | (dsimp only; rw [List.length_set]; decide) | decide | (dsimp only; decide) | omega) (by first | (simp; done) | (dsimp only; omega) | (dsimp only; rw [List.length_replicate]; omega) | (dsimp only; rw [List.length_set]; decide) | decide | (dsimp only; decide) | omega) (by first | (simp; done) | (dsimp only; omega) | (dsimp only; rw [List.length_replicate]; omega) | (dsimp only; rw [List.length_set]; decide) | decide | (dsimp only; decide) | omega) (by first | (simp; done) | (dsimp only; omega) | (dsimp only; rw [List.length_replicate]; omega) | (dsimp only; rw [List.length_set]; decide) | decide | (dsimp only; decide) | omega) (by first | (simp; done) | (dsimp only; omega) | (dsimp only; rw [List.length_replicate]; omega) | (dsimp only; rw [List.length_set]; decide) | decide | (dsimp only; decide) | omega) (by first | (simp; done) | (dsimp only; omega) | (dsimp only; rw [List.length_replicate]; omega) | (dsimp only; rw [List.length_set]; decide) | decide | (dsimp only; decide) | omega)) (fun v238 s238 R238 => ?_) XT.stop
                        obtain ⟨rfl, rfl⟩ := R238
                        dsimp only [List.cons_append, List.nil_append]
                        refine ⟨inferInstance, ?_⟩
                        refine XT.q rfl rfl (Q.not rfl) ?_
                        refine XT.q rfl rfl (Q.move rfl) ?_
                        refine XT.q rfl rfl (Quiet.guardF rfl rfl fun g241 p241 => Q.ldA [_, _, _, _, _] rfl rfl rfl) ?_
                        refine XT.callS rfl rfl rfl rfl rfl Try.call29 rfl (.n) rfl (example_spec) (fun v242 s242 R242 => ?_) XT.stop
                        obtain ⟨x242, y242, kx242, ky242, rfl, rfl, OX242, OY242⟩ := R242
                        dsimp only [List.cons_append, List.nil_append]
                        refine ⟨inferInstance, ?_⟩
                        refine XT.callS rfl rfl rfl rfl rfl Try.call3 rfl (.c (lzv rfl rfl) (.c rfl (.c rfl .n))) rfl (KeepMakes_spec ⟨zS, zC, zK, List.replicate m7.toNat 0, List.replicate m8.toNat false⟩ exG v215 v231 x242 y242 h215 h231 kx242 ky242 0) (fun v243 s243 R243 => ?_) XT.stop
                        obtain ⟨rfl, rfl⟩ := R243
                        dsimp only [List.cons_append, List.nil_append]
                        refine ⟨inferInstance, ?_⟩
                        refine XT.q rfl rfl (Quiet.guardF rfl rfl fun g244 p244 => Q.not rfl) ?_
                        refine XT.q rfl rfl (Q.or rfl (fun hp => lzv hp rfl)) ?_
                        refine XT.q rfl rfl (Q.move rfl) ?_
                        refine XT.q rfl rfl (Quiet.guardF rfl rfl fun g248 p248 => Q.ldA [_, _, _, _, _] rfl rfl rfl) ?_
                        refine XT.callS rfl rfl rfl rfl rfl Try.call29 rfl (.n) rfl (example_spec) (fun v247 s247 R247 => ?_) XT.stop
                        obtain ⟨x247, y247, kx247, ky247, rfl, rfl, OX247, OY247⟩ := R247
                        dsimp only [List.cons_append, List.nil_append]
                        refine ⟨inferInstance, ?_⟩
                        refine XT.callS rfl rfl rfl rfl rfl Try.call3 rfl (.c rfl (.c (lzv rfl rfl) (.c rfl .n))) rfl (KeepMakes_spec exG ⟨zS, zC, zK, List.replicate m7.toNat 0, List.replicate m8.toNat false⟩ x247 y247 v215 v231 kx247 ky247 h215 h231 1) (fun v249 s249 R249 => ?_) XT.stop
                        obtain ⟨rfl, rfl⟩ := R249
                        dsimp only [List.cons_append, List.nil_append]
                        refine ⟨inferInstance, ?_⟩
                        refine XT.q rfl rfl (Quiet.guardF rfl rfl fun g250 p250 => Q.not rfl) ?_
                        refine XT.q rfl rfl (Q.or rfl (fun hp => lzv hp rfl)) ?_
                        refine XT.done ?_
                        exact mtr51 (()) _ _ trivial (.c rfl (.base 19 rfl rfl)) inferInstance
                      · skip
                        refine XT.lit [_, _] [_, _] [_, _] encI rfl rfl (by rfl) (by rfl) rfl (by rfl) (by exact .c 0 1 rfl rfl rfl (.c 1 1 rfl rfl rfl (.n _))) (fun _ => rfl) (by rfl) rfl (by infer_instance) rfl (fun v235 h235 O235 => ⟨inferInstance, ?_⟩) XT.stop
                        refine XT.make encB (false) rfl rfl rfl rfl rfl (by omega) (by omega) (fun _ => rfl) rfl rfl rfl (by dsimp only [encB]; infer_instance) (fun v234 h234 O234 => ⟨inferInstance, ?_⟩) XT.stop
                        refine XT.q rfl rfl (Q.build [_, _, _] (.c 0 1 rfl rfl rfl (.c 1 1 rfl rfl rfl (.c 2 1 rfl rfl rfl (.n _))))) ?_
                        refine XT.call rfl rfl Try.call28 rfl rfl rfl (games_spec (sl := Arr.nil (fun _ => rfl)) ⟨zS, zC, zK, List.replicate m7.toNat 0, List.replicate m8.toNat false⟩ v215 v231 h215 h231 v234 v235 v236 h234 h235 h236 _ _ _ 0 (.slice none 0 0) h215 [] 0 1 ⟨by omega, by omega⟩ ⟨by omega, by omega⟩ (by first | (simp; done) | (dsimp only; omega) | (dsimp only; rw [List.length_replicate]; omega) | (dsimp only; rw [List.length_set]; decide) | decide | (dsimp only; decide) | omega) (by first | (simp; done) | (dsimp only; omega) | (dsimp only; rw [List.length_replicate]; omega) | (dsimp only; rw [List.length_set]; decide) | decide | (dsimp only; decide) | omega) (by first | (simp; done) | (dsimp only; omega) | (dsimp only; rw [List.length_replicate]; omega) | (dsimp only; rw [List.length_set]; decide) | decide | (dsimp only; decide) | omega) (by first | (simp; done) | (dsimp only; omega) | (dsimp only; rw [List.length_replicate]; omega) | (dsimp only; rw [List.length_set]; decide) | decide | (dsimp only; decide) | omega) (by first | (simp; done) | (dsimp only; omega) | (dsimp only; rw [List.length_replicate]; omega) | (dsimp only; rw [List.length_set]; decide) | decide | (dsimp only; decide) | omega) (by first | (simp; done) | (dsimp only; omega) | (dsimp only; rw [List.length_replicate]; omega) | (dsimp only; rw [List.length_set]; decide) | decide | (dsimp only; decide) | omega)) (fun v238 s238 R238 => ?_) XT.stop
                        obtain ⟨rfl, rfl⟩ := R238
                        dsimp only [List.cons_append, List.nil_append]
                        refine ⟨inferInstance, ?_⟩
                        refine XT.q rfl rfl (Q.not rfl) ?_
                        refine XT.q rfl rfl (Q.move rfl) ?_
                        refine XT.q rfl rfl (Quiet.guardF rfl rfl fun g241 p241 => Q.ldA [_, _, _, _, _] rfl rfl rfl) ?_
                        refine XT.callS rfl rfl rfl rfl rfl Try.call29 rfl (.n) rfl (example_spec) (fun v242 s242 R242 => ?_) XT.stop
                        obtain ⟨x242, y242, kx242, ky242, rfl, rfl, OX242, OY242⟩ := R242
                        dsimp only [List.cons_append, List.nil_append]
                        refine ⟨inferInstance, ?_⟩
                        refine XT.callS rfl rfl rfl rfl rfl Try.call3 rfl (.c (lzv rfl rfl) (.c rfl (.c rfl .n))) rfl (KeepMakes_spec ⟨zS, zC, zK, List.replicate m7.toNat 0, List.replicate m8.toNat false⟩ exG v215 v231 x242 y242 h215 h231 kx242 ky242 0) (fun v243 s243 R243 => ?_) XT.stop
                        obtain ⟨rfl, rfl⟩ := R243
                        dsimp only [List.cons_append, List.nil_append]
                        refine ⟨inferInstance, ?_⟩
                        refine XT.q rfl rfl (Quiet.guardF rfl rfl fun g244 p244 => Q.not rfl) ?_
                        refine XT.q rfl rfl (Q.or rfl (fun hp => lzv hp rfl)) ?_
                        refine XT.q rfl rfl (Q.move rfl) ?_
                        refine XT.q rfl rfl (Quiet.guardF rfl rfl fun g248 p248 => Q.ldA [_, _, _, _, _] rfl rfl rfl) ?_
                        refine XT.callS rfl rfl rfl rfl rfl Try.call29 rfl (.n) rfl (example_spec) (fun v247 s247 R247 => ?_) XT.stop
                        obtain ⟨x247, y247, kx247, ky247, rfl, rfl, OX247, OY247⟩ := R247
                        dsimp only [List.cons_append, List.nil_append]
                        refine ⟨inferInstance, ?_⟩
                        refine XT.callS rfl rfl rfl rfl rfl Try.call3 rfl (.c rfl (.c (lzv rfl rfl) (.c rfl .n))) rfl (KeepMakes_spec exG ⟨zS, zC, zK, List.replicate m7.toNat 0, List.replicate m8.toNat false⟩ x247 y247 v215 v231 kx247 ky247 h215 h231 1) (fun v249 s249 R249 => ?_) XT.stop
                        obtain ⟨rfl, rfl⟩ := R249
                        dsimp only [List.cons_append, List.nil_append]
                        refine ⟨inferInstance, ?_⟩
                        refine XT.q rfl rfl (Quiet.guardF rfl rfl fun g250 p250 => Q.not rfl) ?_
                        refine XT.q rfl rfl (Q.or rfl (fun hp => lzv hp rfl)) ?_
                        refine XT.done ?_
                        exact mtr51 (()) _ _ trivial (.c rfl (.base 19 rfl rfl)) inferInstance
              · have _t11 := True.intro
                refine XK.exit rfl ?_
                refine XK.inBlock ?_
                refine XK.region rfl ?_
                refine XO.q (Q.add rfl rfl ⟨by omega, by omega⟩) ?_
                refine XO.q (Q.move rfl) ?_
                refine XO.done ?_
                exact ih7 (j + 1, v215, vg8) _ _ (by dsimp only; omega) (by first | omega | (dsimp only; omega)) (.c rfl (.base 98 rfl rfl)) inferInstance
            · have _t10 := True.intro
              refine XK.exit rfl ?_
              refine XK.inBlock ?_
              refine XK.region rfl ?_
              refine XO.q (Q.add rfl rfl ⟨by omega, by omega⟩) ?_
              refine XO.q (Q.move rfl) ?_
              refine XO.done ?_
              exact ih6 (i + 1) _ _ (by omega) (by first | omega | (dsimp only; omega)) (.c rfl (.base 170 rfl rfl)) inferInstance
          · intro mtr41
            dsimp only [List.cons_append, List.nil_append] at mtr41
            refine XK.region rfl ?_
            refine XO.q (Q.fieldAddr rfl) ?_
            rw [show (0 : Nat) + 0 = 0 from rfl]
            refine XO.q (Q.fieldAddr rfl) ?_
            refine XO.q (Q.fieldAddr rfl) ?_
            refine XO.lit [_, _, _] [_, _, _] [_, _, _] encV (by rfl) (by rfl) rfl (by rfl) (by exact .c 0 1 rfl rfl rfl (.c 1 1 rfl rfl rfl (.c 2 1 rfl rfl rfl (.n _)))) (fun _ => rfl) (by rfl) rfl (by infer_instance) rfl fun v185 h185 O185 => ?_
            rcases (show i = 0 ∨ i = 1 ∨ i = 2 by omega) with rfl | rfl | rfl
            · have _tb := True.intro
              refine XO.q (Q.move rfl) ?_
              refine XO.ix rfl rfl (by omega) (by show _ < (3 : Int); omega) fun i187 => ?_
              refine XO.q (Q.ldE rfl (by first | assumption | omega) rfl) ?_
              refine XO.q (Q.move rfl) ?_
              refine XO.q (Q.nilCheck rfl) ?_
              refine XO.st rfl rfl rfl ?_
              refine XO.done ?_
              exact mtr41 (n, 1, 1) _ _ (sized1 hnb) (.base 9 rfl rfl) inferInstance
            · have _tb := True.intro
              refine XO.q (Q.move rfl) ?_
              refine XO.ix rfl rfl (by omega) (by show _ < (3 : Int); omega) fun i187 => ?_
              refine XO.q (Q.ldE rfl (by first | assumption | omega) rfl) ?_
              refine XO.q (Q.move rfl) ?_
              refine XO.q (Q.nilCheck rfl) ?_
              refine XO.st rfl rfl rfl ?_
              refine XO.done ?_
              exact mtr41 (2, n, 1) _ _ (sized2 hnb) (.base 9 rfl rfl) inferInstance
            · have _tb := True.intro
              refine XO.q (Q.move rfl) ?_
              refine XO.ix rfl rfl (by omega) (by show _ < (3 : Int); omega) fun i187 => ?_
              refine XO.q (Q.ldE rfl (by first | assumption | omega) rfl) ?_
              refine XO.q (Q.move rfl) ?_
              refine XO.q (Q.nilCheck rfl) ?_
              refine XO.st rfl rfl rfl ?_
              refine XO.done ?_
              exact mtr41 (2, 1, n) _ _ (sized3 hnb) (.base 9 rfl rfl) inferInstance
        · have _t9 := True.intro
          refine XK.exit rfl ?_
          refine XK.inBlock ?_
          refine XK.region rfl ?_
          refine XO.q (Q.add rfl rfl ⟨by omega, by omega⟩) ?_
          refine XO.q (Q.move rfl) ?_
          refine XO.done ?_
          exact ih5 (k + 1) _ _ (by omega) (by first | omega | (dsimp only; omega)) (.c rfl (.base 182 rfl rfl)) inferInstance
      · have _t8 := True.intro
        refine XK.exit rfl ?_
        refine XK.seq ?_
        refine XK.seq ?_
        refine XK.region rfl ?_
        refine XO.lit [_, _, _, _, _] [_, _, _, _, _] [_, _, _, _, _] encI (by rfl) (by rfl) rfl (by rfl) (by exact .c 0 1 rfl rfl rfl (.c 1 1 rfl rfl rfl (.c 2 1 rfl rfl rfl (.c 3 1 rfl rfl rfl (.c 4 1 rfl rfl rfl (.n _)))))) (fun _ => rfl) (by rfl) rfl (by infer_instance) rfl fun v256 h256 O256 => ?_
        refine XO.len rfl fun l257 => ?_
        rw [show ((([-2, -1, 0, 2, 3] : List Int).length : Nat) : Int) = 5 from rfl]
        refine XO.q (Q.move rfl) ?_
        refine XO.done ?_
        refine XK.block ?_
        refine XK.while (X := Nat) [0, 22, 23, 258, 259, 260, 261, 262, 263, 264, 265, 266, 267, 268, 269, 270, 271, 272, 273, 274, 275, 276, 277, 278, 279, 280, 281, 282, 283, 284, 285, 286] (fun k => [(258, some (.int .i64 (k : Nat)))]) (fun k => []) (fun k => k ≤ 5) (fun k => 5 - k) (0) [] rfl (by omega) (.c rfl (.base 0 rfl rfl)) ?_
        rintro k hk ih9
        dsimp only [List.cons_append, List.nil_append] at ih9 ⊢
        refine XK.seq ?_
        refine XK.region rfl ?_
        refine XO.q (Q.lss rfl rfl) ?_
        refine XO.done ?_
        refine XK.seq ?_
        refine XK.if rfl (fun c13 => ?_) (fun c13 => ?_)
        · have _t13 := True.intro
          refine XK.skip ?_
          refine XK.seq ?_
          refine XK.block ?_
          refine XK.seq ?_
          refine XK.region rfl ?_
          refine XO.ix rfl rfl (by omega) (by show (k : Int) < 5; omega) fun i260 => ?_
          refine XO.q (Q.ldE rfl (by first | assumption | omega) rfl) ?_
          obtain ⟨n, en⟩ : ∃ n, n = ([-2, -1, 0, 2, 3] : List Int).getD k default := ⟨_, rfl⟩
          rw [← en]
          refine XO.q (Q.assign rfl) ?_
          refine XO.done ?_
          refine XK.seq ?_
          refine XK.region rfl ?_
          refine XO.call Try.call29 rfl rfl rfl (example_spec) fun v262 s262 R262 => ?_
          obtain ⟨x262, y262, kx262, ky262, rfl, rfl, OX262, OY262⟩ := R262
          dsimp only [List.cons_append, List.nil_append]
          refine XO.alloc fun b23 => ?_
          refine XO.st rfl rfl rfl ?_
          refine XO.done ?_
          refine XK.seq ?_
          refine XK.region rfl ?_
          refine XO.q (Q.fieldAddr rfl) ?_
          refine XO.q (Q.ld rfl rfl) ?_
          refine XO.q (Q.move rfl) ?_
          refine XO.ix rfl rfl (by omega) (by show (5 : Int) < 12; omega) fun i266 => ?_
          refine XO.stE _ rfl rfl rfl (by assumption) rfl rfl fun h61_4 O61_4 => ?_
          refine XO.done ?_
          refine XK.seq ?_
          refine XK.drawn [0, 1, 4, 5, 6, 8, 10, 11, 12, 14, 15, 17, 18] [b23] [] (.q 0 (.q 1 (.br 2 true (.br 3 true (.q 4 (.q 5 (.q 6 (.q 8 (.br 7 true (.br 9 true (.q 10 (.q 11 (.q 12 (.q 14 (.q 15 (.br 13 true (.br 16 true (.q 17 (.q 18 .done)) .stop) .stop)))))) .stop) .stop))))) .stop) .stop))) Try.mixed rfl (by kernel_rfl) ?_
          refine XT.q rfl rfl (Q.ldA [_, _, _, _, _] rfl rfl rfl) ?_
          refine XT.q rfl rfl (Q.build [_, _, _] (.n _)) ?_
          refine XT.lit [_, _] [_, _] [_, _] encI rfl rfl (by rfl) (by rfl) rfl (by rfl) (by exact .c 0 1 rfl rfl rfl (.c 1 1 rfl rfl rfl (.n _))) (fun _ => rfl) (by rfl) rfl (by infer_instance) rfl (fun v269 h269 O269 => ⟨inferInstance, ?_⟩) XT.stop
          refine XT.call rfl rfl Try.call28 rfl rfl rfl (games_spec (si := Arr.nil (fun _ => rfl)) (sc := Arr.nil (fun _ => rfl)) (sr := Arr.nil (fun _ => rfl)) ⟨exG.S, exG.C, exG.K, exG.next.set 5 n, exG.good⟩ x262 y262 h61_4 ky262 (.slice none 0 0) (.slice none 0 0) (.slice none 0 0) ky262 ky262 ky262 [] [] [] 0 v269 h269 [0, 1] 1 1 ⟨by omega, by omega⟩ ⟨by omega, by omega⟩ (by first | (simp; done) | (dsimp only; omega) | (dsimp only; rw [List.length_replicate]; omega) | (dsimp only; rw [List.length_set]; decide) | decide | (dsimp only; decide) | omega) (by first | (simp; done) | (dsimp only; omega) | (dsimp only; rw [List.length_replicate]; omega) | (dsimp only; rw [List.length_set]; decide) | decide | (dsimp only; decide) | omega) (by first | (simp; done) | (dsimp only; omega) | (dsimp only; rw [List.length_replicate]; omega) | (dsimp only; rw [List.length_set]; decide) | decide | (dsimp only; decide) | omega) (by first | (simp; done) | (dsimp only; omega) | (dsimp only; rw [List.length_replicate]; omega) | (dsimp only; rw [List.length_set]; decide) | decide | (dsimp only; decide) | omega) (by first | (simp; done) | (dsimp only; omega) | (dsimp only; rw [List.length_replicate]; omega) | (dsimp only; rw [List.length_set]; decide) | decide | (dsimp only; decide) | omega) (by first | (simp; done) | (dsimp only; omega) | (dsimp only; rw [List.length_replicate]; omega) | (dsimp only; rw [List.length_set]; decide) | decide | (dsimp only; decide) | omega)) (fun v270 s270 R270 => ?_) XT.stop
          obtain ⟨rfl, rfl⟩ := R270
          dsimp only [List.cons_append, List.nil_append]
          refine ⟨inferInstance, ?_⟩
          refine XT.q rfl rfl (Q.not rfl) ?_
          refine XT.q rfl rfl (Q.move rfl) ?_
          refine XT.q rfl rfl (Quiet.guardF rfl rfl fun g273 p273 => Q.ldA [_, _, _, _, _] rfl rfl rfl) ?_
          refine XT.q rfl rfl (Quiet.guardF rfl rfl fun g275 p275 => Q.move rfl) ?_
          refine XT.callS rfl rfl rfl rfl rfl Try.call29 rfl (.n) rfl (example_spec) (fun v274 s274 R274 => ?_) XT.stop
          obtain ⟨x274, y274, kx274, ky274, rfl, rfl, OX274, OY274⟩ := R274
          dsimp only [List.cons_append, List.nil_append]
          refine ⟨inferInstance, ?_⟩
          refine XT.callS rfl rfl rfl rfl rfl Try.call3 rfl (.c (lzv rfl rfl) (.c rfl (.c (lzv rfl rfl) .n))) rfl (KeepMakes_spec ⟨exG.S, exG.C, exG.K, exG.next.set 5 n, exG.good⟩ exG x262 y262 x274 y274 h61_4 ky262 kx274 ky274 n) (fun v276 s276 R276 => ?_) XT.stop
          obtain ⟨rfl, rfl⟩ := R276
          dsimp only [List.cons_append, List.nil_append]
          refine ⟨inferInstance, ?_⟩
          refine XT.q rfl rfl (Quiet.guardF rfl rfl fun g277 p277 => Q.not rfl) ?_
          refine XT.q rfl rfl (Q.or rfl (fun hp => lzv hp rfl)) ?_
          refine XT.q rfl rfl (Q.move rfl) ?_
          refine XT.q rfl rfl (Quiet.guardF rfl rfl fun g281 p281 => Q.ldA [_, _, _, _, _] rfl rfl rfl) ?_
          refine XT.q rfl rfl (Quiet.guardF rfl rfl fun g282 p282 => Q.move rfl) ?_
          refine XT.callS rfl rfl rfl rfl rfl Try.call29 rfl (.n) rfl (example_spec) (fun v280 s280 R280 => ?_) XT.stop
          obtain ⟨x280, y280, kx280, ky280, rfl, rfl, OX280, OY280⟩ := R280
          dsimp only [List.cons_append, List.nil_append]
          refine ⟨inferInstance, ?_⟩
          refine XT.callS rfl rfl rfl rfl rfl Try.call3 rfl (.c rfl (.c (lzv rfl rfl) (.c (lzv rfl rfl) .n))) rfl (KeepMakes_spec exG ⟨exG.S, exG.C, exG.K, exG.next.set 5 n, exG.good⟩ x280 y280 x262 y262 kx280 ky280 h61_4 ky262 n) (fun v283 s283 R283 => ?_) XT.stop
          obtain ⟨rfl, rfl⟩ := R283
          dsimp only [List.cons_append, List.nil_append]
          refine ⟨inferInstance, ?_⟩
          refine XT.q rfl rfl (Quiet.guardF rfl rfl fun g284 p284 => Q.not rfl) ?_
          refine XT.q rfl rfl (Q.or rfl (fun hp => lzv hp rfl)) ?_
          refine XT.done ?_
          refine XK.if rfl (fun c14 => ?_) (fun c14 => ?_)
          · have _t14 := True.intro
            simp at c14
          · have _t14 := True.intro
            refine XK.skip ?_
            refine XK.inBlock ?_
            refine XK.region rfl ?_
            refine XO.q (Q.add rfl rfl ⟨by omega, by omega⟩) ?_
            refine XO.q (Q.move rfl) ?_
            refine XO.done ?_
            exact ih9 (k + 1) _ _ (by omega) (by first | omega | (dsimp only; omega)) (.c rfl (.base 64 rfl rfl)) inferInstance
        · have _t13 := True.intro
          refine XK.exit rfl ?_
          refine XK.seq ?_
          refine XK.region rfl ?_
          refine XO.call Try.call29 rfl rfl rfl (example_spec) fun v288 s288 R288 => ?_
          obtain ⟨x288, y288, kx288, ky288, rfl, rfl, OX288, OY288⟩ := R288
          dsimp only [List.cons_append, List.nil_append]
          refine XO.call Try.call20 rfl rfl rfl (Solve_spec exG x288 y288 kx288 ky288) fun v289 s289 R289 => ?_
          obtain ⟨p, q, r, kp, kq, kr, rfl, rfl, OP, OQ, OR⟩ := R289
          dsimp only [List.cons_append, List.nil_append]
          refine XO.q (Q.move rfl) ?_
          refine XO.q (Q.extract rfl rfl) ?_
          refine XO.q (Q.extract rfl rfl) ?_
          refine XO.alloc fun b24 => ?_
          refine XO.st rfl rfl rfl ?_
          refine XO.q (Q.assign rfl) ?_
          refine XO.done ?_
          refine XK.seq ?_
          refine XK.region rfl ?_
          refine XO.make encI (0) rfl rfl rfl (by omega) (by omega) (fun _ => rfl) rfl rfl rfl (by dsimp only [encI]; infer_instance) fun v292 h292 O292 => ?_
          obtain ⟨Z, eZ⟩ : ∃ Z, Z = List.replicate (Int.toNat 10001) (0 : Int) := ⟨_, rfl⟩
          rw [← eZ] at O292
          have hzl : Z.length = 10001 := by rw [eZ, List.length_replicate]; rfl
          have hz0 : ∀ x ∈ Z, x = 0 := fun x hx => by rw [eZ] at hx; exact List.eq_of_mem_replicate hx
          have hz1 : ∀ x ∈ (Z.drop 1).take (Z.length - 1), x = 0 := fun x hx => hz0 x (List.mem_of_mem_drop (List.mem_of_mem_take hx))
          have hzc : ((Z.drop 1).take (Z.length - 1)).length = 10000 := by rw [List.length_take, List.length_drop]; omega
          clear eZ
          refine XO.q (Q.assign rfl) ?_
          refine XO.done ?_
          refine XK.seq ?_
          refine XK.drawn [1, 2, 3, 5, 6, 7, 8, 9] [b24] [] (.q 1 (.q 2 (.q 3 (.br 0 true (.br 4 true (.q 5 (.q 6 (.q 7 (.q 8 (.q 9 .done))))) .stop) .stop)))) Try.mixed rfl (by kernel_rfl) ?_
          refine XT.q rfl rfl (Q.ldA [_, _, _] rfl rfl rfl) ?_
          refine XT.q rfl rfl (Q.move rfl) ?_
          refine XT.q rfl rfl (Q.cut (i := 1) (j := Z.length) rfl (.s rfl (by omega)) .n (by omega) (by omega)) ?_
          refine XT.call rfl rfl Try.call29 rfl rfl rfl (example_spec) (fun v294 s294 R294 => ?_) XT.stop
          obtain ⟨x294, y294, kx294, ky294, rfl, rfl, OX294, OY294⟩ := R294
          dsimp only [List.cons_append, List.nil_append]
          refine ⟨inferInstance, ?_⟩
          haveI cA : Arr (cutv v292 1 1 Z.length) encI 1 h292 ((Z.drop 1).take (Z.length - 1)) := Arr.cut (OArr.arr (s := O292)) (by omega) (Nat.le_refl _)
          refine XT.call rfl rfl Try.call30 rfl rfl rfl (Play_spec exG x294 y294 kx294 ky294 p q r kp kq kr (solveG exG).1 (solveG exG).2.1 (solveG exG).2.2 0 _ h292 ((Z.drop 1).take (Z.length - 1))) (fun v298 s298 R298 => ?_) XT.stop
          obtain ⟨x298, k298, rfl, rfl, O298⟩ := R298
          dsimp only [List.cons_append, List.nil_append]
          refine ⟨inferInstance, ?_⟩
          rw [ex_play hz1 (by omega)] at O298
          rw [ex_play hz1 (by omega)]
          dsimp only at O298 ⊢
          refine XT.q rfl rfl (Q.move rfl) ?_
          refine XT.q rfl rfl (Q.extract rfl rfl) ?_
          refine XT.q rfl rfl (Q.extract rfl rfl) ?_
          refine XT.q rfl rfl (Q.assign rfl) ?_
          refine XT.q rfl rfl (Q.assign rfl) ?_
          refine XT.done ?_
          refine XK.seq ?_
          refine XK.drawn [1, 2, 4, 5, 6, 7, 8] [b24] [] (.q 1 (.q 2 (.br 0 true (.br 3 true (.q 4 (.q 5 (.q 6 (.q 7 (.q 8 .done))))) .stop) .stop))) Try.mixed rfl (by kernel_rfl) ?_
          refine XT.q rfl rfl (Q.ldA [_, _, _] rfl rfl rfl) ?_
          refine XT.q rfl rfl (Q.move rfl) ?_
          refine XT.call rfl rfl Try.call29 rfl rfl rfl (example_spec) (fun v302 s302 R302 => ?_) XT.stop
          obtain ⟨x302, y302, kx302, ky302, rfl, rfl, OX302, OY302⟩ := R302
          dsimp only [List.cons_append, List.nil_append]
          refine ⟨inferInstance, ?_⟩
          refine XT.call rfl rfl Try.call30 rfl rfl rfl (Play_spec exG x302 y302 kx302 ky302 p q r kp kq kr (solveG exG).1 (solveG exG).2.1 (solveG exG).2.2 0 v292 h292 Z) (fun v305 s305 R305 => ?_) XT.stop
          obtain ⟨x305, k305, rfl, rfl, O305⟩ := R305
          dsimp only [List.cons_append, List.nil_append]
          refine ⟨inferInstance, ?_⟩
          rw [ex_long hz0 (by omega)]
          dsimp only
          refine XT.q rfl rfl (Q.move rfl) ?_
          refine XT.q rfl rfl (Q.extract rfl rfl) ?_
          refine XT.q rfl rfl (Q.extract rfl rfl) ?_
          refine XT.q rfl rfl (Q.assign rfl) ?_
          refine XT.q rfl rfl (Q.assign rfl) ?_
          refine XT.done ?_
          refine XK.seq ?_
          refine XK.region rfl ?_
          refine XO.q (Q.move rfl) ?_
          refine XO.q (Q.eql rfl rfl) ?_
          refine XO.q (Q.move rfl) ?_
          refine XO.q (Quiet.guardT rfl rfl fun g311 p311 => Q.move rfl) ?_
          refine XO.q (Quiet.guardT rfl rfl fun g312 p312 => Q.eql (lzv g312 rfl) rfl) ?_
          refine XO.q (Q.and rfl (fun hp => lzv hp rfl)) ?_
          refine XO.q (Q.move rfl) ?_
          refine XO.q (Quiet.guardT rfl rfl fun g315 p315 => Q.move rfl) ?_
          refine XO.q (Quiet.guardT rfl rfl fun g316 p316 => Q.len (lzv g316 rfl)) ?_
          refine XO.q (Quiet.guardT rfl rfl fun g317 p317 => Q.eql (lzv g317 rfl) rfl) ?_
          refine XO.q (Q.and rfl (fun hp => lzv hp rfl)) ?_
          refine XO.q (Q.move rfl) ?_
          refine XO.q (Quiet.guardT rfl rfl fun g320 p320 => Q.move rfl) ?_
          refine XO.q (Quiet.guardT rfl rfl fun g321 p321 => Q.eql (lzv g321 rfl) rfl) ?_
          refine XO.q (Q.and rfl (fun hp => lzv hp rfl)) ?_
          refine XO.q (Q.move rfl) ?_
          refine XO.gcallT rfl rfl Try.call11 rfl (fun g324 => .n) rfl (fun g324 p324 => awake_spec) ?_
          refine XO.q (Q.and rfl (fun hp => lzv hp rfl)) ?_
          refine XO.q (Q.assign rfl) ?_
          refine XO.done ?_
          refine XK.rt [] Try.func7 Try.results7 (.t rfl .n) ?_
          exact ⟨by simp [ex1, play_len, hzl], rfl⟩
end Go.X
