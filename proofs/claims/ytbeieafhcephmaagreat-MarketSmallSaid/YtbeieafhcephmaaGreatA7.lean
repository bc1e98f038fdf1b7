/- A part of the proof: a small program logic, plain laws and contracts of functions, each proved by a walk through its operations. No condition but those that stand in each theorem. -/
import Derived.Test.YtbeieafhcephmaaGreatA6
set_option linter.unusedSimpArgs false
set_option linter.unusedVariables false
set_option maxRecDepth 20000
namespace Go.X
open Go.Proofs
def encPV (x : Value × Value × Int) : List Value := [x.1, x.2.1, .int .i64 x.2.2]
theorem pat_one {v : Value} {α : Type} {enc : α → List Value} {sz : Nat} {h : PHeap} {xs : List α} (s : Arr v enc sz h xs) {i : Nat} (hi : i < xs.length) (off : Nat) : One (pat v sz i off) := by
 obtain ⟨b, k, cs, T, fr, c, _, _, hp, _⟩ := s.at' hi
 rw [hp off]; infer_instance
theorem e17_bd : ∀ k, k < 17 → -1 ≤ ([-1, 0, 1, 2, 3, 10, 11, 20, 21, 24, 25, 40, 41, 1000, 1001, 10000, 10001] : List Int).getD k default ∧ ([-1, 0, 1, 2, 3, 10, 11, 20, 21, 24, 25, 40, 41, 1000, 1001, 10000, 10001] : List Int).getD k default ≤ 10001 := by decide
theorem e7_bd : ∀ k, k < 7 → 0 ≤ ([0, 1, 2, 9, 24, 25, 9223372036854775807] : List Int).getD k default ∧ ([0, 1, 2, 9, 24, 25, 9223372036854775807] : List Int).getD k default ≤ 9223372036854775807 := by decide
theorem e4_bd : ∀ k, k < 4 → 0 ≤ ([0, 1, 24, 25] : List Int).getD k default ∧ ([0, 1, 24, 25] : List Int).getD k default ≤ 25 := by decide
theorem e6_bd : ∀ k, k < 6 → 0 ≤ ([0, 1, 2, 3, 4, 5] : List Int).getD k default ∧ ([0, 1, 2, 3, 4, 5] : List Int).getD k default ≤ 5 := by decide
set_option maxHeartbeats 32000000 in
set_option synthInstance.maxSize 1000 in
set_option synthInstance.maxHeartbeats 400000 in
theorem MarketSmall_spec : Spec Tryz.prog 3 #[] [] [] (fun v hs => v = .bool true ∧ hs = []) := by
 have nH : OArr (.slice none 0 0) encHour 6 29 emp ([] : List KHour) := OArr.nil (fun _ => rfl)
 have oJ : OArr (.slice none 0 0) encJob 4 31 emp ([] : List KJob) := OArr.nil (fun _ => rfl)
 have oI : OArr (.slice none 0 0) encI 1 3 emp ([] : List Int) := OArr.nil (fun _ => rfl)
 have nJ : ∀ h, Arr (.slice none 0 0) encJob 4 h ([] : List KJob) := fun h => Arr.nil (fun _ => rfl)
 have nI : ∀ h, Arr (.slice none 0 0) encI 1 h ([] : List Int) := fun h => Arr.nil (fun _ => rfl)
 refine Spec.intro (fn := Tryz.f3) (N := 334) Tryz.func3 rfl Tryz.ntmps3 rfl fun B => ?_
 refine XK.seq ?_
 refine XK.region rfl ?_
 refine XO.q (Q.assign rfl) ?_
 refine XO.done ?_
 refine XK.seq ?_
 refine XK.seq ?_
 refine XK.region rfl ?_
 refine XO.q (Q.move rfl) ?_
 refine XO.done ?_
 refine XK.block ?_
 refine XK.while (X := Nat) [0, 1, 2, 3, 4, 24, 25, 26, 27, 28, 29, 30, 31, 32, 33, 34, 35, 36, 37, 38, 39, 40, 41, 42, 43, 44, 45, 46, 47, 48, 49, 50, 51, 52, 53, 54, 55, 56, 57, 58, 59, 60, 61, 62, 63, 64, 65, 66, 67, 68, 69, 70, 71, 72, 73, 74, 75, 76, 77, 78, 79, 80, 81, 82, 83, 84, 85, 86, 87, 88, 89, 90, 91, 92, 93, 94, 95, 96, 97, 98, 99, 100, 101, 102, 103, 104, 105, 106, 107, 108, 109, 110, 111, 112, 113, 114, 115, 116, 117, 118, 119, 120, 121, 122, 123, 124, 125, 126, 127, 128, 129, 130, 131, 132, 133, 134, 135, 136, 137, 138, 139, 140, 141, 142, 143, 144, 145, 146, 147] (fun n => [(24, some (.int .i64 (n : Nat)))]) (fun n => []) (fun n => n ≤ 972) (fun n => 972 - n) (0) [] rfl (by omega) (.c rfl (.base 0 rfl rfl)) ?_
 rintro n hn ih0
 dsimp only [List.cons_append, List.nil_append] at ih0 ⊢
 refine XK.seq ?_
 refine XK.region rfl ?_
 refine XO.q (Q.lss rfl rfl) ?_
 refine XO.done ?_
 refine XK.seq ?_
 refine XK.if rfl (fun c0 => ?_) (fun c0 => ?_)
 ·have _t0 := True.intro
  refine XK.skip ?_
  refine XK.seq ?_
  refine XK.block ?_
  refine XK.seq ?_
  refine XK.region rfl ?_
  refine XO.q (Q.move rfl) ?_
  refine XO.q (Q.assign rfl) ?_
  refine XO.done ?_
  refine XK.seq ?_
  refine XK.region rfl ?_
  refine XO.q (Q.move rfl) ?_
  refine XO.q (Q.rem rfl rfl (by omega) (by omega)) ?_
  refine XO.q (Q.add rfl rfl ⟨by omega, by omega⟩) ?_
  obtain ⟨mo, emo⟩ : ∃ x : Int, x = 1 + (n : Int) % 3 := ⟨_, rfl⟩
  rw [← emo]
  clear emo
  refine XO.q (Q.move rfl) ?_
  refine XO.q (Q.quo rfl rfl (by omega) (by omega) (by omega)) ?_
  refine XO.q (Q.rem rfl rfl (by omega) (by omega)) ?_
  refine XO.q (Q.mul rfl rfl ⟨by omega, by omega⟩) ?_
  obtain ⟨pk, epk⟩ : ∃ x : Int, x = (n : Int) / 3 % 3 * 5 := ⟨_, rfl⟩
  rw [← epk]
  clear epk
  refine XO.q (Q.build [_, _, _, _, _, _, _, _] (.c 6 1 rfl rfl rfl (.c 7 1 rfl rfl rfl (.n _)))) ?_
  refine XO.alloc fun b2 => ?_
  refine XO.st rfl rfl rfl ?_
  refine XO.done ?_
  refine XK.seq ?_
  refine XK.seq ?_
  refine XK.region rfl ?_
  refine XO.q (Q.move rfl) ?_
  refine XO.done ?_
  refine XK.block ?_
  refine XK.while (X := Nat × Value × PHeap × List KHour) [3, 35, 36, 37, 38, 39, 40, 41, 42, 43, 44, 45, 46, 47, 48, 49, 50, 51, 52, 53, 54, 55, 56, 57, 58, 59, 60, 61, 62, 63, 64, 65, 66, 67] (fun ⟨i, vH, kH, hl⟩ => [(35, some (.int .i64 (i : Nat)))]) (fun ⟨i, vH, kH, hl⟩ => [blk b2 [vH, .int .i64 0, .int .i64 0, .int .i64 0, .int .i64 0, .slice none 0 0, .int .i64 mo, .int .i64 pk] 27, kH]) (fun ⟨i, vH, kH, hl⟩ => i ≤ 3 ∧ hl.length = i ∧ OArr vH encHour 6 29 kH hl) (fun ⟨i, vH, kH, hl⟩ => 3 - i) (0, .slice none 0 0, emp, []) [blk b2 [.slice none 0 0, .int .i64 0, .int .i64 0, .int .i64 0, .int .i64 0, .slice none 0 0, .int .i64 mo, .int .i64 pk] 27, emp] rfl ⟨by omega, rfl, nH⟩ (.c rfl (.base 0 rfl rfl)) ?_
  rintro ⟨i, vH, kH, hl⟩ ⟨hi, lhl, OHl⟩ ih1
  dsimp only [List.cons_append, List.nil_append] at ih1 ⊢
  refine XK.seq ?_
  refine XK.region rfl ?_
  refine XO.q (Q.lss rfl rfl) ?_
  refine XO.done ?_
  refine XK.seq ?_
  refine XK.if rfl (fun c1 => ?_) (fun c1 => ?_)
  ·have _t1 := True.intro
   refine XK.skip ?_
   refine XK.seq ?_
   refine XK.block ?_
   refine XK.seq ?_
   refine XK.region rfl ?_
   refine XO.q (Q.move rfl) ?_
   refine XO.q (Q.assign rfl) ?_
   refine XO.done ?_
   refine XK.region rfl ?_
   refine XO.q (Q.fieldAddr rfl) ?_
   refine XO.q (Q.ld rfl rfl) ?_
   refine XO.q (Q.move rfl) ?_
   refine XO.q (Q.quo rfl rfl (by omega) (by omega) (by omega)) ?_
   refine XO.q (Q.move rfl) ?_
   refine XO.q (Q.mul rfl rfl ⟨by omega, by omega⟩) ?_
   refine XO.q (Q.add rfl rfl ⟨by omega, by omega⟩) ?_
   refine XO.q (Q.rem rfl rfl (by omega) (by omega)) ?_
   refine XO.q (Q.add rfl rfl ⟨by omega, by omega⟩) ?_
   refine XO.q (Q.move rfl) ?_
   refine XO.q (Q.quo rfl rfl (by omega) (by omega) (by omega)) ?_
   refine XO.q (Q.move rfl) ?_
   refine XO.q (Q.add rfl rfl ⟨by omega, by omega⟩) ?_
   refine XO.q (Q.rem rfl rfl (by omega) (by omega)) ?_
   refine XO.q (Q.move rfl) ?_
   refine XO.q (Q.quo rfl rfl (by omega) (by omega) (by omega)) ?_
   refine XO.q (Q.move rfl) ?_
   refine XO.q (Q.add rfl rfl ⟨by omega, by omega⟩) ?_
   refine XO.q (Q.rem rfl rfl (by omega) (by omega)) ?_
   refine XO.q (Q.move rfl) ?_
   refine XO.q (Q.quo rfl rfl (by omega) (by omega) (by omega)) ?_
   refine XO.q (Q.move rfl) ?_
   refine XO.q (Q.add rfl rfl ⟨by omega, by omega⟩) ?_
   refine XO.q (Q.rem rfl rfl (by omega) (by omega)) ?_
   refine XO.q (Q.move rfl) ?_
   refine XO.q (Q.build [_, _, _, _, _, _] (.c 0 1 rfl rfl rfl (.c 1 1 rfl rfl rfl (.c 2 1 rfl rfl rfl (.c 3 1 rfl rfl rfl (.c 4 1 rfl rfl rfl (.c 5 1 rfl rfl rfl (.n _)))))))) ?_
   refine XO.lit [_, _, _, _, _, _] [_, _, _, _, _, _] [⟨_, _, _, _, _, _⟩] encHour (by rfl) (by rfl) rfl (by rfl) (by exact .c 0 6 rfl rfl rfl (.n _)) (fun _ => rfl) (by rfl) rfl (by infer_instance) rfl fun v64 h64 O64 => ?_
   refine XO.append rfl rfl rfl rfl (by simp only [List.length_cons, List.length_nil]; omega) fun v65 h65 O65 => ?_
   refine XO.q (Q.fieldAddr rfl) ?_
   refine XO.st rfl rfl rfl ?_
   refine XO.done ?_
   refine XK.inBlock ?_
   refine XK.region rfl ?_
   refine XO.q (Q.add rfl rfl ⟨by omega, by omega⟩) ?_
   refine XO.q (Q.move rfl) ?_
   refine XO.done ?_
   exact ih1 (i + 1, v65, h65, _) _ _ ⟨by dsimp only; omega, by simp only [List.length_append, List.length_cons, List.length_nil]; omega, O65⟩ (by first | omega | (dsimp only; omega)) (.c rfl (.base 69 rfl rfl)) inferInstance
  ·have _t1 := True.intro
   refine XK.exit rfl ?_
   refine XK.seq ?_
   refine XK.region rfl ?_
   refine XO.q (Q.move rfl) ?_
   refine XO.q (Q.quo rfl rfl (by omega) (by omega) (by omega)) ?_
   refine XO.q (Q.rem rfl rfl (by omega) (by omega)) ?_
   obtain ⟨s1, es1⟩ : ∃ x : Int, x = (n : Int) / 81 % 3 := ⟨_, rfl⟩
   rw [← es1]
   clear es1
   refine XO.q (Q.move rfl) ?_
   refine XO.q (Q.quo rfl rfl (by omega) (by omega) (by omega)) ?_
   refine XO.q (Q.rem rfl rfl (by omega) (by omega)) ?_
   refine XO.q (Q.add rfl rfl ⟨by omega, by omega⟩) ?_
   obtain ⟨s2, es2⟩ : ∃ x : Int, x = 1 + (n : Int) / 324 % 2 := ⟨_, rfl⟩
   rw [← es2]
   clear es2
   refine XO.q (Q.move rfl) ?_
   refine XO.q (Q.quo rfl rfl (by omega) (by omega) (by omega)) ?_
   refine XO.q (Q.rem rfl rfl (by omega) (by omega)) ?_
   obtain ⟨s3, es3⟩ : ∃ x : Int, x = (n : Int) / 27 % 3 := ⟨_, rfl⟩
   rw [← es3]
   clear es3
   refine XO.q (Q.build [_, _, _, _] (.c 0 1 rfl rfl rfl (.c 1 1 rfl rfl rfl (.c 2 1 rfl rfl rfl (.c 3 1 rfl rfl rfl (.n _)))))) ?_
   refine XO.q (Q.fieldAddr rfl) ?_
   refine XO.st rfl rfl rfl ?_
   refine XO.done ?_
   refine XK.seq ?_
   refine XK.seq ?_
   refine XK.region rfl ?_
   refine XO.q (Q.move rfl) ?_
   refine XO.q (Q.quo rfl rfl (by omega) (by omega) (by omega)) ?_
   refine XO.q (Q.eql rfl rfl) ?_
   refine XO.done ?_
   refine XK.meet (X := Value × PHeap × List KJob) [83, 84, 85, 86, 87, 88, 89, 90, 91] (fun ⟨vJ, kJ, js⟩ => []) (fun ⟨vJ, kJ, js⟩ => [blk b2 [vH, .int .i64 s1, .int .i64 2, .int .i64 s2, .int .i64 s3, vJ, .int .i64 mo, .int .i64 pk] 27, kJ]) (fun ⟨vJ, kJ, js⟩ => js.length ≤ 1 ∧ OArr vJ encJob 4 31 kJ js) [blk b2 [vH, .int .i64 s1, .int .i64 2, .int .i64 s2, .int .i64 s3, .slice none 0 0, .int .i64 mo, .int .i64 pk] 27, emp] ?_ ?_
   ·rintro ⟨vJ, kJ, js⟩ ⟨ljs, OJ⟩
    dsimp only [List.cons_append, List.nil_append]
    refine XK.seq ?_
    refine XK.region rfl ?_
    refine XO.q (Q.move rfl) ?_
    refine XO.q (Q.rem rfl rfl (by omega) (by omega)) ?_
    refine XO.q (Q.sub rfl rfl ⟨by omega, by omega⟩) ?_
    refine XO.q (Q.move rfl) ?_
    refine XO.q (Q.quo rfl rfl (by omega) (by omega) (by omega)) ?_
    refine XO.q (Q.rem rfl rfl (by omega) (by omega)) ?_
    refine XO.q (Q.sub rfl rfl ⟨by omega, by omega⟩) ?_
    refine XO.q (Q.move rfl) ?_
    refine XO.q (Q.quo rfl rfl (by omega) (by omega) (by omega)) ?_
    refine XO.q (Q.rem rfl rfl (by omega) (by omega)) ?_
    refine XO.q (Q.sub rfl rfl ⟨by omega, by omega⟩) ?_
    refine XO.lit [_, _, _] [_, _, _] [_, _, _] encI (by rfl) (by rfl) rfl (by rfl) (by exact .c 0 1 rfl rfl rfl (.c 1 1 rfl rfl rfl (.c 2 1 rfl rfl rfl (.n _)))) (fun _ => rfl) (by rfl) rfl (by infer_instance) rfl fun v103 h103 O103 => ?_
    obtain ⟨ch, ech⟩ : ∃ x : List Int, x = [(n : Int) % 5 - 2, (n : Int) / 5 % 5 - 2, (n : Int) / 25 % 5 - 2] := ⟨_, rfl⟩
    rw [← ech] at O103
    have lch : ch.length = 3 := by rw [ech]; rfl
    clear ech
    refine XO.q (Q.move rfl) ?_
    refine XO.q (Q.rem rfl rfl (by omega) (by omega)) ?_
    obtain ⟨cst, ecst⟩ : ∃ x : Int, x = (n : Int) % 7 := ⟨_, rfl⟩
    rw [← ecst]
    clear ecst
    refine XO.q (Q.build [_, _, _] (.c 1 1 rfl rfl rfl (.c 2 1 rfl rfl rfl (.n _)))) ?_
    refine XO.alloc fun b4 => ?_
    refine XO.st rfl rfl rfl ?_
    refine XO.done ?_
    refine XK.seq ?_
    refine XK.seq ?_
    refine XK.region rfl ?_
    refine XO.q (Q.fieldAddr rfl) ?_
    refine XO.q (Q.ld rfl rfl) ?_
    refine XO.len rfl fun l109 => ?_
    refine XO.q (Q.gtr rfl rfl) ?_
    refine XO.done ?_
    refine XK.meet (X := Value × PHeap × List Int) [111, 112] (fun ⟨vS, kS, ss⟩ => []) (fun ⟨vS, kS, ss⟩ => [blk b4 [vS, v103, .int .i64 cst] 34, kS]) (fun ⟨vS, kS, ss⟩ => ss.length ≤ 1 ∧ OArr vS encI 1 3 kS ss) [blk b4 [.slice none 0 0, v103, .int .i64 cst] 34, emp] ?_ ?_
    ·rintro ⟨vS, kS, ss⟩ ⟨lss, OS⟩
     dsimp only [List.cons_append, List.nil_append]
     refine XK.seq ?_
     refine XK.meet (X := Unit) [113, 114, 115, 116, 117, 118, 119, 120, 121, 122, 123, 124, 125, 126, 127, 128, 129, 130, 131, 132, 133, 134, 135, 136, 137, 138, 139, 140, 141, 142, 143, 144, 145, 146] (fun ⟨⟩ => [(146, some (.bool (!true || !true)))]) (fun ⟨⟩ => []) (fun ⟨⟩ => True) [] ?_ ?_
     ·rintro ⟨⟩ _
      dsimp only [List.cons_append, List.nil_append]
      refine XK.if rfl (fun c4 => ?_) (fun c4 => ?_)
      ·have _t4 := True.intro
       simp at c4
      ·have _t4 := True.intro
       refine XK.skip ?_
       refine XK.inBlock ?_
       refine XK.region rfl ?_
       refine XO.q (Q.add rfl rfl ⟨by omega, by omega⟩) ?_
       refine XO.q (Q.move rfl) ?_
       refine XO.done ?_
       exact ih0 (n + 1) _ _ (by omega) (by first | omega | (dsimp only; omega)) (.c rfl (.base 262 rfl rfl)) inferInstance
     ·intro mtr16
      dsimp only [List.cons_append, List.nil_append] at mtr16
      refine XK.drawn [0, 1, 2, 3, 4, 5, 7, 8, 9, 10, 11, 12, 13, 14, 15, 16, 17, 18, 19, 20, 21, 27, 28, 32, 33] [b2, b4] [] (.q 0 (.q 1 (.q 2 (.q 3 (.q 4 (.q 5 (.br 6 true (.q 7 (.q 8 (.q 9 (.q 10 (.q 11 (.q 12 (.q 13 (.q 14 (.q 15 (.q 16 (.q 17 (.q 18 (.q 19 (.q 20 (.q 21 (.q 27 (.q 28 (.br 22 true (.br 23 true (.br 24 true (.br 25 true (.br 26 true (.br 29 true (.br 30 true (.br 31 true (.q 32 (.q 33 .done)) .stop) .stop) .stop) .stop) .stop) (.br 25 true (.br 24 true (.br 26 true (.br 29 true (.br 30 true (.br 31 true (.q 32 (.q 33 .done)) .stop) .stop) .stop) .stop) .stop) .stop)) (.br 24 true (.br 23 true (.br 25 true (.br 26 true (.br 29 true (.br 30 true (.br 31 true (.q 32 (.q 33 .done)) .stop) .stop) .stop) .stop) .stop) (.br 25 true (.br 23 true (.br 26 true (.br 29 true (.br 30 true (.br 31 true (.q 32 (.q 33 .done)) .stop) .stop) .stop) .stop) .stop) .stop)) (.br 25 true (.br 23 true (.br 24 true (.br 26 true (.br 29 true (.br 30 true (.br 31 true (.q 32 (.q 33 .done)) .stop) .stop) .stop) .stop) .stop) (.br 24 true (.br 23 true (.br 26 true (.br 29 true (.br 30 true (.br 31 true (.q 32 (.q 33 .done)) .stop) .stop) .stop) .stop) .stop) .stop)) .stop))) (.br 23 true (.br 22 true (.br 24 true (.br 25 true (.br 26 true (.br 29 true (.br 30 true (.br 31 true (.q 32 (.q 33 .done)) .stop) .stop) .stop) .stop) .stop) (.br 25 true (.br 24 true (.br 26 true (.br 29 true (.br 30 true (.br 31 true (.q 32 (.q 33 .done)) .stop) .stop) .stop) .stop) .stop) .stop)) (.br 24 true (.br 22 true (.br 25 true (.br 26 true (.br 29 true (.br 30 true (.br 31 true (.q 32 (.q 33 .done)) .stop) .stop) .stop) .stop) .stop) (.br 25 true (.br 22 true (.br 26 true (.br 29 true (.br 30 true (.br 31 true (.q 32 (.q 33 .done)) .stop) .stop) .stop) .stop) .stop) .stop)) (.br 25 true (.br 22 true (.br 24 true (.br 26 true (.br 29 true (.br 30 true (.br 31 true (.q 32 (.q 33 .done)) .stop) .stop) .stop) .stop) .stop) (.br 24 true (.br 22 true (.br 26 true (.br 29 true (.br 30 true (.br 31 true (.q 32 (.q 33 .done)) .stop) .stop) .stop) .stop) .stop) .stop)) .stop))) (.br 24 true (.br 22 true (.br 23 true (.br 25 true (.br 26 true (.br 29 true (.br 30 true (.br 31 true (.q 32 (.q 33 .done)) .stop) .stop) .stop) .stop) .stop) (.br 25 true (.br 23 true (.br 26 true (.br 29 true (.br 30 true (.br 31 true (.q 32 (.q 33 .done)) .stop) .stop) .stop) .stop) .stop) .stop)) (.br 23 true (.br 22 true (.br 25 true (.br 26 true (.br 29 true (.br 30 true (.br 31 true (.q 32 (.q 33 .done)) .stop) .stop) .stop) .stop) .stop) (.br 25 true (.br 22 true (.br 26 true (.br 29 true (.br 30 true (.br 31 true (.q 32 (.q 33 .done)) .stop) .stop) .stop) .stop) .stop) .stop)) (.br 25 true (.br 22 true (.br 23 true (.br 26 true (.br 29 true (.br 30 true (.br 31 true (.q 32 (.q 33 .done)) .stop) .stop) .stop) .stop) .stop) (.br 23 true (.br 22 true (.br 26 true (.br 29 true (.br 30 true (.br 31 true (.q 32 (.q 33 .done)) .stop) .stop) .stop) .stop) .stop) .stop)) .stop))) (.br 25 true (.br 22 true (.br 23 true (.br 24 true (.br 26 true (.br 29 true (.br 30 true (.br 31 true (.q 32 (.q 33 .done)) .stop) .stop) .stop) .stop) .stop) (.br 24 true (.br 23 true (.br 26 true (.br 29 true (.br 30 true (.br 31 true (.q 32 (.q 33 .done)) .stop) .stop) .stop) .stop) .stop) .stop)) (.br 23 true (.br 22 true (.br 24 true (.br 26 true (.br 29 true (.br 30 true (.br 31 true (.q 32 (.q 33 .done)) .stop) .stop) .stop) .stop) .stop) (.br 24 true (.br 22 true (.br 26 true (.br 29 true (.br 30 true (.br 31 true (.q 32 (.q 33 .done)) .stop) .stop) .stop) .stop) .stop) .stop)) (.br 24 true (.br 22 true (.br 23 true (.br 26 true (.br 29 true (.br 30 true (.br 31 true (.q 32 (.q 33 .done)) .stop) .stop) .stop) .stop) .stop) (.br 23 true (.br 22 true (.br 26 true (.br 29 true (.br 30 true (.br 31 true (.q 32 (.q 33 .done)) .stop) .stop) .stop) .stop) .stop) .stop)) .stop))) .stop))))))))))))))))))))) .stop))))))) Tryz.mixed rfl (by kernel_rfl) ?_
      refine XT.q rfl rfl (Q.ldA [_, _, _, _, _, _, _, _] rfl rfl rfl) ?_
      refine XT.q rfl rfl (Q.ldA [_, _, _] rfl rfl rfl) ?_
      refine XT.q rfl rfl (Q.move rfl) ?_
      refine XT.q rfl rfl (Q.move rfl) ?_
      refine XT.q rfl rfl (Q.rem rfl rfl (by omega) (by omega)) ?_
      refine XT.q rfl rfl (Q.sub rfl rfl ⟨by omega, by omega⟩) ?_
      refine XT.call rfl rfl Tryz.call4 rfl rfl rfl (plans_spec (⟨hl, ⟨s1, 2, s2, s3⟩, js, mo, pk⟩ : KDay) vH vJ kH kJ (⟨ss, ch, cst⟩ : KPlan) vS v103 kS h103 n ((n : Int) % 3 - 1) ⟨by omega, by omega⟩ ⟨by omega, by omega⟩ ⟨(by first | omega | (dsimp only; omega) | (simp only [List.length_replicate, List.length_cons, List.length_nil]; omega) | (dsimp only; simp only [List.length_replicate, List.length_cons, List.length_nil]; omega) | decide), (by first | omega | (dsimp only; omega) | (simp only [List.length_replicate, List.length_cons, List.length_nil]; omega) | (dsimp only; simp only [List.length_replicate, List.length_cons, List.length_nil]; omega) | decide), (by first | omega | (dsimp only; omega) | (simp only [List.length_replicate, List.length_cons, List.length_nil]; omega) | (dsimp only; simp only [List.length_replicate, List.length_cons, List.length_nil]; omega) | decide), (by first | omega | (dsimp only; omega) | (simp only [List.length_replicate, List.length_cons, List.length_nil]; omega) | (dsimp only; simp only [List.length_replicate, List.length_cons, List.length_nil]; omega) | decide)⟩) (fun v119 s119 R119 => ?_) XT.stop
      obtain ⟨rfl, rfl⟩ := R119
      dsimp only [List.cons_append, List.nil_append]
      refine ⟨inferInstance, ?_⟩
      have OFS := fun (pat : List Int) (vt : Value) (ht : PHeap) (ja : Arr vt encI 1 ht pat) (lp : pat.length ≤ 30) => offers_spec (jt := ja) (⟨hl, ⟨s1, 2, s2, s3⟩, js, mo, pk⟩ : KDay) vH vJ kH kJ (⟨ss, ch, cst⟩ : KPlan) vS v103 kS h103 ⟨(n : Int) % 2, 3, 1 + (n : Int) % 2, 1, 1 + (n : Int) % 3, (n : Int) % 2⟩ (by (try dsimp only); omega) pat vt ht ⟨(by first | omega | (dsimp only; omega) | (simp only [List.length_replicate, List.length_cons, List.length_nil]; omega) | (dsimp only; simp only [List.length_replicate, List.length_cons, List.length_nil]; omega) | decide), (by first | omega | (dsimp only; omega) | (simp only [List.length_replicate, List.length_cons, List.length_nil]; omega) | (dsimp only; simp only [List.length_replicate, List.length_cons, List.length_nil]; omega) | decide), (by first | omega | (dsimp only; omega) | (simp only [List.length_replicate, List.length_cons, List.length_nil]; omega) | (dsimp only; simp only [List.length_replicate, List.length_cons, List.length_nil]; omega) | decide), (by first | omega | (dsimp only; omega) | (simp only [List.length_replicate, List.length_cons, List.length_nil]; omega) | (dsimp only; simp only [List.length_replicate, List.length_cons, List.length_nil]; omega) | decide)⟩ lp
      refine XT.q rfl rfl (Q.not rfl) ?_
      refine XT.q rfl rfl (Q.move rfl) ?_
      refine XT.q rfl rfl (Quiet.guardF rfl rfl fun g122 p122 => Q.ldA [_, _, _, _, _, _, _, _] rfl rfl rfl) ?_
      refine XT.q rfl rfl (Quiet.guardF rfl rfl fun g123 p123 => Q.ldA [_, _, _] rfl rfl rfl) ?_
      refine XT.q rfl rfl (Quiet.guardF rfl rfl fun g124 p124 => Q.move rfl) ?_
      refine XT.q rfl rfl (Quiet.guardF rfl rfl fun g125 p125 => Q.rem (lzv rfl rfl) rfl (by omega) (by omega)) ?_
      refine XT.q rfl rfl (Quiet.guardF rfl rfl fun g126 p126 => Q.move rfl) ?_
      refine XT.q rfl rfl (Quiet.guardF rfl rfl fun g127 p127 => Q.rem (lzv rfl rfl) rfl (by omega) (by omega)) ?_
      refine XT.q rfl rfl (Quiet.guardF rfl rfl fun g128 p128 => Q.add rfl (lzv rfl rfl) ⟨by omega, by omega⟩) ?_
      refine XT.q rfl rfl (Quiet.guardF rfl rfl fun g129 p129 => Q.move rfl) ?_
      refine XT.q rfl rfl (Quiet.guardF rfl rfl fun g130 p130 => Q.rem (lzv rfl rfl) rfl (by omega) (by omega)) ?_
      refine XT.q rfl rfl (Quiet.guardF rfl rfl fun g131 p131 => Q.add rfl (lzv rfl rfl) ⟨by omega, by omega⟩) ?_
      refine XT.q rfl rfl (Quiet.guardF rfl rfl fun g132 p132 => Q.move rfl) ?_
      refine XT.q rfl rfl (Quiet.guardF rfl rfl fun g133 p133 => Q.rem (lzv rfl rfl) rfl (by omega) (by omega)) ?_
      refine XT.q rfl rfl (Quiet.guardF rfl rfl fun g134 p134 => Q.build [_, _, _, _, _, _] (.c 0 1 (lzv rfl rfl) rfl rfl (.c 1 1 rfl rfl rfl (.c 2 1 (lzv rfl rfl) rfl rfl (.c 3 1 rfl rfl rfl (.c 4 1 (lzv rfl rfl) rfl rfl (.c 5 1 (lzv rfl rfl) rfl rfl (.n _)))))))) ?_
      refine XT.q rfl rfl (Quiet.guardF rfl rfl fun g140 p140 => Q.move rfl) ?_
      refine XT.q rfl rfl (Quiet.guardF rfl rfl fun g141 p141 => Q.rem (lzv rfl rfl) rfl (by omega) (by omega)) ?_
      refine XT.litS [_] [_] [0] encI rfl rfl rfl rfl rfl (by rfl) (by rfl) rfl (by rfl) (by exact .c 0 1 rfl rfl rfl (.n _)) (fun _ => rfl) (by rfl) rfl (by infer_instance) rfl (fun v135 h135 O135 => ⟨inferInstance, ?_⟩) ?_
      ·skip
       refine XT.litS [_] [_] [1] encI rfl rfl rfl rfl rfl (by rfl) (by rfl) rfl (by rfl) (by exact .c 0 1 rfl rfl rfl (.n _)) (fun _ => rfl) (by rfl) rfl (by infer_instance) rfl (fun v136 h136 O136 => ⟨inferInstance, ?_⟩) ?_
       ·skip
        refine XT.litS [_, _] [_, _] [0, 2] encI rfl rfl rfl rfl rfl (by rfl) (by rfl) rfl (by rfl) (by exact .c 0 1 rfl rfl rfl (.c 1 1 rfl rfl rfl (.n _))) (fun _ => rfl) (by rfl) rfl (by infer_instance) rfl (fun v137 h137 O137 => ⟨inferInstance, ?_⟩) ?_
        ·skip
         refine XT.litS [_] [_] [2] encI rfl rfl rfl rfl rfl (by rfl) (by rfl) rfl (by rfl) (by exact .c 0 1 rfl rfl rfl (.n _)) (fun _ => rfl) (by rfl) rfl (by infer_instance) rfl (fun v138 h138 O138 => ⟨inferInstance, ?_⟩) XT.stop
         refine XT.litS [_, _, _, _, _] [_, _, _, _, _] ([(.slice none 0 0), v135, v136, v137, v138] : List Value) encV rfl rfl rfl rfl rfl (by rfl) (by rfl) rfl (by rfl) (by exact .c 0 1 rfl rfl rfl (.c 1 1 rfl rfl rfl (.c 2 1 rfl rfl rfl (.c 3 1 rfl rfl rfl (.c 4 1 rfl rfl rfl (.n _)))))) (fun _ => rfl) (by rfl) rfl (by infer_instance) rfl (fun v139 h139 O139 => ⟨inferInstance, ?_⟩) XT.stop
         refine XT.qs rfl rfl (Quiet.guardF rfl rfl fun g142 p142 => Q.ix rfl (lzv rfl rfl) (by omega) (by show (n : Int) % 5 < 5; omega)) ⟨inferInstance, ?_⟩ XT.stop
         refine XT.qs rfl rfl (Quiet.guardF rfl rfl fun g143 p143 => Q.ldE (lzv g143 rfl) (by show ((n : Int) % 5).toNat < 5; omega) rfl) ⟨inferInstance, ?_⟩ XT.stop
         rcases (show (n : Int) % 5 = 0 ∨ (n : Int) % 5 = 1 ∨ (n : Int) % 5 = 2 ∨ (n : Int) % 5 = 3 ∨ (n : Int) % 5 = 4 by omega) with hk | hk | hk | hk | hk
         ·have _ts := True.intro
          rw [show ([(.slice none 0 0), v135, v136, v137, v138] : List Value).getD ((n : Int) % 5).toNat default = (.slice none 0 0) by rw [hk]; rfl]
          refine XT.callS rfl rfl rfl rfl rfl Tryz.call5 rfl (.c (lzv rfl rfl) (.c (lzv rfl rfl) (.c (lzv rfl rfl) (.c (lzv rfl rfl) .n)))) rfl (OFS ([] : List Int) (.slice none 0 0) h139 (nI h139) (by decide)) (fun v144 s144 R144 => ?_) XT.stop
          obtain ⟨rfl, rfl⟩ := R144
          dsimp only [List.cons_append, List.nil_append]
          refine ⟨inferInstance, ?_⟩
          refine XT.q rfl rfl (Quiet.guardF rfl rfl fun g145 p145 => Q.not rfl) ?_
          refine XT.q rfl rfl (Q.or rfl (fun hp => lzv hp rfl)) ?_
          refine XT.done ?_
          exact mtr16 (()) _ _ trivial (.c rfl (.base 34 rfl rfl)) inferInstance
         ·have _ts := True.intro
          rw [show ([(.slice none 0 0), v135, v136, v137, v138] : List Value).getD ((n : Int) % 5).toNat default = v135 by rw [hk]; rfl]
          refine XT.callS rfl rfl rfl rfl rfl Tryz.call5 rfl (.c (lzv rfl rfl) (.c (lzv rfl rfl) (.c (lzv rfl rfl) (.c (lzv rfl rfl) .n)))) rfl (OFS [0] v135 h135 inferInstance (by decide)) (fun v144 s144 R144 => ?_) XT.stop
          obtain ⟨rfl, rfl⟩ := R144
          dsimp only [List.cons_append, List.nil_append]
          refine ⟨inferInstance, ?_⟩
          refine XT.q rfl rfl (Quiet.guardF rfl rfl fun g145 p145 => Q.not rfl) ?_
          refine XT.q rfl rfl (Q.or rfl (fun hp => lzv hp rfl)) ?_
          refine XT.done ?_
          exact mtr16 (()) _ _ trivial (.c rfl (.base 34 rfl rfl)) inferInstance
         ·have _ts := True.intro
          rw [show ([(.slice none 0 0), v135, v136, v137, v138] : List Value).getD ((n : Int) % 5).toNat default = v136 by rw [hk]; rfl]
          refine XT.callS rfl rfl rfl rfl rfl Tryz.call5 rfl (.c (lzv rfl rfl) (.c (lzv rfl rfl) (.c (lzv rfl rfl) (.c (lzv rfl rfl) .n)))) rfl (OFS [1] v136 h136 inferInstance (by decide)) (fun v144 s144 R144 => ?_) XT.stop
          obtain ⟨rfl, rfl⟩ := R144
          dsimp only [List.cons_append, List.nil_append]
          refine ⟨inferInstance, ?_⟩
          refine XT.q rfl rfl (Quiet.guardF rfl rfl fun g145 p145 => Q.not rfl) ?_
          refine XT.q rfl rfl (Q.or rfl (fun hp => lzv hp rfl)) ?_
          refine XT.done ?_
          exact mtr16 (()) _ _ trivial (.c rfl (.base 34 rfl rfl)) inferInstance
         ·have _ts := True.intro
          rw [show ([(.slice none 0 0), v135, v136, v137, v138] : List Value).getD ((n : Int) % 5).toNat default = v137 by rw [hk]; rfl]
          refine XT.callS rfl rfl rfl rfl rfl Tryz.call5 rfl (.c (lzv rfl rfl) (.c (lzv rfl rfl) (.c (lzv rfl rfl) (.c (lzv rfl rfl) .n)))) rfl (OFS [0, 2] v137 h137 inferInstance (by decide)) (fun v144 s144 R144 => ?_) XT.stop
          obtain ⟨rfl, rfl⟩ := R144
          dsimp only [List.cons_append, List.nil_append]
          refine ⟨inferInstance, ?_⟩
          refine XT.q rfl rfl (Quiet.guardF rfl rfl fun g145 p145 => Q.not rfl) ?_
          refine XT.q rfl rfl (Q.or rfl (fun hp => lzv hp rfl)) ?_
          refine XT.done ?_
          exact mtr16 (()) _ _ trivial (.c rfl (.base 34 rfl rfl)) inferInstance
         ·have _ts := True.intro
          rw [show ([(.slice none 0 0), v135, v136, v137, v138] : List Value).getD ((n : Int) % 5).toNat default = v138 by rw [hk]; rfl]
          refine XT.callS rfl rfl rfl rfl rfl Tryz.call5 rfl (.c (lzv rfl rfl) (.c (lzv rfl rfl) (.c (lzv rfl rfl) (.c (lzv rfl rfl) .n)))) rfl (OFS [2] v138 h138 inferInstance (by decide)) (fun v144 s144 R144 => ?_) XT.stop
          obtain ⟨rfl, rfl⟩ := R144
          dsimp only [List.cons_append, List.nil_append]
          refine ⟨inferInstance, ?_⟩
          refine XT.q rfl rfl (Quiet.guardF rfl rfl fun g145 p145 => Q.not rfl) ?_
          refine XT.q rfl rfl (Q.or rfl (fun hp => lzv hp rfl)) ?_
          refine XT.done ?_
          exact mtr16 (()) _ _ trivial (.c rfl (.base 34 rfl rfl)) inferInstance
        ·skip
         refine XT.litS [_] [_] [2] encI rfl rfl rfl rfl rfl (by rfl) (by rfl) rfl (by rfl) (by exact .c 0 1 rfl rfl rfl (.n _)) (fun _ => rfl) (by rfl) rfl (by infer_instance) rfl (fun v138 h138 O138 => ⟨inferInstance, ?_⟩) XT.stop
         refine XT.litS [_, _] [_, _] [0, 2] encI rfl rfl rfl rfl rfl (by rfl) (by rfl) rfl (by rfl) (by exact .c 0 1 rfl rfl rfl (.c 1 1 rfl rfl rfl (.n _))) (fun _ => rfl) (by rfl) rfl (by infer_instance) rfl (fun v137 h137 O137 => ⟨inferInstance, ?_⟩) XT.stop
         refine XT.litS [_, _, _, _, _] [_, _, _, _, _] ([(.slice none 0 0), v135, v136, v137, v138] : List Value) encV rfl rfl rfl rfl rfl (by rfl) (by rfl) rfl (by rfl) (by exact .c 0 1 rfl rfl rfl (.c 1 1 rfl rfl rfl (.c 2 1 rfl rfl rfl (.c 3 1 rfl rfl rfl (.c 4 1 rfl rfl rfl (.n _)))))) (fun _ => rfl) (by rfl) rfl (by infer_instance) rfl (fun v139 h139 O139 => ⟨inferInstance, ?_⟩) XT.stop
         refine XT.qs rfl rfl (Quiet.guardF rfl rfl fun g142 p142 => Q.ix rfl (lzv rfl rfl) (by omega) (by show (n : Int) % 5 < 5; omega)) ⟨inferInstance, ?_⟩ XT.stop
         refine XT.qs rfl rfl (Quiet.guardF rfl rfl fun g143 p143 => Q.ldE (lzv g143 rfl) (by show ((n : Int) % 5).toNat < 5; omega) rfl) ⟨inferInstance, ?_⟩ XT.stop
         rcases (show (n : Int) % 5 = 0 ∨ (n : Int) % 5 = 1 ∨ (n : Int) % 5 = 2 ∨ (n : Int) % 5 = 3 ∨ (n : Int) % 5 = 4 by omega) with hk | hk | hk | hk | hk
         ·have _ts := True.intro
          rw [show ([(.slice none 0 0), v135, v136, v137, v138] : List Value).getD ((n : Int) % 5).toNat default = (.slice none 0 0) by rw [hk]; rfl]
          refine XT.callS rfl rfl rfl rfl rfl Tryz.call5 rfl (.c (lzv rfl rfl) (.c (lzv rfl rfl) (.c (lzv rfl rfl) (.c (lzv rfl rfl) .n)))) rfl (OFS ([] : List Int) (.slice none 0 0) h139 (nI h139) (by decide)) (fun v144 s144 R144 => ?_) XT.stop
          obtain ⟨rfl, rfl⟩ := R144
          dsimp only [List.cons_append, List.nil_append]
          refine ⟨inferInstance, ?_⟩
          refine XT.q rfl rfl (Quiet.guardF rfl rfl fun g145 p145 => Q.not rfl) ?_
          refine XT.q rfl rfl (Q.or rfl (fun hp => lzv hp rfl)) ?_
          refine XT.done ?_
          exact mtr16 (()) _ _ trivial (.c rfl (.base 34 rfl rfl)) inferInstance
         ·have _ts := True.intro
          rw [show ([(.slice none 0 0), v135, v136, v137, v138] : List Value).getD ((n : Int) % 5).toNat default = v135 by rw [hk]; rfl]
          refine XT.callS rfl rfl rfl rfl rfl Tryz.call5 rfl (.c (lzv rfl rfl) (.c (lzv rfl rfl) (.c (lzv rfl rfl) (.c (lzv rfl rfl) .n)))) rfl (OFS [0] v135 h135 inferInstance (by decide)) (fun v144 s144 R144 => ?_) XT.stop
          obtain ⟨rfl, rfl⟩ := R144
          dsimp only [List.cons_append, List.nil_append]
          refine ⟨inferInstance, ?_⟩
          refine XT.q rfl rfl (Quiet.guardF rfl rfl fun g145 p145 => Q.not rfl) ?_
          refine XT.q rfl rfl (Q.or rfl (fun hp => lzv hp rfl)) ?_
          refine XT.done ?_
          exact mtr16 (()) _ _ trivial (.c rfl (.base 34 rfl rfl)) inferInstance
         ·have _ts := True.intro
          rw [show ([(.slice none 0 0), v135, v136, v137, v138] : List Value).getD ((n : Int) % 5).toNat default = v136 by rw [hk]; rfl]
          refine XT.callS rfl rfl rfl rfl rfl Tryz.call5 rfl (.c (lzv rfl rfl) (.c (lzv rfl rfl) (.c (lzv rfl rfl) (.c (lzv rfl rfl) .n)))) rfl (OFS [1] v136 h136 inferInstance (by decide)) (fun v144 s144 R144 => ?_) XT.stop
          obtain ⟨rfl, rfl⟩ := R144
          dsimp only [List.cons_append, List.nil_append]
          refine ⟨inferInstance, ?_⟩
          refine XT.q rfl rfl (Quiet.guardF rfl rfl fun g145 p145 => Q.not rfl) ?_
          refine XT.q rfl rfl (Q.or rfl (fun hp => lzv hp rfl)) ?_
          refine XT.done ?_
          exact mtr16 (()) _ _ trivial (.c rfl (.base 34 rfl rfl)) inferInstance
         ·have _ts := True.intro
          rw [show ([(.slice none 0 0), v135, v136, v137, v138] : List Value).getD ((n : Int) % 5).toNat default = v137 by rw [hk]; rfl]
          refine XT.callS rfl rfl rfl rfl rfl Tryz.call5 rfl (.c (lzv rfl rfl) (.c (lzv rfl rfl) (.c (lzv rfl rfl) (.c (lzv rfl rfl) .n)))) rfl (OFS [0, 2] v137 h137 inferInstance (by decide)) (fun v144 s144 R144 => ?_) XT.stop
          obtain ⟨rfl, rfl⟩ := R144
          dsimp only [List.cons_append, List.nil_append]
          refine ⟨inferInstance, ?_⟩
          refine XT.q rfl rfl (Quiet.guardF rfl rfl fun g145 p145 => Q.not rfl) ?_
          refine XT.q rfl rfl (Q.or rfl (fun hp => lzv hp rfl)) ?_
          refine XT.done ?_
          exact mtr16 (()) _ _ trivial (.c rfl (.base 34 rfl rfl)) inferInstance
         ·have _ts := True.intro
          rw [show ([(.slice none 0 0), v135, v136, v137, v138] : List Value).getD ((n : Int) % 5).toNat default = v138 by rw [hk]; rfl]
          refine XT.callS rfl rfl rfl rfl rfl Tryz.call5 rfl (.c (lzv rfl rfl) (.c (lzv rfl rfl) (.c (lzv rfl rfl) (.c (lzv rfl rfl) .n)))) rfl (OFS [2] v138 h138 inferInstance (by decide)) (fun v144 s144 R144 => ?_) XT.stop
          obtain ⟨rfl, rfl⟩ := R144
          dsimp only [List.cons_append, List.nil_append]
          refine ⟨inferInstance, ?_⟩
          refine XT.q rfl rfl (Quiet.guardF rfl rfl fun g145 p145 => Q.not rfl) ?_
          refine XT.q rfl rfl (Q.or rfl (fun hp => lzv hp rfl)) ?_
          refine XT.done ?_
          exact mtr16 (()) _ _ trivial (.c rfl (.base 34 rfl rfl)) inferInstance
       ·skip
        refine XT.litS [_, _] [_, _] [0, 2] encI rfl rfl rfl rfl rfl (by rfl) (by rfl) rfl (by rfl) (by exact .c 0 1 rfl rfl rfl (.c 1 1 rfl rfl rfl (.n _))) (fun _ => rfl) (by rfl) rfl (by infer_instance) rfl (fun v137 h137 O137 => ⟨inferInstance, ?_⟩) ?_
        ·skip
         refine XT.litS [_] [_] [1] encI rfl rfl rfl rfl rfl (by rfl) (by rfl) rfl (by rfl) (by exact .c 0 1 rfl rfl rfl (.n _)) (fun _ => rfl) (by rfl) rfl (by infer_instance) rfl (fun v136 h136 O136 => ⟨inferInstance, ?_⟩) ?_
         ·skip
          refine XT.litS [_] [_] [2] encI rfl rfl rfl rfl rfl (by rfl) (by rfl) rfl (by rfl) (by exact .c 0 1 rfl rfl rfl (.n _)) (fun _ => rfl) (by rfl) rfl (by infer_instance) rfl (fun v138 h138 O138 => ⟨inferInstance, ?_⟩) XT.stop
          refine XT.litS [_, _, _, _, _] [_, _, _, _, _] ([(.slice none 0 0), v135, v136, v137, v138] : List Value) encV rfl rfl rfl rfl rfl (by rfl) (by rfl) rfl (by rfl) (by exact .c 0 1 rfl rfl rfl (.c 1 1 rfl rfl rfl (.c 2 1 rfl rfl rfl (.c 3 1 rfl rfl rfl (.c 4 1 rfl rfl rfl (.n _)))))) (fun _ => rfl) (by rfl) rfl (by infer_instance) rfl (fun v139 h139 O139 => ⟨inferInstance, ?_⟩) XT.stop
          refine XT.qs rfl rfl (Quiet.guardF rfl rfl fun g142 p142 => Q.ix rfl (lzv rfl rfl) (by omega) (by show (n : Int) % 5 < 5; omega)) ⟨inferInstance, ?_⟩ XT.stop
          refine XT.qs rfl rfl (Quiet.guardF rfl rfl fun g143 p143 => Q.ldE (lzv g143 rfl) (by show ((n : Int) % 5).toNat < 5; omega) rfl) ⟨inferInstance, ?_⟩ XT.stop
          rcases (show (n : Int) % 5 = 0 ∨ (n : Int) % 5 = 1 ∨ (n : Int) % 5 = 2 ∨ (n : Int) % 5 = 3 ∨ (n : Int) % 5 = 4 by omega) with hk | hk | hk | hk | hk
          ·have _ts := True.intro
           rw [show ([(.slice none 0 0), v135, v136, v137, v138] : List Value).getD ((n : Int) % 5).toNat default = (.slice none 0 0) by rw [hk]; rfl]
           refine XT.callS rfl rfl rfl rfl rfl Tryz.call5 rfl (.c (lzv rfl rfl) (.c (lzv rfl rfl) (.c (lzv rfl rfl) (.c (lzv rfl rfl) .n)))) rfl (OFS ([] : List Int) (.slice none 0 0) h139 (nI h139) (by decide)) (fun v144 s144 R144 => ?_) XT.stop
           obtain ⟨rfl, rfl⟩ := R144
           dsimp only [List.cons_append, List.nil_append]
           refine ⟨inferInstance, ?_⟩
           refine XT.q rfl rfl (Quiet.guardF rfl rfl fun g145 p145 => Q.not rfl) ?_
           refine XT.q rfl rfl (Q.or rfl (fun hp => lzv hp rfl)) ?_
           refine XT.done ?_
           exact mtr16 (()) _ _ trivial (.c rfl (.base 34 rfl rfl)) inferInstance
          ·have _ts := True.intro
           rw [show ([(.slice none 0 0), v135, v136, v137, v138] : List Value).getD ((n : Int) % 5).toNat default = v135 by rw [hk]; rfl]
           refine XT.callS rfl rfl rfl rfl rfl Tryz.call5 rfl (.c (lzv rfl rfl) (.c (lzv rfl rfl) (.c (lzv rfl rfl) (.c (lzv rfl rfl) .n)))) rfl (OFS [0] v135 h135 inferInstance (by decide)) (fun v144 s144 R144 => ?_) XT.stop
           obtain ⟨rfl, rfl⟩ := R144
           dsimp only [List.cons_append, List.nil_append]
           refine ⟨inferInstance, ?_⟩
           refine XT.q rfl rfl (Quiet.guardF rfl rfl fun g145 p145 => Q.not rfl) ?_
           refine XT.q rfl rfl (Q.or rfl (fun hp => lzv hp rfl)) ?_
           refine XT.done ?_
           exact mtr16 (()) _ _ trivial (.c rfl (.base 34 rfl rfl)) inferInstance
          ·have _ts := True.intro
           rw [show ([(.slice none 0 0), v135, v136, v137, v138] : List Value).getD ((n : Int) % 5).toNat default = v136 by rw [hk]; rfl]
           refine XT.callS rfl rfl rfl rfl rfl Tryz.call5 rfl (.c (lzv rfl rfl) (.c (lzv rfl rfl) (.c (lzv rfl rfl) (.c (lzv rfl rfl) .n)))) rfl (OFS [1] v136 h136 inferInstance (by decide)) (fun v144 s144 R144 => ?_) XT.stop
           obtain ⟨rfl, rfl⟩ := R144
           dsimp only [List.cons_append, List.nil_append]
           refine ⟨inferInstance, ?_⟩
           refine XT.q rfl rfl (Quiet.guardF rfl rfl fun g145 p145 => Q.not rfl) ?_
           refine XT.q rfl rfl (Q.or rfl (fun hp => lzv hp rfl)) ?_
           refine XT.done ?_
           exact mtr16 (()) _ _ trivial (.c rfl (.base 34 rfl rfl)) inferInstance
          ·have _ts := True.intro
           rw [show ([(.slice none 0 0), v135, v136, v137, v138] : List Value).getD ((n : Int) % 5).toNat default = v137 by rw [hk]; rfl]
           refine XT.callS rfl rfl rfl rfl rfl Tryz.call5 rfl (.c (lzv rfl rfl) (.c (lzv rfl rfl) (.c (lzv rfl rfl) (.c (lzv rfl rfl) .n)))) rfl (OFS [0, 2] v137 h137 inferInstance (by decide)) (fun v144 s144 R144 => ?_) XT.stop
           obtain ⟨rfl, rfl⟩ := R144
           dsimp only [List.cons_append, List.nil_append]
           refine ⟨inferInstance, ?_⟩
           refine XT.q rfl rfl (Quiet.guardF rfl rfl fun g145 p145 => Q.not rfl) ?_
           refine XT.q rfl rfl (Q.or rfl (fun hp => lzv hp rfl)) ?_
           refine XT.done ?_
           exact mtr16 (()) _ _ trivial (.c rfl (.base 34 rfl rfl)) inferInstance
          ·have _ts := True.intro
           rw [show ([(.slice none 0 0), v135, v136, v137, v138] : List Value).getD ((n : Int) % 5).toNat default = v138 by rw [hk]; rfl]
           refine XT.callS rfl rfl rfl rfl rfl Tryz.call5 rfl (.c (lzv rfl rfl) (.c (lzv rfl rfl) (.c (lzv rfl rfl) (.c (lzv rfl rfl) .n)))) rfl (OFS [2] v138 h138 inferInstance (by decide)) (fun v144 s144 R144 => ?_) XT.stop
           obtain ⟨rfl, rfl⟩ := R144
           dsimp only [List.cons_append, List.nil_append]
           refine ⟨inferInstance, ?_⟩
           refine XT.q rfl rfl (Quiet.guardF rfl rfl fun g145 p145 => Q.not rfl) ?_
           refine XT.q rfl rfl (Q.or rfl (fun hp => lzv hp rfl)) ?_
           refine XT.done ?_
           exact mtr16 (()) _ _ trivial (.c rfl (.base 34 rfl rfl)) inferInstance
         ·skip
          refine XT.litS [_] [_] [2] encI rfl rfl rfl rfl rfl (by rfl) (by rfl) rfl (by rfl) (by exact .c 0 1 rfl rfl rfl (.n _)) (fun _ => rfl) (by rfl) rfl (by infer_instance) rfl (fun v138 h138 O138 => ⟨inferInstance, ?_⟩) XT.stop
          refine XT.litS [_] [_] [1] encI rfl rfl rfl rfl rfl (by rfl) (by rfl) rfl (by rfl) (by exact .c 0 1 rfl rfl rfl (.n _)) (fun _ => rfl) (by rfl) rfl (by infer_instance) rfl (fun v136 h136 O136 => ⟨inferInstance, ?_⟩) XT.stop
          refine XT.litS [_, _, _, _, _] [_, _, _, _, _] ([(.slice none 0 0), v135, v136, v137, v138] : List Value) encV rfl rfl rfl rfl rfl (by rfl) (by rfl) rfl (by rfl) (by exact .c 0 1 rfl rfl rfl (.c 1 1 rfl rfl rfl (.c 2 1 rfl rfl rfl (.c 3 1 rfl rfl rfl (.c 4 1 rfl rfl rfl (.n _)))))) (fun _ => rfl) (by rfl) rfl (by infer_instance) rfl (fun v139 h139 O139 => ⟨inferInstance, ?_⟩) XT.stop
          refine XT.qs rfl rfl (Quiet.guardF rfl rfl fun g142 p142 => Q.ix rfl (lzv rfl rfl) (by omega) (by show (n : Int) % 5 < 5; omega)) ⟨inferInstance, ?_⟩ XT.stop
          refine XT.qs rfl rfl (Quiet.guardF rfl rfl fun g143 p143 => Q.ldE (lzv g143 rfl) (by show ((n : Int) % 5).toNat < 5; omega) rfl) ⟨inferInstance, ?_⟩ XT.stop
          rcases (show (n : Int) % 5 = 0 ∨ (n : Int) % 5 = 1 ∨ (n : Int) % 5 = 2 ∨ (n : Int) % 5 = 3 ∨ (n : Int) % 5 = 4 by omega) with hk | hk | hk | hk | hk
          ·have _ts := True.intro
           rw [show ([(.slice none 0 0), v135, v136, v137, v138] : List Value).getD ((n : Int) % 5).toNat default = (.slice none 0 0) by rw [hk]; rfl]
           refine XT.callS rfl rfl rfl rfl rfl Tryz.call5 rfl (.c (lzv rfl rfl) (.c (lzv rfl rfl) (.c (lzv rfl rfl) (.c (lzv rfl rfl) .n)))) rfl (OFS ([] : List Int) (.slice none 0 0) h139 (nI h139) (by decide)) (fun v144 s144 R144 => ?_) XT.stop
           obtain ⟨rfl, rfl⟩ := R144
           dsimp only [List.cons_append, List.nil_append]
           refine ⟨inferInstance, ?_⟩
           refine XT.q rfl rfl (Quiet.guardF rfl rfl fun g145 p145 => Q.not rfl) ?_
           refine XT.q rfl rfl (Q.or rfl (fun hp => lzv hp rfl)) ?_
           refine XT.done ?_
           exact mtr16 (()) _ _ trivial (.c rfl (.base 34 rfl rfl)) inferInstance
          ·have _ts := True.intro
           rw [show ([(.slice none 0 0), v135, v136, v137, v138] : List Value).getD ((n : Int) % 5).toNat default = v135 by rw [hk]; rfl]
           refine XT.callS rfl rfl rfl rfl rfl Tryz.call5 rfl (.c (lzv rfl rfl) (.c (lzv rfl rfl) (.c (lzv rfl rfl) (.c (lzv rfl rfl) .n)))) rfl (OFS [0] v135 h135 inferInstance (by decide)) (fun v144 s144 R144 => ?_) XT.stop
           obtain ⟨rfl, rfl⟩ := R144
           dsimp only [List.cons_append, List.nil_append]
           refine ⟨inferInstance, ?_⟩
           refine XT.q rfl rfl (Quiet.guardF rfl rfl fun g145 p145 => Q.not rfl) ?_
           refine XT.q rfl rfl (Q.or rfl (fun hp => lzv hp rfl)) ?_
           refine XT.done ?_
           exact mtr16 (()) _ _ trivial (.c rfl (.base 34 rfl rfl)) inferInstance
          ·have _ts := True.intro
           rw [show ([(.slice none 0 0), v135, v136, v137, v138] : List Value).getD ((n : Int) % 5).toNat default = v136 by rw [hk]; rfl]
           refine XT.callS rfl rfl rfl rfl rfl Tryz.call5 rfl (.c (lzv rfl rfl) (.c (lzv rfl rfl) (.c (lzv rfl rfl) (.c (lzv rfl rfl) .n)))) rfl (OFS [1] v136 h136 inferInstance (by decide)) (fun v144 s144 R144 => ?_) XT.stop
           obtain ⟨rfl, rfl⟩ := R144
           dsimp only [List.cons_append, List.nil_append]
           refine ⟨inferInstance, ?_⟩
           refine XT.q rfl rfl (Quiet.guardF rfl rfl fun g145 p145 => Q.not rfl) ?_
           refine XT.q rfl rfl (Q.or rfl (fun hp => lzv hp rfl)) ?_
           refine XT.done ?_
           exact mtr16 (()) _ _ trivial (.c rfl (.base 34 rfl rfl)) inferInstance
          ·have _ts := True.intro
           rw [show ([(.slice none 0 0), v135, v136, v137, v138] : List Value).getD ((n : Int) % 5).toNat default = v137 by rw [hk]; rfl]
           refine XT.callS rfl rfl rfl rfl rfl Tryz.call5 rfl (.c (lzv rfl rfl) (.c (lzv rfl rfl) (.c (lzv rfl rfl) (.c (lzv rfl rfl) .n)))) rfl (OFS [0, 2] v137 h137 inferInstance (by decide)) (fun v144 s144 R144 => ?_) XT.stop
           obtain ⟨rfl, rfl⟩ := R144
           dsimp only [List.cons_append, List.nil_append]
           refine ⟨inferInstance, ?_⟩
           refine XT.q rfl rfl (Quiet.guardF rfl rfl fun g145 p145 => Q.not rfl) ?_
           refine XT.q rfl rfl (Q.or rfl (fun hp => lzv hp rfl)) ?_
           refine XT.done ?_
           exact mtr16 (()) _ _ trivial (.c rfl (.base 34 rfl rfl)) inferInstance
          ·have _ts := True.intro
           rw [show ([(.slice none 0 0), v135, v136, v137, v138] : List Value).getD ((n : Int) % 5).toNat default = v138 by rw [hk]; rfl]
           refine XT.callS rfl rfl rfl rfl rfl Tryz.call5 rfl (.c (lzv rfl rfl) (.c (lzv rfl rfl) (.c (lzv rfl rfl) (.c (lzv rfl rfl) .n)))) rfl (OFS [2] v138 h138 inferInstance (by decide)) (fun v144 s144 R144 => ?_) XT.stop
           obtain ⟨rfl, rfl⟩ := R144
           dsimp only [List.cons_append, List.nil_append]
           refine ⟨inferInstance, ?_⟩
           refine XT.q rfl rfl (Quiet.guardF rfl rfl fun g145 p145 => Q.not rfl) ?_
           refine XT.q rfl rfl (Q.or rfl (fun hp => lzv hp rfl)) ?_
           refine XT.done ?_
           exact mtr16 (()) _ _ trivial (.c rfl (.base 34 rfl rfl)) inferInstance
        ·skip
         refine XT.litS [_] [_] [2] encI rfl rfl rfl rfl rfl (by rfl) (by rfl) rfl (by rfl) (by exact .c 0 1 rfl rfl rfl (.n _)) (fun _ => rfl) (by rfl) rfl (by infer_instance) rfl (fun v138 h138 O138 => ⟨inferInstance, ?_⟩) XT.stop
         refine XT.litS [_] [_] [1] encI rfl rfl rfl rfl rfl (by rfl) (by rfl) rfl (by rfl) (by exact .c 0 1 rfl rfl rfl (.n _)) (fun _ => rfl) (by rfl) rfl (by infer_instance) rfl (fun v136 h136 O136 => ⟨inferInstance, ?_⟩) ?_
         ·skip
          refine XT.litS [_, _] [_, _] [0, 2] encI rfl rfl rfl rfl rfl (by rfl) (by rfl) rfl (by rfl) (by exact .c 0 1 rfl rfl rfl (.c 1 1 rfl rfl rfl (.n _))) (fun _ => rfl) (by rfl) rfl (by infer_instance) rfl (fun v137 h137 O137 => ⟨inferInstance, ?_⟩) XT.stop
          refine XT.litS [_, _, _, _, _] [_, _, _, _, _] ([(.slice none 0 0), v135, v136, v137, v138] : List Value) encV rfl rfl rfl rfl rfl (by rfl) (by rfl) rfl (by rfl) (by exact .c 0 1 rfl rfl rfl (.c 1 1 rfl rfl rfl (.c 2 1 rfl rfl rfl (.c 3 1 rfl rfl rfl (.c 4 1 rfl rfl rfl (.n _)))))) (fun _ => rfl) (by rfl) rfl (by infer_instance) rfl (fun v139 h139 O139 => ⟨inferInstance, ?_⟩) XT.stop
          refine XT.qs rfl rfl (Quiet.guardF rfl rfl fun g142 p142 => Q.ix rfl (lzv rfl rfl) (by omega) (by show (n : Int) % 5 < 5; omega)) ⟨inferInstance, ?_⟩ XT.stop
          refine XT.qs rfl rfl (Quiet.guardF rfl rfl fun g143 p143 => Q.ldE (lzv g143 rfl) (by show ((n : Int) % 5).toNat < 5; omega) rfl) ⟨inferInstance, ?_⟩ XT.stop
          rcases (show (n : Int) % 5 = 0 ∨ (n : Int) % 5 = 1 ∨ (n : Int) % 5 = 2 ∨ (n : Int) % 5 = 3 ∨ (n : Int) % 5 = 4 by omega) with hk | hk | hk | hk | hk
          ·have _ts := True.intro
           rw [show ([(.slice none 0 0), v135, v136, v137, v138] : List Value).getD ((n : Int) % 5).toNat default = (.slice none 0 0) by rw [hk]; rfl]
           refine XT.callS rfl rfl rfl rfl rfl Tryz.call5 rfl (.c (lzv rfl rfl) (.c (lzv rfl rfl) (.c (lzv rfl rfl) (.c (lzv rfl rfl) .n)))) rfl (OFS ([] : List Int) (.slice none 0 0) h139 (nI h139) (by decide)) (fun v144 s144 R144 => ?_) XT.stop
           obtain ⟨rfl, rfl⟩ := R144
           dsimp only [List.cons_append, List.nil_append]
           refine ⟨inferInstance, ?_⟩
           refine XT.q rfl rfl (Quiet.guardF rfl rfl fun g145 p145 => Q.not rfl) ?_
           refine XT.q rfl rfl (Q.or rfl (fun hp => lzv hp rfl)) ?_
           refine XT.done ?_
           exact mtr16 (()) _ _ trivial (.c rfl (.base 34 rfl rfl)) inferInstance
          ·have _ts := True.intro
           rw [show ([(.slice none 0 0), v135, v136, v137, v138] : List Value).getD ((n : Int) % 5).toNat default = v135 by rw [hk]; rfl]
           refine XT.callS rfl rfl rfl rfl rfl Tryz.call5 rfl (.c (lzv rfl rfl) (.c (lzv rfl rfl) (.c (lzv rfl rfl) (.c (lzv rfl rfl) .n)))) rfl (OFS [0] v135 h135 inferInstance (by decide)) (fun v144 s144 R144 => ?_) XT.stop
           obtain ⟨rfl, rfl⟩ := R144
           dsimp only [List.cons_append, List.nil_append]
           refine ⟨inferInstance, ?_⟩
           refine XT.q rfl rfl (Quiet.guardF rfl rfl fun g145 p145 => Q.not rfl) ?_
           refine XT.q rfl rfl (Q.or rfl (fun hp => lzv hp rfl)) ?_
           refine XT.done ?_
           exact mtr16 (()) _ _ trivial (.c rfl (.base 34 rfl rfl)) inferInstance
          ·have _ts := True.intro
           rw [show ([(.slice none 0 0), v135, v136, v137, v138] : List Value).getD ((n : Int) % 5).toNat default = v136 by rw [hk]; rfl]
           refine XT.callS rfl rfl rfl rfl rfl Tryz.call5 rfl (.c (lzv rfl rfl) (.c (lzv rfl rfl) (.c (lzv rfl rfl) (.c (lzv rfl rfl) .n)))) rfl (OFS [1] v136 h136 inferInstance (by decide)) (fun v144 s144 R144 => ?_) XT.stop
           obtain ⟨rfl, rfl⟩ := R144
           dsimp only [List.cons_append, List.nil_append]
           refine ⟨inferInstance, ?_⟩
           refine XT.q rfl rfl (Quiet.guardF rfl rfl fun g145 p145 => Q.not rfl) ?_
           refine XT.q rfl rfl (Q.or rfl (fun hp => lzv hp rfl)) ?_
           refine XT.done ?_
           exact mtr16 (()) _ _ trivial (.c rfl (.base 34 rfl rfl)) inferInstance
          ·have _ts := True.intro
           rw [show ([(.slice none 0 0), v135, v136, v137, v138] : List Value).getD ((n : Int) % 5).toNat default = v137 by rw [hk]; rfl]
           refine XT.callS rfl rfl rfl rfl rfl Tryz.call5 rfl (.c (lzv rfl rfl) (.c (lzv rfl rfl) (.c (lzv rfl rfl) (.c (lzv rfl rfl) .n)))) rfl (OFS [0, 2] v137 h137 inferInstance (by decide)) (fun v144 s144 R144 => ?_) XT.stop
           obtain ⟨rfl, rfl⟩ := R144
           dsimp only [List.cons_append, List.nil_append]
           refine ⟨inferInstance, ?_⟩
           refine XT.q rfl rfl (Quiet.guardF rfl rfl fun g145 p145 => Q.not rfl) ?_
           refine XT.q rfl rfl (Q.or rfl (fun hp => lzv hp rfl)) ?_
           refine XT.done ?_
           exact mtr16 (()) _ _ trivial (.c rfl (.base 34 rfl rfl)) inferInstance
          ·have _ts := True.intro
           rw [show ([(.slice none 0 0), v135, v136, v137, v138] : List Value).getD ((n : Int) % 5).toNat default = v138 by rw [hk]; rfl]
           refine XT.callS rfl rfl rfl rfl rfl Tryz.call5 rfl (.c (lzv rfl rfl) (.c (lzv rfl rfl) (.c (lzv rfl rfl) (.c (lzv rfl rfl) .n)))) rfl (OFS [2] v138 h138 inferInstance (by decide)) (fun v144 s144 R144 => ?_) XT.stop
           obtain ⟨rfl, rfl⟩ := R144
           dsimp only [List.cons_append, List.nil_append]
           refine ⟨inferInstance, ?_⟩
           refine XT.q rfl rfl (Quiet.guardF rfl rfl fun g145 p145 => Q.not rfl) ?_
           refine XT.q rfl rfl (Q.or rfl (fun hp => lzv hp rfl)) ?_
           refine XT.done ?_
           exact mtr16 (()) _ _ trivial (.c rfl (.base 34 rfl rfl)) inferInstance
         ·skip
          refine XT.litS [_, _] [_, _] [0, 2] encI rfl rfl rfl rfl rfl (by rfl) (by rfl) rfl (by rfl) (by exact .c 0 1 rfl rfl rfl (.c 1 1 rfl rfl rfl (.n _))) (fun _ => rfl) (by rfl) rfl (by infer_instance) rfl (fun v137 h137 O137 => ⟨inferInstance, ?_⟩) XT.stop
          refine XT.litS [_] [_] [1] encI rfl rfl rfl rfl rfl (by rfl) (by rfl) rfl (by rfl) (by exact .c 0 1 rfl rfl rfl (.n _)) (fun _ => rfl) (by rfl) rfl (by infer_instance) rfl (fun v136 h136 O136 => ⟨inferInstance, ?_⟩) XT.stop
          refine XT.litS [_, _, _, _, _] [_, _, _, _, _] ([(.slice none 0 0), v135, v136, v137, v138] : List Value) encV rfl rfl rfl rfl rfl (by rfl) (by rfl) rfl (by rfl) (by exact .c 0 1 rfl rfl rfl (.c 1 1 rfl rfl rfl (.c 2 1 rfl rfl rfl (.c 3 1 rfl rfl rfl (.c 4 1 rfl rfl rfl (.n _)))))) (fun _ => rfl) (by rfl) rfl (by infer_instance) rfl (fun v139 h139 O139 => ⟨inferInstance, ?_⟩) XT.stop
          refine XT.qs rfl rfl (Quiet.guardF rfl rfl fun g142 p142 => Q.ix rfl (lzv rfl rfl) (by omega) (by show (n : Int) % 5 < 5; omega)) ⟨inferInstance, ?_⟩ XT.stop
          refine XT.qs rfl rfl (Quiet.guardF rfl rfl fun g143 p143 => Q.ldE (lzv g143 rfl) (by show ((n : Int) % 5).toNat < 5; omega) rfl) ⟨inferInstance, ?_⟩ XT.stop
          rcases (show (n : Int) % 5 = 0 ∨ (n : Int) % 5 = 1 ∨ (n : Int) % 5 = 2 ∨ (n : Int) % 5 = 3 ∨ (n : Int) % 5 = 4 by omega) with hk | hk | hk | hk | hk
          ·have _ts := True.intro
           rw [show ([(.slice none 0 0), v135, v136, v137, v138] : List Value).getD ((n : Int) % 5).toNat default = (.slice none 0 0) by rw [hk]; rfl]
           refine XT.callS rfl rfl rfl rfl rfl Tryz.call5 rfl (.c (lzv rfl rfl) (.c (lzv rfl rfl) (.c (lzv rfl rfl) (.c (lzv rfl rfl) .n)))) rfl (OFS ([] : List Int) (.slice none 0 0) h139 (nI h139) (by decide)) (fun v144 s144 R144 => ?_) XT.stop
           obtain ⟨rfl, rfl⟩ := R144
           dsimp only [List.cons_append, List.nil_append]
           refine ⟨inferInstance, ?_⟩
           refine XT.q rfl rfl (Quiet.guardF rfl rfl fun g145 p145 => Q.not rfl) ?_
           refine XT.q rfl rfl (Q.or rfl (fun hp => lzv hp rfl)) ?_
           refine XT.done ?_
           exact mtr16 (()) _ _ trivial (.c rfl (.base 34 rfl rfl)) inferInstance
          ·have _ts := True.intro
           rw [show ([(.slice none 0 0), v135, v136, v137, v138] : List Value).getD ((n : Int) % 5).toNat default = v135 by rw [hk]; rfl]
           refine XT.callS rfl rfl rfl rfl rfl Tryz.call5 rfl (.c (lzv rfl rfl) (.c (lzv rfl rfl) (.c (lzv rfl rfl) (.c (lzv rfl rfl) .n)))) rfl (OFS [0] v135 h135 inferInstance (by decide)) (fun v144 s144 R144 => ?_) XT.stop
           obtain ⟨rfl, rfl⟩ := R144
           dsimp only [List.cons_append, List.nil_append]
           refine ⟨inferInstance, ?_⟩
           refine XT.q rfl rfl (Quiet.guardF rfl rfl fun g145 p145 => Q.not rfl) ?_
           refine XT.q rfl rfl (Q.or rfl (fun hp => lzv hp rfl)) ?_
           refine XT.done ?_
           exact mtr16 (()) _ _ trivial (.c rfl (.base 34 rfl rfl)) inferInstance
          ·have _ts := True.intro
           rw [show ([(.slice none 0 0), v135, v136, v137, v138] : List Value).getD ((n : Int) % 5).toNat default = v136 by rw [hk]; rfl]
           refine XT.callS rfl rfl rfl rfl rfl Tryz.call5 rfl (.c (lzv rfl rfl) (.c (lzv rfl rfl) (.c (lzv rfl rfl) (.c (lzv rfl rfl) .n)))) rfl (OFS [1] v136 h136 inferInstance (by decide)) (fun v144 s144 R144 => ?_) XT.stop
           obtain ⟨rfl, rfl⟩ := R144
           dsimp only [List.cons_append, List.nil_append]
           refine ⟨inferInstance, ?_⟩
           refine XT.q rfl rfl (Quiet.guardF rfl rfl fun g145 p145 => Q.not rfl) ?_
           refine XT.q rfl rfl (Q.or rfl (fun hp => lzv hp rfl)) ?_
           refine XT.done ?_
           exact mtr16 (()) _ _ trivial (.c rfl (.base 34 rfl rfl)) inferInstance
          ·have _ts := True.intro
           rw [show ([(.slice none 0 0), v135, v136, v137, v138] : List Value).getD ((n : Int) % 5).toNat default = v137 by rw [hk]; rfl]
           refine XT.callS rfl rfl rfl rfl rfl Tryz.call5 rfl (.c (lzv rfl rfl) (.c (lzv rfl rfl) (.c (lzv rfl rfl) (.c (lzv rfl rfl) .n)))) rfl (OFS [0, 2] v137 h137 inferInstance (by decide)) (fun v144 s144 R144 => ?_) XT.stop
           obtain ⟨rfl, rfl⟩ := R144
           dsimp only [List.cons_append, List.nil_append]
           refine ⟨inferInstance, ?_⟩
           refine XT.q rfl rfl (Quiet.guardF rfl rfl fun g145 p145 => Q.not rfl) ?_
           refine XT.q rfl rfl (Q.or rfl (fun hp => lzv hp rfl)) ?_
           refine XT.done ?_
           exact mtr16 (()) _ _ trivial (.c rfl (.base 34 rfl rfl)) inferInstance
          ·have _ts := True.intro
           rw [show ([(.slice none 0 0), v135, v136, v137, v138] : List Value).getD ((n : Int) % 5).toNat default = v138 by rw [hk]; rfl]
           refine XT.callS rfl rfl rfl rfl rfl Tryz.call5 rfl (.c (lzv rfl rfl) (.c (lzv rfl rfl) (.c (lzv rfl rfl) (.c (lzv rfl rfl) .n)))) rfl (OFS [2] v138 h138 inferInstance (by decide)) (fun v144 s144 R144 => ?_) XT.stop
           obtain ⟨rfl, rfl⟩ := R144
           dsimp only [List.cons_append, List.nil_append]
           refine ⟨inferInstance, ?_⟩
           refine XT.q rfl rfl (Quiet.guardF rfl rfl fun g145 p145 => Q.not rfl) ?_
           refine XT.q rfl rfl (Q.or rfl (fun hp => lzv hp rfl)) ?_
           refine XT.done ?_
           exact mtr16 (()) _ _ trivial (.c rfl (.base 34 rfl rfl)) inferInstance
      ·skip
       refine XT.litS [_] [_] [1] encI rfl rfl rfl rfl rfl (by rfl) (by rfl) rfl (by rfl) (by exact .c 0 1 rfl rfl rfl (.n _)) (fun _ => rfl) (by rfl) rfl (by infer_instance) rfl (fun v136 h136 O136 => ⟨inferInstance, ?_⟩) ?_
       ·skip
        refine XT.litS [_] [_] [0] encI rfl rfl rfl rfl rfl (by rfl) (by rfl) rfl (by rfl) (by exact .c 0 1 rfl rfl rfl (.n _)) (fun _ => rfl) (by rfl) rfl (by infer_instance) rfl (fun v135 h135 O135 => ⟨inferInstance, ?_⟩) ?_
        ·skip
         refine XT.litS [_, _] [_, _] [0, 2] encI rfl rfl rfl rfl rfl (by rfl) (by rfl) rfl (by rfl) (by exact .c 0 1 rfl rfl rfl (.c 1 1 rfl rfl rfl (.n _))) (fun _ => rfl) (by rfl) rfl (by infer_instance) rfl (fun v137 h137 O137 => ⟨inferInstance, ?_⟩) ?_
         ·skip
          refine XT.litS [_] [_] [2] encI rfl rfl rfl rfl rfl (by rfl) (by rfl) rfl (by rfl) (by exact .c 0 1 rfl rfl rfl (.n _)) (fun _ => rfl) (by rfl) rfl (by infer_instance) rfl (fun v138 h138 O138 => ⟨inferInstance, ?_⟩) XT.stop
          refine XT.litS [_, _, _, _, _] [_, _, _, _, _] ([(.slice none 0 0), v135, v136, v137, v138] : List Value) encV rfl rfl rfl rfl rfl (by rfl) (by rfl) rfl (by rfl) (by exact .c 0 1 rfl rfl rfl (.c 1 1 rfl rfl rfl (.c 2 1 rfl rfl rfl (.c 3 1 rfl rfl rfl (.c 4 1 rfl rfl rfl (.n _)))))) (fun _ => rfl) (by rfl) rfl (by infer_instance) rfl (fun v139 h139 O139 => ⟨inferInstance, ?_⟩) XT.stop
          refine XT.qs rfl rfl (Quiet.guardF rfl rfl fun g142 p142 => Q.ix rfl (lzv rfl rfl) (by omega) (by show (n : Int) % 5 < 5; omega)) ⟨inferInstance, ?_⟩ XT.stop
          refine XT.qs rfl rfl (Quiet.guardF rfl rfl fun g143 p143 => Q.ldE (lzv g143 rfl) (by show ((n : Int) % 5).toNat < 5; omega) rfl) ⟨inferInstance, ?_⟩ XT.stop
          rcases (show (n : Int) % 5 = 0 ∨ (n : Int) % 5 = 1 ∨ (n : Int) % 5 = 2 ∨ (n : Int) % 5 = 3 ∨ (n : Int) % 5 = 4 by omega) with hk | hk | hk | hk | hk
          ·have _ts := True.intro
           rw [show ([(.slice none 0 0), v135, v136, v137, v138] : List Value).getD ((n : Int) % 5).toNat default = (.slice none 0 0) by rw [hk]; rfl]
           refine XT.callS rfl rfl rfl rfl rfl Tryz.call5 rfl (.c (lzv rfl rfl) (.c (lzv rfl rfl) (.c (lzv rfl rfl) (.c (lzv rfl rfl) .n)))) rfl (OFS ([] : List Int) (.slice none 0 0) h139 (nI h139) (by decide)) (fun v144 s144 R144 => ?_) XT.stop
           obtain ⟨rfl, rfl⟩ := R144
           dsimp only [List.cons_append, List.nil_append]
           refine ⟨inferInstance, ?_⟩
           refine XT.q rfl rfl (Quiet.guardF rfl rfl fun g145 p145 => Q.not rfl) ?_
           refine XT.q rfl rfl (Q.or rfl (fun hp => lzv hp rfl)) ?_
           refine XT.done ?_
           exact mtr16 (()) _ _ trivial (.c rfl (.base 34 rfl rfl)) inferInstance
          ·have _ts := True.intro
           rw [show ([(.slice none 0 0), v135, v136, v137, v138] : List Value).getD ((n : Int) % 5).toNat default = v135 by rw [hk]; rfl]
           refine XT.callS rfl rfl rfl rfl rfl Tryz.call5 rfl (.c (lzv rfl rfl) (.c (lzv rfl rfl) (.c (lzv rfl rfl) (.c (lzv rfl rfl) .n)))) rfl (OFS [0] v135 h135 inferInstance (by decide)) (fun v144 s144 R144 => ?_) XT.stop
           obtain ⟨rfl, rfl⟩ := R144
           dsimp only [List.cons_append, List.nil_append]
           refine ⟨inferInstance, ?_⟩
           refine XT.q rfl rfl (Quiet.guardF rfl rfl fun g145 p145 => Q.not rfl) ?_
           refine XT.q rfl rfl (Q.or rfl (fun hp => lzv hp rfl)) ?_
           refine XT.done ?_
           exact mtr16 (()) _ _ trivial (.c rfl (.base 34 rfl rfl)) inferInstance
          ·have _ts := True.intro
           rw [show ([(.slice none 0 0), v135, v136, v137, v138] : List Value).getD ((n : Int) % 5).toNat default = v136 by rw [hk]; rfl]
           refine XT.callS rfl rfl rfl rfl rfl Tryz.call5 rfl (.c (lzv rfl rfl) (.c (lzv rfl rfl) (.c (lzv rfl rfl) (.c (lzv rfl rfl) .n)))) rfl (OFS [1] v136 h136 inferInstance (by decide)) (fun v144 s144 R144 => ?_) XT.stop
           obtain ⟨rfl, rfl⟩ := R144
           dsimp only [List.cons_append, List.nil_append]
           refine ⟨inferInstance, ?_⟩
           refine XT.q rfl rfl (Quiet.guardF rfl rfl fun g145 p145 => Q.not rfl) ?_
           refine XT.q rfl rfl (Q.or rfl (fun hp => lzv hp rfl)) ?_
           refine XT.done ?_
           exact mtr16 (()) _ _ trivial (.c rfl (.base 34 rfl rfl)) inferInstance
          ·have _ts := True.intro
           rw [show ([(.slice none 0 0), v135, v136, v137, v138] : List Value).getD ((n : Int) % 5).toNat default = v137 by rw [hk]; rfl]
           refine XT.callS rfl rfl rfl rfl rfl Tryz.call5 rfl (.c (lzv rfl rfl) (.c (lzv rfl rfl) (.c (lzv rfl rfl) (.c (lzv rfl rfl) .n)))) rfl (OFS [0, 2] v137 h137 inferInstance (by decide)) (fun v144 s144 R144 => ?_) XT.stop
           obtain ⟨rfl, rfl⟩ := R144
           dsimp only [List.cons_append, List.nil_append]
           refine ⟨inferInstance, ?_⟩
           refine XT.q rfl rfl (Quiet.guardF rfl rfl fun g145 p145 => Q.not rfl) ?_
           refine XT.q rfl rfl (Q.or rfl (fun hp => lzv hp rfl)) ?_
           refine XT.done ?_
           exact mtr16 (()) _ _ trivial (.c rfl (.base 34 rfl rfl)) inferInstance
          ·have _ts := True.intro
           rw [show ([(.slice none 0 0), v135, v136, v137, v138] : List Value).getD ((n : Int) % 5).toNat default = v138 by rw [hk]; rfl]
           refine XT.callS rfl rfl rfl rfl rfl Tryz.call5 rfl (.c (lzv rfl rfl) (.c (lzv rfl rfl) (.c (lzv rfl rfl) (.c (lzv rfl rfl) .n)))) rfl (OFS [2] v138 h138 inferInstance (by decide)) (fun v144 s144 R144 => ?_) XT.stop
           obtain ⟨rfl, rfl⟩ := R144
           dsimp only [List.cons_append, List.nil_append]
           refine ⟨inferInstance, ?_⟩
           refine XT.q rfl rfl (Quiet.guardF rfl rfl fun g145 p145 => Q.not rfl) ?_
           refine XT.q rfl rfl (Q.or rfl (fun hp => lzv hp rfl)) ?_
           refine XT.done ?_
           exact mtr16 (()) _ _ trivial (.c rfl (.base 34 rfl rfl)) inferInstance
         ·skip
          refine XT.litS [_] [_] [2] encI rfl rfl rfl rfl rfl (by rfl) (by rfl) rfl (by rfl) (by exact .c 0 1 rfl rfl rfl (.n _)) (fun _ => rfl) (by rfl) rfl (by infer_instance) rfl (fun v138 h138 O138 => ⟨inferInstance, ?_⟩) XT.stop
          refine XT.litS [_, _] [_, _] [0, 2] encI rfl rfl rfl rfl rfl (by rfl) (by rfl) rfl (by rfl) (by exact .c 0 1 rfl rfl rfl (.c 1 1 rfl rfl rfl (.n _))) (fun _ => rfl) (by rfl) rfl (by infer_instance) rfl (fun v137 h137 O137 => ⟨inferInstance, ?_⟩) XT.stop
          refine XT.litS [_, _, _, _, _] [_, _, _, _, _] ([(.slice none 0 0), v135, v136, v137, v138] : List Value) encV rfl rfl rfl rfl rfl (by rfl) (by rfl) rfl (by rfl) (by exact .c 0 1 rfl rfl rfl (.c 1 1 rfl rfl rfl (.c 2 1 rfl rfl rfl (.c 3 1 rfl rfl rfl (.c 4 1 rfl rfl rfl (.n _)))))) (fun _ => rfl) (by rfl) rfl (by infer_instance) rfl (fun v139 h139 O139 => ⟨inferInstance, ?_⟩) XT.stop
          refine XT.qs rfl rfl (Quiet.guardF rfl rfl fun g142 p142 => Q.ix rfl (lzv rfl rfl) (by omega) (by show (n : Int) % 5 < 5; omega)) ⟨inferInstance, ?_⟩ XT.stop
          refine XT.qs rfl rfl (Quiet.guardF rfl rfl fun g143 p143 => Q.ldE (lzv g143 rfl) (by show ((n : Int) % 5).toNat < 5; omega) rfl) ⟨inferInstance, ?_⟩ XT.stop
          rcases (show (n : Int) % 5 = 0 ∨ (n : Int) % 5 = 1 ∨ (n : Int) % 5 = 2 ∨ (n : Int) % 5 = 3 ∨ (n : Int) % 5 = 4 by omega) with hk | hk | hk | hk | hk
          ·have _ts := True.intro
           rw [show ([(.slice none 0 0), v135, v136, v137, v138] : List Value).getD ((n : Int) % 5).toNat default = (.slice none 0 0) by rw [hk]; rfl]
           refine XT.callS rfl rfl rfl rfl rfl Tryz.call5 rfl (.c (lzv rfl rfl) (.c (lzv rfl rfl) (.c (lzv rfl rfl) (.c (lzv rfl rfl) .n)))) rfl (OFS ([] : List Int) (.slice none 0 0) h139 (nI h139) (by decide)) (fun v144 s144 R144 => ?_) XT.stop
           obtain ⟨rfl, rfl⟩ := R144
           dsimp only [List.cons_append, List.nil_append]
           refine ⟨inferInstance, ?_⟩
           refine XT.q rfl rfl (Quiet.guardF rfl rfl fun g145 p145 => Q.not rfl) ?_
           refine XT.q rfl rfl (Q.or rfl (fun hp => lzv hp rfl)) ?_
           refine XT.done ?_
           exact mtr16 (()) _ _ trivial (.c rfl (.base 34 rfl rfl)) inferInstance
          ·have _ts := True.intro
           rw [show ([(.slice none 0 0), v135, v136, v137, v138] : List Value).getD ((n : Int) % 5).toNat default = v135 by rw [hk]; rfl]
           refine XT.callS rfl rfl rfl rfl rfl Tryz.call5 rfl (.c (lzv rfl rfl) (.c (lzv rfl rfl) (.c (lzv rfl rfl) (.c (lzv rfl rfl) .n)))) rfl (OFS [0] v135 h135 inferInstance (by decide)) (fun v144 s144 R144 => ?_) XT.stop
           obtain ⟨rfl, rfl⟩ := R144
           dsimp only [List.cons_append, List.nil_append]
           refine ⟨inferInstance, ?_⟩
           refine XT.q rfl rfl (Quiet.guardF rfl rfl fun g145 p145 => Q.not rfl) ?_
           refine XT.q rfl rfl (Q.or rfl (fun hp => lzv hp rfl)) ?_
           refine XT.done ?_
           exact mtr16 (()) _ _ trivial (.c rfl (.base 34 rfl rfl)) inferInstance
          ·have _ts := True.intro
           rw [show ([(.slice none 0 0), v135, v136, v137, v138] : List Value).getD ((n : Int) % 5).toNat default = v136 by rw [hk]; rfl]
           refine XT.callS rfl rfl rfl rfl rfl Tryz.call5 rfl (.c (lzv rfl rfl) (.c (lzv rfl rfl) (.c (lzv rfl rfl) (.c (lzv rfl rfl) .n)))) rfl (OFS [1] v136 h136 inferInstance (by decide)) (fun v144 s144 R144 => ?_) XT.stop
           obtain ⟨rfl, rfl⟩ := R144
           dsimp only [List.cons_append, List.nil_append]
           refine ⟨inferInstance, ?_⟩
           refine XT.q rfl rfl (Quiet.guardF rfl rfl fun g145 p145 => Q.not rfl) ?_
           refine XT.q rfl rfl (Q.or rfl (fun hp => lzv hp rfl)) ?_
           refine XT.done ?_
           exact mtr16 (()) _ _ trivial (.c rfl (.base 34 rfl rfl)) inferInstance
          ·have _ts := True.intro
           rw [show ([(.slice none 0 0), v135, v136, v137, v138] : List Value).getD ((n : Int) % 5).toNat default = v137 by rw [hk]; rfl]
           refine XT.callS rfl rfl rfl rfl rfl Tryz.call5 rfl (.c (lzv rfl rfl) (.c (lzv rfl rfl) (.c (lzv rfl rfl) (.c (lzv rfl rfl) .n)))) rfl (OFS [0, 2] v137 h137 inferInstance (by decide)) (fun v144 s144 R144 => ?_) XT.stop
           obtain ⟨rfl, rfl⟩ := R144
           dsimp only [List.cons_append, List.nil_append]
           refine ⟨inferInstance, ?_⟩
           refine XT.q rfl rfl (Quiet.guardF rfl rfl fun g145 p145 => Q.not rfl) ?_
           refine XT.q rfl rfl (Q.or rfl (fun hp => lzv hp rfl)) ?_
           refine XT.done ?_
           exact mtr16 (()) _ _ trivial (.c rfl (.base 34 rfl rfl)) inferInstance
          ·have _ts := True.intro
           rw [show ([(.slice none 0 0), v135, v136, v137, v138] : List Value).getD ((n : Int) % 5).toNat default = v138 by rw [hk]; rfl]
           refine XT.callS rfl rfl rfl rfl rfl Tryz.call5 rfl (.c (lzv rfl rfl) (.c (lzv rfl rfl) (.c (lzv rfl rfl) (.c (lzv rfl rfl) .n)))) rfl (OFS [2] v138 h138 inferInstance (by decide)) (fun v144 s144 R144 => ?_) XT.stop
           obtain ⟨rfl, rfl⟩ := R144
           dsimp only [List.cons_append, List.nil_append]
           refine ⟨inferInstance, ?_⟩
           refine XT.q rfl rfl (Quiet.guardF rfl rfl fun g145 p145 => Q.not rfl) ?_
           refine XT.q rfl rfl (Q.or rfl (fun hp => lzv hp rfl)) ?_
           refine XT.done ?_
           exact mtr16 (()) _ _ trivial (.c rfl (.base 34 rfl rfl)) inferInstance
        ·skip
         refine XT.litS [_, _] [_, _] [0, 2] encI rfl rfl rfl rfl rfl (by rfl) (by rfl) rfl (by rfl) (by exact .c 0 1 rfl rfl rfl (.c 1 1 rfl rfl rfl (.n _))) (fun _ => rfl) (by rfl) rfl (by infer_instance) rfl (fun v137 h137 O137 => ⟨inferInstance, ?_⟩) ?_
         ·skip
          refine XT.litS [_] [_] [0] encI rfl rfl rfl rfl rfl (by rfl) (by rfl) rfl (by rfl) (by exact .c 0 1 rfl rfl rfl (.n _)) (fun _ => rfl) (by rfl) rfl (by infer_instance) rfl (fun v135 h135 O135 => ⟨inferInstance, ?_⟩) ?_
          ·skip
           refine XT.litS [_] [_] [2] encI rfl rfl rfl rfl rfl (by rfl) (by rfl) rfl (by rfl) (by exact .c 0 1 rfl rfl rfl (.n _)) (fun _ => rfl) (by rfl) rfl (by infer_instance) rfl (fun v138 h138 O138 => ⟨inferInstance, ?_⟩) XT.stop
           refine XT.litS [_, _, _, _, _] [_, _, _, _, _] ([(.slice none 0 0), v135, v136, v137, v138] : List Value) encV rfl rfl rfl rfl rfl (by rfl) (by rfl) rfl (by rfl) (by exact .c 0 1 rfl rfl rfl (.c 1 1 rfl rfl rfl (.c 2 1 rfl rfl rfl (.c 3 1 rfl rfl rfl (.c 4 1 rfl rfl rfl (.n _)))))) (fun _ => rfl) (by rfl) rfl (by infer_instance) rfl (fun v139 h139 O139 => ⟨inferInstance, ?_⟩) XT.stop
           refine XT.qs rfl rfl (Quiet.guardF rfl rfl fun g142 p142 => Q.ix rfl (lzv rfl rfl) (by omega) (by show (n : Int) % 5 < 5; omega)) ⟨inferInstance, ?_⟩ XT.stop
           refine XT.qs rfl rfl (Quiet.guardF rfl rfl fun g143 p143 => Q.ldE (lzv g143 rfl) (by show ((n : Int) % 5).toNat < 5; omega) rfl) ⟨inferInstance, ?_⟩ XT.stop
           rcases (show (n : Int) % 5 = 0 ∨ (n : Int) % 5 = 1 ∨ (n : Int) % 5 = 2 ∨ (n : Int) % 5 = 3 ∨ (n : Int) % 5 = 4 by omega) with hk | hk | hk | hk | hk
           ·have _ts := True.intro
            rw [show ([(.slice none 0 0), v135, v136, v137, v138] : List Value).getD ((n : Int) % 5).toNat default = (.slice none 0 0) by rw [hk]; rfl]
            refine XT.callS rfl rfl rfl rfl rfl Tryz.call5 rfl (.c (lzv rfl rfl) (.c (lzv rfl rfl) (.c (lzv rfl rfl) (.c (lzv rfl rfl) .n)))) rfl (OFS ([] : List Int) (.slice none 0 0) h139 (nI h139) (by decide)) (fun v144 s144 R144 => ?_) XT.stop
            obtain ⟨rfl, rfl⟩ := R144
            dsimp only [List.cons_append, List.nil_append]
            refine ⟨inferInstance, ?_⟩
            refine XT.q rfl rfl (Quiet.guardF rfl rfl fun g145 p145 => Q.not rfl) ?_
            refine XT.q rfl rfl (Q.or rfl (fun hp => lzv hp rfl)) ?_
            refine XT.done ?_
            exact mtr16 (()) _ _ trivial (.c rfl (.base 34 rfl rfl)) inferInstance
           ·have _ts := True.intro
            rw [show ([(.slice none 0 0), v135, v136, v137, v138] : List Value).getD ((n : Int) % 5).toNat default = v135 by rw [hk]; rfl]
            refine XT.callS rfl rfl rfl rfl rfl Tryz.call5 rfl (.c (lzv rfl rfl) (.c (lzv rfl rfl) (.c (lzv rfl rfl) (.c (lzv rfl rfl) .n)))) rfl (OFS [0] v135 h135 inferInstance (by decide)) (fun v144 s144 R144 => ?_) XT.stop
            obtain ⟨rfl, rfl⟩ := R144
            dsimp only [List.cons_append, List.nil_append]
            refine ⟨inferInstance, ?_⟩
            refine XT.q rfl rfl (Quiet.guardF rfl rfl fun g145 p145 => Q.not rfl) ?_
            refine XT.q rfl rfl (Q.or rfl (fun hp => lzv hp rfl)) ?_
            refine XT.done ?_
            exact mtr16 (()) _ _ trivial (.c rfl (.base 34 rfl rfl)) inferInstance
           ·have _ts := True.intro
            rw [show ([(.slice none 0 0), v135, v136, v137, v138] : List Value).getD ((n : Int) % 5).toNat default = v136 by rw [hk]; rfl]
            refine XT.callS rfl rfl rfl rfl rfl Tryz.call5 rfl (.c (lzv rfl rfl) (.c (lzv rfl rfl) (.c (lzv rfl rfl) (.c (lzv rfl rfl) .n)))) rfl (OFS [1] v136 h136 inferInstance (by decide)) (fun v144 s144 R144 => ?_) XT.stop
            obtain ⟨rfl, rfl⟩ := R144
            dsimp only [List.cons_append, List.nil_append]
            refine ⟨inferInstance, ?_⟩
            refine XT.q rfl rfl (Quiet.guardF rfl rfl fun g145 p145 => Q.not rfl) ?_
            refine XT.q rfl rfl (Q.or rfl (fun hp => lzv hp rfl)) ?_
            refine XT.done ?_
            exact mtr16 (()) _ _ trivial (.c rfl (.base 34 rfl rfl)) inferInstance
           ·have _ts := True.intro
            rw [show ([(.slice none 0 0), v135, v136, v137, v138] : List Value).getD ((n : Int) % 5).toNat default = v137 by rw [hk]; rfl]
            refine XT.callS rfl rfl rfl rfl rfl Tryz.call5 rfl (.c (lzv rfl rfl) (.c (lzv rfl rfl) (.c (lzv rfl rfl) (.c (lzv rfl rfl) .n)))) rfl (OFS [0, 2] v137 h137 inferInstance (by decide)) (fun v144 s144 R144 => ?_) XT.stop
            obtain ⟨rfl, rfl⟩ := R144
            dsimp only [List.cons_append, List.nil_append]
            refine ⟨inferInstance, ?_⟩
            refine XT.q rfl rfl (Quiet.guardF rfl rfl fun g145 p145 => Q.not rfl) ?_
            refine XT.q rfl rfl (Q.or rfl (fun hp => lzv hp rfl)) ?_
            refine XT.done ?_
            exact mtr16 (()) _ _ trivial (.c rfl (.base 34 rfl rfl)) inferInstance
           ·have _ts := True.intro
            rw [show ([(.slice none 0 0), v135, v136, v137, v138] : List Value).getD ((n : Int) % 5).toNat default = v138 by rw [hk]; rfl]
            refine XT.callS rfl rfl rfl rfl rfl Tryz.call5 rfl (.c (lzv rfl rfl) (.c (lzv rfl rfl) (.c (lzv rfl rfl) (.c (lzv rfl rfl) .n)))) rfl (OFS [2] v138 h138 inferInstance (by decide)) (fun v144 s144 R144 => ?_) XT.stop
            obtain ⟨rfl, rfl⟩ := R144
            dsimp only [List.cons_append, List.nil_append]
            refine ⟨inferInstance, ?_⟩
            refine XT.q rfl rfl (Quiet.guardF rfl rfl fun g145 p145 => Q.not rfl) ?_
            refine XT.q rfl rfl (Q.or rfl (fun hp => lzv hp rfl)) ?_
            refine XT.done ?_
            exact mtr16 (()) _ _ trivial (.c rfl (.base 34 rfl rfl)) inferInstance
          ·skip
           refine XT.litS [_] [_] [2] encI rfl rfl rfl rfl rfl (by rfl) (by rfl) rfl (by rfl) (by exact .c 0 1 rfl rfl rfl (.n _)) (fun _ => rfl) (by rfl) rfl (by infer_instance) rfl (fun v138 h138 O138 => ⟨inferInstance, ?_⟩) XT.stop
           refine XT.litS [_] [_] [0] encI rfl rfl rfl rfl rfl (by rfl) (by rfl) rfl (by rfl) (by exact .c 0 1 rfl rfl rfl (.n _)) (fun _ => rfl) (by rfl) rfl (by infer_instance) rfl (fun v135 h135 O135 => ⟨inferInstance, ?_⟩) XT.stop
           refine XT.litS [_, _, _, _, _] [_, _, _, _, _] ([(.slice none 0 0), v135, v136, v137, v138] : List Value) encV rfl rfl rfl rfl rfl (by rfl) (by rfl) rfl (by rfl) (by exact .c 0 1 rfl rfl rfl (.c 1 1 rfl rfl rfl (.c 2 1 rfl rfl rfl (.c 3 1 rfl rfl rfl (.c 4 1 rfl rfl rfl (.n _)))))) (fun _ => rfl) (by rfl) rfl (by infer_instance) rfl (fun v139 h139 O139 => ⟨inferInstance, ?_⟩) XT.stop
           refine XT.qs rfl rfl (Quiet.guardF rfl rfl fun g142 p142 => Q.ix rfl (lzv rfl rfl) (by omega) (by show (n : Int) % 5 < 5; omega)) ⟨inferInstance, ?_⟩ XT.stop
           refine XT.qs rfl rfl (Quiet.guardF rfl rfl fun g143 p143 => Q.ldE (lzv g143 rfl) (by show ((n : Int) % 5).toNat < 5; omega) rfl) ⟨inferInstance, ?_⟩ XT.stop
           rcases (show (n : Int) % 5 = 0 ∨ (n : Int) % 5 = 1 ∨ (n : Int) % 5 = 2 ∨ (n : Int) % 5 = 3 ∨ (n : Int) % 5 = 4 by omega) with hk | hk | hk | hk | hk
           ·have _ts := True.intro
            rw [show ([(.slice none 0 0), v135, v136, v137, v138] : List Value).getD ((n : Int) % 5).toNat default = (.slice none 0 0) by rw [hk]; rfl]
            refine XT.callS rfl rfl rfl rfl rfl Tryz.call5 rfl (.c (lzv rfl rfl) (.c (lzv rfl rfl) (.c (lzv rfl rfl) (.c (lzv rfl rfl) .n)))) rfl (OFS ([] : List Int) (.slice none 0 0) h139 (nI h139) (by decide)) (fun v144 s144 R144 => ?_) XT.stop
            obtain ⟨rfl, rfl⟩ := R144
            dsimp only [List.cons_append, List.nil_append]
            refine ⟨inferInstance, ?_⟩
            refine XT.q rfl rfl (Quiet.guardF rfl rfl fun g145 p145 => Q.not rfl) ?_
            refine XT.q rfl rfl (Q.or rfl (fun hp => lzv hp rfl)) ?_
            refine XT.done ?_
            exact mtr16 (()) _ _ trivial (.c rfl (.base 34 rfl rfl)) inferInstance
           ·have _ts := True.intro
            rw [show ([(.slice none 0 0), v135, v136, v137, v138] : List Value).getD ((n : Int) % 5).toNat default = v135 by rw [hk]; rfl]
            refine XT.callS rfl rfl rfl rfl rfl Tryz.call5 rfl (.c (lzv rfl rfl) (.c (lzv rfl rfl) (.c (lzv rfl rfl) (.c (lzv rfl rfl) .n)))) rfl (OFS [0] v135 h135 inferInstance (by decide)) (fun v144 s144 R144 => ?_) XT.stop
            obtain ⟨rfl, rfl⟩ := R144
            dsimp only [List.cons_append, List.nil_append]
            refine ⟨inferInstance, ?_⟩
            refine XT.q rfl rfl (Quiet.guardF rfl rfl fun g145 p145 => Q.not rfl) ?_
            refine XT.q rfl rfl (Q.or rfl (fun hp => lzv hp rfl)) ?_
            refine XT.done ?_
            exact mtr16 (()) _ _ trivial (.c rfl (.base 34 rfl rfl)) inferInstance
           ·have _ts := True.intro
            rw [show ([(.slice none 0 0), v135, v136, v137, v138] : List Value).getD ((n : Int) % 5).toNat default = v136 by rw [hk]; rfl]
            refine XT.callS rfl rfl rfl rfl rfl Tryz.call5 rfl (.c (lzv rfl rfl) (.c (lzv rfl rfl) (.c (lzv rfl rfl) (.c (lzv rfl rfl) .n)))) rfl (OFS [1] v136 h136 inferInstance (by decide)) (fun v144 s144 R144 => ?_) XT.stop
            obtain ⟨rfl, rfl⟩ := R144
            dsimp only [List.cons_append, List.nil_append]
            refine ⟨inferInstance, ?_⟩
            refine XT.q rfl rfl (Quiet.guardF rfl rfl fun g145 p145 => Q.not rfl) ?_
            refine XT.q rfl rfl (Q.or rfl (fun hp => lzv hp rfl)) ?_
            refine XT.done ?_
            exact mtr16 (()) _ _ trivial (.c rfl (.base 34 rfl rfl)) inferInstance
           ·have _ts := True.intro
            rw [show ([(.slice none 0 0), v135, v136, v137, v138] : List Value).getD ((n : Int) % 5).toNat default = v137 by rw [hk]; rfl]
            refine XT.callS rfl rfl rfl rfl rfl Tryz.call5 rfl (.c (lzv rfl rfl) (.c (lzv rfl rfl) (.c (lzv rfl rfl) (.c (lzv rfl rfl) .n)))) rfl (OFS [0, 2] v137 h137 inferInstance (by decide)) (fun v144 s144 R144 => ?_) XT.stop
            obtain ⟨rfl, rfl⟩ := R144
            dsimp only [List.cons_append, List.nil_append]
            refine ⟨inferInstance, ?_⟩
            refine XT.q rfl rfl (Quiet.guardF rfl rfl fun g145 p145 => Q.not rfl) ?_
            refine XT.q rfl rfl (Q.or rfl (fun hp => lzv hp rfl)) ?_
            refine XT.done ?_
            exact mtr16 (()) _ _ trivial (.c rfl (.base 34 rfl rfl)) inferInstance
           ·have _ts := True.intro
            rw [show ([(.slice none 0 0), v135, v136, v137, v138] : List Value).getD ((n : Int) % 5).toNat default = v138 by rw [hk]; rfl]
            refine XT.callS rfl rfl rfl rfl rfl Tryz.call5 rfl (.c (lzv rfl rfl) (.c (lzv rfl rfl) (.c (lzv rfl rfl) (.c (lzv rfl rfl) .n)))) rfl (OFS [2] v138 h138 inferInstance (by decide)) (fun v144 s144 R144 => ?_) XT.stop
            obtain ⟨rfl, rfl⟩ := R144
            dsimp only [List.cons_append, List.nil_append]
            refine ⟨inferInstance, ?_⟩
            refine XT.q rfl rfl (Quiet.guardF rfl rfl fun g145 p145 => Q.not rfl) ?_
            refine XT.q rfl rfl (Q.or rfl (fun hp => lzv hp rfl)) ?_
            refine XT.done ?_
            exact mtr16 (()) _ _ trivial (.c rfl (.base 34 rfl rfl)) inferInstance
         ·skip
          refine XT.litS [_] [_] [2] encI rfl rfl rfl rfl rfl (by rfl) (by rfl) rfl (by rfl) (by exact .c 0 1 rfl rfl rfl (.n _)) (fun _ => rfl) (by rfl) rfl (by infer_instance) rfl (fun v138 h138 O138 => ⟨inferInstance, ?_⟩) XT.stop
          refine XT.litS [_] [_] [0] encI rfl rfl rfl rfl rfl (by rfl) (by rfl) rfl (by rfl) (by exact .c 0 1 rfl rfl rfl (.n _)) (fun _ => rfl) (by rfl) rfl (by infer_instance) rfl (fun v135 h135 O135 => ⟨inferInstance, ?_⟩) ?_
          ·skip
           refine XT.litS [_, _] [_, _] [0, 2] encI rfl rfl rfl rfl rfl (by rfl) (by rfl) rfl (by rfl) (by exact .c 0 1 rfl rfl rfl (.c 1 1 rfl rfl rfl (.n _))) (fun _ => rfl) (by rfl) rfl (by infer_instance) rfl (fun v137 h137 O137 => ⟨inferInstance, ?_⟩) XT.stop
           refine XT.litS [_, _, _, _, _] [_, _, _, _, _] ([(.slice none 0 0), v135, v136, v137, v138] : List Value) encV rfl rfl rfl rfl rfl (by rfl) (by rfl) rfl (by rfl) (by exact .c 0 1 rfl rfl rfl (.c 1 1 rfl rfl rfl (.c 2 1 rfl rfl rfl (.c 3 1 rfl rfl rfl (.c 4 1 rfl rfl rfl (.n _)))))) (fun _ => rfl) (by rfl) rfl (by infer_instance) rfl (fun v139 h139 O139 => ⟨inferInstance, ?_⟩) XT.stop
           refine XT.qs rfl rfl (Quiet.guardF rfl rfl fun g142 p142 => Q.ix rfl (lzv rfl rfl) (by omega) (by show (n : Int) % 5 < 5; omega)) ⟨inferInstance, ?_⟩ XT.stop
           refine XT.qs rfl rfl (Quiet.guardF rfl rfl fun g143 p143 => Q.ldE (lzv g143 rfl) (by show ((n : Int) % 5).toNat < 5; omega) rfl) ⟨inferInstance, ?_⟩ XT.stop
           rcases (show (n : Int) % 5 = 0 ∨ (n : Int) % 5 = 1 ∨ (n : Int) % 5 = 2 ∨ (n : Int) % 5 = 3 ∨ (n : Int) % 5 = 4 by omega) with hk | hk | hk | hk | hk
           ·have _ts := True.intro
            rw [show ([(.slice none 0 0), v135, v136, v137, v138] : List Value).getD ((n : Int) % 5).toNat default = (.slice none 0 0) by rw [hk]; rfl]
            refine XT.callS rfl rfl rfl rfl rfl Tryz.call5 rfl (.c (lzv rfl rfl) (.c (lzv rfl rfl) (.c (lzv rfl rfl) (.c (lzv rfl rfl) .n)))) rfl (OFS ([] : List Int) (.slice none 0 0) h139 (nI h139) (by decide)) (fun v144 s144 R144 => ?_) XT.stop
            obtain ⟨rfl, rfl⟩ := R144
            dsimp only [List.cons_append, List.nil_append]
            refine ⟨inferInstance, ?_⟩
            refine XT.q rfl rfl (Quiet.guardF rfl rfl fun g145 p145 => Q.not rfl) ?_
            refine XT.q rfl rfl (Q.or rfl (fun hp => lzv hp rfl)) ?_
            refine XT.done ?_
            exact mtr16 (()) _ _ trivial (.c rfl (.base 34 rfl rfl)) inferInstance
           ·have _ts := True.intro
            rw [show ([(.slice none 0 0), v135, v136, v137, v138] : List Value).getD ((n : Int) % 5).toNat default = v135 by rw [hk]; rfl]
            refine XT.callS rfl rfl rfl rfl rfl Tryz.call5 rfl (.c (lzv rfl rfl) (.c (lzv rfl rfl) (.c (lzv rfl rfl) (.c (lzv rfl rfl) .n)))) rfl (OFS [0] v135 h135 inferInstance (by decide)) (fun v144 s144 R144 => ?_) XT.stop
            obtain ⟨rfl, rfl⟩ := R144
            dsimp only [List.cons_append, List.nil_append]
            refine ⟨inferInstance, ?_⟩
            refine XT.q rfl rfl (Quiet.guardF rfl rfl fun g145 p145 => Q.not rfl) ?_
            refine XT.q rfl rfl (Q.or rfl (fun hp => lzv hp rfl)) ?_
            refine XT.done ?_
            exact mtr16 (()) _ _ trivial (.c rfl (.base 34 rfl rfl)) inferInstance
           ·have _ts := True.intro
            rw [show ([(.slice none 0 0), v135, v136, v137, v138] : List Value).getD ((n : Int) % 5).toNat default = v136 by rw [hk]; rfl]
            refine XT.callS rfl rfl rfl rfl rfl Tryz.call5 rfl (.c (lzv rfl rfl) (.c (lzv rfl rfl) (.c (lzv rfl rfl) (.c (lzv rfl rfl) .n)))) rfl (OFS [1] v136 h136 inferInstance (by decide)) (fun v144 s144 R144 => ?_) XT.stop
            obtain ⟨rfl, rfl⟩ := R144
            dsimp only [List.cons_append, List.nil_append]
            refine ⟨inferInstance, ?_⟩
            refine XT.q rfl rfl (Quiet.guardF rfl rfl fun g145 p145 => Q.not rfl) ?_
            refine XT.q rfl rfl (Q.or rfl (fun hp => lzv hp rfl)) ?_
            refine XT.done ?_
            exact mtr16 (()) _ _ trivial (.c rfl (.base 34 rfl rfl)) inferInstance
           ·have _ts := True.intro
            rw [show ([(.slice none 0 0), v135, v136, v137, v138] : List Value).getD ((n : Int) % 5).toNat default = v137 by rw [hk]; rfl]
            refine XT.callS rfl rfl rfl rfl rfl Tryz.call5 rfl (.c (lzv rfl rfl) (.c (lzv rfl rfl) (.c (lzv rfl rfl) (.c (lzv rfl rfl) .n)))) rfl (OFS [0, 2] v137 h137 inferInstance (by decide)) (fun v144 s144 R144 => ?_) XT.stop
            obtain ⟨rfl, rfl⟩ := R144
            dsimp only [List.cons_append, List.nil_append]
            refine ⟨inferInstance, ?_⟩
            refine XT.q rfl rfl (Quiet.guardF rfl rfl fun g145 p145 => Q.not rfl) ?_
            refine XT.q rfl rfl (Q.or rfl (fun hp => lzv hp rfl)) ?_
            refine XT.done ?_
            exact mtr16 (()) _ _ trivial (.c rfl (.base 34 rfl rfl)) inferInstance
           ·have _ts := True.intro
            rw [show ([(.slice none 0 0), v135, v136, v137, v138] : List Value).getD ((n : Int) % 5).toNat default = v138 by rw [hk]; rfl]
            refine XT.callS rfl rfl rfl rfl rfl Tryz.call5 rfl (.c (lzv rfl rfl) (.c (lzv rfl rfl) (.c (lzv rfl rfl) (.c (lzv rfl rfl) .n)))) rfl (OFS [2] v138 h138 inferInstance (by decide)) (fun v144 s144 R144 => ?_) XT.stop
            obtain ⟨rfl, rfl⟩ := R144
            dsimp only [List.cons_append, List.nil_append]
            refine ⟨inferInstance, ?_⟩
            refine XT.q rfl rfl (Quiet.guardF rfl rfl fun g145 p145 => Q.not rfl) ?_
            refine XT.q rfl rfl (Q.or rfl (fun hp => lzv hp rfl)) ?_
            refine XT.done ?_
            exact mtr16 (()) _ _ trivial (.c rfl (.base 34 rfl rfl)) inferInstance
          ·skip
           refine XT.litS [_, _] [_, _] [0, 2] encI rfl rfl rfl rfl rfl (by rfl) (by rfl) rfl (by rfl) (by exact .c 0 1 rfl rfl rfl (.c 1 1 rfl rfl rfl (.n _))) (fun _ => rfl) (by rfl) rfl (by infer_instance) rfl (fun v137 h137 O137 => ⟨inferInstance, ?_⟩) XT.stop
           refine XT.litS [_] [_] [0] encI rfl rfl rfl rfl rfl (by rfl) (by rfl) rfl (by rfl) (by exact .c 0 1 rfl rfl rfl (.n _)) (fun _ => rfl) (by rfl) rfl (by infer_instance) rfl (fun v135 h135 O135 => ⟨inferInstance, ?_⟩) XT.stop
           refine XT.litS [_, _, _, _, _] [_, _, _, _, _] ([(.slice none 0 0), v135, v136, v137, v138] : List Value) encV rfl rfl rfl rfl rfl (by rfl) (by rfl) rfl (by rfl) (by exact .c 0 1 rfl rfl rfl (.c 1 1 rfl rfl rfl (.c 2 1 rfl rfl rfl (.c 3 1 rfl rfl rfl (.c 4 1 rfl rfl rfl (.n _)))))) (fun _ => rfl) (by rfl) rfl (by infer_instance) rfl (fun v139 h139 O139 => ⟨inferInstance, ?_⟩) XT.stop
           refine XT.qs rfl rfl (Quiet.guardF rfl rfl fun g142 p142 => Q.ix rfl (lzv rfl rfl) (by omega) (by show (n : Int) % 5 < 5; omega)) ⟨inferInstance, ?_⟩ XT.stop
           refine XT.qs rfl rfl (Quiet.guardF rfl rfl fun g143 p143 => Q.ldE (lzv g143 rfl) (by show ((n : Int) % 5).toNat < 5; omega) rfl) ⟨inferInstance, ?_⟩ XT.stop
           rcases (show (n : Int) % 5 = 0 ∨ (n : Int) % 5 = 1 ∨ (n : Int) % 5 = 2 ∨ (n : Int) % 5 = 3 ∨ (n : Int) % 5 = 4 by omega) with hk | hk | hk | hk | hk
           ·have _ts := True.intro
            rw [show ([(.slice none 0 0), v135, v136, v137, v138] : List Value).getD ((n : Int) % 5).toNat default = (.slice none 0 0) by rw [hk]; rfl]
            refine XT.callS rfl rfl rfl rfl rfl Tryz.call5 rfl (.c (lzv rfl rfl) (.c (lzv rfl rfl) (.c (lzv rfl rfl) (.c (lzv rfl rfl) .n)))) rfl (OFS ([] : List Int) (.slice none 0 0) h139 (nI h139) (by decide)) (fun v144 s144 R144 => ?_) XT.stop
            obtain ⟨rfl, rfl⟩ := R144
            dsimp only [List.cons_append, List.nil_append]
            refine ⟨inferInstance, ?_⟩
            refine XT.q rfl rfl (Quiet.guardF rfl rfl fun g145 p145 => Q.not rfl) ?_
            refine XT.q rfl rfl (Q.or rfl (fun hp => lzv hp rfl)) ?_
            refine XT.done ?_
            exact mtr16 (()) _ _ trivial (.c rfl (.base 34 rfl rfl)) inferInstance
           ·have _ts := True.intro
            rw [show ([(.slice none 0 0), v135, v136, v137, v138] : List Value).getD ((n : Int) % 5).toNat default = v135 by rw [hk]; rfl]
            refine XT.callS rfl rfl rfl rfl rfl Tryz.call5 rfl (.c (lzv rfl rfl) (.c (lzv rfl rfl) (.c (lzv rfl rfl) (.c (lzv rfl rfl) .n)))) rfl (OFS [0] v135 h135 inferInstance (by decide)) (fun v144 s144 R144 => ?_) XT.stop
            obtain ⟨rfl, rfl⟩ := R144
            dsimp only [List.cons_append, List.nil_append]
            refine ⟨inferInstance, ?_⟩
            refine XT.q rfl rfl (Quiet.guardF rfl rfl fun g145 p145 => Q.not rfl) ?_
            refine XT.q rfl rfl (Q.or rfl (fun hp => lzv hp rfl)) ?_
            refine XT.done ?_
            exact mtr16 (()) _ _ trivial (.c rfl (.base 34 rfl rfl)) inferInstance
           ·have _ts := True.intro
            rw [show ([(.slice none 0 0), v135, v136, v137, v138] : List Value).getD ((n : Int) % 5).toNat default = v136 by rw [hk]; rfl]
            refine XT.callS rfl rfl rfl rfl rfl Tryz.call5 rfl (.c (lzv rfl rfl) (.c (lzv rfl rfl) (.c (lzv rfl rfl) (.c (lzv rfl rfl) .n)))) rfl (OFS [1] v136 h136 inferInstance (by decide)) (fun v144 s144 R144 => ?_) XT.stop
            obtain ⟨rfl, rfl⟩ := R144
            dsimp only [List.cons_append, List.nil_append]
            refine ⟨inferInstance, ?_⟩
            refine XT.q rfl rfl (Quiet.guardF rfl rfl fun g145 p145 => Q.not rfl) ?_
            refine XT.q rfl rfl (Q.or rfl (fun hp => lzv hp rfl)) ?_
            refine XT.done ?_
            exact mtr16 (()) _ _ trivial (.c rfl (.base 34 rfl rfl)) inferInstance
           ·have _ts := True.intro
            rw [show ([(.slice none 0 0), v135, v136, v137, v138] : List Value).getD ((n : Int) % 5).toNat default = v137 by rw [hk]; rfl]
            refine XT.callS rfl rfl rfl rfl rfl Tryz.call5 rfl (.c (lzv rfl rfl) (.c (lzv rfl rfl) (.c (lzv rfl rfl) (.c (lzv rfl rfl) .n)))) rfl (OFS [0, 2] v137 h137 inferInstance (by decide)) (fun v144 s144 R144 => ?_) XT.stop
            obtain ⟨rfl, rfl⟩ := R144
            dsimp only [List.cons_append, List.nil_append]
            refine ⟨inferInstance, ?_⟩
            refine XT.q rfl rfl (Quiet.guardF rfl rfl fun g145 p145 => Q.not rfl) ?_
            refine XT.q rfl rfl (Q.or rfl (fun hp => lzv hp rfl)) ?_
            refine XT.done ?_
            exact mtr16 (()) _ _ trivial (.c rfl (.base 34 rfl rfl)) inferInstance
           ·have _ts := True.intro
            rw [show ([(.slice none 0 0), v135, v136, v137, v138] : List Value).getD ((n : Int) % 5).toNat default = v138 by rw [hk]; rfl]
            refine XT.callS rfl rfl rfl rfl rfl Tryz.call5 rfl (.c (lzv rfl rfl) (.c (lzv rfl rfl) (.c (lzv rfl rfl) (.c (lzv rfl rfl) .n)))) rfl (OFS [2] v138 h138 inferInstance (by decide)) (fun v144 s144 R144 => ?_) XT.stop
            obtain ⟨rfl, rfl⟩ := R144
            dsimp only [List.cons_append, List.nil_append]
            refine ⟨inferInstance, ?_⟩
            refine XT.q rfl rfl (Quiet.guardF rfl rfl fun g145 p145 => Q.not rfl) ?_
            refine XT.q rfl rfl (Q.or rfl (fun hp => lzv hp rfl)) ?_
            refine XT.done ?_
            exact mtr16 (()) _ _ trivial (.c rfl (.base 34 rfl rfl)) inferInstance
       ·skip
        refine XT.litS [_, _] [_, _] [0, 2] encI rfl rfl rfl rfl rfl (by rfl) (by rfl) rfl (by rfl) (by exact .c 0 1 rfl rfl rfl (.c 1 1 rfl rfl rfl (.n _))) (fun _ => rfl) (by rfl) rfl (by infer_instance) rfl (fun v137 h137 O137 => ⟨inferInstance, ?_⟩) ?_
        ·skip
         refine XT.litS [_] [_] [0] encI rfl rfl rfl rfl rfl (by rfl) (by rfl) rfl (by rfl) (by exact .c 0 1 rfl rfl rfl (.n _)) (fun _ => rfl) (by rfl) rfl (by infer_instance) rfl (fun v135 h135 O135 => ⟨inferInstance, ?_⟩) ?_
         ·skip
          refine XT.litS [_] [_] [1] encI rfl rfl rfl rfl rfl (by rfl) (by rfl) rfl (by rfl) (by exact .c 0 1 rfl rfl rfl (.n _)) (fun _ => rfl) (by rfl) rfl (by infer_instance) rfl (fun v136 h136 O136 => ⟨inferInstance, ?_⟩) ?_
          ·skip
           refine XT.litS [_] [_] [2] encI rfl rfl rfl rfl rfl (by rfl) (by rfl) rfl (by rfl) (by exact .c 0 1 rfl rfl rfl (.n _)) (fun _ => rfl) (by rfl) rfl (by infer_instance) rfl (fun v138 h138 O138 => ⟨inferInstance, ?_⟩) XT.stop
           refine XT.litS [_, _, _, _, _] [_, _, _, _, _] ([(.slice none 0 0), v135, v136, v137, v138] : List Value) encV rfl rfl rfl rfl rfl (by rfl) (by rfl) rfl (by rfl) (by exact .c 0 1 rfl rfl rfl (.c 1 1 rfl rfl rfl (.c 2 1 rfl rfl rfl (.c 3 1 rfl rfl rfl (.c 4 1 rfl rfl rfl (.n _)))))) (fun _ => rfl) (by rfl) rfl (by infer_instance) rfl (fun v139 h139 O139 => ⟨inferInstance, ?_⟩) XT.stop
           refine XT.qs rfl rfl (Quiet.guardF rfl rfl fun g142 p142 => Q.ix rfl (lzv rfl rfl) (by omega) (by show (n : Int) % 5 < 5; omega)) ⟨inferInstance, ?_⟩ XT.stop
           refine XT.qs rfl rfl (Quiet.guardF rfl rfl fun g143 p143 => Q.ldE (lzv g143 rfl) (by show ((n : Int) % 5).toNat < 5; omega) rfl) ⟨inferInstance, ?_⟩ XT.stop
           rcases (show (n : Int) % 5 = 0 ∨ (n : Int) % 5 = 1 ∨ (n : Int) % 5 = 2 ∨ (n : Int) % 5 = 3 ∨ (n : Int) % 5 = 4 by omega) with hk | hk | hk | hk | hk
           ·have _ts := True.intro
            rw [show ([(.slice none 0 0), v135, v136, v137, v138] : List Value).getD ((n : Int) % 5).toNat default = (.slice none 0 0) by rw [hk]; rfl]
            refine XT.callS rfl rfl rfl rfl rfl Tryz.call5 rfl (.c (lzv rfl rfl) (.c (lzv rfl rfl) (.c (lzv rfl rfl) (.c (lzv rfl rfl) .n)))) rfl (OFS ([] : List Int) (.slice none 0 0) h139 (nI h139) (by decide)) (fun v144 s144 R144 => ?_) XT.stop
            obtain ⟨rfl, rfl⟩ := R144
            dsimp only [List.cons_append, List.nil_append]
            refine ⟨inferInstance, ?_⟩
            refine XT.q rfl rfl (Quiet.guardF rfl rfl fun g145 p145 => Q.not rfl) ?_
            refine XT.q rfl rfl (Q.or rfl (fun hp => lzv hp rfl)) ?_
            refine XT.done ?_
            exact mtr16 (()) _ _ trivial (.c rfl (.base 34 rfl rfl)) inferInstance
           ·have _ts := True.intro
            rw [show ([(.slice none 0 0), v135, v136, v137, v138] : List Value).getD ((n : Int) % 5).toNat default = v135 by rw [hk]; rfl]
            refine XT.callS rfl rfl rfl rfl rfl Tryz.call5 rfl (.c (lzv rfl rfl) (.c (lzv rfl rfl) (.c (lzv rfl rfl) (.c (lzv rfl rfl) .n)))) rfl (OFS [0] v135 h135 inferInstance (by decide)) (fun v144 s144 R144 => ?_) XT.stop
            obtain ⟨rfl, rfl⟩ := R144
            dsimp only [List.cons_append, List.nil_append]
            refine ⟨inferInstance, ?_⟩
            refine XT.q rfl rfl (Quiet.guardF rfl rfl fun g145 p145 => Q.not rfl) ?_
            refine XT.q rfl rfl (Q.or rfl (fun hp => lzv hp rfl)) ?_
            refine XT.done ?_
            exact mtr16 (()) _ _ trivial (.c rfl (.base 34 rfl rfl)) inferInstance
           ·have _ts := True.intro
            rw [show ([(.slice none 0 0), v135, v136, v137, v138] : List Value).getD ((n : Int) % 5).toNat default = v136 by rw [hk]; rfl]
            refine XT.callS rfl rfl rfl rfl rfl Tryz.call5 rfl (.c (lzv rfl rfl) (.c (lzv rfl rfl) (.c (lzv rfl rfl) (.c (lzv rfl rfl) .n)))) rfl (OFS [1] v136 h136 inferInstance (by decide)) (fun v144 s144 R144 => ?_) XT.stop
            obtain ⟨rfl, rfl⟩ := R144
            dsimp only [List.cons_append, List.nil_append]
            refine ⟨inferInstance, ?_⟩
            refine XT.q rfl rfl (Quiet.guardF rfl rfl fun g145 p145 => Q.not rfl) ?_
            refine XT.q rfl rfl (Q.or rfl (fun hp => lzv hp rfl)) ?_
            refine XT.done ?_
            exact mtr16 (()) _ _ trivial (.c rfl (.base 34 rfl rfl)) inferInstance
           ·have _ts := True.intro
            rw [show ([(.slice none 0 0), v135, v136, v137, v138] : List Value).getD ((n : Int) % 5).toNat default = v137 by rw [hk]; rfl]
            refine XT.callS rfl rfl rfl rfl rfl Tryz.call5 rfl (.c (lzv rfl rfl) (.c (lzv rfl rfl) (.c (lzv rfl rfl) (.c (lzv rfl rfl) .n)))) rfl (OFS [0, 2] v137 h137 inferInstance (by decide)) (fun v144 s144 R144 => ?_) XT.stop
            obtain ⟨rfl, rfl⟩ := R144
            dsimp only [List.cons_append, List.nil_append]
            refine ⟨inferInstance, ?_⟩
            refine XT.q rfl rfl (Quiet.guardF rfl rfl fun g145 p145 => Q.not rfl) ?_
            refine XT.q rfl rfl (Q.or rfl (fun hp => lzv hp rfl)) ?_
            refine XT.done ?_
            exact mtr16 (()) _ _ trivial (.c rfl (.base 34 rfl rfl)) inferInstance
           ·have _ts := True.intro
            rw [show ([(.slice none 0 0), v135, v136, v137, v138] : List Value).getD ((n : Int) % 5).toNat default = v138 by rw [hk]; rfl]
            refine XT.callS rfl rfl rfl rfl rfl Tryz.call5 rfl (.c (lzv rfl rfl) (.c (lzv rfl rfl) (.c (lzv rfl rfl) (.c (lzv rfl rfl) .n)))) rfl (OFS [2] v138 h138 inferInstance (by decide)) (fun v144 s144 R144 => ?_) XT.stop
            obtain ⟨rfl, rfl⟩ := R144
            dsimp only [List.cons_append, List.nil_append]
            refine ⟨inferInstance, ?_⟩
            refine XT.q rfl rfl (Quiet.guardF rfl rfl fun g145 p145 => Q.not rfl) ?_
            refine XT.q rfl rfl (Q.or rfl (fun hp => lzv hp rfl)) ?_
            refine XT.done ?_
            exact mtr16 (()) _ _ trivial (.c rfl (.base 34 rfl rfl)) inferInstance
          ·skip
           refine XT.litS [_] [_] [2] encI rfl rfl rfl rfl rfl (by rfl) (by rfl) rfl (by rfl) (by exact .c 0 1 rfl rfl rfl (.n _)) (fun _ => rfl) (by rfl) rfl (by infer_instance) rfl (fun v138 h138 O138 => ⟨inferInstance, ?_⟩) XT.stop
           refine XT.litS [_] [_] [1] encI rfl rfl rfl rfl rfl (by rfl) (by rfl) rfl (by rfl) (by exact .c 0 1 rfl rfl rfl (.n _)) (fun _ => rfl) (by rfl) rfl (by infer_instance) rfl (fun v136 h136 O136 => ⟨inferInstance, ?_⟩) XT.stop
           refine XT.litS [_, _, _, _, _] [_, _, _, _, _] ([(.slice none 0 0), v135, v136, v137, v138] : List Value) encV rfl rfl rfl rfl rfl (by rfl) (by rfl) rfl (by rfl) (by exact .c 0 1 rfl rfl rfl (.c 1 1 rfl rfl rfl (.c 2 1 rfl rfl rfl (.c 3 1 rfl rfl rfl (.c 4 1 rfl rfl rfl (.n _)))))) (fun _ => rfl) (by rfl) rfl (by infer_instance) rfl (fun v139 h139 O139 => ⟨inferInstance, ?_⟩) XT.stop
           refine XT.qs rfl rfl (Quiet.guardF rfl rfl fun g142 p142 => Q.ix rfl (lzv rfl rfl) (by omega) (by show (n : Int) % 5 < 5; omega)) ⟨inferInstance, ?_⟩ XT.stop
           refine XT.qs rfl rfl (Quiet.guardF rfl rfl fun g143 p143 => Q.ldE (lzv g143 rfl) (by show ((n : Int) % 5).toNat < 5; omega) rfl) ⟨inferInstance, ?_⟩ XT.stop
           rcases (show (n : Int) % 5 = 0 ∨ (n : Int) % 5 = 1 ∨ (n : Int) % 5 = 2 ∨ (n : Int) % 5 = 3 ∨ (n : Int) % 5 = 4 by omega) with hk | hk | hk | hk | hk
           ·have _ts := True.intro
            rw [show ([(.slice none 0 0), v135, v136, v137, v138] : List Value).getD ((n : Int) % 5).toNat default = (.slice none 0 0) by rw [hk]; rfl]
            refine XT.callS rfl rfl rfl rfl rfl Tryz.call5 rfl (.c (lzv rfl rfl) (.c (lzv rfl rfl) (.c (lzv rfl rfl) (.c (lzv rfl rfl) .n)))) rfl (OFS ([] : List Int) (.slice none 0 0) h139 (nI h139) (by decide)) (fun v144 s144 R144 => ?_) XT.stop
            obtain ⟨rfl, rfl⟩ := R144
            dsimp only [List.cons_append, List.nil_append]
            refine ⟨inferInstance, ?_⟩
            refine XT.q rfl rfl (Quiet.guardF rfl rfl fun g145 p145 => Q.not rfl) ?_
            refine XT.q rfl rfl (Q.or rfl (fun hp => lzv hp rfl)) ?_
            refine XT.done ?_
            exact mtr16 (()) _ _ trivial (.c rfl (.base 34 rfl rfl)) inferInstance
           ·have _ts := True.intro
            rw [show ([(.slice none 0 0), v135, v136, v137, v138] : List Value).getD ((n : Int) % 5).toNat default = v135 by rw [hk]; rfl]
            refine XT.callS rfl rfl rfl rfl rfl Tryz.call5 rfl (.c (lzv rfl rfl) (.c (lzv rfl rfl) (.c (lzv rfl rfl) (.c (lzv rfl rfl) .n)))) rfl (OFS [0] v135 h135 inferInstance (by decide)) (fun v144 s144 R144 => ?_) XT.stop
            obtain ⟨rfl, rfl⟩ := R144
            dsimp only [List.cons_append, List.nil_append]
            refine ⟨inferInstance, ?_⟩
            refine XT.q rfl rfl (Quiet.guardF rfl rfl fun g145 p145 => Q.not rfl) ?_
            refine XT.q rfl rfl (Q.or rfl (fun hp => lzv hp rfl)) ?_
            refine XT.done ?_
            exact mtr16 (()) _ _ trivial (.c rfl (.base 34 rfl rfl)) inferInstance
           ·have _ts := True.intro
            rw [show ([(.slice none 0 0), v135, v136, v137, v138] : List Value).getD ((n : Int) % 5).toNat default = v136 by rw [hk]; rfl]
            refine XT.callS rfl rfl rfl rfl rfl Tryz.call5 rfl (.c (lzv rfl rfl) (.c (lzv rfl rfl) (.c (lzv rfl rfl) (.c (lzv rfl rfl) .n)))) rfl (OFS [1] v136 h136 inferInstance (by decide)) (fun v144 s144 R144 => ?_) XT.stop
            obtain ⟨rfl, rfl⟩ := R144
            dsimp only [List.cons_append, List.nil_append]
            refine ⟨inferInstance, ?_⟩
            refine XT.q rfl rfl (Quiet.guardF rfl rfl fun g145 p145 => Q.not rfl) ?_
            refine XT.q rfl rfl (Q.or rfl (fun hp => lzv hp rfl)) ?_
            refine XT.done ?_
            exact mtr16 (()) _ _ trivial (.c rfl (.base 34 rfl rfl)) inferInstance
           ·have _ts := True.intro
            rw [show ([(.slice none 0 0), v135, v136, v137, v138] : List Value).getD ((n : Int) % 5).toNat default = v137 by rw [hk]; rfl]
            refine XT.callS rfl rfl rfl rfl rfl Tryz.call5 rfl (.c (lzv rfl rfl) (.c (lzv rfl rfl) (.c (lzv rfl rfl) (.c (lzv rfl rfl) .n)))) rfl (OFS [0, 2] v137 h137 inferInstance (by decide)) (fun v144 s144 R144 => ?_) XT.stop
            obtain ⟨rfl, rfl⟩ := R144
            dsimp only [List.cons_append, List.nil_append]
            refine ⟨inferInstance, ?_⟩
            refine XT.q rfl rfl (Quiet.guardF rfl rfl fun g145 p145 => Q.not rfl) ?_
            refine XT.q rfl rfl (Q.or rfl (fun hp => lzv hp rfl)) ?_
            refine XT.done ?_
            exact mtr16 (()) _ _ trivial (.c rfl (.base 34 rfl rfl)) inferInstance
           ·have _ts := True.intro
            rw [show ([(.slice none 0 0), v135, v136, v137, v138] : List Value).getD ((n : Int) % 5).toNat default = v138 by rw [hk]; rfl]
            refine XT.callS rfl rfl rfl rfl rfl Tryz.call5 rfl (.c (lzv rfl rfl) (.c (lzv rfl rfl) (.c (lzv rfl rfl) (.c (lzv rfl rfl) .n)))) rfl (OFS [2] v138 h138 inferInstance (by decide)) (fun v144 s144 R144 => ?_) XT.stop
            obtain ⟨rfl, rfl⟩ := R144
            dsimp only [List.cons_append, List.nil_append]
            refine ⟨inferInstance, ?_⟩
            refine XT.q rfl rfl (Quiet.guardF rfl rfl fun g145 p145 => Q.not rfl) ?_
            refine XT.q rfl rfl (Q.or rfl (fun hp => lzv hp rfl)) ?_
            refine XT.done ?_
            exact mtr16 (()) _ _ trivial (.c rfl (.base 34 rfl rfl)) inferInstance
         ·skip
          refine XT.litS [_] [_] [1] encI rfl rfl rfl rfl rfl (by rfl) (by rfl) rfl (by rfl) (by exact .c 0 1 rfl rfl rfl (.n _)) (fun _ => rfl) (by rfl) rfl (by infer_instance) rfl (fun v136 h136 O136 => ⟨inferInstance, ?_⟩) ?_
          ·skip
           refine XT.litS [_] [_] [0] encI rfl rfl rfl rfl rfl (by rfl) (by rfl) rfl (by rfl) (by exact .c 0 1 rfl rfl rfl (.n _)) (fun _ => rfl) (by rfl) rfl (by infer_instance) rfl (fun v135 h135 O135 => ⟨inferInstance, ?_⟩) ?_
           ·skip
            refine XT.litS [_] [_] [2] encI rfl rfl rfl rfl rfl (by rfl) (by rfl) rfl (by rfl) (by exact .c 0 1 rfl rfl rfl (.n _)) (fun _ => rfl) (by rfl) rfl (by infer_instance) rfl (fun v138 h138 O138 => ⟨inferInstance, ?_⟩) XT.stop
            refine XT.litS [_, _, _, _, _] [_, _, _, _, _] ([(.slice none 0 0), v135, v136, v137, v138] : List Value) encV rfl rfl rfl rfl rfl (by rfl) (by rfl) rfl (by rfl) (by exact .c 0 1 rfl rfl rfl (.c 1 1 rfl rfl rfl (.c 2 1 rfl rfl rfl (.c 3 1 rfl rfl rfl (.c 4 1 rfl rfl rfl (.n _)))))) (fun _ => rfl) (by rfl) rfl (by infer_instance) rfl (fun v139 h139 O139 => ⟨inferInstance, ?_⟩) XT.stop
            refine XT.qs rfl rfl (Quiet.guardF rfl rfl fun g142 p142 => Q.ix rfl (lzv rfl rfl) (by omega) (by show (n : Int) % 5 < 5; omega)) ⟨inferInstance, ?_⟩ XT.stop
            refine XT.qs rfl rfl (Quiet.guardF rfl rfl fun g143 p143 => Q.ldE (lzv g143 rfl) (by show ((n : Int) % 5).toNat < 5; omega) rfl) ⟨inferInstance, ?_⟩ XT.stop
            rcases (show (n : Int) % 5 = 0 ∨ (n : Int) % 5 = 1 ∨ (n : Int) % 5 = 2 ∨ (n : Int) % 5 = 3 ∨ (n : Int) % 5 = 4 by omega) with hk | hk | hk | hk | hk
            ·have _ts := True.intro
             rw [show ([(.slice none 0 0), v135, v136, v137, v138] : List Value).getD ((n : Int) % 5).toNat default = (.slice none 0 0) by rw [hk]; rfl]
             refine XT.callS rfl rfl rfl rfl rfl Tryz.call5 rfl (.c (lzv rfl rfl) (.c (lzv rfl rfl) (.c (lzv rfl rfl) (.c (lzv rfl rfl) .n)))) rfl (OFS ([] : List Int) (.slice none 0 0) h139 (nI h139) (by decide)) (fun v144 s144 R144 => ?_) XT.stop
             obtain ⟨rfl, rfl⟩ := R144
             dsimp only [List.cons_append, List.nil_append]
             refine ⟨inferInstance, ?_⟩
             refine XT.q rfl rfl (Quiet.guardF rfl rfl fun g145 p145 => Q.not rfl) ?_
             refine XT.q rfl rfl (Q.or rfl (fun hp => lzv hp rfl)) ?_
             refine XT.done ?_
             exact mtr16 (()) _ _ trivial (.c rfl (.base 34 rfl rfl)) inferInstance
            ·have _ts := True.intro
             rw [show ([(.slice none 0 0), v135, v136, v137, v138] : List Value).getD ((n : Int) % 5).toNat default = v135 by rw [hk]; rfl]
             refine XT.callS rfl rfl rfl rfl rfl Tryz.call5 rfl (.c (lzv rfl rfl) (.c (lzv rfl rfl) (.c (lzv rfl rfl) (.c (lzv rfl rfl) .n)))) rfl (OFS [0] v135 h135 inferInstance (by decide)) (fun v144 s144 R144 => ?_) XT.stop
             obtain ⟨rfl, rfl⟩ := R144
             dsimp only [List.cons_append, List.nil_append]
             refine ⟨inferInstance, ?_⟩
             refine XT.q rfl rfl (Quiet.guardF rfl rfl fun g145 p145 => Q.not rfl) ?_
             refine XT.q rfl rfl (Q.or rfl (fun hp => lzv hp rfl)) ?_
             refine XT.done ?_
             exact mtr16 (()) _ _ trivial (.c rfl (.base 34 rfl rfl)) inferInstance
            ·have _ts := True.intro
             rw [show ([(.slice none 0 0), v135, v136, v137, v138] : List Value).getD ((n : Int) % 5).toNat default = v136 by rw [hk]; rfl]
             refine XT.callS rfl rfl rfl rfl rfl Tryz.call5 rfl (.c (lzv rfl rfl) (.c (lzv rfl rfl) (.c (lzv rfl rfl) (.c (lzv rfl rfl) .n)))) rfl (OFS [1] v136 h136 inferInstance (by decide)) (fun v144 s144 R144 => ?_) XT.stop
             obtain ⟨rfl, rfl⟩ := R144
             dsimp only [List.cons_append, List.nil_append]
             refine ⟨inferInstance, ?_⟩
             refine XT.q rfl rfl (Quiet.guardF rfl rfl fun g145 p145 => Q.not rfl) ?_
             refine XT.q rfl rfl (Q.or rfl (fun hp => lzv hp rfl)) ?_
             refine XT.done ?_
             exact mtr16 (()) _ _ trivial (.c rfl (.base 34 rfl rfl)) inferInstance
            ·have _ts := True.intro
             rw [show ([(.slice none 0 0), v135, v136, v137, v138] : List Value).getD ((n : Int) % 5).toNat default = v137 by rw [hk]; rfl]
             refine XT.callS rfl rfl rfl rfl rfl Tryz.call5 rfl (.c (lzv rfl rfl) (.c (lzv rfl rfl) (.c (lzv rfl rfl) (.c (lzv rfl rfl) .n)))) rfl (OFS [0, 2] v137 h137 inferInstance (by decide)) (fun v144 s144 R144 => ?_) XT.stop
             obtain ⟨rfl, rfl⟩ := R144
             dsimp only [List.cons_append, List.nil_append]
             refine ⟨inferInstance, ?_⟩
             refine XT.q rfl rfl (Quiet.guardF rfl rfl fun g145 p145 => Q.not rfl) ?_
             refine XT.q rfl rfl (Q.or rfl (fun hp => lzv hp rfl)) ?_
             refine XT.done ?_
             exact mtr16 (()) _ _ trivial (.c rfl (.base 34 rfl rfl)) inferInstance
            ·have _ts := True.intro
             rw [show ([(.slice none 0 0), v135, v136, v137, v138] : List Value).getD ((n : Int) % 5).toNat default = v138 by rw [hk]; rfl]
             refine XT.callS rfl rfl rfl rfl rfl Tryz.call5 rfl (.c (lzv rfl rfl) (.c (lzv rfl rfl) (.c (lzv rfl rfl) (.c (lzv rfl rfl) .n)))) rfl (OFS [2] v138 h138 inferInstance (by decide)) (fun v144 s144 R144 => ?_) XT.stop
             obtain ⟨rfl, rfl⟩ := R144
             dsimp only [List.cons_append, List.nil_append]
             refine ⟨inferInstance, ?_⟩
             refine XT.q rfl rfl (Quiet.guardF rfl rfl fun g145 p145 => Q.not rfl) ?_
             refine XT.q rfl rfl (Q.or rfl (fun hp => lzv hp rfl)) ?_
             refine XT.done ?_
             exact mtr16 (()) _ _ trivial (.c rfl (.base 34 rfl rfl)) inferInstance
           ·skip
            refine XT.litS [_] [_] [2] encI rfl rfl rfl rfl rfl (by rfl) (by rfl) rfl (by rfl) (by exact .c 0 1 rfl rfl rfl (.n _)) (fun _ => rfl) (by rfl) rfl (by infer_instance) rfl (fun v138 h138 O138 => ⟨inferInstance, ?_⟩) XT.stop
            refine XT.litS [_] [_] [0] encI rfl rfl rfl rfl rfl (by rfl) (by rfl) rfl (by rfl) (by exact .c 0 1 rfl rfl rfl (.n _)) (fun _ => rfl) (by rfl) rfl (by infer_instance) rfl (fun v135 h135 O135 => ⟨inferInstance, ?_⟩) XT.stop
            refine XT.litS [_, _, _, _, _] [_, _, _, _, _] ([(.slice none 0 0), v135, v136, v137, v138] : List Value) encV rfl rfl rfl rfl rfl (by rfl) (by rfl) rfl (by rfl) (by exact .c 0 1 rfl rfl rfl (.c 1 1 rfl rfl rfl (.c 2 1 rfl rfl rfl (.c 3 1 rfl rfl rfl (.c 4 1 rfl rfl rfl (.n _)))))) (fun _ => rfl) (by rfl) rfl (by infer_instance) rfl (fun v139 h139 O139 => ⟨inferInstance, ?_⟩) XT.stop
            refine XT.qs rfl rfl (Quiet.guardF rfl rfl fun g142 p142 => Q.ix rfl (lzv rfl rfl) (by omega) (by show (n : Int) % 5 < 5; omega)) ⟨inferInstance, ?_⟩ XT.stop
            refine XT.qs rfl rfl (Quiet.guardF rfl rfl fun g143 p143 => Q.ldE (lzv g143 rfl) (by show ((n : Int) % 5).toNat < 5; omega) rfl) ⟨inferInstance, ?_⟩ XT.stop
            rcases (show (n : Int) % 5 = 0 ∨ (n : Int) % 5 = 1 ∨ (n : Int) % 5 = 2 ∨ (n : Int) % 5 = 3 ∨ (n : Int) % 5 = 4 by omega) with hk | hk | hk | hk | hk
            ·have _ts := True.intro
             rw [show ([(.slice none 0 0), v135, v136, v137, v138] : List Value).getD ((n : Int) % 5).toNat default = (.slice none 0 0) by rw [hk]; rfl]
             refine XT.callS rfl rfl rfl rfl rfl Tryz.call5 rfl (.c (lzv rfl rfl) (.c (lzv rfl rfl) (.c (lzv rfl rfl) (.c (lzv rfl rfl) .n)))) rfl (OFS ([] : List Int) (.slice none 0 0) h139 (nI h139) (by decide)) (fun v144 s144 R144 => ?_) XT.stop
             obtain ⟨rfl, rfl⟩ := R144
             dsimp only [List.cons_append, List.nil_append]
             refine ⟨inferInstance, ?_⟩
             refine XT.q rfl rfl (Quiet.guardF rfl rfl fun g145 p145 => Q.not rfl) ?_
             refine XT.q rfl rfl (Q.or rfl (fun hp => lzv hp rfl)) ?_
             refine XT.done ?_
             exact mtr16 (()) _ _ trivial (.c rfl (.base 34 rfl rfl)) inferInstance
            ·have _ts := True.intro
             rw [show ([(.slice none 0 0), v135, v136, v137, v138] : List Value).getD ((n : Int) % 5).toNat default = v135 by rw [hk]; rfl]
             refine XT.callS rfl rfl rfl rfl rfl Tryz.call5 rfl (.c (lzv rfl rfl) (.c (lzv rfl rfl) (.c (lzv rfl rfl) (.c (lzv rfl rfl) .n)))) rfl (OFS [0] v135 h135 inferInstance (by decide)) (fun v144 s144 R144 => ?_) XT.stop
             obtain ⟨rfl, rfl⟩ := R144
             dsimp only [List.cons_append, List.nil_append]
             refine ⟨inferInstance, ?_⟩
             refine XT.q rfl rfl (Quiet.guardF rfl rfl fun g145 p145 => Q.not rfl) ?_
             refine XT.q rfl rfl (Q.or rfl (fun hp => lzv hp rfl)) ?_
             refine XT.done ?_
             exact mtr16 (()) _ _ trivial (.c rfl (.base 34 rfl rfl)) inferInstance
            ·have _ts := True.intro
             rw [show ([(.slice none 0 0), v135, v136, v137, v138] : List Value).getD ((n : Int) % 5).toNat default = v136 by rw [hk]; rfl]
             refine XT.callS rfl rfl rfl rfl rfl Tryz.call5 rfl (.c (lzv rfl rfl) (.c (lzv rfl rfl) (.c (lzv rfl rfl) (.c (lzv rfl rfl) .n)))) rfl (OFS [1] v136 h136 inferInstance (by decide)) (fun v144 s144 R144 => ?_) XT.stop
             obtain ⟨rfl, rfl⟩ := R144
             dsimp only [List.cons_append, List.nil_append]
             refine ⟨inferInstance, ?_⟩
             refine XT.q rfl rfl (Quiet.guardF rfl rfl fun g145 p145 => Q.not rfl) ?_
             refine XT.q rfl rfl (Q.or rfl (fun hp => lzv hp rfl)) ?_
             refine XT.done ?_
             exact mtr16 (()) _ _ trivial (.c rfl (.base 34 rfl rfl)) inferInstance
            ·have _ts := True.intro
             rw [show ([(.slice none 0 0), v135, v136, v137, v138] : List Value).getD ((n : Int) % 5).toNat default = v137 by rw [hk]; rfl]
             refine XT.callS rfl rfl rfl rfl rfl Tryz.call5 rfl (.c (lzv rfl rfl) (.c (lzv rfl rfl) (.c (lzv rfl rfl) (.c (lzv rfl rfl) .n)))) rfl (OFS [0, 2] v137 h137 inferInstance (by decide)) (fun v144 s144 R144 => ?_) XT.stop
             obtain ⟨rfl, rfl⟩ := R144
             dsimp only [List.cons_append, List.nil_append]
             refine ⟨inferInstance, ?_⟩
             refine XT.q rfl rfl (Quiet.guardF rfl rfl fun g145 p145 => Q.not rfl) ?_
             refine XT.q rfl rfl (Q.or rfl (fun hp => lzv hp rfl)) ?_
             refine XT.done ?_
             exact mtr16 (()) _ _ trivial (.c rfl (.base 34 rfl rfl)) inferInstance
            ·have _ts := True.intro
             rw [show ([(.slice none 0 0), v135, v136, v137, v138] : List Value).getD ((n : Int) % 5).toNat default = v138 by rw [hk]; rfl]
             refine XT.callS rfl rfl rfl rfl rfl Tryz.call5 rfl (.c (lzv rfl rfl) (.c (lzv rfl rfl) (.c (lzv rfl rfl) (.c (lzv rfl rfl) .n)))) rfl (OFS [2] v138 h138 inferInstance (by decide)) (fun v144 s144 R144 => ?_) XT.stop
             obtain ⟨rfl, rfl⟩ := R144
             dsimp only [List.cons_append, List.nil_append]
             refine ⟨inferInstance, ?_⟩
             refine XT.q rfl rfl (Quiet.guardF rfl rfl fun g145 p145 => Q.not rfl) ?_
             refine XT.q rfl rfl (Q.or rfl (fun hp => lzv hp rfl)) ?_
             refine XT.done ?_
             exact mtr16 (()) _ _ trivial (.c rfl (.base 34 rfl rfl)) inferInstance
          ·skip
           refine XT.litS [_] [_] [2] encI rfl rfl rfl rfl rfl (by rfl) (by rfl) rfl (by rfl) (by exact .c 0 1 rfl rfl rfl (.n _)) (fun _ => rfl) (by rfl) rfl (by infer_instance) rfl (fun v138 h138 O138 => ⟨inferInstance, ?_⟩) XT.stop
           refine XT.litS [_] [_] [0] encI rfl rfl rfl rfl rfl (by rfl) (by rfl) rfl (by rfl) (by exact .c 0 1 rfl rfl rfl (.n _)) (fun _ => rfl) (by rfl) rfl (by infer_instance) rfl (fun v135 h135 O135 => ⟨inferInstance, ?_⟩) ?_
           ·skip
            refine XT.litS [_] [_] [1] encI rfl rfl rfl rfl rfl (by rfl) (by rfl) rfl (by rfl) (by exact .c 0 1 rfl rfl rfl (.n _)) (fun _ => rfl) (by rfl) rfl (by infer_instance) rfl (fun v136 h136 O136 => ⟨inferInstance, ?_⟩) XT.stop
            refine XT.litS [_, _, _, _, _] [_, _, _, _, _] ([(.slice none 0 0), v135, v136, v137, v138] : List Value) encV rfl rfl rfl rfl rfl (by rfl) (by rfl) rfl (by rfl) (by exact .c 0 1 rfl rfl rfl (.c 1 1 rfl rfl rfl (.c 2 1 rfl rfl rfl (.c 3 1 rfl rfl rfl (.c 4 1 rfl rfl rfl (.n _)))))) (fun _ => rfl) (by rfl) rfl (by infer_instance) rfl (fun v139 h139 O139 => ⟨inferInstance, ?_⟩) XT.stop
            refine XT.qs rfl rfl (Quiet.guardF rfl rfl fun g142 p142 => Q.ix rfl (lzv rfl rfl) (by omega) (by show (n : Int) % 5 < 5; omega)) ⟨inferInstance, ?_⟩ XT.stop
            refine XT.qs rfl rfl (Quiet.guardF rfl rfl fun g143 p143 => Q.ldE (lzv g143 rfl) (by show ((n : Int) % 5).toNat < 5; omega) rfl) ⟨inferInstance, ?_⟩ XT.stop
            rcases (show (n : Int) % 5 = 0 ∨ (n : Int) % 5 = 1 ∨ (n : Int) % 5 = 2 ∨ (n : Int) % 5 = 3 ∨ (n : Int) % 5 = 4 by omega) with hk | hk | hk | hk | hk
            ·have _ts := True.intro
             rw [show ([(.slice none 0 0), v135, v136, v137, v138] : List Value).getD ((n : Int) % 5).toNat default = (.slice none 0 0) by rw [hk]; rfl]
             refine XT.callS rfl rfl rfl rfl rfl Tryz.call5 rfl (.c (lzv rfl rfl) (.c (lzv rfl rfl) (.c (lzv rfl rfl) (.c (lzv rfl rfl) .n)))) rfl (OFS ([] : List Int) (.slice none 0 0) h139 (nI h139) (by decide)) (fun v144 s144 R144 => ?_) XT.stop
             obtain ⟨rfl, rfl⟩ := R144
             dsimp only [List.cons_append, List.nil_append]
             refine ⟨inferInstance, ?_⟩
             refine XT.q rfl rfl (Quiet.guardF rfl rfl fun g145 p145 => Q.not rfl) ?_
             refine XT.q rfl rfl (Q.or rfl (fun hp => lzv hp rfl)) ?_
             refine XT.done ?_
             exact mtr16 (()) _ _ trivial (.c rfl (.base 34 rfl rfl)) inferInstance
            ·have _ts := True.intro
             rw [show ([(.slice none 0 0), v135, v136, v137, v138] : List Value).getD ((n : Int) % 5).toNat default = v135 by rw [hk]; rfl]
             refine XT.callS rfl rfl rfl rfl rfl Tryz.call5 rfl (.c (lzv rfl rfl) (.c (lzv rfl rfl) (.c (lzv rfl rfl) (.c (lzv rfl rfl) .n)))) rfl (OFS [0] v135 h135 inferInstance (by decide)) (fun v144 s144 R144 => ?_) XT.stop
             obtain ⟨rfl, rfl⟩ := R144
             dsimp only [List.cons_append, List.nil_append]
             refine ⟨inferInstance, ?_⟩
             refine XT.q rfl rfl (Quiet.guardF rfl rfl fun g145 p145 => Q.not rfl) ?_
             refine XT.q rfl rfl (Q.or rfl (fun hp => lzv hp rfl)) ?_
             refine XT.done ?_
             exact mtr16 (()) _ _ trivial (.c rfl (.base 34 rfl rfl)) inferInstance
            ·have _ts := True.intro
             rw [show ([(.slice none 0 0), v135, v136, v137, v138] : List Value).getD ((n : Int) % 5).toNat default = v136 by rw [hk]; rfl]
             refine XT.callS rfl rfl rfl rfl rfl Tryz.call5 rfl (.c (lzv rfl rfl) (.c (lzv rfl rfl) (.c (lzv rfl rfl) (.c (lzv rfl rfl) .n)))) rfl (OFS [1] v136 h136 inferInstance (by decide)) (fun v144 s144 R144 => ?_) XT.stop
             obtain ⟨rfl, rfl⟩ := R144
             dsimp only [List.cons_append, List.nil_append]
             refine ⟨inferInstance, ?_⟩
             refine XT.q rfl rfl (Quiet.guardF rfl rfl fun g145 p145 => Q.not rfl) ?_
             refine XT.q rfl rfl (Q.or rfl (fun hp => lzv hp rfl)) ?_
             refine XT.done ?_
             exact mtr16 (()) _ _ trivial (.c rfl (.base 34 rfl rfl)) inferInstance
            ·have _ts := True.intro
             rw [show ([(.slice none 0 0), v135, v136, v137, v138] : List Value).getD ((n : Int) % 5).toNat default = v137 by rw [hk]; rfl]
             refine XT.callS rfl rfl rfl rfl rfl Tryz.call5 rfl (.c (lzv rfl rfl) (.c (lzv rfl rfl) (.c (lzv rfl rfl) (.c (lzv rfl rfl) .n)))) rfl (OFS [0, 2] v137 h137 inferInstance (by decide)) (fun v144 s144 R144 => ?_) XT.stop
             obtain ⟨rfl, rfl⟩ := R144
             dsimp only [List.cons_append, List.nil_append]
             refine ⟨inferInstance, ?_⟩
             refine XT.q rfl rfl (Quiet.guardF rfl rfl fun g145 p145 => Q.not rfl) ?_
             refine XT.q rfl rfl (Q.or rfl (fun hp => lzv hp rfl)) ?_
             refine XT.done ?_
             exact mtr16 (()) _ _ trivial (.c rfl (.base 34 rfl rfl)) inferInstance
            ·have _ts := True.intro
             rw [show ([(.slice none 0 0), v135, v136, v137, v138] : List Value).getD ((n : Int) % 5).toNat default = v138 by rw [hk]; rfl]
             refine XT.callS rfl rfl rfl rfl rfl Tryz.call5 rfl (.c (lzv rfl rfl) (.c (lzv rfl rfl) (.c (lzv rfl rfl) (.c (lzv rfl rfl) .n)))) rfl (OFS [2] v138 h138 inferInstance (by decide)) (fun v144 s144 R144 => ?_) XT.stop
             obtain ⟨rfl, rfl⟩ := R144
             dsimp only [List.cons_append, List.nil_append]
             refine ⟨inferInstance, ?_⟩
             refine XT.q rfl rfl (Quiet.guardF rfl rfl fun g145 p145 => Q.not rfl) ?_
             refine XT.q rfl rfl (Q.or rfl (fun hp => lzv hp rfl)) ?_
             refine XT.done ?_
             exact mtr16 (()) _ _ trivial (.c rfl (.base 34 rfl rfl)) inferInstance
           ·skip
            refine XT.litS [_] [_] [1] encI rfl rfl rfl rfl rfl (by rfl) (by rfl) rfl (by rfl) (by exact .c 0 1 rfl rfl rfl (.n _)) (fun _ => rfl) (by rfl) rfl (by infer_instance) rfl (fun v136 h136 O136 => ⟨inferInstance, ?_⟩) XT.stop
            refine XT.litS [_] [_] [0] encI rfl rfl rfl rfl rfl (by rfl) (by rfl) rfl (by rfl) (by exact .c 0 1 rfl rfl rfl (.n _)) (fun _ => rfl) (by rfl) rfl (by infer_instance) rfl (fun v135 h135 O135 => ⟨inferInstance, ?_⟩) XT.stop
            refine XT.litS [_, _, _, _, _] [_, _, _, _, _] ([(.slice none 0 0), v135, v136, v137, v138] : List Value) encV rfl rfl rfl rfl rfl (by rfl) (by rfl) rfl (by rfl) (by exact .c 0 1 rfl rfl rfl (.c 1 1 rfl rfl rfl (.c 2 1 rfl rfl rfl (.c 3 1 rfl rfl rfl (.c 4 1 rfl rfl rfl (.n _)))))) (fun _ => rfl) (by rfl) rfl (by infer_instance) rfl (fun v139 h139 O139 => ⟨inferInstance, ?_⟩) XT.stop
            refine XT.qs rfl rfl (Quiet.guardF rfl rfl fun g142 p142 => Q.ix rfl (lzv rfl rfl) (by omega) (by show (n : Int) % 5 < 5; omega)) ⟨inferInstance, ?_⟩ XT.stop
            refine XT.qs rfl rfl (Quiet.guardF rfl rfl fun g143 p143 => Q.ldE (lzv g143 rfl) (by show ((n : Int) % 5).toNat < 5; omega) rfl) ⟨inferInstance, ?_⟩ XT.stop
            rcases (show (n : Int) % 5 = 0 ∨ (n : Int) % 5 = 1 ∨ (n : Int) % 5 = 2 ∨ (n : Int) % 5 = 3 ∨ (n : Int) % 5 = 4 by omega) with hk | hk | hk | hk | hk
            ·have _ts := True.intro
             rw [show ([(.slice none 0 0), v135, v136, v137, v138] : List Value).getD ((n : Int) % 5).toNat default = (.slice none 0 0) by rw [hk]; rfl]
             refine XT.callS rfl rfl rfl rfl rfl Tryz.call5 rfl (.c (lzv rfl rfl) (.c (lzv rfl rfl) (.c (lzv rfl rfl) (.c (lzv rfl rfl) .n)))) rfl (OFS ([] : List Int) (.slice none 0 0) h139 (nI h139) (by decide)) (fun v144 s144 R144 => ?_) XT.stop
             obtain ⟨rfl, rfl⟩ := R144
             dsimp only [List.cons_append, List.nil_append]
             refine ⟨inferInstance, ?_⟩
             refine XT.q rfl rfl (Quiet.guardF rfl rfl fun g145 p145 => Q.not rfl) ?_
             refine XT.q rfl rfl (Q.or rfl (fun hp => lzv hp rfl)) ?_
             refine XT.done ?_
             exact mtr16 (()) _ _ trivial (.c rfl (.base 34 rfl rfl)) inferInstance
            ·have _ts := True.intro
             rw [show ([(.slice none 0 0), v135, v136, v137, v138] : List Value).getD ((n : Int) % 5).toNat default = v135 by rw [hk]; rfl]
             refine XT.callS rfl rfl rfl rfl rfl Tryz.call5 rfl (.c (lzv rfl rfl) (.c (lzv rfl rfl) (.c (lzv rfl rfl) (.c (lzv rfl rfl) .n)))) rfl (OFS [0] v135 h135 inferInstance (by decide)) (fun v144 s144 R144 => ?_) XT.stop
             obtain ⟨rfl, rfl⟩ := R144
             dsimp only [List.cons_append, List.nil_append]
             refine ⟨inferInstance, ?_⟩
             refine XT.q rfl rfl (Quiet.guardF rfl rfl fun g145 p145 => Q.not rfl) ?_
             refine XT.q rfl rfl (Q.or rfl (fun hp => lzv hp rfl)) ?_
             refine XT.done ?_
             exact mtr16 (()) _ _ trivial (.c rfl (.base 34 rfl rfl)) inferInstance
            ·have _ts := True.intro
             rw [show ([(.slice none 0 0), v135, v136, v137, v138] : List Value).getD ((n : Int) % 5).toNat default = v136 by rw [hk]; rfl]
             refine XT.callS rfl rfl rfl rfl rfl Tryz.call5 rfl (.c (lzv rfl rfl) (.c (lzv rfl rfl) (.c (lzv rfl rfl) (.c (lzv rfl rfl) .n)))) rfl (OFS [1] v136 h136 inferInstance (by decide)) (fun v144 s144 R144 => ?_) XT.stop
             obtain ⟨rfl, rfl⟩ := R144
             dsimp only [List.cons_append, List.nil_append]
             refine ⟨inferInstance, ?_⟩
             refine XT.q rfl rfl (Quiet.guardF rfl rfl fun g145 p145 => Q.not rfl) ?_
             refine XT.q rfl rfl (Q.or rfl (fun hp => lzv hp rfl)) ?_
             refine XT.done ?_
             exact mtr16 (()) _ _ trivial (.c rfl (.base 34 rfl rfl)) inferInstance
            ·have _ts := True.intro
             rw [show ([(.slice none 0 0), v135, v136, v137, v138] : List Value).getD ((n : Int) % 5).toNat default = v137 by rw [hk]; rfl]
             refine XT.callS rfl rfl rfl rfl rfl Tryz.call5 rfl (.c (lzv rfl rfl) (.c (lzv rfl rfl) (.c (lzv rfl rfl) (.c (lzv rfl rfl) .n)))) rfl (OFS [0, 2] v137 h137 inferInstance (by decide)) (fun v144 s144 R144 => ?_) XT.stop
             obtain ⟨rfl, rfl⟩ := R144
             dsimp only [List.cons_append, List.nil_append]
             refine ⟨inferInstance, ?_⟩
             refine XT.q rfl rfl (Quiet.guardF rfl rfl fun g145 p145 => Q.not rfl) ?_
             refine XT.q rfl rfl (Q.or rfl (fun hp => lzv hp rfl)) ?_
             refine XT.done ?_
             exact mtr16 (()) _ _ trivial (.c rfl (.base 34 rfl rfl)) inferInstance
            ·have _ts := True.intro
             rw [show ([(.slice none 0 0), v135, v136, v137, v138] : List Value).getD ((n : Int) % 5).toNat default = v138 by rw [hk]; rfl]
             refine XT.callS rfl rfl rfl rfl rfl Tryz.call5 rfl (.c (lzv rfl rfl) (.c (lzv rfl rfl) (.c (lzv rfl rfl) (.c (lzv rfl rfl) .n)))) rfl (OFS [2] v138 h138 inferInstance (by decide)) (fun v144 s144 R144 => ?_) XT.stop
             obtain ⟨rfl, rfl⟩ := R144
             dsimp only [List.cons_append, List.nil_append]
             refine ⟨inferInstance, ?_⟩
             refine XT.q rfl rfl (Quiet.guardF rfl rfl fun g145 p145 => Q.not rfl) ?_
             refine XT.q rfl rfl (Q.or rfl (fun hp => lzv hp rfl)) ?_
             refine XT.done ?_
             exact mtr16 (()) _ _ trivial (.c rfl (.base 34 rfl rfl)) inferInstance
        ·skip
         refine XT.litS [_] [_] [2] encI rfl rfl rfl rfl rfl (by rfl) (by rfl) rfl (by rfl) (by exact .c 0 1 rfl rfl rfl (.n _)) (fun _ => rfl) (by rfl) rfl (by infer_instance) rfl (fun v138 h138 O138 => ⟨inferInstance, ?_⟩) XT.stop
         refine XT.litS [_] [_] [0] encI rfl rfl rfl rfl rfl (by rfl) (by rfl) rfl (by rfl) (by exact .c 0 1 rfl rfl rfl (.n _)) (fun _ => rfl) (by rfl) rfl (by infer_instance) rfl (fun v135 h135 O135 => ⟨inferInstance, ?_⟩) ?_
         ·skip
          refine XT.litS [_] [_] [1] encI rfl rfl rfl rfl rfl (by rfl) (by rfl) rfl (by rfl) (by exact .c 0 1 rfl rfl rfl (.n _)) (fun _ => rfl) (by rfl) rfl (by infer_instance) rfl (fun v136 h136 O136 => ⟨inferInstance, ?_⟩) ?_
          ·skip
           refine XT.litS [_, _] [_, _] [0, 2] encI rfl rfl rfl rfl rfl (by rfl) (by rfl) rfl (by rfl) (by exact .c 0 1 rfl rfl rfl (.c 1 1 rfl rfl rfl (.n _))) (fun _ => rfl) (by rfl) rfl (by infer_instance) rfl (fun v137 h137 O137 => ⟨inferInstance, ?_⟩) XT.stop
           refine XT.litS [_, _, _, _, _] [_, _, _, _, _] ([(.slice none 0 0), v135, v136, v137, v138] : List Value) encV rfl rfl rfl rfl rfl (by rfl) (by rfl) rfl (by rfl) (by exact .c 0 1 rfl rfl rfl (.c 1 1 rfl rfl rfl (.c 2 1 rfl rfl rfl (.c 3 1 rfl rfl rfl (.c 4 1 rfl rfl rfl (.n _)))))) (fun _ => rfl) (by rfl) rfl (by infer_instance) rfl (fun v139 h139 O139 => ⟨inferInstance, ?_⟩) XT.stop
           refine XT.qs rfl rfl (Quiet.guardF rfl rfl fun g142 p142 => Q.ix rfl (lzv rfl rfl) (by omega) (by show (n : Int) % 5 < 5; omega)) ⟨inferInstance, ?_⟩ XT.stop
           refine XT.qs rfl rfl (Quiet.guardF rfl rfl fun g143 p143 => Q.ldE (lzv g143 rfl) (by show ((n : Int) % 5).toNat < 5; omega) rfl) ⟨inferInstance, ?_⟩ XT.stop
           rcases (show (n : Int) % 5 = 0 ∨ (n : Int) % 5 = 1 ∨ (n : Int) % 5 = 2 ∨ (n : Int) % 5 = 3 ∨ (n : Int) % 5 = 4 by omega) with hk | hk | hk | hk | hk
           ·have _ts := True.intro
            rw [show ([(.slice none 0 0), v135, v136, v137, v138] : List Value).getD ((n : Int) % 5).toNat default = (.slice none 0 0) by rw [hk]; rfl]
            refine XT.callS rfl rfl rfl rfl rfl Tryz.call5 rfl (.c (lzv rfl rfl) (.c (lzv rfl rfl) (.c (lzv rfl rfl) (.c (lzv rfl rfl) .n)))) rfl (OFS ([] : List Int) (.slice none 0 0) h139 (nI h139) (by decide)) (fun v144 s144 R144 => ?_) XT.stop
            obtain ⟨rfl, rfl⟩ := R144
            dsimp only [List.cons_append, List.nil_append]
            refine ⟨inferInstance, ?_⟩
            refine XT.q rfl rfl (Quiet.guardF rfl rfl fun g145 p145 => Q.not rfl) ?_
            refine XT.q rfl rfl (Q.or rfl (fun hp => lzv hp rfl)) ?_
            refine XT.done ?_
            exact mtr16 (()) _ _ trivial (.c rfl (.base 34 rfl rfl)) inferInstance
           ·have _ts := True.intro
            rw [show ([(.slice none 0 0), v135, v136, v137, v138] : List Value).getD ((n : Int) % 5).toNat default = v135 by rw [hk]; rfl]
            refine XT.callS rfl rfl rfl rfl rfl Tryz.call5 rfl (.c (lzv rfl rfl) (.c (lzv rfl rfl) (.c (lzv rfl rfl) (.c (lzv rfl rfl) .n)))) rfl (OFS [0] v135 h135 inferInstance (by decide)) (fun v144 s144 R144 => ?_) XT.stop
            obtain ⟨rfl, rfl⟩ := R144
            dsimp only [List.cons_append, List.nil_append]
            refine ⟨inferInstance, ?_⟩
            refine XT.q rfl rfl (Quiet.guardF rfl rfl fun g145 p145 => Q.not rfl) ?_
            refine XT.q rfl rfl (Q.or rfl (fun hp => lzv hp rfl)) ?_
            refine XT.done ?_
            exact mtr16 (()) _ _ trivial (.c rfl (.base 34 rfl rfl)) inferInstance
           ·have _ts := True.intro
            rw [show ([(.slice none 0 0), v135, v136, v137, v138] : List Value).getD ((n : Int) % 5).toNat default = v136 by rw [hk]; rfl]
            refine XT.callS rfl rfl rfl rfl rfl Tryz.call5 rfl (.c (lzv rfl rfl) (.c (lzv rfl rfl) (.c (lzv rfl rfl) (.c (lzv rfl rfl) .n)))) rfl (OFS [1] v136 h136 inferInstance (by decide)) (fun v144 s144 R144 => ?_) XT.stop
            obtain ⟨rfl, rfl⟩ := R144
            dsimp only [List.cons_append, List.nil_append]
            refine ⟨inferInstance, ?_⟩
            refine XT.q rfl rfl (Quiet.guardF rfl rfl fun g145 p145 => Q.not rfl) ?_
            refine XT.q rfl rfl (Q.or rfl (fun hp => lzv hp rfl)) ?_
            refine XT.done ?_
            exact mtr16 (()) _ _ trivial (.c rfl (.base 34 rfl rfl)) inferInstance
           ·have _ts := True.intro
            rw [show ([(.slice none 0 0), v135, v136, v137, v138] : List Value).getD ((n : Int) % 5).toNat default = v137 by rw [hk]; rfl]
            refine XT.callS rfl rfl rfl rfl rfl Tryz.call5 rfl (.c (lzv rfl rfl) (.c (lzv rfl rfl) (.c (lzv rfl rfl) (.c (lzv rfl rfl) .n)))) rfl (OFS [0, 2] v137 h137 inferInstance (by decide)) (fun v144 s144 R144 => ?_) XT.stop
            obtain ⟨rfl, rfl⟩ := R144
            dsimp only [List.cons_append, List.nil_append]
            refine ⟨inferInstance, ?_⟩
            refine XT.q rfl rfl (Quiet.guardF rfl rfl fun g145 p145 => Q.not rfl) ?_
            refine XT.q rfl rfl (Q.or rfl (fun hp => lzv hp rfl)) ?_
            refine XT.done ?_
            exact mtr16 (()) _ _ trivial (.c rfl (.base 34 rfl rfl)) inferInstance
           ·have _ts := True.intro
            rw [show ([(.slice none 0 0), v135, v136, v137, v138] : List Value).getD ((n : Int) % 5).toNat default = v138 by rw [hk]; rfl]
            refine XT.callS rfl rfl rfl rfl rfl Tryz.call5 rfl (.c (lzv rfl rfl) (.c (lzv rfl rfl) (.c (lzv rfl rfl) (.c (lzv rfl rfl) .n)))) rfl (OFS [2] v138 h138 inferInstance (by decide)) (fun v144 s144 R144 => ?_) XT.stop
            obtain ⟨rfl, rfl⟩ := R144
            dsimp only [List.cons_append, List.nil_append]
            refine ⟨inferInstance, ?_⟩
            refine XT.q rfl rfl (Quiet.guardF rfl rfl fun g145 p145 => Q.not rfl) ?_
            refine XT.q rfl rfl (Q.or rfl (fun hp => lzv hp rfl)) ?_
            refine XT.done ?_
            exact mtr16 (()) _ _ trivial (.c rfl (.base 34 rfl rfl)) inferInstance
          ·skip
           refine XT.litS [_, _] [_, _] [0, 2] encI rfl rfl rfl rfl rfl (by rfl) (by rfl) rfl (by rfl) (by exact .c 0 1 rfl rfl rfl (.c 1 1 rfl rfl rfl (.n _))) (fun _ => rfl) (by rfl) rfl (by infer_instance) rfl (fun v137 h137 O137 => ⟨inferInstance, ?_⟩) XT.stop
           refine XT.litS [_] [_] [1] encI rfl rfl rfl rfl rfl (by rfl) (by rfl) rfl (by rfl) (by exact .c 0 1 rfl rfl rfl (.n _)) (fun _ => rfl) (by rfl) rfl (by infer_instance) rfl (fun v136 h136 O136 => ⟨inferInstance, ?_⟩) XT.stop
           refine XT.litS [_, _, _, _, _] [_, _, _, _, _] ([(.slice none 0 0), v135, v136, v137, v138] : List Value) encV rfl rfl rfl rfl rfl (by rfl) (by rfl) rfl (by rfl) (by exact .c 0 1 rfl rfl rfl (.c 1 1 rfl rfl rfl (.c 2 1 rfl rfl rfl (.c 3 1 rfl rfl rfl (.c 4 1 rfl rfl rfl (.n _)))))) (fun _ => rfl) (by rfl) rfl (by infer_instance) rfl (fun v139 h139 O139 => ⟨inferInstance, ?_⟩) XT.stop
           refine XT.qs rfl rfl (Quiet.guardF rfl rfl fun g142 p142 => Q.ix rfl (lzv rfl rfl) (by omega) (by show (n : Int) % 5 < 5; omega)) ⟨inferInstance, ?_⟩ XT.stop
           refine XT.qs rfl rfl (Quiet.guardF rfl rfl fun g143 p143 => Q.ldE (lzv g143 rfl) (by show ((n : Int) % 5).toNat < 5; omega) rfl) ⟨inferInstance, ?_⟩ XT.stop
           rcases (show (n : Int) % 5 = 0 ∨ (n : Int) % 5 = 1 ∨ (n : Int) % 5 = 2 ∨ (n : Int) % 5 = 3 ∨ (n : Int) % 5 = 4 by omega) with hk | hk | hk | hk | hk
           ·have _ts := True.intro
            rw [show ([(.slice none 0 0), v135, v136, v137, v138] : List Value).getD ((n : Int) % 5).toNat default = (.slice none 0 0) by rw [hk]; rfl]
            refine XT.callS rfl rfl rfl rfl rfl Tryz.call5 rfl (.c (lzv rfl rfl) (.c (lzv rfl rfl) (.c (lzv rfl rfl) (.c (lzv rfl rfl) .n)))) rfl (OFS ([] : List Int) (.slice none 0 0) h139 (nI h139) (by decide)) (fun v144 s144 R144 => ?_) XT.stop
            obtain ⟨rfl, rfl⟩ := R144
            dsimp only [List.cons_append, List.nil_append]
            refine ⟨inferInstance, ?_⟩
            refine XT.q rfl rfl (Quiet.guardF rfl rfl fun g145 p145 => Q.not rfl) ?_
            refine XT.q rfl rfl (Q.or rfl (fun hp => lzv hp rfl)) ?_
            refine XT.done ?_
            exact mtr16 (()) _ _ trivial (.c rfl (.base 34 rfl rfl)) inferInstance
           ·have _ts := True.intro
            rw [show ([(.slice none 0 0), v135, v136, v137, v138] : List Value).getD ((n : Int) % 5).toNat default = v135 by rw [hk]; rfl]
            refine XT.callS rfl rfl rfl rfl rfl Tryz.call5 rfl (.c (lzv rfl rfl) (.c (lzv rfl rfl) (.c (lzv rfl rfl) (.c (lzv rfl rfl) .n)))) rfl (OFS [0] v135 h135 inferInstance (by decide)) (fun v144 s144 R144 => ?_) XT.stop
            obtain ⟨rfl, rfl⟩ := R144
            dsimp only [List.cons_append, List.nil_append]
            refine ⟨inferInstance, ?_⟩
            refine XT.q rfl rfl (Quiet.guardF rfl rfl fun g145 p145 => Q.not rfl) ?_
            refine XT.q rfl rfl (Q.or rfl (fun hp => lzv hp rfl)) ?_
            refine XT.done ?_
            exact mtr16 (()) _ _ trivial (.c rfl (.base 34 rfl rfl)) inferInstance
           ·have _ts := True.intro
            rw [show ([(.slice none 0 0), v135, v136, v137, v138] : List Value).getD ((n : Int) % 5).toNat default = v136 by rw [hk]; rfl]
            refine XT.callS rfl rfl rfl rfl rfl Tryz.call5 rfl (.c (lzv rfl rfl) (.c (lzv rfl rfl) (.c (lzv rfl rfl) (.c (lzv rfl rfl) .n)))) rfl (OFS [1] v136 h136 inferInstance (by decide)) (fun v144 s144 R144 => ?_) XT.stop
            obtain ⟨rfl, rfl⟩ := R144
            dsimp only [List.cons_append, List.nil_append]
            refine ⟨inferInstance, ?_⟩
            refine XT.q rfl rfl (Quiet.guardF rfl rfl fun g145 p145 => Q.not rfl) ?_
            refine XT.q rfl rfl (Q.or rfl (fun hp => lzv hp rfl)) ?_
            refine XT.done ?_
            exact mtr16 (()) _ _ trivial (.c rfl (.base 34 rfl rfl)) inferInstance
           ·have _ts := True.intro
            rw [show ([(.slice none 0 0), v135, v136, v137, v138] : List Value).getD ((n : Int) % 5).toNat default = v137 by rw [hk]; rfl]
            refine XT.callS rfl rfl rfl rfl rfl Tryz.call5 rfl (.c (lzv rfl rfl) (.c (lzv rfl rfl) (.c (lzv rfl rfl) (.c (lzv rfl rfl) .n)))) rfl (OFS [0, 2] v137 h137 inferInstance (by decide)) (fun v144 s144 R144 => ?_) XT.stop
            obtain ⟨rfl, rfl⟩ := R144
            dsimp only [List.cons_append, List.nil_append]
            refine ⟨inferInstance, ?_⟩
            refine XT.q rfl rfl (Quiet.guardF rfl rfl fun g145 p145 => Q.not rfl) ?_
            refine XT.q rfl rfl (Q.or rfl (fun hp => lzv hp rfl)) ?_
            refine XT.done ?_
            exact mtr16 (()) _ _ trivial (.c rfl (.base 34 rfl rfl)) inferInstance
           ·have _ts := True.intro
            rw [show ([(.slice none 0 0), v135, v136, v137, v138] : List Value).getD ((n : Int) % 5).toNat default = v138 by rw [hk]; rfl]
            refine XT.callS rfl rfl rfl rfl rfl Tryz.call5 rfl (.c (lzv rfl rfl) (.c (lzv rfl rfl) (.c (lzv rfl rfl) (.c (lzv rfl rfl) .n)))) rfl (OFS [2] v138 h138 inferInstance (by decide)) (fun v144 s144 R144 => ?_) XT.stop
            obtain ⟨rfl, rfl⟩ := R144
            dsimp only [List.cons_append, List.nil_append]
            refine ⟨inferInstance, ?_⟩
            refine XT.q rfl rfl (Quiet.guardF rfl rfl fun g145 p145 => Q.not rfl) ?_
            refine XT.q rfl rfl (Q.or rfl (fun hp => lzv hp rfl)) ?_
            refine XT.done ?_
            exact mtr16 (()) _ _ trivial (.c rfl (.base 34 rfl rfl)) inferInstance
         ·skip
          refine XT.litS [_] [_] [1] encI rfl rfl rfl rfl rfl (by rfl) (by rfl) rfl (by rfl) (by exact .c 0 1 rfl rfl rfl (.n _)) (fun _ => rfl) (by rfl) rfl (by infer_instance) rfl (fun v136 h136 O136 => ⟨inferInstance, ?_⟩) ?_
          ·skip
           refine XT.litS [_] [_] [0] encI rfl rfl rfl rfl rfl (by rfl) (by rfl) rfl (by rfl) (by exact .c 0 1 rfl rfl rfl (.n _)) (fun _ => rfl) (by rfl) rfl (by infer_instance) rfl (fun v135 h135 O135 => ⟨inferInstance, ?_⟩) ?_
           ·skip
            refine XT.litS [_, _] [_, _] [0, 2] encI rfl rfl rfl rfl rfl (by rfl) (by rfl) rfl (by rfl) (by exact .c 0 1 rfl rfl rfl (.c 1 1 rfl rfl rfl (.n _))) (fun _ => rfl) (by rfl) rfl (by infer_instance) rfl (fun v137 h137 O137 => ⟨inferInstance, ?_⟩) XT.stop
            refine XT.litS [_, _, _, _, _] [_, _, _, _, _] ([(.slice none 0 0), v135, v136, v137, v138] : List Value) encV rfl rfl rfl rfl rfl (by rfl) (by rfl) rfl (by rfl) (by exact .c 0 1 rfl rfl rfl (.c 1 1 rfl rfl rfl (.c 2 1 rfl rfl rfl (.c 3 1 rfl rfl rfl (.c 4 1 rfl rfl rfl (.n _)))))) (fun _ => rfl) (by rfl) rfl (by infer_instance) rfl (fun v139 h139 O139 => ⟨inferInstance, ?_⟩) XT.stop
            refine XT.qs rfl rfl (Quiet.guardF rfl rfl fun g142 p142 => Q.ix rfl (lzv rfl rfl) (by omega) (by show (n : Int) % 5 < 5; omega)) ⟨inferInstance, ?_⟩ XT.stop
            refine XT.qs rfl rfl (Quiet.guardF rfl rfl fun g143 p143 => Q.ldE (lzv g143 rfl) (by show ((n : Int) % 5).toNat < 5; omega) rfl) ⟨inferInstance, ?_⟩ XT.stop
            rcases (show (n : Int) % 5 = 0 ∨ (n : Int) % 5 = 1 ∨ (n : Int) % 5 = 2 ∨ (n : Int) % 5 = 3 ∨ (n : Int) % 5 = 4 by omega) with hk | hk | hk | hk | hk
            ·have _ts := True.intro
             rw [show ([(.slice none 0 0), v135, v136, v137, v138] : List Value).getD ((n : Int) % 5).toNat default = (.slice none 0 0) by rw [hk]; rfl]
             refine XT.callS rfl rfl rfl rfl rfl Tryz.call5 rfl (.c (lzv rfl rfl) (.c (lzv rfl rfl) (.c (lzv rfl rfl) (.c (lzv rfl rfl) .n)))) rfl (OFS ([] : List Int) (.slice none 0 0) h139 (nI h139) (by decide)) (fun v144 s144 R144 => ?_) XT.stop
             obtain ⟨rfl, rfl⟩ := R144
             dsimp only [List.cons_append, List.nil_append]
             refine ⟨inferInstance, ?_⟩
             refine XT.q rfl rfl (Quiet.guardF rfl rfl fun g145 p145 => Q.not rfl) ?_
             refine XT.q rfl rfl (Q.or rfl (fun hp => lzv hp rfl)) ?_
             refine XT.done ?_
             exact mtr16 (()) _ _ trivial (.c rfl (.base 34 rfl rfl)) inferInstance
            ·have _ts := True.intro
             rw [show ([(.slice none 0 0), v135, v136, v137, v138] : List Value).getD ((n : Int) % 5).toNat default = v135 by rw [hk]; rfl]
             refine XT.callS rfl rfl rfl rfl rfl Tryz.call5 rfl (.c (lzv rfl rfl) (.c (lzv rfl rfl) (.c (lzv rfl rfl) (.c (lzv rfl rfl) .n)))) rfl (OFS [0] v135 h135 inferInstance (by decide)) (fun v144 s144 R144 => ?_) XT.stop
             obtain ⟨rfl, rfl⟩ := R144
             dsimp only [List.cons_append, List.nil_append]
             refine ⟨inferInstance, ?_⟩
             refine XT.q rfl rfl (Quiet.guardF rfl rfl fun g145 p145 => Q.not rfl) ?_
             refine XT.q rfl rfl (Q.or rfl (fun hp => lzv hp rfl)) ?_
             refine XT.done ?_
             exact mtr16 (()) _ _ trivial (.c rfl (.base 34 rfl rfl)) inferInstance
            ·have _ts := True.intro
             rw [show ([(.slice none 0 0), v135, v136, v137, v138] : List Value).getD ((n : Int) % 5).toNat default = v136 by rw [hk]; rfl]
             refine XT.callS rfl rfl rfl rfl rfl Tryz.call5 rfl (.c (lzv rfl rfl) (.c (lzv rfl rfl) (.c (lzv rfl rfl) (.c (lzv rfl rfl) .n)))) rfl (OFS [1] v136 h136 inferInstance (by decide)) (fun v144 s144 R144 => ?_) XT.stop
             obtain ⟨rfl, rfl⟩ := R144
             dsimp only [List.cons_append, List.nil_append]
             refine ⟨inferInstance, ?_⟩
             refine XT.q rfl rfl (Quiet.guardF rfl rfl fun g145 p145 => Q.not rfl) ?_
             refine XT.q rfl rfl (Q.or rfl (fun hp => lzv hp rfl)) ?_
             refine XT.done ?_
             exact mtr16 (()) _ _ trivial (.c rfl (.base 34 rfl rfl)) inferInstance
            ·have _ts := True.intro
             rw [show ([(.slice none 0 0), v135, v136, v137, v138] : List Value).getD ((n : Int) % 5).toNat default = v137 by rw [hk]; rfl]
             refine XT.callS rfl rfl rfl rfl rfl Tryz.call5 rfl (.c (lzv rfl rfl) (.c (lzv rfl rfl) (.c (lzv rfl rfl) (.c (lzv rfl rfl) .n)))) rfl (OFS [0, 2] v137 h137 inferInstance (by decide)) (fun v144 s144 R144 => ?_) XT.stop
             obtain ⟨rfl, rfl⟩ := R144
             dsimp only [List.cons_append, List.nil_append]
             refine ⟨inferInstance, ?_⟩
             refine XT.q rfl rfl (Quiet.guardF rfl rfl fun g145 p145 => Q.not rfl) ?_
             refine XT.q rfl rfl (Q.or rfl (fun hp => lzv hp rfl)) ?_
             refine XT.done ?_
             exact mtr16 (()) _ _ trivial (.c rfl (.base 34 rfl rfl)) inferInstance
            ·have _ts := True.intro
             rw [show ([(.slice none 0 0), v135, v136, v137, v138] : List Value).getD ((n : Int) % 5).toNat default = v138 by rw [hk]; rfl]
             refine XT.callS rfl rfl rfl rfl rfl Tryz.call5 rfl (.c (lzv rfl rfl) (.c (lzv rfl rfl) (.c (lzv rfl rfl) (.c (lzv rfl rfl) .n)))) rfl (OFS [2] v138 h138 inferInstance (by decide)) (fun v144 s144 R144 => ?_) XT.stop
             obtain ⟨rfl, rfl⟩ := R144
             dsimp only [List.cons_append, List.nil_append]
             refine ⟨inferInstance, ?_⟩
             refine XT.q rfl rfl (Quiet.guardF rfl rfl fun g145 p145 => Q.not rfl) ?_
             refine XT.q rfl rfl (Q.or rfl (fun hp => lzv hp rfl)) ?_
             refine XT.done ?_
             exact mtr16 (()) _ _ trivial (.c rfl (.base 34 rfl rfl)) inferInstance
           ·skip
            refine XT.litS [_, _] [_, _] [0, 2] encI rfl rfl rfl rfl rfl (by rfl) (by rfl) rfl (by rfl) (by exact .c 0 1 rfl rfl rfl (.c 1 1 rfl rfl rfl (.n _))) (fun _ => rfl) (by rfl) rfl (by infer_instance) rfl (fun v137 h137 O137 => ⟨inferInstance, ?_⟩) XT.stop
            refine XT.litS [_] [_] [0] encI rfl rfl rfl rfl rfl (by rfl) (by rfl) rfl (by rfl) (by exact .c 0 1 rfl rfl rfl (.n _)) (fun _ => rfl) (by rfl) rfl (by infer_instance) rfl (fun v135 h135 O135 => ⟨inferInstance, ?_⟩) XT.stop
            refine XT.litS [_, _, _, _, _] [_, _, _, _, _] ([(.slice none 0 0), v135, v136, v137, v138] : List Value) encV rfl rfl rfl rfl rfl (by rfl) (by rfl) rfl (by rfl) (by exact .c 0 1 rfl rfl rfl (.c 1 1 rfl rfl rfl (.c 2 1 rfl rfl rfl (.c 3 1 rfl rfl rfl (.c 4 1 rfl rfl rfl (.n _)))))) (fun _ => rfl) (by rfl) rfl (by infer_instance) rfl (fun v139 h139 O139 => ⟨inferInstance, ?_⟩) XT.stop
            refine XT.qs rfl rfl (Quiet.guardF rfl rfl fun g142 p142 => Q.ix rfl (lzv rfl rfl) (by omega) (by show (n : Int) % 5 < 5; omega)) ⟨inferInstance, ?_⟩ XT.stop
            refine XT.qs rfl rfl (Quiet.guardF rfl rfl fun g143 p143 => Q.ldE (lzv g143 rfl) (by show ((n : Int) % 5).toNat < 5; omega) rfl) ⟨inferInstance, ?_⟩ XT.stop
            rcases (show (n : Int) % 5 = 0 ∨ (n : Int) % 5 = 1 ∨ (n : Int) % 5 = 2 ∨ (n : Int) % 5 = 3 ∨ (n : Int) % 5 = 4 by omega) with hk | hk | hk | hk | hk
            ·have _ts := True.intro
             rw [show ([(.slice none 0 0), v135, v136, v137, v138] : List Value).getD ((n : Int) % 5).toNat default = (.slice none 0 0) by rw [hk]; rfl]
             refine XT.callS rfl rfl rfl rfl rfl Tryz.call5 rfl (.c (lzv rfl rfl) (.c (lzv rfl rfl) (.c (lzv rfl rfl) (.c (lzv rfl rfl) .n)))) rfl (OFS ([] : List Int) (.slice none 0 0) h139 (nI h139) (by decide)) (fun v144 s144 R144 => ?_) XT.stop
             obtain ⟨rfl, rfl⟩ := R144
             dsimp only [List.cons_append, List.nil_append]
             refine ⟨inferInstance, ?_⟩
             refine XT.q rfl rfl (Quiet.guardF rfl rfl fun g145 p145 => Q.not rfl) ?_
             refine XT.q rfl rfl (Q.or rfl (fun hp => lzv hp rfl)) ?_
             refine XT.done ?_
             exact mtr16 (()) _ _ trivial (.c rfl (.base 34 rfl rfl)) inferInstance
            ·have _ts := True.intro
             rw [show ([(.slice none 0 0), v135, v136, v137, v138] : List Value).getD ((n : Int) % 5).toNat default = v135 by rw [hk]; rfl]
             refine XT.callS rfl rfl rfl rfl rfl Tryz.call5 rfl (.c (lzv rfl rfl) (.c (lzv rfl rfl) (.c (lzv rfl rfl) (.c (lzv rfl rfl) .n)))) rfl (OFS [0] v135 h135 inferInstance (by decide)) (fun v144 s144 R144 => ?_) XT.stop
             obtain ⟨rfl, rfl⟩ := R144
             dsimp only [List.cons_append, List.nil_append]
             refine ⟨inferInstance, ?_⟩
             refine XT.q rfl rfl (Quiet.guardF rfl rfl fun g145 p145 => Q.not rfl) ?_
             refine XT.q rfl rfl (Q.or rfl (fun hp => lzv hp rfl)) ?_
             refine XT.done ?_
             exact mtr16 (()) _ _ trivial (.c rfl (.base 34 rfl rfl)) inferInstance
            ·have _ts := True.intro
             rw [show ([(.slice none 0 0), v135, v136, v137, v138] : List Value).getD ((n : Int) % 5).toNat default = v136 by rw [hk]; rfl]
             refine XT.callS rfl rfl rfl rfl rfl Tryz.call5 rfl (.c (lzv rfl rfl) (.c (lzv rfl rfl) (.c (lzv rfl rfl) (.c (lzv rfl rfl) .n)))) rfl (OFS [1] v136 h136 inferInstance (by decide)) (fun v144 s144 R144 => ?_) XT.stop
             obtain ⟨rfl, rfl⟩ := R144
             dsimp only [List.cons_append, List.nil_append]
             refine ⟨inferInstance, ?_⟩
             refine XT.q rfl rfl (Quiet.guardF rfl rfl fun g145 p145 => Q.not rfl) ?_
             refine XT.q rfl rfl (Q.or rfl (fun hp => lzv hp rfl)) ?_
             refine XT.done ?_
             exact mtr16 (()) _ _ trivial (.c rfl (.base 34 rfl rfl)) inferInstance
            ·have _ts := True.intro
             rw [show ([(.slice none 0 0), v135, v136, v137, v138] : List Value).getD ((n : Int) % 5).toNat default = v137 by rw [hk]; rfl]
             refine XT.callS rfl rfl rfl rfl rfl Tryz.call5 rfl (.c (lzv rfl rfl) (.c (lzv rfl rfl) (.c (lzv rfl rfl) (.c (lzv rfl rfl) .n)))) rfl (OFS [0, 2] v137 h137 inferInstance (by decide)) (fun v144 s144 R144 => ?_) XT.stop
             obtain ⟨rfl, rfl⟩ := R144
             dsimp only [List.cons_append, List.nil_append]
             refine ⟨inferInstance, ?_⟩
             refine XT.q rfl rfl (Quiet.guardF rfl rfl fun g145 p145 => Q.not rfl) ?_
             refine XT.q rfl rfl (Q.or rfl (fun hp => lzv hp rfl)) ?_
             refine XT.done ?_
             exact mtr16 (()) _ _ trivial (.c rfl (.base 34 rfl rfl)) inferInstance
            ·have _ts := True.intro
             rw [show ([(.slice none 0 0), v135, v136, v137, v138] : List Value).getD ((n : Int) % 5).toNat default = v138 by rw [hk]; rfl]
             refine XT.callS rfl rfl rfl rfl rfl Tryz.call5 rfl (.c (lzv rfl rfl) (.c (lzv rfl rfl) (.c (lzv rfl rfl) (.c (lzv rfl rfl) .n)))) rfl (OFS [2] v138 h138 inferInstance (by decide)) (fun v144 s144 R144 => ?_) XT.stop
             obtain ⟨rfl, rfl⟩ := R144
             dsimp only [List.cons_append, List.nil_append]
             refine ⟨inferInstance, ?_⟩
             refine XT.q rfl rfl (Quiet.guardF rfl rfl fun g145 p145 => Q.not rfl) ?_
             refine XT.q rfl rfl (Q.or rfl (fun hp => lzv hp rfl)) ?_
             refine XT.done ?_
             exact mtr16 (()) _ _ trivial (.c rfl (.base 34 rfl rfl)) inferInstance
          ·skip
           refine XT.litS [_, _] [_, _] [0, 2] encI rfl rfl rfl rfl rfl (by rfl) (by rfl) rfl (by rfl) (by exact .c 0 1 rfl rfl rfl (.c 1 1 rfl rfl rfl (.n _))) (fun _ => rfl) (by rfl) rfl (by infer_instance) rfl (fun v137 h137 O137 => ⟨inferInstance, ?_⟩) XT.stop
           refine XT.litS [_] [_] [0] encI rfl rfl rfl rfl rfl (by rfl) (by rfl) rfl (by rfl) (by exact .c 0 1 rfl rfl rfl (.n _)) (fun _ => rfl) (by rfl) rfl (by infer_instance) rfl (fun v135 h135 O135 => ⟨inferInstance, ?_⟩) ?_
           ·skip
            refine XT.litS [_] [_] [1] encI rfl rfl rfl rfl rfl (by rfl) (by rfl) rfl (by rfl) (by exact .c 0 1 rfl rfl rfl (.n _)) (fun _ => rfl) (by rfl) rfl (by infer_instance) rfl (fun v136 h136 O136 => ⟨inferInstance, ?_⟩) XT.stop
            refine XT.litS [_, _, _, _, _] [_, _, _, _, _] ([(.slice none 0 0), v135, v136, v137, v138] : List Value) encV rfl rfl rfl rfl rfl (by rfl) (by rfl) rfl (by rfl) (by exact .c 0 1 rfl rfl rfl (.c 1 1 rfl rfl rfl (.c 2 1 rfl rfl rfl (.c 3 1 rfl rfl rfl (.c 4 1 rfl rfl rfl (.n _)))))) (fun _ => rfl) (by rfl) rfl (by infer_instance) rfl (fun v139 h139 O139 => ⟨inferInstance, ?_⟩) XT.stop
            refine XT.qs rfl rfl (Quiet.guardF rfl rfl fun g142 p142 => Q.ix rfl (lzv rfl rfl) (by omega) (by show (n : Int) % 5 < 5; omega)) ⟨inferInstance, ?_⟩ XT.stop
            refine XT.qs rfl rfl (Quiet.guardF rfl rfl fun g143 p143 => Q.ldE (lzv g143 rfl) (by show ((n : Int) % 5).toNat < 5; omega) rfl) ⟨inferInstance, ?_⟩ XT.stop
            rcases (show (n : Int) % 5 = 0 ∨ (n : Int) % 5 = 1 ∨ (n : Int) % 5 = 2 ∨ (n : Int) % 5 = 3 ∨ (n : Int) % 5 = 4 by omega) with hk | hk | hk | hk | hk
            ·have _ts := True.intro
             rw [show ([(.slice none 0 0), v135, v136, v137, v138] : List Value).getD ((n : Int) % 5).toNat default = (.slice none 0 0) by rw [hk]; rfl]
             refine XT.callS rfl rfl rfl rfl rfl Tryz.call5 rfl (.c (lzv rfl rfl) (.c (lzv rfl rfl) (.c (lzv rfl rfl) (.c (lzv rfl rfl) .n)))) rfl (OFS ([] : List Int) (.slice none 0 0) h139 (nI h139) (by decide)) (fun v144 s144 R144 => ?_) XT.stop
             obtain ⟨rfl, rfl⟩ := R144
             dsimp only [List.cons_append, List.nil_append]
             refine ⟨inferInstance, ?_⟩
             refine XT.q rfl rfl (Quiet.guardF rfl rfl fun g145 p145 => Q.not rfl) ?_
             refine XT.q rfl rfl (Q.or rfl (fun hp => lzv hp rfl)) ?_
             refine XT.done ?_
             exact mtr16 (()) _ _ trivial (.c rfl (.base 34 rfl rfl)) inferInstance
            ·have _ts := True.intro
             rw [show ([(.slice none 0 0), v135, v136, v137, v138] : List Value).getD ((n : Int) % 5).toNat default = v135 by rw [hk]; rfl]
             refine XT.callS rfl rfl rfl rfl rfl Tryz.call5 rfl (.c (lzv rfl rfl) (.c (lzv rfl rfl) (.c (lzv rfl rfl) (.c (lzv rfl rfl) .n)))) rfl (OFS [0] v135 h135 inferInstance (by decide)) (fun v144 s144 R144 => ?_) XT.stop
             obtain ⟨rfl, rfl⟩ := R144
             dsimp only [List.cons_append, List.nil_append]
             refine ⟨inferInstance, ?_⟩
             refine XT.q rfl rfl (Quiet.guardF rfl rfl fun g145 p145 => Q.not rfl) ?_
             refine XT.q rfl rfl (Q.or rfl (fun hp => lzv hp rfl)) ?_
             refine XT.done ?_
             exact mtr16 (()) _ _ trivial (.c rfl (.base 34 rfl rfl)) inferInstance
            ·have _ts := True.intro
             rw [show ([(.slice none 0 0), v135, v136, v137, v138] : List Value).getD ((n : Int) % 5).toNat default = v136 by rw [hk]; rfl]
             refine XT.callS rfl rfl rfl rfl rfl Tryz.call5 rfl (.c (lzv rfl rfl) (.c (lzv rfl rfl) (.c (lzv rfl rfl) (.c (lzv rfl rfl) .n)))) rfl (OFS [1] v136 h136 inferInstance (by decide)) (fun v144 s144 R144 => ?_) XT.stop
             obtain ⟨rfl, rfl⟩ := R144
             dsimp only [List.cons_append, List.nil_append]
             refine ⟨inferInstance, ?_⟩
             refine XT.q rfl rfl (Quiet.guardF rfl rfl fun g145 p145 => Q.not rfl) ?_
             refine XT.q rfl rfl (Q.or rfl (fun hp => lzv hp rfl)) ?_
             refine XT.done ?_
             exact mtr16 (()) _ _ trivial (.c rfl (.base 34 rfl rfl)) inferInstance
            ·have _ts := True.intro
             rw [show ([(.slice none 0 0), v135, v136, v137, v138] : List Value).getD ((n : Int) % 5).toNat default = v137 by rw [hk]; rfl]
             refine XT.callS rfl rfl rfl rfl rfl Tryz.call5 rfl (.c (lzv rfl rfl) (.c (lzv rfl rfl) (.c (lzv rfl rfl) (.c (lzv rfl rfl) .n)))) rfl (OFS [0, 2] v137 h137 inferInstance (by decide)) (fun v144 s144 R144 => ?_) XT.stop
             obtain ⟨rfl, rfl⟩ := R144
             dsimp only [List.cons_append, List.nil_append]
             refine ⟨inferInstance, ?_⟩
             refine XT.q rfl rfl (Quiet.guardF rfl rfl fun g145 p145 => Q.not rfl) ?_
             refine XT.q rfl rfl (Q.or rfl (fun hp => lzv hp rfl)) ?_
             refine XT.done ?_
             exact mtr16 (()) _ _ trivial (.c rfl (.base 34 rfl rfl)) inferInstance
            ·have _ts := True.intro
             rw [show ([(.slice none 0 0), v135, v136, v137, v138] : List Value).getD ((n : Int) % 5).toNat default = v138 by rw [hk]; rfl]
             refine XT.callS rfl rfl rfl rfl rfl Tryz.call5 rfl (.c (lzv rfl rfl) (.c (lzv rfl rfl) (.c (lzv rfl rfl) (.c (lzv rfl rfl) .n)))) rfl (OFS [2] v138 h138 inferInstance (by decide)) (fun v144 s144 R144 => ?_) XT.stop
             obtain ⟨rfl, rfl⟩ := R144
             dsimp only [List.cons_append, List.nil_append]
             refine ⟨inferInstance, ?_⟩
             refine XT.q rfl rfl (Quiet.guardF rfl rfl fun g145 p145 => Q.not rfl) ?_
             refine XT.q rfl rfl (Q.or rfl (fun hp => lzv hp rfl)) ?_
             refine XT.done ?_
             exact mtr16 (()) _ _ trivial (.c rfl (.base 34 rfl rfl)) inferInstance
           ·skip
            refine XT.litS [_] [_] [1] encI rfl rfl rfl rfl rfl (by rfl) (by rfl) rfl (by rfl) (by exact .c 0 1 rfl rfl rfl (.n _)) (fun _ => rfl) (by rfl) rfl (by infer_instance) rfl (fun v136 h136 O136 => ⟨inferInstance, ?_⟩) XT.stop
            refine XT.litS [_] [_] [0] encI rfl rfl rfl rfl rfl (by rfl) (by rfl) rfl (by rfl) (by exact .c 0 1 rfl rfl rfl (.n _)) (fun _ => rfl) (by rfl) rfl (by infer_instance) rfl (fun v135 h135 O135 => ⟨inferInstance, ?_⟩) XT.stop
            refine XT.litS [_, _, _, _, _] [_, _, _, _, _] ([(.slice none 0 0), v135, v136, v137, v138] : List Value) encV rfl rfl rfl rfl rfl (by rfl) (by rfl) rfl (by rfl) (by exact .c 0 1 rfl rfl rfl (.c 1 1 rfl rfl rfl (.c 2 1 rfl rfl rfl (.c 3 1 rfl rfl rfl (.c 4 1 rfl rfl rfl (.n _)))))) (fun _ => rfl) (by rfl) rfl (by infer_instance) rfl (fun v139 h139 O139 => ⟨inferInstance, ?_⟩) XT.stop
            refine XT.qs rfl rfl (Quiet.guardF rfl rfl fun g142 p142 => Q.ix rfl (lzv rfl rfl) (by omega) (by show (n : Int) % 5 < 5; omega)) ⟨inferInstance, ?_⟩ XT.stop
            refine XT.qs rfl rfl (Quiet.guardF rfl rfl fun g143 p143 => Q.ldE (lzv g143 rfl) (by show ((n : Int) % 5).toNat < 5; omega) rfl) ⟨inferInstance, ?_⟩ XT.stop
            rcases (show (n : Int) % 5 = 0 ∨ (n : Int) % 5 = 1 ∨ (n : Int) % 5 = 2 ∨ (n : Int) % 5 = 3 ∨ (n : Int) % 5 = 4 by omega) with hk | hk | hk | hk | hk
            ·have _ts := True.intro
             rw [show ([(.slice none 0 0), v135, v136, v137, v138] : List Value).getD ((n : Int) % 5).toNat default = (.slice none 0 0) by rw [hk]; rfl]
             refine XT.callS rfl rfl rfl rfl rfl Tryz.call5 rfl (.c (lzv rfl rfl) (.c (lzv rfl rfl) (.c (lzv rfl rfl) (.c (lzv rfl rfl) .n)))) rfl (OFS ([] : List Int) (.slice none 0 0) h139 (nI h139) (by decide)) (fun v144 s144 R144 => ?_) XT.stop
             obtain ⟨rfl, rfl⟩ := R144
             dsimp only [List.cons_append, List.nil_append]
             refine ⟨inferInstance, ?_⟩
             refine XT.q rfl rfl (Quiet.guardF rfl rfl fun g145 p145 => Q.not rfl) ?_
             refine XT.q rfl rfl (Q.or rfl (fun hp => lzv hp rfl)) ?_
             refine XT.done ?_
             exact mtr16 (()) _ _ trivial (.c rfl (.base 34 rfl rfl)) inferInstance
            ·have _ts := True.intro
             rw [show ([(.slice none 0 0), v135, v136, v137, v138] : List Value).getD ((n : Int) % 5).toNat default = v135 by rw [hk]; rfl]
             refine XT.callS rfl rfl rfl rfl rfl Tryz.call5 rfl (.c (lzv rfl rfl) (.c (lzv rfl rfl) (.c (lzv rfl rfl) (.c (lzv rfl rfl) .n)))) rfl (OFS [0] v135 h135 inferInstance (by decide)) (fun v144 s144 R144 => ?_) XT.stop
             obtain ⟨rfl, rfl⟩ := R144
             dsimp only [List.cons_append, List.nil_append]
             refine ⟨inferInstance, ?_⟩
             refine XT.q rfl rfl (Quiet.guardF rfl rfl fun g145 p145 => Q.not rfl) ?_
             refine XT.q rfl rfl (Q.or rfl (fun hp => lzv hp rfl)) ?_
             refine XT.done ?_
             exact mtr16 (()) _ _ trivial (.c rfl (.base 34 rfl rfl)) inferInstance
            ·have _ts := True.intro
             rw [show ([(.slice none 0 0), v135, v136, v137, v138] : List Value).getD ((n : Int) % 5).toNat default = v136 by rw [hk]; rfl]
             refine XT.callS rfl rfl rfl rfl rfl Tryz.call5 rfl (.c (lzv rfl rfl) (.c (lzv rfl rfl) (.c (lzv rfl rfl) (.c (lzv rfl rfl) .n)))) rfl (OFS [1] v136 h136 inferInstance (by decide)) (fun v144 s144 R144 => ?_) XT.stop
             obtain ⟨rfl, rfl⟩ := R144
             dsimp only [List.cons_append, List.nil_append]
             refine ⟨inferInstance, ?_⟩
             refine XT.q rfl rfl (Quiet.guardF rfl rfl fun g145 p145 => Q.not rfl) ?_
             refine XT.q rfl rfl (Q.or rfl (fun hp => lzv hp rfl)) ?_
             refine XT.done ?_
             exact mtr16 (()) _ _ trivial (.c rfl (.base 34 rfl rfl)) inferInstance
            ·have _ts := True.intro
             rw [show ([(.slice none 0 0), v135, v136, v137, v138] : List Value).getD ((n : Int) % 5).toNat default = v137 by rw [hk]; rfl]
             refine XT.callS rfl rfl rfl rfl rfl Tryz.call5 rfl (.c (lzv rfl rfl) (.c (lzv rfl rfl) (.c (lzv rfl rfl) (.c (lzv rfl rfl) .n)))) rfl (OFS [0, 2] v137 h137 inferInstance (by decide)) (fun v144 s144 R144 => ?_) XT.stop
             obtain ⟨rfl, rfl⟩ := R144
             dsimp only [List.cons_append, List.nil_append]
             refine ⟨inferInstance, ?_⟩
             refine XT.q rfl rfl (Quiet.guardF rfl rfl fun g145 p145 => Q.not rfl) ?_
             refine XT.q rfl rfl (Q.or rfl (fun hp => lzv hp rfl)) ?_
             refine XT.done ?_
             exact mtr16 (()) _ _ trivial (.c rfl (.base 34 rfl rfl)) inferInstance
            ·have _ts := True.intro
             rw [show ([(.slice none 0 0), v135, v136, v137, v138] : List Value).getD ((n : Int) % 5).toNat default = v138 by rw [hk]; rfl]
             refine XT.callS rfl rfl rfl rfl rfl Tryz.call5 rfl (.c (lzv rfl rfl) (.c (lzv rfl rfl) (.c (lzv rfl rfl) (.c (lzv rfl rfl) .n)))) rfl (OFS [2] v138 h138 inferInstance (by decide)) (fun v144 s144 R144 => ?_) XT.stop
             obtain ⟨rfl, rfl⟩ := R144
             dsimp only [List.cons_append, List.nil_append]
             refine ⟨inferInstance, ?_⟩
             refine XT.q rfl rfl (Quiet.guardF rfl rfl fun g145 p145 => Q.not rfl) ?_
             refine XT.q rfl rfl (Q.or rfl (fun hp => lzv hp rfl)) ?_
             refine XT.done ?_
             exact mtr16 (()) _ _ trivial (.c rfl (.base 34 rfl rfl)) inferInstance
    ·intro mt3
     dsimp only [List.cons_append, List.nil_append] at mt3
     refine XK.if rfl (fun c3 => ?_) (fun c3 => ?_)
     ·have _t3 := True.intro
      refine XK.region rfl ?_
      refine XO.lit [_] [_] [_] encI (by rfl) (by rfl) rfl (by rfl) (by exact .c 0 1 rfl rfl rfl (.n _)) (fun _ => rfl) (by rfl) rfl (by infer_instance) rfl fun v111 h111 O111 => ?_
      refine XO.q (Q.fieldAddr rfl) ?_
      refine XO.st rfl rfl rfl ?_
      refine XO.done ?_
      exact mt3 ((v111, h111, [1])) _ _ ⟨by simp, O111⟩ (.base 2 rfl rfl) inferInstance
     ·have _t3 := True.intro
      refine XK.skip ?_
      exact mt3 ((.slice none 0 0, emp, [])) _ _ ⟨by simp, oI⟩ (.base 0 rfl rfl) inferInstance
   ·intro mt2
    dsimp only [List.cons_append, List.nil_append] at mt2
    refine XK.if rfl (fun c2 => ?_) (fun c2 => ?_)
    ·have _t2 := True.intro
     refine XK.region rfl ?_
     refine XO.q (Q.move rfl) ?_
     refine XO.q (Q.rem rfl rfl (by omega) (by omega)) ?_
     refine XO.q (Q.move rfl) ?_
     refine XO.q (Q.quo rfl rfl (by omega) (by omega) (by omega)) ?_
     refine XO.q (Q.rem rfl rfl (by omega) (by omega)) ?_
     refine XO.q (Q.add rfl rfl ⟨by omega, by omega⟩) ?_
     refine XO.q (Q.build [_, _, _, _] (.c 0 1 rfl rfl rfl (.c 1 1 rfl rfl rfl (.c 2 1 rfl rfl rfl (.c 3 1 rfl rfl rfl (.n _)))))) ?_
     refine XO.lit [_, _, _, _] [_, _, _, _] [⟨(n : Int) % 2, 3, 1 + (n : Int) / 2 % 2, 1⟩] encJob (by rfl) (by rfl) rfl (by rfl) (by exact .c 0 4 rfl rfl rfl (.n _)) (fun _ => rfl) (by rfl) rfl (by infer_instance) rfl fun v90 h90 O90 => ?_
     refine XO.q (Q.fieldAddr rfl) ?_
     refine XO.st rfl rfl rfl ?_
     refine XO.done ?_
     exact mt2 ((v90, h90, [⟨(n : Int) % 2, 3, 1 + (n : Int) / 2 % 2, 1⟩])) _ _ ⟨by simp, O90⟩ (.base 9 rfl rfl) inferInstance
    ·have _t2 := True.intro
     refine XK.skip ?_
     exact mt2 ((.slice none 0 0, emp, [])) _ _ ⟨by simp, oJ⟩ (.base 0 rfl rfl) inferInstance
 ·have _t0 := True.intro
  refine XK.exit rfl ?_
  refine XK.seq ?_
  refine XK.region rfl ?_
  refine XO.lit [_, _, _, _, _, _, _, _, _, _, _, _, _, _, _, _, _] [_, _, _, _, _, _, _, _, _, _, _, _, _, _, _, _, _] [_, _, _, _, _, _, _, _, _, _, _, _, _, _, _, _, _] encI (by rfl) (by rfl) rfl (by rfl) (by exact .c 0 1 rfl rfl rfl (.c 1 1 rfl rfl rfl (.c 2 1 rfl rfl rfl (.c 3 1 rfl rfl rfl (.c 4 1 rfl rfl rfl (.c 5 1 rfl rfl rfl (.c 6 1 rfl rfl rfl (.c 7 1 rfl rfl rfl (.c 8 1 rfl rfl rfl (.c 9 1 rfl rfl rfl (.c 10 1 rfl rfl rfl (.c 11 1 rfl rfl rfl (.c 12 1 rfl rfl rfl (.c 13 1 rfl rfl rfl (.c 14 1 rfl rfl rfl (.c 15 1 rfl rfl rfl (.c 16 1 rfl rfl rfl (.n _)))))))))))))))))) (fun _ => rfl) (by rfl) rfl (by infer_instance) rfl fun v148 h148 O148 => ?_
  refine XO.q (Q.assign rfl) ?_
  refine XO.done ?_
  refine XK.seq ?_
  refine XK.seq ?_
  refine XK.region rfl ?_
  refine XO.q (Q.move rfl) ?_
  refine XO.done ?_
  refine XK.block ?_
  refine XK.while (X := Nat) [0, 6, 8, 9, 10, 12, 149, 150, 151, 152, 153, 154, 155, 156, 157, 158, 159, 160, 161, 162, 163, 164, 165, 166, 167, 168, 169, 170, 171, 172, 173, 174, 175, 176, 177, 178, 179, 180, 181, 182, 183, 184, 185, 186, 187, 188, 189, 190, 191, 192, 193, 194, 195, 196, 197, 198, 199, 200, 201, 202, 203, 204, 205, 206, 207, 208, 209, 210, 211, 212, 213, 214, 215, 216, 217, 218, 219, 220, 221, 222, 223, 224, 225, 226, 227, 228, 229, 230, 231, 232, 233, 234, 235, 236, 237, 238, 239, 240, 241, 242, 243, 244, 245, 246, 247, 248, 249, 250, 251, 252, 253, 254, 255, 256, 257, 258, 259] (fun i => [(149, some (.int .i64 (i : Nat)))]) (fun i => []) (fun i => i ≤ 22) (fun i => 22 - i) (0) [] rfl (by omega) (.c rfl (.base 0 rfl rfl)) ?_
  rintro i hi ih2
  dsimp only [List.cons_append, List.nil_append] at ih2 ⊢
  refine XK.seq ?_
  refine XK.region rfl ?_
  refine XO.q (Q.lss rfl rfl) ?_
  refine XO.done ?_
  refine XK.seq ?_
  refine XK.if rfl (fun c5 => ?_) (fun c5 => ?_)
  ·have _t5 := True.intro
   refine XK.skip ?_
   refine XK.seq ?_
   refine XK.block ?_
   refine XK.seq ?_
   refine XK.region rfl ?_
   refine XO.q (Q.move rfl) ?_
   refine XO.q (Q.assign rfl) ?_
   refine XO.done ?_
   refine XK.seq ?_
   refine XK.region rfl ?_
   refine XO.q (Q.move rfl) ?_
   refine XO.len rfl fun l153 => ?_
   rw [show ((([-1, 0, 1, 2, 3, 10, 11, 20, 21, 24, 25, 40, 41, 1000, 1001, 10000, 10001] : List Int).length : Nat) : Int) = 17 from rfl]
   refine XO.q (Q.move rfl) ?_
   refine XO.done ?_
   refine XK.block ?_
   refine XK.while (X := Nat) [0, 8, 9, 10, 12, 154, 155, 156, 157, 158, 159, 160, 161, 162, 163, 164, 165, 166, 167, 168, 169, 170, 171, 172, 173, 174, 175, 176, 177, 178, 179, 180, 181, 182, 183, 184, 185, 186, 187, 188, 189, 190, 191, 192, 193, 194, 195, 196, 197, 198, 199, 200, 201, 202, 203, 204, 205, 206, 207, 208, 209, 210, 211, 212, 213, 214, 215, 216, 217, 218, 219, 220, 221, 222, 223, 224, 225, 226, 227, 228, 229, 230, 231, 232, 233, 234, 235, 236, 237, 238, 239, 240, 241, 242, 243, 244, 245, 246, 247, 248, 249, 250, 251, 252, 253, 254, 255, 256, 257, 258] (fun k => [(154, some (.int .i64 (k : Nat)))]) (fun k => []) (fun k => k ≤ 17) (fun k => 17 - k) (0) [] rfl (by omega) (.c rfl (.base 0 rfl rfl)) ?_
   rintro k hk0 ih3
   dsimp only [List.cons_append, List.nil_append] at ih3 ⊢
   refine XK.seq ?_
   refine XK.region rfl ?_
   refine XO.q (Q.lss rfl rfl) ?_
   refine XO.done ?_
   refine XK.seq ?_
   refine XK.if rfl (fun c6 => ?_) (fun c6 => ?_)
   ·have _t6 := True.intro
    refine XK.skip ?_
    refine XK.seq ?_
    refine XK.block ?_
    refine XK.seq ?_
    refine XK.region rfl ?_
    refine XO.ix rfl rfl (by omega) (by show (k : Int) < 17; omega) fun i156 => ?_
    refine XO.q (Q.ldE rfl (by first | assumption | omega) rfl) ?_
    obtain ⟨x, ex⟩ : ∃ x : Int, x = ([-1, 0, 1, 2, 3, 10, 11, 20, 21, 24, 25, 40, 41, 1000, 1001, 10000, 10001] : List Int).getD k default := ⟨_, rfl⟩
    rw [← ex]
    have hx := e17_bd k (by omega)
    rw [← ex] at hx
    clear ex
    refine XO.q (Q.assign rfl) ?_
    refine XO.done ?_
    refine XK.seq ?_
    refine XK.region rfl ?_
    refine XO.call Tryz.call6 rfl rfl rfl (example10 7) fun v158 s158 R158 => ?_
    obtain ⟨vh, kh, rfl, rfl, OH⟩ := R158
    dsimp only [List.cons_append, List.nil_append]
    obtain ⟨hs0, ehs0⟩ : ∃ x : List KHour, x = (exDay 7).hours := ⟨_, rfl⟩
    rw [← ehs0] at OH
    have lhs0 : hs0.length = 2 := by rw [ehs0]; rfl
    clear ehs0
    have oh0 : ∀ off, One (pat vh 6 (Int.toNat 0) off) := fun off => pat_one (OArr.arr (s := OH)) (i := 0) (by omega) off
    have bh0 : Int.toNat 0 < hs0.length := by omega
    have bh1 : Int.toNat 1 < hs0.length := by omega
    have oh1 : ∀ off, One (pat vh 6 (Int.toNat 1) off) := fun off => pat_one (OArr.arr (s := OH)) (i := 1) (by omega) off
    refine XO.alloc fun b9 => ?_
    refine XO.st rfl rfl rfl ?_
    refine XO.done ?_
    refine XK.seq ?_
    refine XK.region rfl ?_
    refine XO.q (Q.build [_, _, _, _] (.c 0 1 rfl rfl rfl (.c 1 1 rfl rfl rfl (.c 2 1 rfl rfl rfl (.c 3 1 rfl rfl rfl (.n _)))))) ?_
    refine XO.q (Q.build [_, _, _, _] (.c 0 1 rfl rfl rfl (.c 1 1 rfl rfl rfl (.c 2 1 rfl rfl rfl (.c 3 1 rfl rfl rfl (.n _)))))) ?_
    refine XO.lit [_, _, _, _, _, _, _, _] [_, _, _, _, _, _, _, _] [⟨0, 2, 1, 1⟩, ⟨1, 2, 1, 2⟩] encJob (by rfl) (by rfl) rfl (by rfl) (by exact .c 0 4 rfl rfl rfl (.c 4 4 rfl rfl rfl (.n _))) (fun _ => rfl) (by rfl) rfl (by infer_instance) rfl fun v161 h161 O161 => ?_
    obtain ⟨J0, eJ0⟩ : ∃ x : List KJob, x = [⟨0, 2, 1, 1⟩, ⟨1, 2, 1, 2⟩] := ⟨_, rfl⟩
    rw [← eJ0] at O161
    have lJ0 : J0.length = 2 := by rw [eJ0]; rfl
    clear eJ0
    have bj0 : Int.toNat 0 < J0.length := by omega
    have bj1 : Int.toNat 1 < J0.length := by omega
    have oj0 : ∀ off, One (pat v161 4 (Int.toNat 0) off) := fun off => pat_one (OArr.arr (s := O161)) (i := 0) (by omega) off
    have oj1 : ∀ off, One (pat v161 4 (Int.toNat 1) off) := fun off => pat_one (OArr.arr (s := O161)) (i := 1) (by omega) off
    refine XO.q (Q.fieldAddr rfl) ?_
    refine XO.st rfl rfl rfl ?_
    refine XO.done ?_
    refine XK.seq ?_
    refine XK.region rfl ?_
    refine XO.q (Q.build [_, _, _, _, _, _] (.c 0 1 rfl rfl rfl (.c 1 1 rfl rfl rfl (.c 2 1 rfl rfl rfl (.c 3 1 rfl rfl rfl (.c 4 1 rfl rfl rfl (.c 5 1 rfl rfl rfl (.n _)))))))) ?_
    refine XO.alloc fun b10 => ?_
    refine XO.st rfl rfl rfl ?_
    refine XO.done ?_
    refine XK.seq ?_
    refine XK.meet (X := KDay × KOffer × PHeap × PHeap) [164, 165, 166, 167, 168, 169, 170, 171, 172, 173, 174, 175, 176, 177, 178, 179, 180, 181, 182, 183, 184, 185, 186, 187, 188, 189, 190, 191, 192, 193, 194, 195, 196, 197, 198, 199, 200, 201, 202, 203, 204, 205, 206, 207, 208, 209, 210, 211, 212, 213, 214, 215, 216, 217, 218, 219, 220, 221, 222, 223, 224, 225] (fun ⟨d, o, kh3, kj3⟩ => []) (fun ⟨d, o, kh3, kj3⟩ => [blk b9 [vh, .int .i64 d.store.energy, .int .i64 d.store.full, .int .i64 d.store.power, .int .i64 d.store.fin, v161, .int .i64 d.most, .int .i64 d.peak] 27, blk b10 [.int .i64 o.beg, .int .i64 o.fin, .int .i64 o.power, .int .i64 o.hours, .int .i64 o.calls, .int .i64 o.pause] 38, kh3, kj3]) (fun ⟨d, o, kh3, kj3⟩ => (OArr vh encHour 6 29 kh3 d.hours ∧ OArr v161 encJob 4 31 kj3 d.jobs) ∧ (d.hours.length = 2 ∧ d.jobs.length = 2) ∧ o.hours ≤ 10001) [blk b9 [vh, .int .i64 0, .int .i64 2, .int .i64 2, .int .i64 0, v161, .int .i64 10, .int .i64 7] 27, blk b10 [.int .i64 0, .int .i64 2, .int .i64 1, .int .i64 1, .int .i64 2, .int .i64 0] 38, kh, h161] ?_ ?_
    ·rintro ⟨d, o, kh3, kj3⟩ ⟨⟨OH3, OJ3⟩, ⟨lh3, lj3⟩, ho3⟩
     dsimp only [List.cons_append, List.nil_append]
     refine XK.seq ?_
     refine XK.region rfl ?_
     refine XO.lit [_, _] [_, _] [_, _] encI (by rfl) (by rfl) rfl (by rfl) (by exact .c 0 1 rfl rfl rfl (.c 1 1 rfl rfl rfl (.n _))) (fun _ => rfl) (by rfl) rfl (by infer_instance) rfl fun v226 h226 O226 => ?_
     refine XO.lit [_, _] [_, _] [_, _] encI (by rfl) (by rfl) rfl (by rfl) (by exact .c 0 1 rfl rfl rfl (.c 1 1 rfl rfl rfl (.n _))) (fun _ => rfl) (by rfl) rfl (by infer_instance) rfl fun v227 h227 O227 => ?_
     refine XO.q (Q.build [_, _, _] (.c 0 1 rfl rfl rfl (.c 1 1 rfl rfl rfl (.c 2 1 rfl rfl rfl (.n _))))) ?_
     refine XO.lit [_, _] [_, _] [_, _] encI (by rfl) (by rfl) rfl (by rfl) (by exact .c 0 1 rfl rfl rfl (.c 1 1 rfl rfl rfl (.n _))) (fun _ => rfl) (by rfl) rfl (by infer_instance) rfl fun v229 h229 O229 => ?_
     refine XO.lit [_, _] [_, _] [_, _] encI (by rfl) (by rfl) rfl (by rfl) (by exact .c 0 1 rfl rfl rfl (.c 1 1 rfl rfl rfl (.n _))) (fun _ => rfl) (by rfl) rfl (by infer_instance) rfl fun v230 h230 O230 => ?_
     refine XO.q (Q.build [_, _, _] (.c 0 1 rfl rfl rfl (.c 1 1 rfl rfl rfl (.n _)))) ?_
     refine XO.lit [_] [_] [_] encI (by rfl) (by rfl) rfl (by rfl) (by exact .c 0 1 rfl rfl rfl (.n _)) (fun _ => rfl) (by rfl) rfl (by infer_instance) rfl fun v232 h232 O232 => ?_
     refine XO.lit [_, _] [_, _] [_, _] encI (by rfl) (by rfl) rfl (by rfl) (by exact .c 0 1 rfl rfl rfl (.c 1 1 rfl rfl rfl (.n _))) (fun _ => rfl) (by rfl) rfl (by infer_instance) rfl fun v233 h233 O233 => ?_
     refine XO.q (Q.build [_, _, _] (.c 0 1 rfl rfl rfl (.c 1 1 rfl rfl rfl (.n _)))) ?_
     refine XO.lit [_, _] [_, _] [_, _] encI (by rfl) (by rfl) rfl (by rfl) (by exact .c 0 1 rfl rfl rfl (.c 1 1 rfl rfl rfl (.n _))) (fun _ => rfl) (by rfl) rfl (by infer_instance) rfl fun v235 h235 O235 => ?_
     refine XO.lit [_] [_] [_] encI (by rfl) (by rfl) rfl (by rfl) (by exact .c 0 1 rfl rfl rfl (.n _)) (fun _ => rfl) (by rfl) rfl (by infer_instance) rfl fun v236 h236 O236 => ?_
     refine XO.q (Q.build [_, _, _] (.c 0 1 rfl rfl rfl (.c 1 1 rfl rfl rfl (.n _)))) ?_
     refine XO.lit [_, _, _, _, _, _, _, _, _, _, _, _] [_, _, _, _, _, _, _, _, _, _, _, _] ([(v226, v227, 1), (v229, v230, 0), (v232, v233, 0), (v235, v236, 0)] : List (Value × Value × Int)) encPV (by rfl) (by rfl) rfl (by rfl) (by exact .c 0 3 rfl rfl rfl (.c 3 3 rfl rfl rfl (.c 6 3 rfl rfl rfl (.c 9 3 rfl rfl rfl (.n _))))) (fun _ => rfl) (by rfl) rfl (by infer_instance) rfl fun v238 h238 O238 => ?_
     refine XO.len rfl fun l239 => ?_
     rw [show ((([(v226, v227, 1), (v229, v230, 0), (v232, v233, 0), (v235, v236, 0)] : List (Value × Value × Int)).length : Nat) : Int) = 4 from rfl]
     refine XO.q (Q.move rfl) ?_
     refine XO.done ?_
     refine XK.block ?_
     refine XK.while (X := Nat) [0, 12, 240, 241, 242, 243, 244, 245, 246, 247, 248, 249, 250, 251, 252, 253, 254, 255, 256, 257] (fun g => [(240, some (.int .i64 (g : Nat)))]) (fun g => []) (fun g => g ≤ 4) (fun g => 4 - g) (0) [] rfl (by omega) (.c rfl (.base 0 rfl rfl)) ?_
     rintro g hk1 ih4
     dsimp only [List.cons_append, List.nil_append] at ih4 ⊢
     refine XK.seq ?_
     refine XK.region rfl ?_
     refine XO.q (Q.lss rfl rfl) ?_
     refine XO.done ?_
     refine XK.seq ?_
     refine XK.if rfl (fun c7 => ?_) (fun c7 => ?_)
     ·have _t7 := True.intro
      refine XK.skip ?_
      refine XK.seq ?_
      refine XK.block ?_
      refine XK.seq ?_
      refine XK.region rfl ?_
      refine XO.ix rfl rfl (by omega) (by show (g : Int) < 4; omega) fun i242 => ?_
      refine XO.q (Q.ldEA [_, _, _] rfl (by first | assumption | omega) rfl rfl) ?_
      rcases (show g = 0 ∨ g = 1 ∨ g = 2 ∨ g = 3 by omega) with hk | hk | hk | hk
      ·have _tb := True.intro
       rw [show ([(v226, v227, 1), (v229, v230, 0), (v232, v233, 0), (v235, v236, 0)] : List (Value × Value × Int)).getD g default = (v226, v227, 1) by rw [hk]; rfl]
       dsimp only
       refine XO.alloc fun b12 => ?_
       refine XO.st rfl rfl rfl ?_
       refine XO.done ?_
       refine XK.seq ?_
       refine XK.region rfl ?_
       refine XO.q (Q.ldA [_, _, _, _, _, _, _, _] rfl rfl rfl) ?_
       refine XO.q (Q.ldA [_, _, _] rfl rfl rfl) ?_
       refine XO.q (Q.move rfl) ?_
       refine XO.call Tryz.call4 rfl rfl rfl (plans_spec d vh v161 kh3 kj3 ⟨[0, 1], [0, 0], 1⟩ v226 v227 h226 h227 x 1 ⟨by omega, by omega⟩ ⟨by omega, by omega⟩ ⟨(by first | omega | (dsimp only; omega) | (simp only [List.length_replicate, List.length_cons, List.length_nil]; omega) | (dsimp only; simp only [List.length_replicate, List.length_cons, List.length_nil]; omega) | decide), (by first | omega | (dsimp only; omega) | (simp only [List.length_replicate, List.length_cons, List.length_nil]; omega) | (dsimp only; simp only [List.length_replicate, List.length_cons, List.length_nil]; omega) | decide), (by first | omega | (dsimp only; omega) | (simp only [List.length_replicate, List.length_cons, List.length_nil]; omega) | (dsimp only; simp only [List.length_replicate, List.length_cons, List.length_nil]; omega) | decide), (by first | omega | (dsimp only; omega) | (simp only [List.length_replicate, List.length_cons, List.length_nil]; omega) | (dsimp only; simp only [List.length_replicate, List.length_cons, List.length_nil]; omega) | decide)⟩) fun v247 s247 R247 => ?_
       obtain ⟨rfl, rfl⟩ := R247
       dsimp only [List.cons_append, List.nil_append]
       refine XO.q (Q.not rfl) ?_
       refine XO.q (Q.move rfl) ?_
       refine XO.q (Quiet.guardF rfl rfl fun g250 p250 => Q.ldA [_, _, _, _, _, _, _, _] rfl rfl rfl) ?_
       refine XO.q (Quiet.guardF rfl rfl fun g251 p251 => Q.ldA [_, _, _] rfl rfl rfl) ?_
       refine XO.q (Quiet.guardF rfl rfl fun g252 p252 => Q.ldA [_, _, _, _, _, _] rfl rfl rfl) ?_
       refine XO.litG [_] [_] [_] encI rfl rfl rfl (by rfl) (by rfl) rfl (by rfl) (by exact .c 0 1 rfl rfl rfl (.n _)) (fun _ => rfl) (by rfl) rfl (by infer_instance) rfl fun v253 h253 O253 => ?_
       refine XO.callS rfl rfl rfl Tryz.call5 rfl (.c (lzv rfl rfl) (.c (lzv rfl rfl) (.c (lzv rfl rfl) (.c rfl .n)))) rfl (offers_spec d vh v161 kh3 kj3 ⟨[0, 1], [0, 0], 1⟩ v226 v227 h226 h227 o (by (try dsimp only); omega) [0] v253 h253 ⟨(by first | omega | (dsimp only; omega) | (simp only [List.length_replicate, List.length_cons, List.length_nil]; omega) | (dsimp only; simp only [List.length_replicate, List.length_cons, List.length_nil]; omega) | decide), (by first | omega | (dsimp only; omega) | (simp only [List.length_replicate, List.length_cons, List.length_nil]; omega) | (dsimp only; simp only [List.length_replicate, List.length_cons, List.length_nil]; omega) | decide), (by first | omega | (dsimp only; omega) | (simp only [List.length_replicate, List.length_cons, List.length_nil]; omega) | (dsimp only; simp only [List.length_replicate, List.length_cons, List.length_nil]; omega) | decide), (by first | omega | (dsimp only; omega) | (simp only [List.length_replicate, List.length_cons, List.length_nil]; omega) | (dsimp only; simp only [List.length_replicate, List.length_cons, List.length_nil]; omega) | decide)⟩ (by first | omega | (dsimp only; omega) | (simp only [List.length_replicate, List.length_cons, List.length_nil]; omega) | (dsimp only; simp only [List.length_replicate, List.length_cons, List.length_nil]; omega) | decide)) fun v254 s254 R254 => ?_
       obtain ⟨rfl, rfl⟩ := R254
       dsimp only [List.cons_append, List.nil_append]
       refine XO.q (Quiet.guardF rfl rfl fun g255 p255 => Q.not rfl) ?_
       refine XO.q (Q.or rfl (fun hp => lzv hp rfl)) ?_
       refine XO.done ?_
       refine XK.if rfl (fun c8 => ?_) (fun c8 => ?_)
       ·have _t8 := True.intro
        simp at c8
       ·have _t8 := True.intro
        refine XK.skip ?_
        refine XK.inBlock ?_
        refine XK.region rfl ?_
        refine XO.q (Q.add rfl rfl ⟨by omega, by omega⟩) ?_
        refine XO.q (Q.move rfl) ?_
        refine XO.done ?_
        exact ih4 (g + 1) _ _ (by omega) (by first | omega | (dsimp only; omega)) (.c rfl (.base 40 rfl rfl)) inferInstance
      ·have _tb := True.intro
       rw [show ([(v226, v227, 1), (v229, v230, 0), (v232, v233, 0), (v235, v236, 0)] : List (Value × Value × Int)).getD g default = (v229, v230, 0) by rw [hk]; rfl]
       dsimp only
       refine XO.alloc fun b12 => ?_
       refine XO.st rfl rfl rfl ?_
       refine XO.done ?_
       refine XK.seq ?_
       refine XK.region rfl ?_
       refine XO.q (Q.ldA [_, _, _, _, _, _, _, _] rfl rfl rfl) ?_
       refine XO.q (Q.ldA [_, _, _] rfl rfl rfl) ?_
       refine XO.q (Q.move rfl) ?_
       refine XO.call Tryz.call4 rfl rfl rfl (plans_spec d vh v161 kh3 kj3 ⟨[1, 1], [2, -1], 0⟩ v229 v230 h229 h230 x 1 ⟨by omega, by omega⟩ ⟨by omega, by omega⟩ ⟨(by first | omega | (dsimp only; omega) | (simp only [List.length_replicate, List.length_cons, List.length_nil]; omega) | (dsimp only; simp only [List.length_replicate, List.length_cons, List.length_nil]; omega) | decide), (by first | omega | (dsimp only; omega) | (simp only [List.length_replicate, List.length_cons, List.length_nil]; omega) | (dsimp only; simp only [List.length_replicate, List.length_cons, List.length_nil]; omega) | decide), (by first | omega | (dsimp only; omega) | (simp only [List.length_replicate, List.length_cons, List.length_nil]; omega) | (dsimp only; simp only [List.length_replicate, List.length_cons, List.length_nil]; omega) | decide), (by first | omega | (dsimp only; omega) | (simp only [List.length_replicate, List.length_cons, List.length_nil]; omega) | (dsimp only; simp only [List.length_replicate, List.length_cons, List.length_nil]; omega) | decide)⟩) fun v247 s247 R247 => ?_
       obtain ⟨rfl, rfl⟩ := R247
       dsimp only [List.cons_append, List.nil_append]
       refine XO.q (Q.not rfl) ?_
       refine XO.q (Q.move rfl) ?_
       refine XO.q (Quiet.guardF rfl rfl fun g250 p250 => Q.ldA [_, _, _, _, _, _, _, _] rfl rfl rfl) ?_
       refine XO.q (Quiet.guardF rfl rfl fun g251 p251 => Q.ldA [_, _, _] rfl rfl rfl) ?_
       refine XO.q (Quiet.guardF rfl rfl fun g252 p252 => Q.ldA [_, _, _, _, _, _] rfl rfl rfl) ?_
       refine XO.litG [_] [_] [_] encI rfl rfl rfl (by rfl) (by rfl) rfl (by rfl) (by exact .c 0 1 rfl rfl rfl (.n _)) (fun _ => rfl) (by rfl) rfl (by infer_instance) rfl fun v253 h253 O253 => ?_
       refine XO.callS rfl rfl rfl Tryz.call5 rfl (.c (lzv rfl rfl) (.c (lzv rfl rfl) (.c (lzv rfl rfl) (.c rfl .n)))) rfl (offers_spec d vh v161 kh3 kj3 ⟨[1, 1], [2, -1], 0⟩ v229 v230 h229 h230 o (by (try dsimp only); omega) [0] v253 h253 ⟨(by first | omega | (dsimp only; omega) | (simp only [List.length_replicate, List.length_cons, List.length_nil]; omega) | (dsimp only; simp only [List.length_replicate, List.length_cons, List.length_nil]; omega) | decide), (by first | omega | (dsimp only; omega) | (simp only [List.length_replicate, List.length_cons, List.length_nil]; omega) | (dsimp only; simp only [List.length_replicate, List.length_cons, List.length_nil]; omega) | decide), (by first | omega | (dsimp only; omega) | (simp only [List.length_replicate, List.length_cons, List.length_nil]; omega) | (dsimp only; simp only [List.length_replicate, List.length_cons, List.length_nil]; omega) | decide), (by first | omega | (dsimp only; omega) | (simp only [List.length_replicate, List.length_cons, List.length_nil]; omega) | (dsimp only; simp only [List.length_replicate, List.length_cons, List.length_nil]; omega) | decide)⟩ (by first | omega | (dsimp only; omega) | (simp only [List.length_replicate, List.length_cons, List.length_nil]; omega) | (dsimp only; simp only [List.length_replicate, List.length_cons, List.length_nil]; omega) | decide)) fun v254 s254 R254 => ?_
       obtain ⟨rfl, rfl⟩ := R254
       dsimp only [List.cons_append, List.nil_append]
       refine XO.q (Quiet.guardF rfl rfl fun g255 p255 => Q.not rfl) ?_
       refine XO.q (Q.or rfl (fun hp => lzv hp rfl)) ?_
       refine XO.done ?_
       refine XK.if rfl (fun c9 => ?_) (fun c9 => ?_)
       ·have _t9 := True.intro
        simp at c9
       ·have _t9 := True.intro
        refine XK.skip ?_
        refine XK.inBlock ?_
        refine XK.region rfl ?_
        refine XO.q (Q.add rfl rfl ⟨by omega, by omega⟩) ?_
        refine XO.q (Q.move rfl) ?_
        refine XO.done ?_
        exact ih4 (g + 1) _ _ (by omega) (by first | omega | (dsimp only; omega)) (.c rfl (.base 40 rfl rfl)) inferInstance
      ·have _tb := True.intro
       rw [show ([(v226, v227, 1), (v229, v230, 0), (v232, v233, 0), (v235, v236, 0)] : List (Value × Value × Int)).getD g default = (v232, v233, 0) by rw [hk]; rfl]
       dsimp only
       refine XO.alloc fun b12 => ?_
       refine XO.st rfl rfl rfl ?_
       refine XO.done ?_
       refine XK.seq ?_
       refine XK.region rfl ?_
       refine XO.q (Q.ldA [_, _, _, _, _, _, _, _] rfl rfl rfl) ?_
       refine XO.q (Q.ldA [_, _, _] rfl rfl rfl) ?_
       refine XO.q (Q.move rfl) ?_
       refine XO.call Tryz.call4 rfl rfl rfl (plans_spec d vh v161 kh3 kj3 ⟨[1], [2, -1], 0⟩ v232 v233 h232 h233 x 1 ⟨by omega, by omega⟩ ⟨by omega, by omega⟩ ⟨(by first | omega | (dsimp only; omega) | (simp only [List.length_replicate, List.length_cons, List.length_nil]; omega) | (dsimp only; simp only [List.length_replicate, List.length_cons, List.length_nil]; omega) | decide), (by first | omega | (dsimp only; omega) | (simp only [List.length_replicate, List.length_cons, List.length_nil]; omega) | (dsimp only; simp only [List.length_replicate, List.length_cons, List.length_nil]; omega) | decide), (by first | omega | (dsimp only; omega) | (simp only [List.length_replicate, List.length_cons, List.length_nil]; omega) | (dsimp only; simp only [List.length_replicate, List.length_cons, List.length_nil]; omega) | decide), (by first | omega | (dsimp only; omega) | (simp only [List.length_replicate, List.length_cons, List.length_nil]; omega) | (dsimp only; simp only [List.length_replicate, List.length_cons, List.length_nil]; omega) | decide)⟩) fun v247 s247 R247 => ?_
       obtain ⟨rfl, rfl⟩ := R247
       dsimp only [List.cons_append, List.nil_append]
       refine XO.q (Q.not rfl) ?_
       refine XO.q (Q.move rfl) ?_
       refine XO.q (Quiet.guardF rfl rfl fun g250 p250 => Q.ldA [_, _, _, _, _, _, _, _] rfl rfl rfl) ?_
       refine XO.q (Quiet.guardF rfl rfl fun g251 p251 => Q.ldA [_, _, _] rfl rfl rfl) ?_
       refine XO.q (Quiet.guardF rfl rfl fun g252 p252 => Q.ldA [_, _, _, _, _, _] rfl rfl rfl) ?_
       refine XO.litG [_] [_] [_] encI rfl rfl rfl (by rfl) (by rfl) rfl (by rfl) (by exact .c 0 1 rfl rfl rfl (.n _)) (fun _ => rfl) (by rfl) rfl (by infer_instance) rfl fun v253 h253 O253 => ?_
       refine XO.callS rfl rfl rfl Tryz.call5 rfl (.c (lzv rfl rfl) (.c (lzv rfl rfl) (.c (lzv rfl rfl) (.c rfl .n)))) rfl (offers_spec d vh v161 kh3 kj3 ⟨[1], [2, -1], 0⟩ v232 v233 h232 h233 o (by (try dsimp only); omega) [0] v253 h253 ⟨(by first | omega | (dsimp only; omega) | (simp only [List.length_replicate, List.length_cons, List.length_nil]; omega) | (dsimp only; simp only [List.length_replicate, List.length_cons, List.length_nil]; omega) | decide), (by first | omega | (dsimp only; omega) | (simp only [List.length_replicate, List.length_cons, List.length_nil]; omega) | (dsimp only; simp only [List.length_replicate, List.length_cons, List.length_nil]; omega) | decide), (by first | omega | (dsimp only; omega) | (simp only [List.length_replicate, List.length_cons, List.length_nil]; omega) | (dsimp only; simp only [List.length_replicate, List.length_cons, List.length_nil]; omega) | decide), (by first | omega | (dsimp only; omega) | (simp only [List.length_replicate, List.length_cons, List.length_nil]; omega) | (dsimp only; simp only [List.length_replicate, List.length_cons, List.length_nil]; omega) | decide)⟩ (by first | omega | (dsimp only; omega) | (simp only [List.length_replicate, List.length_cons, List.length_nil]; omega) | (dsimp only; simp only [List.length_replicate, List.length_cons, List.length_nil]; omega) | decide)) fun v254 s254 R254 => ?_
       obtain ⟨rfl, rfl⟩ := R254
       dsimp only [List.cons_append, List.nil_append]
       refine XO.q (Quiet.guardF rfl rfl fun g255 p255 => Q.not rfl) ?_
       refine XO.q (Q.or rfl (fun hp => lzv hp rfl)) ?_
       refine XO.done ?_
       refine XK.if rfl (fun c10 => ?_) (fun c10 => ?_)
       ·have _t10 := True.intro
        simp at c10
       ·have _t10 := True.intro
        refine XK.skip ?_
        refine XK.inBlock ?_
        refine XK.region rfl ?_
        refine XO.q (Q.add rfl rfl ⟨by omega, by omega⟩) ?_
        refine XO.q (Q.move rfl) ?_
        refine XO.done ?_
        exact ih4 (g + 1) _ _ (by omega) (by first | omega | (dsimp only; omega)) (.c rfl (.base 40 rfl rfl)) inferInstance
      ·have _tb := True.intro
       rw [show ([(v226, v227, 1), (v229, v230, 0), (v232, v233, 0), (v235, v236, 0)] : List (Value × Value × Int)).getD g default = (v235, v236, 0) by rw [hk]; rfl]
       dsimp only
       refine XO.alloc fun b12 => ?_
       refine XO.st rfl rfl rfl ?_
       refine XO.done ?_
       refine XK.seq ?_
       refine XK.region rfl ?_
       refine XO.q (Q.ldA [_, _, _, _, _, _, _, _] rfl rfl rfl) ?_
       refine XO.q (Q.ldA [_, _, _] rfl rfl rfl) ?_
       refine XO.q (Q.move rfl) ?_
       refine XO.call Tryz.call4 rfl rfl rfl (plans_spec d vh v161 kh3 kj3 ⟨[1, 1], [2], 0⟩ v235 v236 h235 h236 x 1 ⟨by omega, by omega⟩ ⟨by omega, by omega⟩ ⟨(by first | omega | (dsimp only; omega) | (simp only [List.length_replicate, List.length_cons, List.length_nil]; omega) | (dsimp only; simp only [List.length_replicate, List.length_cons, List.length_nil]; omega) | decide), (by first | omega | (dsimp only; omega) | (simp only [List.length_replicate, List.length_cons, List.length_nil]; omega) | (dsimp only; simp only [List.length_replicate, List.length_cons, List.length_nil]; omega) | decide), (by first | omega | (dsimp only; omega) | (simp only [List.length_replicate, List.length_cons, List.length_nil]; omega) | (dsimp only; simp only [List.length_replicate, List.length_cons, List.length_nil]; omega) | decide), (by first | omega | (dsimp only; omega) | (simp only [List.length_replicate, List.length_cons, List.length_nil]; omega) | (dsimp only; simp only [List.length_replicate, List.length_cons, List.length_nil]; omega) | decide)⟩) fun v247 s247 R247 => ?_
       obtain ⟨rfl, rfl⟩ := R247
       dsimp only [List.cons_append, List.nil_append]
       refine XO.q (Q.not rfl) ?_
       refine XO.q (Q.move rfl) ?_
       refine XO.q (Quiet.guardF rfl rfl fun g250 p250 => Q.ldA [_, _, _, _, _, _, _, _] rfl rfl rfl) ?_
       refine XO.q (Quiet.guardF rfl rfl fun g251 p251 => Q.ldA [_, _, _] rfl rfl rfl) ?_
       refine XO.q (Quiet.guardF rfl rfl fun g252 p252 => Q.ldA [_, _, _, _, _, _] rfl rfl rfl) ?_
       refine XO.litG [_] [_] [_] encI rfl rfl rfl (by rfl) (by rfl) rfl (by rfl) (by exact .c 0 1 rfl rfl rfl (.n _)) (fun _ => rfl) (by rfl) rfl (by infer_instance) rfl fun v253 h253 O253 => ?_
       refine XO.callS rfl rfl rfl Tryz.call5 rfl (.c (lzv rfl rfl) (.c (lzv rfl rfl) (.c (lzv rfl rfl) (.c rfl .n)))) rfl (offers_spec d vh v161 kh3 kj3 ⟨[1, 1], [2], 0⟩ v235 v236 h235 h236 o (by (try dsimp only); omega) [0] v253 h253 ⟨(by first | omega | (dsimp only; omega) | (simp only [List.length_replicate, List.length_cons, List.length_nil]; omega) | (dsimp only; simp only [List.length_replicate, List.length_cons, List.length_nil]; omega) | decide), (by first | omega | (dsimp only; omega) | (simp only [List.length_replicate, List.length_cons, List.length_nil]; omega) | (dsimp only; simp only [List.length_replicate, List.length_cons, List.length_nil]; omega) | decide), (by first | omega | (dsimp only; omega) | (simp only [List.length_replicate, List.length_cons, List.length_nil]; omega) | (dsimp only; simp only [List.length_replicate, List.length_cons, List.length_nil]; omega) | decide), (by first | omega | (dsimp only; omega) | (simp only [List.length_replicate, List.length_cons, List.length_nil]; omega) | (dsimp only; simp only [List.length_replicate, List.length_cons, List.length_nil]; omega) | decide)⟩ (by first | omega | (dsimp only; omega) | (simp only [List.length_replicate, List.length_cons, List.length_nil]; omega) | (dsimp only; simp only [List.length_replicate, List.length_cons, List.length_nil]; omega) | decide)) fun v254 s254 R254 => ?_
       obtain ⟨rfl, rfl⟩ := R254
       dsimp only [List.cons_append, List.nil_append]
       refine XO.q (Quiet.guardF rfl rfl fun g255 p255 => Q.not rfl) ?_
       refine XO.q (Q.or rfl (fun hp => lzv hp rfl)) ?_
       refine XO.done ?_
       refine XK.if rfl (fun c11 => ?_) (fun c11 => ?_)
       ·have _t11 := True.intro
        simp at c11
       ·have _t11 := True.intro
        refine XK.skip ?_
        refine XK.inBlock ?_
        refine XK.region rfl ?_
        refine XO.q (Q.add rfl rfl ⟨by omega, by omega⟩) ?_
        refine XO.q (Q.move rfl) ?_
        refine XO.done ?_
        exact ih4 (g + 1) _ _ (by omega) (by first | omega | (dsimp only; omega)) (.c rfl (.base 40 rfl rfl)) inferInstance
     ·have _t7 := True.intro
      refine XK.exit rfl ?_
      refine XK.inBlock ?_
      refine XK.region rfl ?_
      refine XO.q (Q.add rfl rfl ⟨by omega, by omega⟩) ?_
      refine XO.q (Q.move rfl) ?_
      refine XO.done ?_
      exact ih3 (k + 1) _ _ (by omega) (by first | omega | (dsimp only; omega)) (.c rfl (.base 224 rfl rfl)) inferInstance
    ·intro mtr29
     dsimp only [List.cons_append, List.nil_append] at mtr29
     refine XK.drawNet [0, 4, 8, 12, 16, 20, 24, 25, 26, 27, 28, 29, 30, 31, 32, 36, 40, 44, 48, 49, 50, 51, 52, 53, 54, 55, 57, 60] [] [0, 4, 8, 12, 16, 20, 24, 25, 26, 27, 28, 29, 30, 31, 32, 36, 40, 44, 48, 49, 50, 51, 52, 53, 54, 55, 57, 60] [([1, 2, 3], 3, (.br 1 false (.br 2 false (.br 3 false .done .stop) .stop) .stop)), ([5, 6, 7], 7, (.br 5 false (.br 6 false (.br 7 false .done .stop) .stop) .stop)), ([9, 10, 11], 11, (.br 9 false (.br 10 false (.br 11 false .done .stop) .stop) .stop)), ([13, 14, 15], 15, (.br 13 false (.br 14 false (.br 15 false .done .stop) .stop) .stop)), ([17, 18, 19], 19, (.br 17 false (.br 18 false (.br 19 false .done .stop) .stop) .stop)), ([21, 22, 23], 23, (.br 21 false (.br 22 false (.br 23 false .done .stop) .stop) .stop)), ([33, 34, 35], 35, (.br 33 false (.br 34 false (.br 35 false .done .stop) .stop) .stop)), ([37, 38, 39], 39, (.br 37 false (.br 38 false (.br 39 false .done .stop) .stop) .stop)), ([41, 42, 43], 43, (.br 41 false (.br 42 false (.br 43 false .done .stop) .stop) .stop)), ([45, 46, 47], 47, (.br 45 false (.br 46 false (.br 47 false .done .stop) .stop) .stop))] [165, 166, 167, 169, 170, 171, 173, 174, 175, 177, 178, 179, 181, 182, 183, 185, 186, 187, 197, 198, 199, 201, 202, 203, 205, 206, 207, 209, 210, 211] (.br 56 true (.br 58 true (.br 59 true (.br 61 false (.br 62 false .done .stop) .stop) .stop) .stop) .stop) Tryz.mixed rfl (by kernel_rfl) inferInstance ?_
     refine XQ.q rfl rfl (Q.fieldAddr rfl) ?_
     refine XQ.q rfl rfl (Q.fieldAddr rfl) ?_
     refine XQ.q rfl rfl (Q.fieldAddr rfl) ?_
     refine XQ.q rfl rfl (Q.fieldAddr rfl) ?_
     refine XQ.q rfl rfl (Q.fieldAddr rfl) ?_
     refine XQ.q rfl rfl (Q.fieldAddr rfl) ?_
     refine XQ.q rfl rfl (Q.fieldAddr rfl) ?_
     refine XQ.q rfl rfl (Q.fieldAddr rfl) ?_
     refine XQ.q rfl rfl (Q.fieldAddr rfl) ?_
     refine XQ.q rfl rfl (Q.fieldAddr rfl) ?_
     refine XQ.q rfl rfl (Q.fieldAddr rfl) ?_
     refine XQ.q rfl rfl (Q.fieldAddr rfl) ?_
     refine XQ.q rfl rfl (Q.fieldAddr rfl) ?_
     refine XQ.q rfl rfl (Q.fieldAddr rfl) ?_
     refine XQ.q rfl rfl (Q.fieldAddr rfl) ?_
     refine XQ.q rfl rfl (Q.fieldAddr rfl) ?_
     refine XQ.q rfl rfl (Q.fieldAddr rfl) ?_
     refine XQ.q rfl rfl (Q.fieldAddr rfl) ?_
     refine XQ.q rfl rfl (Q.fieldAddr rfl) ?_
     refine XQ.q rfl rfl (Q.fieldAddr rfl) ?_
     refine XQ.q rfl rfl (Q.fieldAddr rfl) ?_
     refine XQ.q rfl rfl (Q.fieldAddr rfl) ?_
     refine XQ.q rfl rfl (Q.fieldAddr rfl) ?_
     refine XQ.q rfl rfl (Q.fieldAddr rfl) ?_
     refine XQ.q rfl rfl (Q.fieldAddr rfl) ?_
     refine XQ.q rfl rfl (Q.fieldAddr rfl) ?_
     refine XQ.q rfl rfl (Q.move rfl) ?_
     refine XQ.q rfl rfl (Q.move rfl) ?_
     refine XQ.nil ?_
     refine XN.intro [fun el ol => el = [(167, some (pat vh 6 (Int.toNat 0) (0 + 0))), (166, some (pat vh 6 (Int.toNat 0) 0)), (165, some vh)] ∧ ol = [], fun el ol => el = [(171, some (pat vh 6 (Int.toNat 0) (0 + 1))), (170, some (pat vh 6 (Int.toNat 0) 0)), (169, some vh)] ∧ ol = [], fun el ol => el = [(175, some (pat vh 6 (Int.toNat 1) (0 + 2))), (174, some (pat vh 6 (Int.toNat 1) 0)), (173, some vh)] ∧ ol = [], fun el ol => el = [(179, some (pat vh 6 (Int.toNat 1) (0 + 3))), (178, some (pat vh 6 (Int.toNat 1) 0)), (177, some vh)] ∧ ol = [], fun el ol => el = [(183, some (pat vh 6 (Int.toNat 0) (0 + 4))), (182, some (pat vh 6 (Int.toNat 0) 0)), (181, some vh)] ∧ ol = [], fun el ol => el = [(187, some (pat vh 6 (Int.toNat 0) (0 + 5))), (186, some (pat vh 6 (Int.toNat 0) 0)), (185, some vh)] ∧ ol = [], fun el ol => el = [(199, some (pat v161 4 (Int.toNat 0) (0 + 0))), (198, some (pat v161 4 (Int.toNat 0) 0)), (197, some v161)] ∧ ol = [], fun el ol => el = [(203, some (pat v161 4 (Int.toNat 0) (0 + 1))), (202, some (pat v161 4 (Int.toNat 0) 0)), (201, some v161)] ∧ ol = [], fun el ol => el = [(207, some (pat v161 4 (Int.toNat 0) (0 + 2))), (206, some (pat v161 4 (Int.toNat 0) 0)), (205, some v161)] ∧ ol = [], fun el ol => el = [(211, some (pat v161 4 (Int.toNat 1) (0 + 3))), (210, some (pat v161 4 (Int.toNat 1) 0)), (209, some v161)] ∧ ol = []] (CTs.cons ?_ (CTs.cons ?_ (CTs.cons ?_ (CTs.cons ?_ (CTs.cons ?_ (CTs.cons ?_ (CTs.cons ?_ (CTs.cons ?_ (CTs.cons ?_ (CTs.cons ?_ (CTs.nil))))))))))) ?_
     ·have _tn := True.intro
      dsimp only [List.cons_append, List.nil_append, List.append_nil]
      refine CT.qs rfl rfl (Q.ld rfl rfl) ?_ CT.stop
      refine CT.qs rfl rfl (Q.ix rfl rfl (by omega) (by omega)) ?_ CT.stop
      refine CT.qs rfl rfl (Q.fieldQ rfl (by first | assumption | omega)) ?_ CT.stop
      refine CT.done ?_
      exact ⟨rfl, rfl⟩
     ·have _tn := True.intro
      dsimp only [List.cons_append, List.nil_append, List.append_nil]
      refine CT.qs rfl rfl (Q.ld rfl rfl) ?_ CT.stop
      refine CT.qs rfl rfl (Q.ix rfl rfl (by omega) (by omega)) ?_ CT.stop
      refine CT.qs rfl rfl (Q.fieldQ rfl (by first | assumption | omega)) ?_ CT.stop
      refine CT.done ?_
      exact ⟨rfl, rfl⟩
     ·have _tn := True.intro
      dsimp only [List.cons_append, List.nil_append, List.append_nil]
      refine CT.qs rfl rfl (Q.ld rfl rfl) ?_ CT.stop
      refine CT.qs rfl rfl (Q.ix rfl rfl (by omega) (by omega)) ?_ CT.stop
      refine CT.qs rfl rfl (Q.fieldQ rfl (by first | assumption | omega)) ?_ CT.stop
      refine CT.done ?_
      exact ⟨rfl, rfl⟩
     ·have _tn := True.intro
      dsimp only [List.cons_append, List.nil_append, List.append_nil]
      refine CT.qs rfl rfl (Q.ld rfl rfl) ?_ CT.stop
      refine CT.qs rfl rfl (Q.ix rfl rfl (by omega) (by omega)) ?_ CT.stop
      refine CT.qs rfl rfl (Q.fieldQ rfl (by first | assumption | omega)) ?_ CT.stop
      refine CT.done ?_
      exact ⟨rfl, rfl⟩
     ·have _tn := True.intro
      dsimp only [List.cons_append, List.nil_append, List.append_nil]
      refine CT.qs rfl rfl (Q.ld rfl rfl) ?_ CT.stop
      refine CT.qs rfl rfl (Q.ix rfl rfl (by omega) (by omega)) ?_ CT.stop
      refine CT.qs rfl rfl (Q.fieldQ rfl (by first | assumption | omega)) ?_ CT.stop
      refine CT.done ?_
      exact ⟨rfl, rfl⟩
     ·have _tn := True.intro
      dsimp only [List.cons_append, List.nil_append, List.append_nil]
      refine CT.qs rfl rfl (Q.ld rfl rfl) ?_ CT.stop
      refine CT.qs rfl rfl (Q.ix rfl rfl (by omega) (by omega)) ?_ CT.stop
      refine CT.qs rfl rfl (Q.fieldQ rfl (by first | assumption | omega)) ?_ CT.stop
      refine CT.done ?_
      exact ⟨rfl, rfl⟩
     ·have _tn := True.intro
      dsimp only [List.cons_append, List.nil_append, List.append_nil]
      refine CT.qs rfl rfl (Q.ld rfl rfl) ?_ CT.stop
      refine CT.qs rfl rfl (Q.ix rfl rfl (by omega) (by omega)) ?_ CT.stop
      refine CT.qs rfl rfl (Q.fieldQ rfl (by first | assumption | omega)) ?_ CT.stop
      refine CT.done ?_
      exact ⟨rfl, rfl⟩
     ·have _tn := True.intro
      dsimp only [List.cons_append, List.nil_append, List.append_nil]
      refine CT.qs rfl rfl (Q.ld rfl rfl) ?_ CT.stop
      refine CT.qs rfl rfl (Q.ix rfl rfl (by omega) (by omega)) ?_ CT.stop
      refine CT.qs rfl rfl (Q.fieldQ rfl (by first | assumption | omega)) ?_ CT.stop
      refine CT.done ?_
      exact ⟨rfl, rfl⟩
     ·have _tn := True.intro
      dsimp only [List.cons_append, List.nil_append, List.append_nil]
      refine CT.qs rfl rfl (Q.ld rfl rfl) ?_ CT.stop
      refine CT.qs rfl rfl (Q.ix rfl rfl (by omega) (by omega)) ?_ CT.stop
      refine CT.qs rfl rfl (Q.fieldQ rfl (by first | assumption | omega)) ?_ CT.stop
      refine CT.done ?_
      exact ⟨rfl, rfl⟩
     ·have _tn := True.intro
      dsimp only [List.cons_append, List.nil_append, List.append_nil]
      refine CT.qs rfl rfl (Q.ld rfl rfl) ?_ CT.stop
      refine CT.qs rfl rfl (Q.ix rfl rfl (by omega) (by omega)) ?_ CT.stop
      refine CT.qs rfl rfl (Q.fieldQ rfl (by first | assumption | omega)) ?_ CT.stop
      refine CT.done ?_
      exact ⟨rfl, rfl⟩
     rintro _ _ ⟨rfl, rfl⟩
     rintro _ _ ⟨rfl, rfl⟩
     rintro _ _ ⟨rfl, rfl⟩
     rintro _ _ ⟨rfl, rfl⟩
     rintro _ _ ⟨rfl, rfl⟩
     rintro _ _ ⟨rfl, rfl⟩
     rintro _ _ ⟨rfl, rfl⟩
     rintro _ _ ⟨rfl, rfl⟩
     rintro _ _ ⟨rfl, rfl⟩
     rintro _ _ ⟨rfl, rfl⟩
     dsimp only [FinAll, List.cons_append, List.nil_append, List.append_nil]
     refine XT.lit [_, _, _, _, _, _, _, _, _, _, _, _, _, _, _, _, _, _, _, _, _, _] [_, _, _, _, _, _, _, _, _, _, _, _, _, _, _, _, _, _, _, _, _, _] [_, _, _, _, _, _, _, _, _, _, _, _, _, _, _, _, _, _, _, _, _, _] encV rfl rfl (by rfl) (by rfl) rfl (by rfl) (by exact .c 0 1 rfl rfl rfl (.c 1 1 rfl rfl rfl (.c 2 1 rfl rfl rfl (.c 3 1 rfl rfl rfl (.c 4 1 rfl rfl rfl (.c 5 1 rfl rfl rfl (.c 6 1 rfl rfl rfl (.c 7 1 rfl rfl rfl (.c 8 1 rfl rfl rfl (.c 9 1 rfl rfl rfl (.c 10 1 rfl rfl rfl (.c 11 1 rfl rfl rfl (.c 12 1 rfl rfl rfl (.c 13 1 rfl rfl rfl (.c 14 1 rfl rfl rfl (.c 15 1 rfl rfl rfl (.c 16 1 rfl rfl rfl (.c 17 1 rfl rfl rfl (.c 18 1 rfl rfl rfl (.c 19 1 rfl rfl rfl (.c 20 1 rfl rfl rfl (.c 21 1 rfl rfl rfl (.n _))))))))))))))))))))))) (fun _ => rfl) (by rfl) rfl (by infer_instance) rfl (fun v220 h220 O220 => ⟨inferInstance, ?_⟩) XT.stop
     refine XT.qs rfl rfl (Q.ix rfl rfl (by omega) (by show (i : Int) < 22; omega)) ⟨inferInstance, ?_⟩ XT.stop
     refine XT.qs rfl rfl (Q.ldE rfl (by show (i : Nat) < 22; omega) rfl) ⟨inferInstance, ?_⟩ XT.stop
     rcases (show i = 0 ∨ i = 1 ∨ i = 2 ∨ i = 3 ∨ i = 4 ∨ i = 5 ∨ i = 6 ∨ i = 7 ∨ i = 8 ∨ i = 9 ∨ i = 10 ∨ i = 11 ∨ i = 12 ∨ i = 13 ∨ i = 14 ∨ i = 15 ∨ i = 16 ∨ i = 17 ∨ i = 18 ∨ i = 19 ∨ i = 20 ∨ i = 21 by omega) with rfl | rfl | rfl | rfl | rfl | rfl | rfl | rfl | rfl | rfl | rfl | rfl | rfl | rfl | rfl | rfl | rfl | rfl | rfl | rfl | rfl | rfl
     ·have _ts := True.intro
      refine XT.qs rfl rfl (Q.nilCheckE rfl (by first | assumption | omega)) ⟨inferInstance, ?_⟩ XT.stop
      refine XT.stE (⟨x, (hs0.getD 0 default).sell, (hs0.getD 0 default).sun, (hs0.getD 0 default).load, (hs0.getD 0 default).carbon, (hs0.getD 0 default).water⟩ : KHour) rfl rfl rfl rfl rfl (by assumption) rfl rfl (fun h29_62 O29_62 => ⟨inferInstance, ?_⟩) XT.stop
      refine XT.done ?_
      exact mtr29 ((⟨hs0.set 0 _, ⟨0, 2, 2, 0⟩, J0, 10, 7⟩, ⟨0, 2, 1, 1, 2, 0⟩, h29_62, h161)) _ _ ⟨⟨O29_62, O161⟩, ⟨by (try dsimp only); (try simp only [List.length_set]); omega, by (try dsimp only); (try simp only [List.length_set]); omega⟩, by (try dsimp only); (try simp only [List.length_set]); omega⟩ (.base 92 rfl rfl) inferInstance
     ·have _ts := True.intro
      refine XT.qs rfl rfl (Q.nilCheckE rfl (by first | assumption | omega)) ⟨inferInstance, ?_⟩ XT.stop
      refine XT.stE (⟨(hs0.getD 0 default).buy, x, (hs0.getD 0 default).sun, (hs0.getD 0 default).load, (hs0.getD 0 default).carbon, (hs0.getD 0 default).water⟩ : KHour) rfl rfl rfl rfl rfl (by assumption) rfl rfl (fun h29_62 O29_62 => ⟨inferInstance, ?_⟩) XT.stop
      refine XT.done ?_
      exact mtr29 ((⟨hs0.set 0 _, ⟨0, 2, 2, 0⟩, J0, 10, 7⟩, ⟨0, 2, 1, 1, 2, 0⟩, h29_62, h161)) _ _ ⟨⟨O29_62, O161⟩, ⟨by (try dsimp only); (try simp only [List.length_set]); omega, by (try dsimp only); (try simp only [List.length_set]); omega⟩, by (try dsimp only); (try simp only [List.length_set]); omega⟩ (.base 92 rfl rfl) inferInstance
     ·have _ts := True.intro
      refine XT.qs rfl rfl (Q.nilCheckE rfl (by first | assumption | omega)) ⟨inferInstance, ?_⟩ XT.stop
      refine XT.stE (⟨(hs0.getD 1 default).buy, (hs0.getD 1 default).sell, x, (hs0.getD 1 default).load, (hs0.getD 1 default).carbon, (hs0.getD 1 default).water⟩ : KHour) rfl rfl rfl rfl rfl (by assumption) rfl rfl (fun h29_62 O29_62 => ⟨inferInstance, ?_⟩) XT.stop
      refine XT.done ?_
      exact mtr29 ((⟨hs0.set 1 _, ⟨0, 2, 2, 0⟩, J0, 10, 7⟩, ⟨0, 2, 1, 1, 2, 0⟩, h29_62, h161)) _ _ ⟨⟨O29_62, O161⟩, ⟨by (try dsimp only); (try simp only [List.length_set]); omega, by (try dsimp only); (try simp only [List.length_set]); omega⟩, by (try dsimp only); (try simp only [List.length_set]); omega⟩ (.base 92 rfl rfl) inferInstance
     ·have _ts := True.intro
      refine XT.qs rfl rfl (Q.nilCheckE rfl (by first | assumption | omega)) ⟨inferInstance, ?_⟩ XT.stop
      refine XT.stE (⟨(hs0.getD 1 default).buy, (hs0.getD 1 default).sell, (hs0.getD 1 default).sun, x, (hs0.getD 1 default).carbon, (hs0.getD 1 default).water⟩ : KHour) rfl rfl rfl rfl rfl (by assumption) rfl rfl (fun h29_62 O29_62 => ⟨inferInstance, ?_⟩) XT.stop
      refine XT.done ?_
      exact mtr29 ((⟨hs0.set 1 _, ⟨0, 2, 2, 0⟩, J0, 10, 7⟩, ⟨0, 2, 1, 1, 2, 0⟩, h29_62, h161)) _ _ ⟨⟨O29_62, O161⟩, ⟨by (try dsimp only); (try simp only [List.length_set]); omega, by (try dsimp only); (try simp only [List.length_set]); omega⟩, by (try dsimp only); (try simp only [List.length_set]); omega⟩ (.base 92 rfl rfl) inferInstance
     ·have _ts := True.intro
      refine XT.qs rfl rfl (Q.nilCheckE rfl (by first | assumption | omega)) ⟨inferInstance, ?_⟩ XT.stop
      refine XT.stE (⟨(hs0.getD 0 default).buy, (hs0.getD 0 default).sell, (hs0.getD 0 default).sun, (hs0.getD 0 default).load, x, (hs0.getD 0 default).water⟩ : KHour) rfl rfl rfl rfl rfl (by assumption) rfl rfl (fun h29_62 O29_62 => ⟨inferInstance, ?_⟩) XT.stop
      refine XT.done ?_
      exact mtr29 ((⟨hs0.set 0 _, ⟨0, 2, 2, 0⟩, J0, 10, 7⟩, ⟨0, 2, 1, 1, 2, 0⟩, h29_62, h161)) _ _ ⟨⟨O29_62, O161⟩, ⟨by (try dsimp only); (try simp only [List.length_set]); omega, by (try dsimp only); (try simp only [List.length_set]); omega⟩, by (try dsimp only); (try simp only [List.length_set]); omega⟩ (.base 92 rfl rfl) inferInstance
     ·have _ts := True.intro
      refine XT.qs rfl rfl (Q.nilCheckE rfl (by first | assumption | omega)) ⟨inferInstance, ?_⟩ XT.stop
      refine XT.stE (⟨(hs0.getD 0 default).buy, (hs0.getD 0 default).sell, (hs0.getD 0 default).sun, (hs0.getD 0 default).load, (hs0.getD 0 default).carbon, x⟩ : KHour) rfl rfl rfl rfl rfl (by assumption) rfl rfl (fun h29_62 O29_62 => ⟨inferInstance, ?_⟩) XT.stop
      refine XT.done ?_
      exact mtr29 ((⟨hs0.set 0 _, ⟨0, 2, 2, 0⟩, J0, 10, 7⟩, ⟨0, 2, 1, 1, 2, 0⟩, h29_62, h161)) _ _ ⟨⟨O29_62, O161⟩, ⟨by (try dsimp only); (try simp only [List.length_set]); omega, by (try dsimp only); (try simp only [List.length_set]); omega⟩, by (try dsimp only); (try simp only [List.length_set]); omega⟩ (.base 92 rfl rfl) inferInstance
     ·have _ts := True.intro
      refine XT.qs rfl rfl (Q.nilCheck rfl) ⟨inferInstance, ?_⟩ XT.stop
      refine XT.st rfl rfl rfl rfl rfl ⟨inferInstance, ?_⟩ XT.stop
      refine XT.done ?_
      exact mtr29 ((⟨hs0, ⟨x, 2, 2, 0⟩, J0, 10, 7⟩, ⟨0, 2, 1, 1, 2, 0⟩, kh, h161)) _ _ ⟨⟨OH, O161⟩, ⟨by (try dsimp only); (try simp only [List.length_set]); omega, by (try dsimp only); (try simp only [List.length_set]); omega⟩, by (try dsimp only); (try simp only [List.length_set]); omega⟩ (.base 92 rfl rfl) inferInstance
     ·have _ts := True.intro
      refine XT.qs rfl rfl (Q.nilCheck rfl) ⟨inferInstance, ?_⟩ XT.stop
      refine XT.st rfl rfl rfl rfl rfl ⟨inferInstance, ?_⟩ XT.stop
      refine XT.done ?_
      exact mtr29 ((⟨hs0, ⟨0, x, 2, 0⟩, J0, 10, 7⟩, ⟨0, 2, 1, 1, 2, 0⟩, kh, h161)) _ _ ⟨⟨OH, O161⟩, ⟨by (try dsimp only); (try simp only [List.length_set]); omega, by (try dsimp only); (try simp only [List.length_set]); omega⟩, by (try dsimp only); (try simp only [List.length_set]); omega⟩ (.base 92 rfl rfl) inferInstance
     ·have _ts := True.intro
      refine XT.qs rfl rfl (Q.nilCheck rfl) ⟨inferInstance, ?_⟩ XT.stop
      refine XT.st rfl rfl rfl rfl rfl ⟨inferInstance, ?_⟩ XT.stop
      refine XT.done ?_
      exact mtr29 ((⟨hs0, ⟨0, 2, x, 0⟩, J0, 10, 7⟩, ⟨0, 2, 1, 1, 2, 0⟩, kh, h161)) _ _ ⟨⟨OH, O161⟩, ⟨by (try dsimp only); (try simp only [List.length_set]); omega, by (try dsimp only); (try simp only [List.length_set]); omega⟩, by (try dsimp only); (try simp only [List.length_set]); omega⟩ (.base 92 rfl rfl) inferInstance
     ·have _ts := True.intro
      refine XT.qs rfl rfl (Q.nilCheck rfl) ⟨inferInstance, ?_⟩ XT.stop
      refine XT.st rfl rfl rfl rfl rfl ⟨inferInstance, ?_⟩ XT.stop
      refine XT.done ?_
      exact mtr29 ((⟨hs0, ⟨0, 2, 2, x⟩, J0, 10, 7⟩, ⟨0, 2, 1, 1, 2, 0⟩, kh, h161)) _ _ ⟨⟨OH, O161⟩, ⟨by (try dsimp only); (try simp only [List.length_set]); omega, by (try dsimp only); (try simp only [List.length_set]); omega⟩, by (try dsimp only); (try simp only [List.length_set]); omega⟩ (.base 92 rfl rfl) inferInstance
     ·have _ts := True.intro
      refine XT.qs rfl rfl (Q.nilCheckE rfl (by first | assumption | omega)) ⟨inferInstance, ?_⟩ XT.stop
      refine XT.stE (⟨x, (J0.getD 0 default).fin, (J0.getD 0 default).hours, (J0.getD 0 default).power⟩ : KJob) rfl rfl rfl rfl rfl (by assumption) rfl rfl (fun h29_62 O29_62 => ⟨inferInstance, ?_⟩) XT.stop
      refine XT.done ?_
      exact mtr29 ((⟨hs0, ⟨0, 2, 2, 0⟩, J0.set 0 _, 10, 7⟩, ⟨0, 2, 1, 1, 2, 0⟩, kh, h29_62)) _ _ ⟨⟨OH, O29_62⟩, ⟨by (try dsimp only); (try simp only [List.length_set]); omega, by (try dsimp only); (try simp only [List.length_set]); omega⟩, by (try dsimp only); (try simp only [List.length_set]); omega⟩ (.base 92 rfl rfl) inferInstance
     ·have _ts := True.intro
      refine XT.qs rfl rfl (Q.nilCheckE rfl (by first | assumption | omega)) ⟨inferInstance, ?_⟩ XT.stop
      refine XT.stE (⟨(J0.getD 0 default).beg, x, (J0.getD 0 default).hours, (J0.getD 0 default).power⟩ : KJob) rfl rfl rfl rfl rfl (by assumption) rfl rfl (fun h29_62 O29_62 => ⟨inferInstance, ?_⟩) XT.stop
      refine XT.done ?_
      exact mtr29 ((⟨hs0, ⟨0, 2, 2, 0⟩, J0.set 0 _, 10, 7⟩, ⟨0, 2, 1, 1, 2, 0⟩, kh, h29_62)) _ _ ⟨⟨OH, O29_62⟩, ⟨by (try dsimp only); (try simp only [List.length_set]); omega, by (try dsimp only); (try simp only [List.length_set]); omega⟩, by (try dsimp only); (try simp only [List.length_set]); omega⟩ (.base 92 rfl rfl) inferInstance
     ·have _ts := True.intro
      refine XT.qs rfl rfl (Q.nilCheckE rfl (by first | assumption | omega)) ⟨inferInstance, ?_⟩ XT.stop
      refine XT.stE (⟨(J0.getD 0 default).beg, (J0.getD 0 default).fin, x, (J0.getD 0 default).power⟩ : KJob) rfl rfl rfl rfl rfl (by assumption) rfl rfl (fun h29_62 O29_62 => ⟨inferInstance, ?_⟩) XT.stop
      refine XT.done ?_
      exact mtr29 ((⟨hs0, ⟨0, 2, 2, 0⟩, J0.set 0 _, 10, 7⟩, ⟨0, 2, 1, 1, 2, 0⟩, kh, h29_62)) _ _ ⟨⟨OH, O29_62⟩, ⟨by (try dsimp only); (try simp only [List.length_set]); omega, by (try dsimp only); (try simp only [List.length_set]); omega⟩, by (try dsimp only); (try simp only [List.length_set]); omega⟩ (.base 92 rfl rfl) inferInstance
     ·have _ts := True.intro
      refine XT.qs rfl rfl (Q.nilCheckE rfl (by first | assumption | omega)) ⟨inferInstance, ?_⟩ XT.stop
      refine XT.stE (⟨(J0.getD 1 default).beg, (J0.getD 1 default).fin, (J0.getD 1 default).hours, x⟩ : KJob) rfl rfl rfl rfl rfl (by assumption) rfl rfl (fun h29_62 O29_62 => ⟨inferInstance, ?_⟩) XT.stop
      refine XT.done ?_
      exact mtr29 ((⟨hs0, ⟨0, 2, 2, 0⟩, J0.set 1 _, 10, 7⟩, ⟨0, 2, 1, 1, 2, 0⟩, kh, h29_62)) _ _ ⟨⟨OH, O29_62⟩, ⟨by (try dsimp only); (try simp only [List.length_set]); omega, by (try dsimp only); (try simp only [List.length_set]); omega⟩, by (try dsimp only); (try simp only [List.length_set]); omega⟩ (.base 92 rfl rfl) inferInstance
     ·have _ts := True.intro
      refine XT.qs rfl rfl (Q.nilCheck rfl) ⟨inferInstance, ?_⟩ XT.stop
      refine XT.st rfl rfl rfl rfl rfl ⟨inferInstance, ?_⟩ XT.stop
      refine XT.done ?_
      exact mtr29 ((⟨hs0, ⟨0, 2, 2, 0⟩, J0, x, 7⟩, ⟨0, 2, 1, 1, 2, 0⟩, kh, h161)) _ _ ⟨⟨OH, O161⟩, ⟨by (try dsimp only); (try simp only [List.length_set]); omega, by (try dsimp only); (try simp only [List.length_set]); omega⟩, by (try dsimp only); (try simp only [List.length_set]); omega⟩ (.base 92 rfl rfl) inferInstance
     ·have _ts := True.intro
      refine XT.qs rfl rfl (Q.nilCheck rfl) ⟨inferInstance, ?_⟩ XT.stop
      refine XT.st rfl rfl rfl rfl rfl ⟨inferInstance, ?_⟩ XT.stop
      refine XT.done ?_
      exact mtr29 ((⟨hs0, ⟨0, 2, 2, 0⟩, J0, 10, x⟩, ⟨0, 2, 1, 1, 2, 0⟩, kh, h161)) _ _ ⟨⟨OH, O161⟩, ⟨by (try dsimp only); (try simp only [List.length_set]); omega, by (try dsimp only); (try simp only [List.length_set]); omega⟩, by (try dsimp only); (try simp only [List.length_set]); omega⟩ (.base 92 rfl rfl) inferInstance
     ·have _ts := True.intro
      refine XT.qs rfl rfl (Q.nilCheck rfl) ⟨inferInstance, ?_⟩ XT.stop
      refine XT.st rfl rfl rfl rfl rfl ⟨inferInstance, ?_⟩ XT.stop
      refine XT.done ?_
      exact mtr29 ((⟨hs0, ⟨0, 2, 2, 0⟩, J0, 10, 7⟩, ⟨x, 2, 1, 1, 2, 0⟩, kh, h161)) _ _ ⟨⟨OH, O161⟩, ⟨by (try dsimp only); (try simp only [List.length_set]); omega, by (try dsimp only); (try simp only [List.length_set]); omega⟩, by (try dsimp only); (try simp only [List.length_set]); omega⟩ (.base 92 rfl rfl) inferInstance
     ·have _ts := True.intro
      refine XT.qs rfl rfl (Q.nilCheck rfl) ⟨inferInstance, ?_⟩ XT.stop
      refine XT.st rfl rfl rfl rfl rfl ⟨inferInstance, ?_⟩ XT.stop
      refine XT.done ?_
      exact mtr29 ((⟨hs0, ⟨0, 2, 2, 0⟩, J0, 10, 7⟩, ⟨0, x, 1, 1, 2, 0⟩, kh, h161)) _ _ ⟨⟨OH, O161⟩, ⟨by (try dsimp only); (try simp only [List.length_set]); omega, by (try dsimp only); (try simp only [List.length_set]); omega⟩, by (try dsimp only); (try simp only [List.length_set]); omega⟩ (.base 92 rfl rfl) inferInstance
     ·have _ts := True.intro
      refine XT.qs rfl rfl (Q.nilCheck rfl) ⟨inferInstance, ?_⟩ XT.stop
      refine XT.st rfl rfl rfl rfl rfl ⟨inferInstance, ?_⟩ XT.stop
      refine XT.done ?_
      exact mtr29 ((⟨hs0, ⟨0, 2, 2, 0⟩, J0, 10, 7⟩, ⟨0, 2, x, 1, 2, 0⟩, kh, h161)) _ _ ⟨⟨OH, O161⟩, ⟨by (try dsimp only); (try simp only [List.length_set]); omega, by (try dsimp only); (try simp only [List.length_set]); omega⟩, by (try dsimp only); (try simp only [List.length_set]); omega⟩ (.base 92 rfl rfl) inferInstance
     ·have _ts := True.intro
      refine XT.qs rfl rfl (Q.nilCheck rfl) ⟨inferInstance, ?_⟩ XT.stop
      refine XT.st rfl rfl rfl rfl rfl ⟨inferInstance, ?_⟩ XT.stop
      refine XT.done ?_
      exact mtr29 ((⟨hs0, ⟨0, 2, 2, 0⟩, J0, 10, 7⟩, ⟨0, 2, 1, x, 2, 0⟩, kh, h161)) _ _ ⟨⟨OH, O161⟩, ⟨by (try dsimp only); (try simp only [List.length_set]); omega, by (try dsimp only); (try simp only [List.length_set]); omega⟩, by (try dsimp only); (try simp only [List.length_set]); omega⟩ (.base 92 rfl rfl) inferInstance
     ·have _ts := True.intro
      refine XT.qs rfl rfl (Q.nilCheck rfl) ⟨inferInstance, ?_⟩ XT.stop
      refine XT.st rfl rfl rfl rfl rfl ⟨inferInstance, ?_⟩ XT.stop
      refine XT.done ?_
      exact mtr29 ((⟨hs0, ⟨0, 2, 2, 0⟩, J0, 10, 7⟩, ⟨0, 2, 1, 1, x, 0⟩, kh, h161)) _ _ ⟨⟨OH, O161⟩, ⟨by (try dsimp only); (try simp only [List.length_set]); omega, by (try dsimp only); (try simp only [List.length_set]); omega⟩, by (try dsimp only); (try simp only [List.length_set]); omega⟩ (.base 92 rfl rfl) inferInstance
     ·have _ts := True.intro
      refine XT.qs rfl rfl (Q.nilCheck rfl) ⟨inferInstance, ?_⟩ XT.stop
      refine XT.st rfl rfl rfl rfl rfl ⟨inferInstance, ?_⟩ XT.stop
      refine XT.done ?_
      exact mtr29 ((⟨hs0, ⟨0, 2, 2, 0⟩, J0, 10, 7⟩, ⟨0, 2, 1, 1, 2, x⟩, kh, h161)) _ _ ⟨⟨OH, O161⟩, ⟨by (try dsimp only); (try simp only [List.length_set]); omega, by (try dsimp only); (try simp only [List.length_set]); omega⟩, by (try dsimp only); (try simp only [List.length_set]); omega⟩ (.base 92 rfl rfl) inferInstance
   ·have _t6 := True.intro
    refine XK.exit rfl ?_
    refine XK.inBlock ?_
    refine XK.region rfl ?_
    refine XO.q (Q.add rfl rfl ⟨by omega, by omega⟩) ?_
    refine XO.q (Q.move rfl) ?_
    refine XO.done ?_
    exact ih2 (i + 1) _ _ (by omega) (by first | omega | (dsimp only; omega)) (.c rfl (.base 238 rfl rfl)) inferInstance
  ·have _t5 := True.intro
   refine XK.exit rfl ?_
   refine XK.seq ?_
   refine XK.seq ?_
   refine XK.region rfl ?_
   refine XO.lit [_, _, _, _] [_, _, _, _] [_, _, _, _] encI (by rfl) (by rfl) rfl (by rfl) (by exact .c 0 1 rfl rfl rfl (.c 1 1 rfl rfl rfl (.c 2 1 rfl rfl rfl (.c 3 1 rfl rfl rfl (.n _))))) (fun _ => rfl) (by rfl) rfl (by infer_instance) rfl fun v260 h260 O260 => ?_
   refine XO.len rfl fun l261 => ?_
   rw [show ((([0, 1, 24, 25] : List Int).length : Nat) : Int) = 4 from rfl]
   refine XO.q (Q.move rfl) ?_
   refine XO.done ?_
   refine XK.block ?_
   refine XK.while (X := Nat) [0, 14, 15, 16, 18, 20, 262, 263, 264, 265, 266, 267, 268, 269, 270, 271, 272, 273, 274, 275, 276, 277, 278, 279, 280, 281, 282, 283, 284, 285, 286, 287, 288, 289, 290, 291, 292, 293, 294, 295, 296, 297, 298, 299, 300, 301, 302] (fun k => [(262, some (.int .i64 (k : Nat)))]) (fun k => []) (fun k => k ≤ 4) (fun k => 4 - k) (0) [] rfl (by omega) (.c rfl (.base 0 rfl rfl)) ?_
   rintro k hk2 ih5
   dsimp only [List.cons_append, List.nil_append] at ih5 ⊢
   refine XK.seq ?_
   refine XK.region rfl ?_
   refine XO.q (Q.lss rfl rfl) ?_
   refine XO.done ?_
   refine XK.seq ?_
   refine XK.if rfl (fun c12 => ?_) (fun c12 => ?_)
   ·have _t12 := True.intro
    refine XK.skip ?_
    refine XK.seq ?_
    refine XK.block ?_
    refine XK.seq ?_
    refine XK.region rfl ?_
    refine XO.ix rfl rfl (by omega) (by show (k : Int) < 4; omega) fun i264 => ?_
    refine XO.q (Q.ldE rfl (by first | assumption | omega) rfl) ?_
    obtain ⟨x, ex⟩ : ∃ x : Int, x = ([0, 1, 24, 25] : List Int).getD k default := ⟨_, rfl⟩
    rw [← ex]
    have hx := e4_bd k (by omega)
    rw [← ex] at hx
    clear ex
    refine XO.q (Q.assign rfl) ?_
    refine XO.done ?_
    refine XK.seq ?_
    refine XK.region rfl ?_
    refine XO.q (Q.move rfl) ?_
    refine XO.make encHour ((⟨0, 0, 0, 0, 0, 0⟩ : KHour)) rfl rfl rfl (by omega) (by omega) (fun _ => rfl) rfl rfl rfl (by dsimp only [encHour]; infer_instance) fun v267 h267 O267 => ?_
    refine XO.q (Q.build [_, _, _, _] (.c 1 1 rfl rfl rfl (.c 2 1 rfl rfl rfl (.n _)))) ?_
    refine XO.q (Q.build [_, _, _, _, _, _, _, _] (.c 0 1 rfl rfl rfl (.c 1 4 rfl rfl rfl (.c 6 1 rfl rfl rfl (.n _))))) ?_
    refine XO.alloc fun b15 => ?_
    refine XO.st rfl rfl rfl ?_
    refine XO.done ?_
    refine XK.seq ?_
    refine XK.region rfl ?_
    refine XO.q (Q.move rfl) ?_
    refine XO.make encI (0) rfl rfl rfl (by omega) (by omega) (fun _ => rfl) rfl rfl rfl (by dsimp only [encI]; infer_instance) fun v271 h271 O271 => ?_
    refine XO.q (Q.build [_, _, _] (.c 1 1 rfl rfl rfl (.n _))) ?_
    refine XO.alloc fun b16 => ?_
    refine XO.st rfl rfl rfl ?_
    refine XO.done ?_
    refine XK.seq ?_
    refine XK.seq ?_
    refine XK.region rfl ?_
    refine XO.lit [_, _, _, _, _, _] [_, _, _, _, _, _] [_, _, _, _, _, _] encI (by rfl) (by rfl) rfl (by rfl) (by exact .c 0 1 rfl rfl rfl (.c 1 1 rfl rfl rfl (.c 2 1 rfl rfl rfl (.c 3 1 rfl rfl rfl (.c 4 1 rfl rfl rfl (.c 5 1 rfl rfl rfl (.n _))))))) (fun _ => rfl) (by rfl) rfl (by infer_instance) rfl fun v273 h273 O273 => ?_
    refine XO.len rfl fun l274 => ?_
    rw [show ((([0, 1, 2, 3, 4, 5] : List Int).length : Nat) : Int) = 6 from rfl]
    refine XO.q (Q.move rfl) ?_
    refine XO.done ?_
    refine XK.block ?_
    refine XK.while (X := Nat) [0, 18, 20, 275, 276, 277, 278, 279, 280, 281, 282, 283, 284, 285, 286, 287, 288, 289, 290, 291, 292, 293, 294, 295, 296, 297] (fun j => [(275, some (.int .i64 (j : Nat)))]) (fun j => []) (fun j => j ≤ 6) (fun j => 6 - j) (0) [] rfl (by omega) (.c rfl (.base 0 rfl rfl)) ?_
    rintro j hj ih6
    dsimp only [List.cons_append, List.nil_append] at ih6 ⊢
    refine XK.seq ?_
    refine XK.region rfl ?_
    refine XO.q (Q.lss rfl rfl) ?_
    refine XO.done ?_
    refine XK.seq ?_
    refine XK.if rfl (fun c13 => ?_) (fun c13 => ?_)
    ·have _t13 := True.intro
     refine XK.skip ?_
     refine XK.seq ?_
     refine XK.block ?_
     refine XK.seq ?_
     refine XK.region rfl ?_
     refine XO.ix rfl rfl (by omega) (by show (j : Int) < 6; omega) fun i277 => ?_
     refine XO.q (Q.ldE rfl (by first | assumption | omega) rfl) ?_
     obtain ⟨c, ec⟩ : ∃ x : Int, x = ([0, 1, 2, 3, 4, 5] : List Int).getD j default := ⟨_, rfl⟩
     rw [← ec]
     have hc := e6_bd j (by omega)
     rw [← ec] at hc
     clear ec
     refine XO.q (Q.assign rfl) ?_
     refine XO.done ?_
     refine XK.seq ?_
     refine XK.region rfl ?_
     refine XO.lit [_, _, _, _, _, _, _] [_, _, _, _, _, _, _] [_, _, _, _, _, _, _] encI (by rfl) (by rfl) rfl (by rfl) (by exact .c 0 1 rfl rfl rfl (.c 1 1 rfl rfl rfl (.c 2 1 rfl rfl rfl (.c 3 1 rfl rfl rfl (.c 4 1 rfl rfl rfl (.c 5 1 rfl rfl rfl (.c 6 1 rfl rfl rfl (.n _)))))))) (fun _ => rfl) (by rfl) rfl (by infer_instance) rfl fun v279 h279 O279 => ?_
     refine XO.len rfl fun l280 => ?_
     rw [show ((([0, 1, 2, 9, 24, 25, 9223372036854775807] : List Int).length : Nat) : Int) = 7 from rfl]
     refine XO.q (Q.move rfl) ?_
     refine XO.done ?_
     refine XK.block ?_
     refine XK.while (X := Nat) [0, 20, 281, 282, 283, 284, 285, 286, 287, 288, 289, 290, 291, 292, 293, 294, 295, 296] (fun q => [(281, some (.int .i64 (q : Nat)))]) (fun q => []) (fun q => q ≤ 7) (fun q => 7 - q) (0) [] rfl (by omega) (.c rfl (.base 0 rfl rfl)) ?_
     rintro q hq ih7
     dsimp only [List.cons_append, List.nil_append] at ih7 ⊢
     refine XK.seq ?_
     refine XK.region rfl ?_
     refine XO.q (Q.lss rfl rfl) ?_
     refine XO.done ?_
     refine XK.seq ?_
     refine XK.if rfl (fun c14 => ?_) (fun c14 => ?_)
     ·have _t14 := True.intro
      refine XK.skip ?_
      refine XK.seq ?_
      refine XK.block ?_
      refine XK.seq ?_
      refine XK.region rfl ?_
      refine XO.ix rfl rfl (by omega) (by show (q : Int) < 7; omega) fun i283 => ?_
      refine XO.q (Q.ldE rfl (by first | assumption | omega) rfl) ?_
      obtain ⟨lo, elo⟩ : ∃ x : Int, x = ([0, 1, 2, 9, 24, 25, 9223372036854775807] : List Int).getD q default := ⟨_, rfl⟩
      rw [← elo]
      have hlo := e7_bd q (by omega)
      rw [← elo] at hlo
      clear elo
      refine XO.q (Q.assign rfl) ?_
      refine XO.done ?_
      refine XK.seq ?_
      refine XK.region rfl ?_
      refine XO.q (Q.ldA [_, _, _, _, _, _, _, _] rfl rfl rfl) ?_
      refine XO.q (Q.ldA [_, _, _] rfl rfl rfl) ?_
      refine XO.q (Q.move rfl) ?_
      refine XO.q (Q.move rfl) ?_
      refine XO.q (Q.move rfl) ?_
      refine XO.q (Q.move rfl) ?_
      refine XO.q (Q.quo rfl rfl (by omega) (by omega) (by omega)) ?_
      refine XO.q (Q.build [_, _, _, _, _, _] (.c 0 1 rfl rfl rfl (.c 1 1 rfl rfl rfl (.c 2 1 rfl rfl rfl (.c 3 1 rfl rfl rfl (.c 4 1 rfl rfl rfl (.c 5 1 rfl rfl rfl (.n _)))))))) ?_
      refine XO.lit [_] [_] [_] encI (by rfl) (by rfl) rfl (by rfl) (by exact .c 0 1 rfl rfl rfl (.n _)) (fun _ => rfl) (by rfl) rfl (by infer_instance) rfl fun v293 h293 O293 => ?_
      refine XO.call Tryz.call5 rfl rfl rfl (offers_spec (ij := nJ h267) (js := nI h271) (⟨List.replicate x.toNat ⟨0, 0, 0, 0, 0, 0⟩, ⟨0, 1, 1, 0⟩, [], 3, 0⟩ : KDay) v267 (.slice none 0 0) h267 h267 (⟨[], List.replicate x.toNat 0, 0⟩ : KPlan) (.slice none 0 0) v271 h271 h271 ⟨0, x, 1, lo, c, c / 2⟩ (by (try dsimp only); omega) [0] v293 h293 ⟨(by first | omega | (dsimp only; omega) | (simp only [List.length_replicate, List.length_cons, List.length_nil]; omega) | (dsimp only; simp only [List.length_replicate, List.length_cons, List.length_nil]; omega) | decide), (by first | omega | (dsimp only; omega) | (simp only [List.length_replicate, List.length_cons, List.length_nil]; omega) | (dsimp only; simp only [List.length_replicate, List.length_cons, List.length_nil]; omega) | decide), (by first | omega | (dsimp only; omega) | (simp only [List.length_replicate, List.length_cons, List.length_nil]; omega) | (dsimp only; simp only [List.length_replicate, List.length_cons, List.length_nil]; omega) | decide), (by first | omega | (dsimp only; omega) | (simp only [List.length_replicate, List.length_cons, List.length_nil]; omega) | (dsimp only; simp only [List.length_replicate, List.length_cons, List.length_nil]; omega) | decide)⟩ (by first | omega | (dsimp only; omega) | (simp only [List.length_replicate, List.length_cons, List.length_nil]; omega) | (dsimp only; simp only [List.length_replicate, List.length_cons, List.length_nil]; omega) | decide)) fun v294 s294 R294 => ?_
      obtain ⟨rfl, rfl⟩ := R294
      dsimp only [List.cons_append, List.nil_append]
      refine XO.q (Q.not rfl) ?_
      refine XO.done ?_
      refine XK.if rfl (fun c15 => ?_) (fun c15 => ?_)
      ·have _t15 := True.intro
       simp at c15
      ·have _t15 := True.intro
       refine XK.skip ?_
       refine XK.inBlock ?_
       refine XK.region rfl ?_
       refine XO.q (Q.add rfl rfl ⟨by omega, by omega⟩) ?_
       refine XO.q (Q.move rfl) ?_
       refine XO.done ?_
       exact ih7 (q + 1) _ _ (by omega) (by first | omega | (dsimp only; omega)) (.c rfl (.base 36 rfl rfl)) inferInstance
     ·have _t14 := True.intro
      refine XK.exit rfl ?_
      refine XK.inBlock ?_
      refine XK.region rfl ?_
      refine XO.q (Q.add rfl rfl ⟨by omega, by omega⟩) ?_
      refine XO.q (Q.move rfl) ?_
      refine XO.done ?_
      exact ih6 (j + 1) _ _ (by omega) (by first | omega | (dsimp only; omega)) (.c rfl (.base 56 rfl rfl)) inferInstance
    ·have _t13 := True.intro
     refine XK.exit rfl ?_
     refine XK.seq ?_
     refine XK.region rfl ?_
     refine XO.q (Q.ldA [_, _, _, _, _, _, _, _] rfl rfl rfl) ?_
     refine XO.q (Q.ldA [_, _, _] rfl rfl rfl) ?_
     refine XO.call Tryz.call4 rfl rfl rfl (plans_spec (ij := nJ h267) (js := nI h271) (⟨List.replicate x.toNat ⟨0, 0, 0, 0, 0, 0⟩, ⟨0, 1, 1, 0⟩, [], 3, 0⟩ : KDay) v267 (.slice none 0 0) h267 h267 (⟨[], List.replicate x.toNat 0, 0⟩ : KPlan) (.slice none 0 0) v271 h271 h271 1 1 ⟨by omega, by omega⟩ ⟨by omega, by omega⟩ ⟨(by first | omega | (dsimp only; omega) | (simp only [List.length_replicate, List.length_cons, List.length_nil]; omega) | (dsimp only; simp only [List.length_replicate, List.length_cons, List.length_nil]; omega) | decide), (by first | omega | (dsimp only; omega) | (simp only [List.length_replicate, List.length_cons, List.length_nil]; omega) | (dsimp only; simp only [List.length_replicate, List.length_cons, List.length_nil]; omega) | decide), (by first | omega | (dsimp only; omega) | (simp only [List.length_replicate, List.length_cons, List.length_nil]; omega) | (dsimp only; simp only [List.length_replicate, List.length_cons, List.length_nil]; omega) | decide), (by first | omega | (dsimp only; omega) | (simp only [List.length_replicate, List.length_cons, List.length_nil]; omega) | (dsimp only; simp only [List.length_replicate, List.length_cons, List.length_nil]; omega) | decide)⟩) fun v300 s300 R300 => ?_
     obtain ⟨rfl, rfl⟩ := R300
     dsimp only [List.cons_append, List.nil_append]
     refine XO.q (Q.not rfl) ?_
     refine XO.done ?_
     refine XK.if rfl (fun c16 => ?_) (fun c16 => ?_)
     ·have _t16 := True.intro
      simp at c16
     ·have _t16 := True.intro
      refine XK.skip ?_
      refine XK.inBlock ?_
      refine XK.region rfl ?_
      refine XO.q (Q.add rfl rfl ⟨by omega, by omega⟩) ?_
      refine XO.q (Q.move rfl) ?_
      refine XO.done ?_
      exact ih5 (k + 1) _ _ (by omega) (by first | omega | (dsimp only; omega)) (.c rfl (.base 98 rfl rfl)) inferInstance
   ·have _t12 := True.intro
    refine XK.exit rfl ?_
    refine XK.seq ?_
    refine XK.region rfl ?_
    refine XO.make encHour ((⟨0, 0, 0, 0, 0, 0⟩ : KHour)) rfl rfl rfl (by omega) (by omega) (fun _ => rfl) rfl rfl rfl (by dsimp only [encHour]; infer_instance) fun v303 h303 O303 => ?_
    refine XO.q (Q.build [_, _, _, _, _, _, _, _] (.c 0 1 rfl rfl rfl (.c 6 1 rfl rfl rfl (.n _)))) ?_
    refine XO.alloc fun b21 => ?_
    refine XO.st rfl rfl rfl ?_
    refine XO.done ?_
    refine XK.seq ?_
    refine XK.seq ?_
    refine XK.region rfl ?_
    refine XO.q (Q.build [_, _, _, _] (.c 1 1 rfl rfl rfl (.c 2 1 rfl rfl rfl (.n _)))) ?_
    refine XO.lit [_, _, _, _] [_, _, _, _] [⟨0, 9, 1, 0⟩] encJob (by rfl) (by rfl) rfl (by rfl) (by exact .c 0 4 rfl rfl rfl (.n _)) (fun _ => rfl) (by rfl) rfl (by infer_instance) rfl fun v306 h306 O306 => ?_
    refine XO.q (Q.build [_, _, _, _] (.c 1 1 rfl rfl rfl (.c 2 1 rfl rfl rfl (.n _)))) ?_
    refine XO.lit [_, _, _, _] [_, _, _, _] [⟨0, 9, 2, 0⟩] encJob (by rfl) (by rfl) rfl (by rfl) (by exact .c 0 4 rfl rfl rfl (.n _)) (fun _ => rfl) (by rfl) rfl (by infer_instance) rfl fun v308 h308 O308 => ?_
    refine XO.q (Q.build [_, _, _, _] (.c 1 1 rfl rfl rfl (.c 2 1 rfl rfl rfl (.n _)))) ?_
    refine XO.q (Q.build [_, _, _, _] (.c 1 1 rfl rfl rfl (.c 2 1 rfl rfl rfl (.n _)))) ?_
    refine XO.lit [_, _, _, _, _, _, _, _] [_, _, _, _, _, _, _, _] [⟨0, 3, 1, 0⟩, ⟨0, 3, 1, 0⟩] encJob (by rfl) (by rfl) rfl (by rfl) (by exact .c 0 4 rfl rfl rfl (.c 4 4 rfl rfl rfl (.n _))) (fun _ => rfl) (by rfl) rfl (by infer_instance) rfl fun v311 h311 O311 => ?_
    refine XO.q (Q.build [_, _, _, _] (.c 1 1 rfl rfl rfl (.c 2 1 rfl rfl rfl (.n _)))) ?_
    refine XO.q (Q.build [_, _, _, _] (.c 1 1 rfl rfl rfl (.c 2 1 rfl rfl rfl (.n _)))) ?_
    refine XO.lit [_, _, _, _, _, _, _, _] [_, _, _, _, _, _, _, _] [⟨0, 4, 1, 0⟩, ⟨0, 3, 2, 0⟩] encJob (by rfl) (by rfl) rfl (by rfl) (by exact .c 0 4 rfl rfl rfl (.c 4 4 rfl rfl rfl (.n _))) (fun _ => rfl) (by rfl) rfl (by infer_instance) rfl fun v314 h314 O314 => ?_
    refine XO.make encJob ((⟨0, 0, 0, 0⟩ : KJob)) rfl rfl rfl (by omega) (by omega) (fun _ => rfl) rfl rfl rfl (by dsimp only [encJob]; infer_instance) fun v315 h315 O315 => ?_
    refine XO.lit [_, _, _, _, _] [_, _, _, _, _] ([v306, v308, v311, v314, v315] : List Value) encV (by rfl) (by rfl) rfl (by rfl) (by exact .c 0 1 rfl rfl rfl (.c 1 1 rfl rfl rfl (.c 2 1 rfl rfl rfl (.c 3 1 rfl rfl rfl (.c 4 1 rfl rfl rfl (.n _)))))) (fun _ => rfl) (by rfl) rfl (by infer_instance) rfl fun v316 h316 O316 => ?_
    refine XO.len rfl fun l317 => ?_
    rw [show ((([v306, v308, v311, v314, v315] : List Value).length : Nat) : Int) = 5 from rfl]
    refine XO.q (Q.move rfl) ?_
    refine XO.done ?_
    refine XK.block ?_
    refine XK.while (X := Nat × Value) [0, 23, 318, 319, 320, 321, 322, 323, 324, 325, 326, 327, 328, 329, 330, 331, 332] (fun ⟨k, w⟩ => [(318, some (.int .i64 (k : Nat)))]) (fun ⟨k, w⟩ => [blk b21 [v303, .int .i64 0, .int .i64 0, .int .i64 0, .int .i64 0, w, .int .i64 2, .int .i64 0] 27]) (fun ⟨k, w⟩ => k ≤ 5) (fun ⟨k, w⟩ => 5 - k) (0, .slice none 0 0) [blk b21 [v303, .int .i64 0, .int .i64 0, .int .i64 0, .int .i64 0, .slice none 0 0, .int .i64 2, .int .i64 0] 27] rfl (by omega) (.c rfl (.base 0 rfl rfl)) ?_
    rintro ⟨k, w⟩ hk3 ih8
    dsimp only [List.cons_append, List.nil_append] at ih8 ⊢
    refine XK.seq ?_
    refine XK.region rfl ?_
    refine XO.q (Q.lss rfl rfl) ?_
    refine XO.done ?_
    refine XK.seq ?_
    refine XK.if rfl (fun c17 => ?_) (fun c17 => ?_)
    ·have _t17 := True.intro
     refine XK.skip ?_
     refine XK.seq ?_
     refine XK.block ?_
     refine XK.seq ?_
     refine XK.region rfl ?_
     refine XO.ix rfl rfl (by omega) (by show (k : Int) < 5; omega) fun i320 => ?_
     refine XO.q (Q.ldE rfl (by first | assumption | omega) rfl) ?_
     rcases (show k = 0 ∨ k = 1 ∨ k = 2 ∨ k = 3 ∨ k = 4 by omega) with hk | hk | hk | hk | hk
     ·have _tb := True.intro
      have jl1 : ((([⟨0, 9, 1, 0⟩] : List KJob).length : Nat) : Int) = 1 := rfl
      rw [show ([v306, v308, v311, v314, v315] : List Value).getD k default = v306 by rw [hk]; rfl]
      refine XO.q (Q.assign rfl) ?_
      refine XO.done ?_
      refine XK.seq ?_
      refine XK.region rfl ?_
      refine XO.q (Q.move rfl) ?_
      refine XO.q (Q.fieldAddr rfl) ?_
      refine XO.st rfl rfl rfl ?_
      refine XO.done ?_
      refine XK.seq ?_
      refine XK.drawNet [0, 1, 2, 5, 7] [blk b21 [v303, .int .i64 0, .int .i64 0, .int .i64 0, .int .i64 0, v306, .int .i64 2, .int .i64 0] 27] [0, 1, 2] [([3], 3, (.br 3 false .done .stop)), ([4], 4, (.br 4 false .done .stop))] [327, 328] (.q 5 (.br 6 true (.q 7 .done) .stop)) Tryz.mixed rfl (by kernel_rfl) inferInstance ?_
      refine XQ.q rfl rfl (Q.ldA [_, _, _, _, _, _, _, _] rfl rfl rfl) ?_
      refine XQ.q rfl rfl (Q.move rfl) ?_
      refine XQ.q rfl rfl (Q.len rfl) ?_
      refine XQ.nil ?_
      refine XN.intro [fun el ol => ∃ v h, el = [(327, some v)] ∧ ol = [h] ∧ OArr v encI 1 3 h (List.replicate ([⟨0, 9, 1, 0⟩] : List KJob).length (0 : Int)), fun el ol => ∃ v h, el = [(328, some v)] ∧ ol = [h] ∧ OArr v encI 1 3 h (List.replicate (Int.toNat 9) (0 : Int))] (CTs.cons ?_ (CTs.cons ?_ (CTs.nil))) ?_
      ·have _tn := True.intro
       dsimp only [List.cons_append, List.nil_append, List.append_nil]
       refine CT.make encI (0) rfl rfl rfl rfl rfl (by omega) (by omega) (fun _ => rfl) rfl rfl rfl (by dsimp only [encI]; infer_instance) (fun v327 h327 O327 => ?_) CT.stop
       refine CT.done ?_
       exact ⟨v327, h327, rfl, rfl, O327⟩
      ·have _tn := True.intro
       dsimp only [List.cons_append, List.nil_append, List.append_nil]
       refine CT.make encI (0) rfl rfl rfl rfl rfl (by omega) (by omega) (fun _ => rfl) rfl rfl rfl (by dsimp only [encI]; infer_instance) (fun v328 h328 O328 => ?_) CT.stop
       refine CT.done ?_
       exact ⟨v328, h328, rfl, rfl, O328⟩
      rintro _ _ ⟨v327, h327, rfl, rfl, O327⟩
      rintro _ _ ⟨v328, h328, rfl, rfl, O328⟩
      dsimp only [FinAll, List.cons_append, List.nil_append, List.append_nil]
      refine XT.q rfl rfl (Q.build [_, _, _] (.c 0 1 rfl rfl rfl (.c 1 1 rfl rfl rfl (.n _)))) ?_
      refine XT.call rfl rfl Tryz.call4 rfl rfl rfl (plans_spec (⟨List.replicate (Int.toNat 9) ⟨0, 0, 0, 0, 0, 0⟩, ⟨0, 0, 0, 0⟩, ([⟨0, 9, 1, 0⟩] : List KJob), 2, 0⟩ : KDay) v303 v306 h303 h306 (⟨List.replicate ([⟨0, 9, 1, 0⟩] : List KJob).length 0, List.replicate (Int.toNat 9) 0, 0⟩ : KPlan) v327 v328 h327 h328 3 1 ⟨by omega, by omega⟩ ⟨by omega, by omega⟩ ⟨(by first | omega | (dsimp only; omega) | (simp only [List.length_replicate, List.length_cons, List.length_nil]; omega) | (dsimp only; simp only [List.length_replicate, List.length_cons, List.length_nil]; omega) | decide), (by first | omega | (dsimp only; omega) | (simp only [List.length_replicate, List.length_cons, List.length_nil]; omega) | (dsimp only; simp only [List.length_replicate, List.length_cons, List.length_nil]; omega) | decide), (by first | omega | (dsimp only; omega) | (simp only [List.length_replicate, List.length_cons, List.length_nil]; omega) | (dsimp only; simp only [List.length_replicate, List.length_cons, List.length_nil]; omega) | decide), (by first | omega | (dsimp only; omega) | (simp only [List.length_replicate, List.length_cons, List.length_nil]; omega) | (dsimp only; simp only [List.length_replicate, List.length_cons, List.length_nil]; omega) | decide)⟩) (fun v330 s330 R330 => ?_) XT.stop
      obtain ⟨rfl, rfl⟩ := R330
      dsimp only [List.cons_append, List.nil_append]
      refine ⟨inferInstance, ?_⟩
      refine XT.q rfl rfl (Q.not rfl) ?_
      refine XT.done ?_
      refine XK.if rfl (fun c18 => ?_) (fun c18 => ?_)
      ·have _t18 := True.intro
       simp at c18
      ·have _t18 := True.intro
       refine XK.skip ?_
       refine XK.inBlock ?_
       refine XK.region rfl ?_
       refine XO.q (Q.add rfl rfl ⟨by omega, by omega⟩) ?_
       refine XO.q (Q.move rfl) ?_
       refine XO.done ?_
       exact ih8 (k + 1, v306) _ _ (by dsimp only; omega) (by first | omega | (dsimp only; omega)) (.c rfl (.base 36 rfl rfl)) inferInstance
     ·have _tb := True.intro
      have jl1 : ((([⟨0, 9, 2, 0⟩] : List KJob).length : Nat) : Int) = 1 := rfl
      rw [show ([v306, v308, v311, v314, v315] : List Value).getD k default = v308 by rw [hk]; rfl]
      refine XO.q (Q.assign rfl) ?_
      refine XO.done ?_
      refine XK.seq ?_
      refine XK.region rfl ?_
      refine XO.q (Q.move rfl) ?_
      refine XO.q (Q.fieldAddr rfl) ?_
      refine XO.st rfl rfl rfl ?_
      refine XO.done ?_
      refine XK.seq ?_
      refine XK.drawNet [0, 1, 2, 5, 7] [blk b21 [v303, .int .i64 0, .int .i64 0, .int .i64 0, .int .i64 0, v308, .int .i64 2, .int .i64 0] 27] [0, 1, 2] [([3], 3, (.br 3 false .done .stop)), ([4], 4, (.br 4 false .done .stop))] [327, 328] (.q 5 (.br 6 true (.q 7 .done) .stop)) Tryz.mixed rfl (by kernel_rfl) inferInstance ?_
      refine XQ.q rfl rfl (Q.ldA [_, _, _, _, _, _, _, _] rfl rfl rfl) ?_
      refine XQ.q rfl rfl (Q.move rfl) ?_
      refine XQ.q rfl rfl (Q.len rfl) ?_
      refine XQ.nil ?_
      refine XN.intro [fun el ol => ∃ v h, el = [(327, some v)] ∧ ol = [h] ∧ OArr v encI 1 3 h (List.replicate ([⟨0, 9, 2, 0⟩] : List KJob).length (0 : Int)), fun el ol => ∃ v h, el = [(328, some v)] ∧ ol = [h] ∧ OArr v encI 1 3 h (List.replicate (Int.toNat 9) (0 : Int))] (CTs.cons ?_ (CTs.cons ?_ (CTs.nil))) ?_
      ·have _tn := True.intro
       dsimp only [List.cons_append, List.nil_append, List.append_nil]
       refine CT.make encI (0) rfl rfl rfl rfl rfl (by omega) (by omega) (fun _ => rfl) rfl rfl rfl (by dsimp only [encI]; infer_instance) (fun v327 h327 O327 => ?_) CT.stop
       refine CT.done ?_
       exact ⟨v327, h327, rfl, rfl, O327⟩
      ·have _tn := True.intro
       dsimp only [List.cons_append, List.nil_append, List.append_nil]
       refine CT.make encI (0) rfl rfl rfl rfl rfl (by omega) (by omega) (fun _ => rfl) rfl rfl rfl (by dsimp only [encI]; infer_instance) (fun v328 h328 O328 => ?_) CT.stop
       refine CT.done ?_
       exact ⟨v328, h328, rfl, rfl, O328⟩
      rintro _ _ ⟨v327, h327, rfl, rfl, O327⟩
      rintro _ _ ⟨v328, h328, rfl, rfl, O328⟩
      dsimp only [FinAll, List.cons_append, List.nil_append, List.append_nil]
      refine XT.q rfl rfl (Q.build [_, _, _] (.c 0 1 rfl rfl rfl (.c 1 1 rfl rfl rfl (.n _)))) ?_
      refine XT.call rfl rfl Tryz.call4 rfl rfl rfl (plans_spec (⟨List.replicate (Int.toNat 9) ⟨0, 0, 0, 0, 0, 0⟩, ⟨0, 0, 0, 0⟩, ([⟨0, 9, 2, 0⟩] : List KJob), 2, 0⟩ : KDay) v303 v308 h303 h308 (⟨List.replicate ([⟨0, 9, 2, 0⟩] : List KJob).length 0, List.replicate (Int.toNat 9) 0, 0⟩ : KPlan) v327 v328 h327 h328 3 1 ⟨by omega, by omega⟩ ⟨by omega, by omega⟩ ⟨(by first | omega | (dsimp only; omega) | (simp only [List.length_replicate, List.length_cons, List.length_nil]; omega) | (dsimp only; simp only [List.length_replicate, List.length_cons, List.length_nil]; omega) | decide), (by first | omega | (dsimp only; omega) | (simp only [List.length_replicate, List.length_cons, List.length_nil]; omega) | (dsimp only; simp only [List.length_replicate, List.length_cons, List.length_nil]; omega) | decide), (by first | omega | (dsimp only; omega) | (simp only [List.length_replicate, List.length_cons, List.length_nil]; omega) | (dsimp only; simp only [List.length_replicate, List.length_cons, List.length_nil]; omega) | decide), (by first | omega | (dsimp only; omega) | (simp only [List.length_replicate, List.length_cons, List.length_nil]; omega) | (dsimp only; simp only [List.length_replicate, List.length_cons, List.length_nil]; omega) | decide)⟩) (fun v330 s330 R330 => ?_) XT.stop
      obtain ⟨rfl, rfl⟩ := R330
      dsimp only [List.cons_append, List.nil_append]
      refine ⟨inferInstance, ?_⟩
      refine XT.q rfl rfl (Q.not rfl) ?_
      refine XT.done ?_
      refine XK.if rfl (fun c19 => ?_) (fun c19 => ?_)
      ·have _t19 := True.intro
       simp at c19
      ·have _t19 := True.intro
       refine XK.skip ?_
       refine XK.inBlock ?_
       refine XK.region rfl ?_
       refine XO.q (Q.add rfl rfl ⟨by omega, by omega⟩) ?_
       refine XO.q (Q.move rfl) ?_
       refine XO.done ?_
       exact ih8 (k + 1, v308) _ _ (by dsimp only; omega) (by first | omega | (dsimp only; omega)) (.c rfl (.base 36 rfl rfl)) inferInstance
     ·have _tb := True.intro
      have jl1 : ((([⟨0, 3, 1, 0⟩, ⟨0, 3, 1, 0⟩] : List KJob).length : Nat) : Int) = 2 := rfl
      rw [show ([v306, v308, v311, v314, v315] : List Value).getD k default = v311 by rw [hk]; rfl]
      refine XO.q (Q.assign rfl) ?_
      refine XO.done ?_
      refine XK.seq ?_
      refine XK.region rfl ?_
      refine XO.q (Q.move rfl) ?_
      refine XO.q (Q.fieldAddr rfl) ?_
      refine XO.st rfl rfl rfl ?_
      refine XO.done ?_
      refine XK.seq ?_
      refine XK.drawNet [0, 1, 2, 5, 7] [blk b21 [v303, .int .i64 0, .int .i64 0, .int .i64 0, .int .i64 0, v311, .int .i64 2, .int .i64 0] 27] [0, 1, 2] [([3], 3, (.br 3 false .done .stop)), ([4], 4, (.br 4 false .done .stop))] [327, 328] (.q 5 (.br 6 true (.q 7 .done) .stop)) Tryz.mixed rfl (by kernel_rfl) inferInstance ?_
      refine XQ.q rfl rfl (Q.ldA [_, _, _, _, _, _, _, _] rfl rfl rfl) ?_
      refine XQ.q rfl rfl (Q.move rfl) ?_
      refine XQ.q rfl rfl (Q.len rfl) ?_
      refine XQ.nil ?_
      refine XN.intro [fun el ol => ∃ v h, el = [(327, some v)] ∧ ol = [h] ∧ OArr v encI 1 3 h (List.replicate ([⟨0, 3, 1, 0⟩, ⟨0, 3, 1, 0⟩] : List KJob).length (0 : Int)), fun el ol => ∃ v h, el = [(328, some v)] ∧ ol = [h] ∧ OArr v encI 1 3 h (List.replicate (Int.toNat 9) (0 : Int))] (CTs.cons ?_ (CTs.cons ?_ (CTs.nil))) ?_
      ·have _tn := True.intro
       dsimp only [List.cons_append, List.nil_append, List.append_nil]
       refine CT.make encI (0) rfl rfl rfl rfl rfl (by omega) (by omega) (fun _ => rfl) rfl rfl rfl (by dsimp only [encI]; infer_instance) (fun v327 h327 O327 => ?_) CT.stop
       refine CT.done ?_
       exact ⟨v327, h327, rfl, rfl, O327⟩
      ·have _tn := True.intro
       dsimp only [List.cons_append, List.nil_append, List.append_nil]
       refine CT.make encI (0) rfl rfl rfl rfl rfl (by omega) (by omega) (fun _ => rfl) rfl rfl rfl (by dsimp only [encI]; infer_instance) (fun v328 h328 O328 => ?_) CT.stop
       refine CT.done ?_
       exact ⟨v328, h328, rfl, rfl, O328⟩
      rintro _ _ ⟨v327, h327, rfl, rfl, O327⟩
      rintro _ _ ⟨v328, h328, rfl, rfl, O328⟩
      dsimp only [FinAll, List.cons_append, List.nil_append, List.append_nil]
      refine XT.q rfl rfl (Q.build [_, _, _] (.c 0 1 rfl rfl rfl (.c 1 1 rfl rfl rfl (.n _)))) ?_
      refine XT.call rfl rfl Tryz.call4 rfl rfl rfl (plans_spec (⟨List.replicate (Int.toNat 9) ⟨0, 0, 0, 0, 0, 0⟩, ⟨0, 0, 0, 0⟩, ([⟨0, 3, 1, 0⟩, ⟨0, 3, 1, 0⟩] : List KJob), 2, 0⟩ : KDay) v303 v311 h303 h311 (⟨List.replicate ([⟨0, 3, 1, 0⟩, ⟨0, 3, 1, 0⟩] : List KJob).length 0, List.replicate (Int.toNat 9) 0, 0⟩ : KPlan) v327 v328 h327 h328 3 1 ⟨by omega, by omega⟩ ⟨by omega, by omega⟩ ⟨(by first | omega | (dsimp only; omega) | (simp only [List.length_replicate, List.length_cons, List.length_nil]; omega) | (dsimp only; simp only [List.length_replicate, List.length_cons, List.length_nil]; omega) | decide), (by first | omega | (dsimp only; omega) | (simp only [List.length_replicate, List.length_cons, List.length_nil]; omega) | (dsimp only; simp only [List.length_replicate, List.length_cons, List.length_nil]; omega) | decide), (by first | omega | (dsimp only; omega) | (simp only [List.length_replicate, List.length_cons, List.length_nil]; omega) | (dsimp only; simp only [List.length_replicate, List.length_cons, List.length_nil]; omega) | decide), (by first | omega | (dsimp only; omega) | (simp only [List.length_replicate, List.length_cons, List.length_nil]; omega) | (dsimp only; simp only [List.length_replicate, List.length_cons, List.length_nil]; omega) | decide)⟩) (fun v330 s330 R330 => ?_) XT.stop
      obtain ⟨rfl, rfl⟩ := R330
      dsimp only [List.cons_append, List.nil_append]
      refine ⟨inferInstance, ?_⟩
      refine XT.q rfl rfl (Q.not rfl) ?_
      refine XT.done ?_
      refine XK.if rfl (fun c20 => ?_) (fun c20 => ?_)
      ·have _t20 := True.intro
       simp at c20
      ·have _t20 := True.intro
       refine XK.skip ?_
       refine XK.inBlock ?_
       refine XK.region rfl ?_
       refine XO.q (Q.add rfl rfl ⟨by omega, by omega⟩) ?_
       refine XO.q (Q.move rfl) ?_
       refine XO.done ?_
       exact ih8 (k + 1, v311) _ _ (by dsimp only; omega) (by first | omega | (dsimp only; omega)) (.c rfl (.base 36 rfl rfl)) inferInstance
     ·have _tb := True.intro
      have jl1 : ((([⟨0, 4, 1, 0⟩, ⟨0, 3, 2, 0⟩] : List KJob).length : Nat) : Int) = 2 := rfl
      rw [show ([v306, v308, v311, v314, v315] : List Value).getD k default = v314 by rw [hk]; rfl]
      refine XO.q (Q.assign rfl) ?_
      refine XO.done ?_
      refine XK.seq ?_
      refine XK.region rfl ?_
      refine XO.q (Q.move rfl) ?_
      refine XO.q (Q.fieldAddr rfl) ?_
      refine XO.st rfl rfl rfl ?_
      refine XO.done ?_
      refine XK.seq ?_
      refine XK.drawNet [0, 1, 2, 5, 7] [blk b21 [v303, .int .i64 0, .int .i64 0, .int .i64 0, .int .i64 0, v314, .int .i64 2, .int .i64 0] 27] [0, 1, 2] [([3], 3, (.br 3 false .done .stop)), ([4], 4, (.br 4 false .done .stop))] [327, 328] (.q 5 (.br 6 true (.q 7 .done) .stop)) Tryz.mixed rfl (by kernel_rfl) inferInstance ?_
      refine XQ.q rfl rfl (Q.ldA [_, _, _, _, _, _, _, _] rfl rfl rfl) ?_
      refine XQ.q rfl rfl (Q.move rfl) ?_
      refine XQ.q rfl rfl (Q.len rfl) ?_
      refine XQ.nil ?_
      refine XN.intro [fun el ol => ∃ v h, el = [(327, some v)] ∧ ol = [h] ∧ OArr v encI 1 3 h (List.replicate ([⟨0, 4, 1, 0⟩, ⟨0, 3, 2, 0⟩] : List KJob).length (0 : Int)), fun el ol => ∃ v h, el = [(328, some v)] ∧ ol = [h] ∧ OArr v encI 1 3 h (List.replicate (Int.toNat 9) (0 : Int))] (CTs.cons ?_ (CTs.cons ?_ (CTs.nil))) ?_
      ·have _tn := True.intro
       dsimp only [List.cons_append, List.nil_append, List.append_nil]
       refine CT.make encI (0) rfl rfl rfl rfl rfl (by omega) (by omega) (fun _ => rfl) rfl rfl rfl (by dsimp only [encI]; infer_instance) (fun v327 h327 O327 => ?_) CT.stop
       refine CT.done ?_
       exact ⟨v327, h327, rfl, rfl, O327⟩
      ·have _tn := True.intro
       dsimp only [List.cons_append, List.nil_append, List.append_nil]
       refine CT.make encI (0) rfl rfl rfl rfl rfl (by omega) (by omega) (fun _ => rfl) rfl rfl rfl (by dsimp only [encI]; infer_instance) (fun v328 h328 O328 => ?_) CT.stop
       refine CT.done ?_
       exact ⟨v328, h328, rfl, rfl, O328⟩
      rintro _ _ ⟨v327, h327, rfl, rfl, O327⟩
      rintro _ _ ⟨v328, h328, rfl, rfl, O328⟩
      dsimp only [FinAll, List.cons_append, List.nil_append, List.append_nil]
      refine XT.q rfl rfl (Q.build [_, _, _] (.c 0 1 rfl rfl rfl (.c 1 1 rfl rfl rfl (.n _)))) ?_
      refine XT.call rfl rfl Tryz.call4 rfl rfl rfl (plans_spec (⟨List.replicate (Int.toNat 9) ⟨0, 0, 0, 0, 0, 0⟩, ⟨0, 0, 0, 0⟩, ([⟨0, 4, 1, 0⟩, ⟨0, 3, 2, 0⟩] : List KJob), 2, 0⟩ : KDay) v303 v314 h303 h314 (⟨List.replicate ([⟨0, 4, 1, 0⟩, ⟨0, 3, 2, 0⟩] : List KJob).length 0, List.replicate (Int.toNat 9) 0, 0⟩ : KPlan) v327 v328 h327 h328 3 1 ⟨by omega, by omega⟩ ⟨by omega, by omega⟩ ⟨(by first | omega | (dsimp only; omega) | (simp only [List.length_replicate, List.length_cons, List.length_nil]; omega) | (dsimp only; simp only [List.length_replicate, List.length_cons, List.length_nil]; omega) | decide), (by first | omega | (dsimp only; omega) | (simp only [List.length_replicate, List.length_cons, List.length_nil]; omega) | (dsimp only; simp only [List.length_replicate, List.length_cons, List.length_nil]; omega) | decide), (by first | omega | (dsimp only; omega) | (simp only [List.length_replicate, List.length_cons, List.length_nil]; omega) | (dsimp only; simp only [List.length_replicate, List.length_cons, List.length_nil]; omega) | decide), (by first | omega | (dsimp only; omega) | (simp only [List.length_replicate, List.length_cons, List.length_nil]; omega) | (dsimp only; simp only [List.length_replicate, List.length_cons, List.length_nil]; omega) | decide)⟩) (fun v330 s330 R330 => ?_) XT.stop
      obtain ⟨rfl, rfl⟩ := R330
      dsimp only [List.cons_append, List.nil_append]
      refine ⟨inferInstance, ?_⟩
      refine XT.q rfl rfl (Q.not rfl) ?_
      refine XT.done ?_
      refine XK.if rfl (fun c21 => ?_) (fun c21 => ?_)
      ·have _t21 := True.intro
       simp at c21
      ·have _t21 := True.intro
       refine XK.skip ?_
       refine XK.inBlock ?_
       refine XK.region rfl ?_
       refine XO.q (Q.add rfl rfl ⟨by omega, by omega⟩) ?_
       refine XO.q (Q.move rfl) ?_
       refine XO.done ?_
       exact ih8 (k + 1, v314) _ _ (by dsimp only; omega) (by first | omega | (dsimp only; omega)) (.c rfl (.base 36 rfl rfl)) inferInstance
     ·have _tb := True.intro
      have jl1 : ((((List.replicate (Int.toNat 3) ⟨0, 0, 0, 0⟩) : List KJob).length : Nat) : Int) = 3 := rfl
      rw [show ([v306, v308, v311, v314, v315] : List Value).getD k default = v315 by rw [hk]; rfl]
      refine XO.q (Q.assign rfl) ?_
      refine XO.done ?_
      refine XK.seq ?_
      refine XK.region rfl ?_
      refine XO.q (Q.move rfl) ?_
      refine XO.q (Q.fieldAddr rfl) ?_
      refine XO.st rfl rfl rfl ?_
      refine XO.done ?_
      refine XK.seq ?_
      refine XK.drawNet [0, 1, 2, 5, 7] [blk b21 [v303, .int .i64 0, .int .i64 0, .int .i64 0, .int .i64 0, v315, .int .i64 2, .int .i64 0] 27] [0, 1, 2] [([3], 3, (.br 3 false .done .stop)), ([4], 4, (.br 4 false .done .stop))] [327, 328] (.q 5 (.br 6 true (.q 7 .done) .stop)) Tryz.mixed rfl (by kernel_rfl) inferInstance ?_
      refine XQ.q rfl rfl (Q.ldA [_, _, _, _, _, _, _, _] rfl rfl rfl) ?_
      refine XQ.q rfl rfl (Q.move rfl) ?_
      refine XQ.q rfl rfl (Q.len rfl) ?_
      refine XQ.nil ?_
      refine XN.intro [fun el ol => ∃ v h, el = [(327, some v)] ∧ ol = [h] ∧ OArr v encI 1 3 h (List.replicate ((List.replicate (Int.toNat 3) ⟨0, 0, 0, 0⟩) : List KJob).length (0 : Int)), fun el ol => ∃ v h, el = [(328, some v)] ∧ ol = [h] ∧ OArr v encI 1 3 h (List.replicate (Int.toNat 9) (0 : Int))] (CTs.cons ?_ (CTs.cons ?_ (CTs.nil))) ?_
      ·have _tn := True.intro
       dsimp only [List.cons_append, List.nil_append, List.append_nil]
       refine CT.make encI (0) rfl rfl rfl rfl rfl (by omega) (by omega) (fun _ => rfl) rfl rfl rfl (by dsimp only [encI]; infer_instance) (fun v327 h327 O327 => ?_) CT.stop
       refine CT.done ?_
       exact ⟨v327, h327, rfl, rfl, O327⟩
      ·have _tn := True.intro
       dsimp only [List.cons_append, List.nil_append, List.append_nil]
       refine CT.make encI (0) rfl rfl rfl rfl rfl (by omega) (by omega) (fun _ => rfl) rfl rfl rfl (by dsimp only [encI]; infer_instance) (fun v328 h328 O328 => ?_) CT.stop
       refine CT.done ?_
       exact ⟨v328, h328, rfl, rfl, O328⟩
      rintro _ _ ⟨v327, h327, rfl, rfl, O327⟩
      rintro _ _ ⟨v328, h328, rfl, rfl, O328⟩
      dsimp only [FinAll, List.cons_append, List.nil_append, List.append_nil]
      refine XT.q rfl rfl (Q.build [_, _, _] (.c 0 1 rfl rfl rfl (.c 1 1 rfl rfl rfl (.n _)))) ?_
      refine XT.call rfl rfl Tryz.call4 rfl rfl rfl (plans_spec (⟨List.replicate (Int.toNat 9) ⟨0, 0, 0, 0, 0, 0⟩, ⟨0, 0, 0, 0⟩, ((List.replicate (Int.toNat 3) ⟨0, 0, 0, 0⟩) : List KJob), 2, 0⟩ : KDay) v303 v315 h303 h315 (⟨List.replicate ((List.replicate (Int.toNat 3) ⟨0, 0, 0, 0⟩) : List KJob).length 0, List.replicate (Int.toNat 9) 0, 0⟩ : KPlan) v327 v328 h327 h328 3 1 ⟨by omega, by omega⟩ ⟨by omega, by omega⟩ ⟨(by first | omega | (dsimp only; omega) | (simp only [List.length_replicate, List.length_cons, List.length_nil]; omega) | (dsimp only; simp only [List.length_replicate, List.length_cons, List.length_nil]; omega) | decide), (by first | omega | (dsimp only; omega) | (simp only [List.length_replicate, List.length_cons, List.length_nil]; omega) | (dsimp only; simp only [List.length_replicate, List.length_cons, List.length_nil]; omega) | decide), (by first | omega | (dsimp only; omega) | (simp only [List.length_replicate, List.length_cons, List.length_nil]; omega) | (dsimp only; simp only [List.length_replicate, List.length_cons, List.length_nil]; omega) | decide), (by first | omega | (dsimp only; omega) | (simp only [List.length_replicate, List.length_cons, List.length_nil]; omega) | (dsimp only; simp only [List.length_replicate, List.length_cons, List.length_nil]; omega) | decide)⟩) (fun v330 s330 R330 => ?_) XT.stop
      obtain ⟨rfl, rfl⟩ := R330
      dsimp only [List.cons_append, List.nil_append]
      refine ⟨inferInstance, ?_⟩
      refine XT.q rfl rfl (Q.not rfl) ?_
      refine XT.done ?_
      refine XK.if rfl (fun c22 => ?_) (fun c22 => ?_)
      ·have _t22 := True.intro
       simp at c22
      ·have _t22 := True.intro
       refine XK.skip ?_
       refine XK.inBlock ?_
       refine XK.region rfl ?_
       refine XO.q (Q.add rfl rfl ⟨by omega, by omega⟩) ?_
       refine XO.q (Q.move rfl) ?_
       refine XO.done ?_
       exact ih8 (k + 1, v315) _ _ (by dsimp only; omega) (by first | omega | (dsimp only; omega)) (.c rfl (.base 36 rfl rfl)) inferInstance
    ·have _t17 := True.intro
     refine XK.exit rfl ?_
     refine XK.seq ?_
     refine XK.region rfl ?_
     refine XO.call Tryz.call7 rfl rfl rfl (awake10) fun v333 s333 R333 => ?_
     obtain ⟨rfl, rfl⟩ := R333
     dsimp only [List.cons_append, List.nil_append]
     refine XO.q (Q.assign rfl) ?_
     refine XO.done ?_
     refine XK.rt [] Tryz.func3 Tryz.results3 (.t rfl .n) ?_
     exact ⟨by simp, rfl⟩
end Go.X
