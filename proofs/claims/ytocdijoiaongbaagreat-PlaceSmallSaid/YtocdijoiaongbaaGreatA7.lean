/- A part of the proof: a small program logic, plain laws and contracts of functions, each proved by a walk through its operations. No condition but those that stand in each theorem. -/
import Derived.Test.YtocdijoiaongbaaGreatA6
set_option linter.unusedSimpArgs false
set_option linter.unusedVariables false
set_option maxRecDepth 20000
namespace Go.X
open Go.Proofs
theorem pat_oneP {v : Value} {α : Type} {enc : α → List Value} {sz : Nat} {h : PHeap} {xs : List α} (s : Arr v enc sz h xs) {i : Nat} (hi : i < xs.length) (off : Nat) : One (pat v sz i off) := by
 obtain ⟨b, k, cs, T, fr, c, _, _, hp, _⟩ := s.at' hi
 rw [hp off]; infer_instance
theorem JobsK.cons {l : List (Value × PJob)} {K : PHeap} {x : Value × PJob} (h : Arr x.1 encDraw 2 K x.2.draws) (t : JobsK l K) : JobsK (x :: l) K := fun i hi => by
 cases i with
 | zero => exact h
 | succ i => exact t i (by simpa using hi)
theorem JobsK.rep {K : PHeap} {x : Value × PJob} (h : Arr x.1 encDraw 2 K x.2.draws) (n : Nat) : JobsK (List.replicate n x) K := fun i hi => by
 rw [List.length_replicate] at hi
 rw [List.getD_eq_getElem?_getD, List.getElem?_replicate_of_lt hi]
 exact h
def DrawsB (l : List (Value × PJob)) : Prop := ∀ i, i < l.length → (l.getD i default).2.draws.length ≤ 1000
theorem DrawsB.nil : DrawsB [] := fun i hi => absurd hi (Nat.not_lt_zero i)
theorem DrawsB.cons {l : List (Value × PJob)} {x : Value × PJob} (h : x.2.draws.length ≤ 1000) (t : DrawsB l) : DrawsB (x :: l) := fun i hi => by
 cases i with
 | zero => exact h
 | succ i => exact t i (by simpa using hi)
theorem DrawsB.rep {x : Value × PJob} (h : x.2.draws.length ≤ 1000) (n : Nat) : DrawsB (List.replicate n x) := fun i hi => by
 rw [List.length_replicate] at hi
 rw [List.getD_eq_getElem?_getD, List.getElem?_replicate_of_lt hi]
 exact h
theorem DrawsB.snoc {l : List (Value × PJob)} {x : Value × PJob} (a : DrawsB l) (b : x.2.draws.length ≤ 1000) : DrawsB (l ++ [x]) := each_snoc (Q := fun x : Value × PJob => x.2.draws.length ≤ 1000) a b
theorem list3 {l : List (Value × PJob)} (h : l.map Prod.snd = taskX.jobs) : ∃ a b c, l = [(a, jobX), (b, jobX), (c, jobX)] := by
 have h' : l.map Prod.snd = [jobX, jobX, jobX] := h
 match l, h' with
 | [(a, x), (b, y), (c, z)], h' =>
  simp only [List.map_cons, List.map_nil, List.cons.injEq, and_true] at h'
  obtain ⟨rfl, rfl, rfl⟩ := h'
  exact ⟨a, b, c, rfl⟩
theorem jobsK3 {x1 x2 x3 : Value × PJob} {k1 k2 k3 : PHeap} (a1 : Arr x1.1 encDraw 2 k1 x1.2.draws) (a2 : Arr x2.1 encDraw 2 k2 x2.2.draws) (a3 : Arr x3.1 encDraw 2 k3 x3.2.draws) (l1 : leH k1 (cat k1 k2)) (l2 : leH k2 (cat k1 k2)) (l3 : leH (cat k1 k2) (cat (cat k1 k2) k3)) (l4 : leH k3 (cat (cat k1 k2) k3)) : JobsK [x1, x2, x3] (cat (cat k1 k2) k3) :=
 .cons (Arr.le_heap (Arr.le_heap a1 l1) l3) (.cons (Arr.le_heap (Arr.le_heap a2 l2) l3) (.cons (Arr.le_heap a3 l4) (JobsK.nil _)))
theorem OArr.recode {v : Value} {α : Type} {enc : α → List Value} {sz : Nat} {T : TypeId} {h : PHeap} {xs ys : List α} (s : OArr v enc sz T h xs) (he : xs.map enc = ys.map enc) : OArr v enc sz T h ys := by
 have hl : ys.length = xs.length := by have := congrArg List.length he; simpa using this.symm
 have hf : ys.flatMap enc = xs.flatMap enc := by rw [List.flatMap_def, List.flatMap_def, he]
 obtain ⟨henc, ⟨h47, hone⟩, hv⟩ := s.pf
 refine ⟨henc, ⟨by rw [hl]; exact h47, fun y hy c hc => ?_⟩, ?_⟩
 ·have : enc y ∈ xs.map enc := by rw [he]; exact List.mem_map_of_mem hy
  obtain ⟨x, hx, e⟩ := List.mem_map.1 this
  exact hone x hx c (by rw [e]; exact hc)
 ·rcases hv with ⟨a, b, c⟩ | ⟨b, c, cs, h1, h2, h3, h4, h5⟩
  ·subst b; exact .inl ⟨a, List.length_eq_zero_iff.1 (by simpa using hl), c⟩
  ·exact .inr ⟨b, c, cs, by rw [hl]; exact h1, h2, by rw [hl]; exact h3, h4, by rw [hl, hf]; exact h5⟩
theorem n4_bdP : ∀ k, k < 4 → 0 ≤ ([0, 1, 5, 6] : List Int).getD k default ∧ ([0, 1, 5, 6] : List Int).getD k default ≤ 6 := by decide
set_option maxHeartbeats 32000000 in
set_option synthInstance.maxSize 1000 in
set_option synthInstance.maxHeartbeats 400000 in
theorem PlaceSmall_spec : Spec Tryz.prog 4 #[] [] [] (fun v hs => v = .bool true ∧ hs = []) := by
 have nP : OArr (.slice none 0 0) encPJ 6 41 emp ([] : List (Value × PJob)) := OArr.nil (fun _ => rfl)
 have nI : ∀ h, Arr (.slice none 0 0) encI 1 h ([] : List Int) := fun h => Arr.nil (fun _ => rfl)
 have nB : ∀ h, Arr (.slice none 0 0) encB 1 h ([] : List Bool) := fun h => Arr.nil (fun _ => rfl)
 have nJ : ∀ h, Arr (.slice none 0 0) encPJ 6 h ([] : List (Value × PJob)) := fun h => Arr.nil (fun _ => rfl)
 have dx : jobX.draws.length = 2 := rfl
 refine Spec.intro (fn := Tryz.f4) (N := 416) Tryz.func4 rfl Tryz.ntmps4 rfl fun B => ?_
 refine XK.seq (XK.region rfl (XO.q (Q.assign rfl) (XO.done (XK.seq (XK.seq ?_)))))
 refine XK.region rfl (XO.q (Q.move rfl) (XO.done (XK.block ?_)))
 refine XK.while (X := Nat) [0, 1, 2, 3, 4, 28, 29, 30, 31, 32, 33, 34, 35, 36, 37, 38, 39, 40, 41, 42, 43, 44, 45, 46, 47, 48, 49, 50, 51, 52, 53, 54, 55, 56, 57, 58, 59, 60, 61, 62, 63, 64, 65, 66, 67, 68, 69, 70, 71, 72, 73, 74, 75, 76, 77, 78, 79, 80, 81, 82, 83, 84, 85, 86, 87, 88, 89, 90, 91, 92, 93, 94, 95, 96, 97, 98, 99, 100, 101, 102, 103, 104, 105, 106, 107, 108, 109, 110, 111, 112, 113, 114, 115, 116, 117, 118, 119, 120, 121, 122, 123, 124, 125, 126, 127, 128, 129, 130] (fun n => [(28, some (.int .i64 (n : Nat)))]) (fun n => []) (fun n => n ≤ 864) (fun n => 864 - n) (0) [] rfl (by omega) (.c rfl (.base 0 rfl rfl)) ?_
 rintro n hn ih0
 dsimp only [lcA, lnA] at ih0 ⊢
 refine XK.seq (XK.region rfl ?_)
 refine XO.q (Q.lss rfl rfl) ?_
 refine XO.done (XK.seq ?_)
 refine XK.if rfl (fun c0 => ?_) (fun c0 => ?_)
 ·skip
  refine XK.skip (XK.seq (XK.block (XK.seq (XK.region rfl (XO.q (Q.move rfl) ?_)))))
  refine XO.q (Q.assign rfl) (XO.done (XK.seq (XK.region rfl ?_)))
  refine XO.q (Q.build [_, _] (.c 0 1 rfl rfl rfl (.c 1 1 rfl rfl rfl (.n _)))) ?_
  refine XO.q (Q.build [_, _] (.c 0 1 rfl rfl rfl (.c 1 1 rfl rfl rfl (.n _)))) ?_
  refine XO.q (Q.build [_, _] (.c 0 1 rfl rfl rfl (.c 1 1 rfl rfl rfl (.n _)))) ?_
  refine XO.lit [_, _, _, _, _, _] [_, _, _, _, _, _] [⟨0, 1⟩, ⟨1, 4⟩, ⟨1, 1⟩] encRat (by rfl) (by rfl) rfl (by rfl) (by exact .c 0 2 rfl rfl rfl (.c 2 2 rfl rfl rfl (.c 4 2 rfl rfl rfl (.n _)))) (fun _ => rfl) (by rfl) rfl (by infer_instance) rfl fun v34 h34 O34 => ?_
  refine XO.q (Q.move rfl) ?_
  refine XO.q (Q.rem rfl rfl (by omega) (by omega)) ?_
  refine XO.ix rfl rfl (by omega) (by show (n : Int) % 3 < 3; omega) fun i37 => ?_
  refine XO.q (Q.ldEA [_, _] rfl (by first | assumption | omega) rfl rfl) ?_
  obtain ⟨m, em⟩ : ∃ x : PRat, x = ([⟨0, 1⟩, ⟨1, 4⟩, ⟨1, 1⟩] : List PRat).getD ((n : Int) % 3).toNat default := ⟨_, rfl⟩
  rw [← em]
  clear em
  refine XO.q (Q.build [_, _, _, _] (.c 2 2 rfl rfl rfl (.n _))) ?_
  refine XO.alloc fun b2 => ?_
  refine XO.st rfl rfl rfl ?_
  refine XO.done (XK.seq (XK.seq (XK.region rfl (XO.q (Q.move rfl) (XO.done ?_)))))
  refine XK.block ?_
  refine XK.while (X := Nat × Value × PHeap × PHeap × List (Value × PJob)) [3, 40, 41, 42, 43, 44, 45, 46, 47, 48, 49, 50, 51, 52, 53, 54, 55, 56, 57, 58, 59, 60, 61, 62, 63, 64, 65, 66, 67, 68, 69, 70, 71, 72, 73, 74, 75, 76, 77, 78, 79, 80, 81, 82, 83, 84] (fun ⟨i, vJ, kJ, KJ, jl⟩ => [(40, some (.int .i64 (i : Nat)))]) (fun ⟨i, vJ, kJ, KJ, jl⟩ => [blk b2 [vJ, .slice none 0 0, .int .i64 m.n, .int .i64 m.d] 27, kJ, KJ]) (fun ⟨i, vJ, kJ, KJ, jl⟩ => i ≤ 3 ∧ jl.length = i ∧ OArr vJ encPJ 6 41 kJ jl ∧ JobsK jl KJ ∧ DrawsB jl) (fun ⟨i, vJ, kJ, KJ, jl⟩ => 3 - i) (0, .slice none 0 0, emp, emp, []) [blk b2 [.slice none 0 0, .slice none 0 0, .int .i64 m.n, .int .i64 m.d] 27, emp, emp] rfl ⟨by omega, rfl, nP, JobsK.nil _, .nil⟩ (.c rfl (.base 0 rfl rfl)) ?_
  rintro ⟨i, vJ, kJ, KJ, jl⟩ ⟨hi, lj, OJ, JK, DB⟩ ih1
  dsimp only [lcA, lnA] at ih1 ⊢
  refine XK.seq (XK.region rfl ?_)
  refine XO.q (Q.lss rfl rfl) ?_
  refine XO.done (XK.seq ?_)
  refine XK.if rfl (fun c1 => ?_) (fun c1 => ?_)
  ·skip
   refine XK.skip (XK.seq (XK.block (XK.seq (XK.region rfl (XO.q (Q.move rfl) ?_)))))
   refine XO.q (Q.assign rfl) (XO.done ?_)
   refine XK.drawn [0, 1, 2, 3, 4, 5, 6, 7, 8, 9, 10, 11, 12, 13, 14, 15, 16, 17, 18, 19, 20, 21, 23, 24, 25, 27, 30, 31, 32, 33, 34, 35, 36, 37, 40] [b2] [] (.q 0 (.q 1 (.q 2 (.q 3 (.q 4 (.q 5 (.q 6 (.q 7 (.q 8 (.q 9 (.q 10 (.q 11 (.q 12 (.q 13 (.q 14 (.q 15 (.q 16 (.q 17 (.q 18 (.q 19 (.q 20 (.q 21 (.q 23 (.q 24 (.q 25 (.q 27 (.q 30 (.q 31 (.q 32 (.q 33 (.q 34 (.q 35 (.q 36 (.br 22 true (.br 26 true (.br 28 true (.br 29 true (.q 37 (.br 38 true (.br 39 true (.q 40 (.br 41 false .done .stop)) .stop) .stop)) .stop) .stop) .stop) (.br 26 true (.br 22 true (.br 28 true (.br 29 true (.q 37 (.br 38 true (.br 39 true (.q 40 (.br 41 false .done .stop)) .stop) .stop)) .stop) .stop) (.br 28 true (.br 22 true (.br 29 true (.q 37 (.br 38 true (.br 39 true (.q 40 (.br 41 false .done .stop)) .stop) .stop)) .stop) (.br 29 true (.br 22 true (.q 37 (.br 38 true (.br 39 true (.q 40 (.br 41 false .done .stop)) .stop) .stop)) .stop) .stop)) .stop)) .stop))))))))))))))))))))))))))))))))))) Tryz.mixed rfl (by kernel_rfl) ?_
   refine XT.q rfl rfl (Q.fieldAddr rfl) ?_
   refine XT.q rfl rfl (Q.ld rfl rfl) ?_
   refine XT.q rfl rfl (Q.move rfl) ?_
   refine XT.q rfl rfl (Q.quo rfl rfl (by omega) (by omega) (by omega)) ?_
   refine XT.q rfl rfl (Q.move rfl) ?_
   refine XT.q rfl rfl (Q.add rfl rfl ⟨by omega, by omega⟩) ?_
   refine XT.q rfl rfl (Q.rem rfl rfl (by omega) (by omega)) ?_
   refine XT.q rfl rfl (Q.add rfl rfl ⟨by omega, by omega⟩) ?_
   refine XT.q rfl rfl (Q.move rfl) ?_
   refine XT.q rfl rfl (Q.move rfl) ?_
   refine XT.q rfl rfl (Q.quo rfl rfl (by omega) (by omega) (by omega)) ?_
   refine XT.q rfl rfl (Q.rem rfl rfl (by omega) (by omega)) ?_
   refine XT.q rfl rfl (Q.build [_, _, _] (.c 0 1 rfl rfl rfl (.c 1 1 rfl rfl rfl (.c 2 1 rfl rfl rfl (.n _))))) ?_
   refine XT.q rfl rfl (Q.move rfl) ?_
   refine XT.q rfl rfl (Q.build [_, _] (.c 0 1 rfl rfl rfl (.c 1 1 rfl rfl rfl (.n _)))) ?_
   refine XT.q rfl rfl (Q.move rfl) ?_
   refine XT.q rfl rfl (Q.quo rfl rfl (by omega) (by omega) (by omega)) ?_
   refine XT.q rfl rfl (Q.rem rfl rfl (by omega) (by omega)) ?_
   refine XT.q rfl rfl (Q.add rfl rfl ⟨by omega, by omega⟩) ?_
   refine XT.q rfl rfl (Q.move rfl) ?_
   refine XT.q rfl rfl (Q.add rfl rfl ⟨by omega, by omega⟩) ?_
   refine XT.q rfl rfl (Q.build [_, _] (.c 0 1 rfl rfl rfl (.c 1 1 rfl rfl rfl (.n _)))) ?_
   refine XT.q rfl rfl (Q.move rfl) ?_
   refine XT.q rfl rfl (Q.quo rfl rfl (by omega) (by omega) (by omega)) ?_
   refine XT.q rfl rfl (Q.rem rfl rfl (by omega) (by omega)) ?_
   refine XT.q rfl rfl (Q.move rfl) ?_
   refine XT.q rfl rfl (Q.move rfl) ?_
   refine XT.q rfl rfl (Q.quo rfl rfl (by omega) (by omega) (by omega)) ?_
   refine XT.q rfl rfl (Q.move rfl) ?_
   refine XT.q rfl rfl (Q.mul rfl rfl ⟨by omega, by omega⟩) ?_
   refine XT.q rfl rfl (Q.add rfl rfl ⟨by omega, by omega⟩) ?_
   refine XT.q rfl rfl (Q.rem rfl rfl (by omega) (by omega)) ?_
   refine XT.q rfl rfl (Q.add rfl rfl ⟨by omega, by omega⟩) ?_
   refine XT.lit [_, _, _, _] [_, _, _, _] [⟨_, _⟩, ⟨_, _⟩] encDraw rfl rfl (by rfl) (by rfl) rfl (by rfl) (by exact .c 0 2 rfl rfl rfl (.c 2 2 rfl rfl rfl (.n _))) (fun _ => rfl) (by rfl) rfl (by infer_instance) rfl (fun v65 h65 O65 => ⟨inferInstance, ?_⟩) ?_
   obtain ⟨ds, lds, O65⟩ : ∃ x : List PDraw, x.length = 2 ∧ OArr v65 encDraw 2 38 h65 x := ⟨_, rfl, O65⟩
   ·skip
    refine XT.lit [_, _, _] [_, _, _] [0, 1, _] encI rfl rfl (by rfl) (by rfl) rfl (by rfl) (by exact .c 0 1 rfl rfl rfl (.c 1 1 rfl rfl rfl (.c 2 1 rfl rfl rfl (.n _)))) (fun _ => rfl) (by rfl) rfl (by infer_instance) rfl (fun v69 h69 O69 => ⟨inferInstance, ?_⟩) XT.stop
    refine XT.qs rfl rfl (Q.ix rfl rfl (by omega) (by show (i : Int) < 3; omega)) ⟨inferInstance, ?_⟩ XT.stop
    refine XT.qs rfl rfl (Q.ldE rfl (by show (i : Nat) < 3; omega) rfl) ⟨inferInstance, ?_⟩ XT.stop
    refine XT.q rfl rfl (Q.build [_, _, _, _, _, _] (.c 0 3 rfl rfl rfl (.c 3 1 rfl rfl rfl (.c 4 1 rfl rfl rfl (.c 5 1 rfl rfl rfl (.n _)))))) ?_
    refine XT.lit [_, _, _, _, _, _] [_, _, _, _, _, _] [(v65, ⟨_, _, _, ds, _, _⟩)] encPJ rfl rfl (by rfl) (by rfl) rfl (by rfl) (by exact .c 0 6 rfl rfl rfl (.n _)) (fun _ => rfl) (by rfl) rfl (by infer_instance) rfl (fun v81 h81 O81 => ⟨inferInstance, ?_⟩) XT.stop
    refine XT.append rfl rfl rfl rfl rfl rfl (by simp only [List.length_cons, List.length_nil]; omega) (fun v82 h82 O82 => ⟨inferInstance, ?_⟩) XT.stop
    refine XT.q rfl rfl (Q.fieldAddr rfl) ?_
    refine XT.st rfl rfl rfl rfl rfl ⟨inferInstance, ?_⟩ XT.stop
    refine XT.done ?_
    refine XK.inBlock ?_
    refine XK.region rfl ?_
    refine XO.q (Q.add rfl rfl ⟨by omega, by omega⟩) ?_
    refine XO.q (Q.move rfl) (XO.done ?_)
    refine XK.cat KJ h65 fun q1 q2 => ?_
    exact ih1 (i + 1, v82, h82, cat KJ h65, _) _ _ ⟨by dsimp only; omega, by simp only [List.length_append, List.length_cons, List.length_nil]; omega, O82, (JK.mono q1).snoc (Arr.le_heap (OArr.arr (s := O65)) q2), DB.snoc (by dsimp only; omega)⟩ (by first | omega | (dsimp only; omega)) (.c rfl (.base 93 rfl rfl)) inferInstance
   ·skip
    refine XT.lit [_, _, _] [_, _, _] [0, 1, _] encI rfl rfl (by rfl) (by rfl) rfl (by rfl) (by exact .c 0 1 rfl rfl rfl (.c 1 1 rfl rfl rfl (.c 2 1 rfl rfl rfl (.n _)))) (fun _ => rfl) (by rfl) rfl (by infer_instance) rfl (fun v69 h69 O69 => ⟨inferInstance, ?_⟩) XT.stop
    refine XT.lit [_, _, _, _] [_, _, _, _] [⟨_, _⟩, ⟨_, _⟩] encDraw rfl rfl (by rfl) (by rfl) rfl (by rfl) (by exact .c 0 2 rfl rfl rfl (.c 2 2 rfl rfl rfl (.n _))) (fun _ => rfl) (by rfl) rfl (by infer_instance) rfl (fun v65 h65 O65 => ⟨inferInstance, ?_⟩) ?_
    obtain ⟨ds, lds, O65⟩ : ∃ x : List PDraw, x.length = 2 ∧ OArr v65 encDraw 2 38 h65 x := ⟨_, rfl, O65⟩
    ·skip
     refine XT.qs rfl rfl (Q.ix rfl rfl (by omega) (by show (i : Int) < 3; omega)) ⟨inferInstance, ?_⟩ XT.stop
     refine XT.qs rfl rfl (Q.ldE rfl (by show (i : Nat) < 3; omega) rfl) ⟨inferInstance, ?_⟩ XT.stop
     refine XT.q rfl rfl (Q.build [_, _, _, _, _, _] (.c 0 3 rfl rfl rfl (.c 3 1 rfl rfl rfl (.c 4 1 rfl rfl rfl (.c 5 1 rfl rfl rfl (.n _)))))) ?_
     refine XT.lit [_, _, _, _, _, _] [_, _, _, _, _, _] [(v65, ⟨_, _, _, ds, _, _⟩)] encPJ rfl rfl (by rfl) (by rfl) rfl (by rfl) (by exact .c 0 6 rfl rfl rfl (.n _)) (fun _ => rfl) (by rfl) rfl (by infer_instance) rfl (fun v81 h81 O81 => ⟨inferInstance, ?_⟩) XT.stop
     refine XT.append rfl rfl rfl rfl rfl rfl (by simp only [List.length_cons, List.length_nil]; omega) (fun v82 h82 O82 => ⟨inferInstance, ?_⟩) XT.stop
     refine XT.q rfl rfl (Q.fieldAddr rfl) ?_
     refine XT.st rfl rfl rfl rfl rfl ⟨inferInstance, ?_⟩ XT.stop
     refine XT.done ?_
     refine XK.inBlock ?_
     refine XK.region rfl ?_
     refine XO.q (Q.add rfl rfl ⟨by omega, by omega⟩) ?_
     refine XO.q (Q.move rfl) (XO.done ?_)
     refine XK.cat KJ h65 fun q1 q2 => ?_
     exact ih1 (i + 1, v82, h82, cat KJ h65, _) _ _ ⟨by dsimp only; omega, by simp only [List.length_append, List.length_cons, List.length_nil]; omega, O82, (JK.mono q1).snoc (Arr.le_heap (OArr.arr (s := O65)) q2), DB.snoc (by dsimp only; omega)⟩ (by first | omega | (dsimp only; omega)) (.c rfl (.base 93 rfl rfl)) inferInstance
    ·skip
     refine XT.qs rfl rfl (Q.ix rfl rfl (by omega) (by show (i : Int) < 3; omega)) ⟨inferInstance, ?_⟩ XT.stop
     refine XT.lit [_, _, _, _] [_, _, _, _] [⟨_, _⟩, ⟨_, _⟩] encDraw rfl rfl (by rfl) (by rfl) rfl (by rfl) (by exact .c 0 2 rfl rfl rfl (.c 2 2 rfl rfl rfl (.n _))) (fun _ => rfl) (by rfl) rfl (by infer_instance) rfl (fun v65 h65 O65 => ⟨inferInstance, ?_⟩) ?_
     obtain ⟨ds, lds, O65⟩ : ∃ x : List PDraw, x.length = 2 ∧ OArr v65 encDraw 2 38 h65 x := ⟨_, rfl, O65⟩
     ·skip
      refine XT.qs rfl rfl (Q.ldE rfl (by show (i : Nat) < 3; omega) rfl) ⟨inferInstance, ?_⟩ XT.stop
      refine XT.q rfl rfl (Q.build [_, _, _, _, _, _] (.c 0 3 rfl rfl rfl (.c 3 1 rfl rfl rfl (.c 4 1 rfl rfl rfl (.c 5 1 rfl rfl rfl (.n _)))))) ?_
      refine XT.lit [_, _, _, _, _, _] [_, _, _, _, _, _] [(v65, ⟨_, _, _, ds, _, _⟩)] encPJ rfl rfl (by rfl) (by rfl) rfl (by rfl) (by exact .c 0 6 rfl rfl rfl (.n _)) (fun _ => rfl) (by rfl) rfl (by infer_instance) rfl (fun v81 h81 O81 => ⟨inferInstance, ?_⟩) XT.stop
      refine XT.append rfl rfl rfl rfl rfl rfl (by simp only [List.length_cons, List.length_nil]; omega) (fun v82 h82 O82 => ⟨inferInstance, ?_⟩) XT.stop
      refine XT.q rfl rfl (Q.fieldAddr rfl) ?_
      refine XT.st rfl rfl rfl rfl rfl ⟨inferInstance, ?_⟩ XT.stop
      refine XT.done ?_
      refine XK.inBlock ?_
      refine XK.region rfl ?_
      refine XO.q (Q.add rfl rfl ⟨by omega, by omega⟩) ?_
      refine XO.q (Q.move rfl) (XO.done ?_)
      refine XK.cat KJ h65 fun q1 q2 => ?_
      exact ih1 (i + 1, v82, h82, cat KJ h65, _) _ _ ⟨by dsimp only; omega, by simp only [List.length_append, List.length_cons, List.length_nil]; omega, O82, (JK.mono q1).snoc (Arr.le_heap (OArr.arr (s := O65)) q2), DB.snoc (by dsimp only; omega)⟩ (by first | omega | (dsimp only; omega)) (.c rfl (.base 93 rfl rfl)) inferInstance
     ·skip
      refine XT.qs rfl rfl (Q.ldE rfl (by show (i : Nat) < 3; omega) rfl) ⟨inferInstance, ?_⟩ XT.stop
      refine XT.lit [_, _, _, _] [_, _, _, _] [⟨_, _⟩, ⟨_, _⟩] encDraw rfl rfl (by rfl) (by rfl) rfl (by rfl) (by exact .c 0 2 rfl rfl rfl (.c 2 2 rfl rfl rfl (.n _))) (fun _ => rfl) (by rfl) rfl (by infer_instance) rfl (fun v65 h65 O65 => ⟨inferInstance, ?_⟩) XT.stop
      obtain ⟨ds, lds, O65⟩ : ∃ x : List PDraw, x.length = 2 ∧ OArr v65 encDraw 2 38 h65 x := ⟨_, rfl, O65⟩
      refine XT.q rfl rfl (Q.build [_, _, _, _, _, _] (.c 0 3 rfl rfl rfl (.c 3 1 rfl rfl rfl (.c 4 1 rfl rfl rfl (.c 5 1 rfl rfl rfl (.n _)))))) ?_
      refine XT.lit [_, _, _, _, _, _] [_, _, _, _, _, _] [(v65, ⟨_, _, _, ds, _, _⟩)] encPJ rfl rfl (by rfl) (by rfl) rfl (by rfl) (by exact .c 0 6 rfl rfl rfl (.n _)) (fun _ => rfl) (by rfl) rfl (by infer_instance) rfl (fun v81 h81 O81 => ⟨inferInstance, ?_⟩) XT.stop
      refine XT.append rfl rfl rfl rfl rfl rfl (by simp only [List.length_cons, List.length_nil]; omega) (fun v82 h82 O82 => ⟨inferInstance, ?_⟩) XT.stop
      refine XT.q rfl rfl (Q.fieldAddr rfl) ?_
      refine XT.st rfl rfl rfl rfl rfl ⟨inferInstance, ?_⟩ XT.stop
      refine XT.done ?_
      refine XK.inBlock ?_
      refine XK.region rfl ?_
      refine XO.q (Q.add rfl rfl ⟨by omega, by omega⟩) ?_
      refine XO.q (Q.move rfl) (XO.done ?_)
      refine XK.cat KJ h65 fun q1 q2 => ?_
      exact ih1 (i + 1, v82, h82, cat KJ h65, _) _ _ ⟨by dsimp only; omega, by simp only [List.length_append, List.length_cons, List.length_nil]; omega, O82, (JK.mono q1).snoc (Arr.le_heap (OArr.arr (s := O65)) q2), DB.snoc (by dsimp only; omega)⟩ (by first | omega | (dsimp only; omega)) (.c rfl (.base 93 rfl rfl)) inferInstance
  ·skip
   refine XK.exit rfl ?_
   refine XK.seq (XK.region rfl (XO.q (Q.move rfl) ?_))
   refine XO.q (Q.quo rfl rfl (by omega) (by omega) (by omega)) ?_
   refine XO.q (Q.rem rfl rfl (by omega) (by omega)) ?_
   refine XO.q (Q.build [_, _, _] (.c 0 1 rfl rfl rfl (.c 1 1 rfl rfl rfl (.c 2 1 rfl rfl rfl (.n _))))) ?_
   refine XO.q (Q.move rfl) ?_
   refine XO.q (Q.quo rfl rfl (by omega) (by omega) (by omega)) ?_
   refine XO.q (Q.rem rfl rfl (by omega) (by omega)) ?_
   refine XO.q (Q.build [_, _, _, _, _] (.c 0 3 rfl rfl rfl (.c 3 1 rfl rfl rfl (.c 4 1 rfl rfl rfl (.n _))))) ?_
   refine XO.q (Q.build [_, _, _] (.c 0 1 rfl rfl rfl (.c 1 1 rfl rfl rfl (.c 2 1 rfl rfl rfl (.n _))))) ?_
   refine XO.q (Q.move rfl) ?_
   refine XO.q (Q.quo rfl rfl (by omega) (by omega) (by omega)) ?_
   refine XO.q (Q.build [_, _, _, _, _] (.c 0 3 rfl rfl rfl (.c 3 1 rfl rfl rfl (.c 4 1 rfl rfl rfl (.n _))))) ?_
   refine XO.lit [_, _, _, _, _, _, _, _, _, _] [_, _, _, _, _, _, _, _, _, _] [⟨_, _, _, _, _⟩, ⟨_, _, _, _, _⟩] encRack (by rfl) (by rfl) rfl (by rfl) (by exact .c 0 5 rfl rfl rfl (.c 5 5 rfl rfl rfl (.n _))) (fun _ => rfl) (by rfl) rfl (by infer_instance) rfl fun v97 h97 O97 => ?_
   obtain ⟨rs, lrs, O97⟩ : ∃ x : List PRack, x.length = 2 ∧ OArr v97 encRack 5 43 h97 x := ⟨_, rfl, O97⟩
   refine XO.q (Q.fieldAddr rfl) ?_
   refine XO.st rfl rfl rfl ?_
   refine XO.done (XK.seq (XK.region rfl (XO.q (Q.move rfl) (XO.done (XK.block ?_)))))
   refine XK.while (X := Nat) [0, 4, 99, 100, 101, 102, 103, 104, 105, 106, 107, 108, 109, 110, 111, 112, 113, 114, 115, 116, 117, 118, 119, 120, 121, 122, 123, 124, 125, 126, 127, 128, 129] (fun k => [(99, some (.int .i64 (k : Nat)))]) (fun k => []) (fun k => k ≤ 27) (fun k => 27 - k) (0) [] rfl (by omega) (.c rfl (.base 0 rfl rfl)) ?_
   rintro k hk ih2
   dsimp only [lcA, lnA] at ih2 ⊢
   refine XK.seq (XK.region rfl ?_)
   refine XO.q (Q.lss rfl rfl) ?_
   refine XO.done (XK.seq ?_)
   refine XK.if rfl (fun c2 => ?_) (fun c2 => ?_)
   ·skip
    refine XK.skip (XK.seq (XK.block (XK.seq (XK.region rfl (XO.q (Q.move rfl) ?_)))))
    refine XO.q (Q.assign rfl) (XO.done (XK.seq (XK.seq (XK.region rfl (XO.q (Q.move rfl) ?_)))))
    refine XO.q (Q.move rfl) ?_
    refine XO.q (Q.rem rfl rfl (by omega) (by omega)) ?_
    refine XO.q (Q.neq rfl rfl) ?_
    refine XO.done ?_
    refine XK.if rfl (fun c3 => ?_) (fun c3 => ?_)
    ·skip
     refine XK.exit rfl ?_
     refine XK.region rfl ?_
     refine XO.q (Q.add rfl rfl ⟨by omega, by omega⟩) ?_
     refine XO.q (Q.move rfl) (XO.done ?_)
     exact ih2 (k + 1) _ _ (by omega) (by first | omega | (dsimp only; omega)) (.c rfl (.base 43 rfl rfl)) inferInstance
    ·skip
     refine XK.skip (XK.seq (XK.region rfl ?_))
     refine XO.q (Q.ldA [_, _, _, _] rfl rfl rfl) ?_
     refine XO.q (Q.move rfl) ?_
     refine XO.q (Q.rem rfl rfl (by omega) (by omega)) ?_
     refine XO.q (Q.sub rfl rfl ⟨by omega, by omega⟩) ?_
     refine XO.q (Q.move rfl) ?_
     refine XO.q (Q.quo rfl rfl (by omega) (by omega) (by omega)) ?_
     refine XO.q (Q.rem rfl rfl (by omega) (by omega)) ?_
     refine XO.q (Q.sub rfl rfl ⟨by omega, by omega⟩) ?_
     refine XO.q (Q.move rfl) ?_
     refine XO.q (Q.quo rfl rfl (by omega) (by omega) (by omega)) ?_
     refine XO.q (Q.sub rfl rfl ⟨by omega, by omega⟩) ?_
     refine XO.lit [_, _, _] [_, _, _] [_, _, _] encI (by rfl) (by rfl) rfl (by rfl) (by exact .c 0 1 rfl rfl rfl (.c 1 1 rfl rfl rfl (.c 2 1 rfl rfl rfl (.n _)))) (fun _ => rfl) (by rfl) rfl (by infer_instance) rfl fun v117 h117 O117 => ?_
     obtain ⟨ws, lws, O117⟩ : ∃ x : List Int, x.length = 3 ∧ OArr v117 encI 1 3 h117 x := ⟨_, rfl, O117⟩
     refine XO.q (Q.move rfl) ?_
     refine XO.q (Q.rem rfl rfl (by omega) (by omega)) ?_
     refine XO.q (Q.move rfl) ?_
     refine XO.q (Q.rem rfl rfl (by omega) (by omega)) ?_
     refine XO.q (Q.eql rfl rfl) ?_
     refine XO.lit [_] [_] [_] encB (by rfl) (by rfl) rfl (by rfl) (by exact .c 0 1 rfl rfl rfl (.n _)) (fun _ => rfl) (by rfl) rfl (by infer_instance) rfl fun v123 h123 O123 => ?_
     obtain ⟨ps, lps, O123⟩ : ∃ x : List Bool, x.length = 1 ∧ OArr v123 encB 1 4 h123 x := ⟨_, rfl, O123⟩
     refine XO.q (Q.build [_, _, _] (.c 0 1 rfl rfl rfl (.c 1 1 rfl rfl rfl (.c 2 1 rfl rfl rfl (.n _))))) ?_
     refine XO.q (Q.move rfl) (XO.q (Q.move rfl) ?_)
     refine XO.call Tryz.call6 rfl rfl rfl (tasks_spec jl vJ kJ KJ JK rs v97 h97 m (by first | omega | decide | (simp only [List.length_cons, List.length_nil]; omega) | (simp only [List.length_replicate]; omega)) DB (by first | omega | decide | (simp only [List.length_cons, List.length_nil]; omega) | (simp only [List.length_replicate]; omega)) ws v117 h117 ((n : Int) % 9) ps v123 h123 (by first | omega | decide | (simp only [List.length_cons, List.length_nil]; omega) | (simp only [List.length_replicate]; omega)) (by first | omega | decide | (simp only [List.length_cons, List.length_nil]; omega) | (simp only [List.length_replicate]; omega)) (n : Int) (k : Int)) fun v127 s127 R127 => ?_
     obtain ⟨rfl, rfl⟩ := R127
     dsimp only [lcA, lnA]
     refine XO.q (Q.not rfl) ?_
     refine XO.done ?_
     refine XK.if rfl (fun c4 => ?_) (fun c4 => ?_)
     ·skip
      simp at c4
     ·skip
      refine XK.skip ?_
      refine XK.inBlock ?_
      refine XK.region rfl ?_
      refine XO.q (Q.add rfl rfl ⟨by omega, by omega⟩) ?_
      refine XO.q (Q.move rfl) (XO.done ?_)
      exact ih2 (k + 1) _ _ (by omega) (by first | omega | (dsimp only; omega)) (.c rfl (.base 66 rfl rfl)) inferInstance
   ·skip
    refine XK.exit rfl ?_
    refine XK.inBlock ?_
    refine XK.region rfl ?_
    refine XO.q (Q.add rfl rfl ⟨by omega, by omega⟩) ?_
    refine XO.q (Q.move rfl) (XO.done ?_)
    exact ih0 (n + 1) _ _ (by omega) (by first | omega | (dsimp only; omega)) (.c rfl (.base 223 rfl rfl)) inferInstance
 ·skip
  refine XK.exit rfl ?_
  refine XK.seq (XK.region rfl ?_)
  refine XO.lit [_, _, _, _, _, _, _, _, _, _, _, _, _, _] [_, _, _, _, _, _, _, _, _, _, _, _, _, _] [-1, 0, 1, 63, 64, 65, 100, 101, 1000, 1001, 10000, 10001, 1000000, 1000001] encI (by rfl) (by rfl) rfl (by rfl) (by exact .c 0 1 rfl rfl rfl (.c 1 1 rfl rfl rfl (.c 2 1 rfl rfl rfl (.c 3 1 rfl rfl rfl (.c 4 1 rfl rfl rfl (.c 5 1 rfl rfl rfl (.c 6 1 rfl rfl rfl (.c 7 1 rfl rfl rfl (.c 8 1 rfl rfl rfl (.c 9 1 rfl rfl rfl (.c 10 1 rfl rfl rfl (.c 11 1 rfl rfl rfl (.c 12 1 rfl rfl rfl (.c 13 1 rfl rfl rfl (.n _))))))))))))))) (fun _ => rfl) (by rfl) rfl (by infer_instance) rfl fun v131 h131 O131 => ?_
  refine XO.q (Q.assign rfl) (XO.done (XK.seq (XK.seq (XK.region rfl (XO.q (Q.move rfl) ?_)))))
  refine XO.done (XK.block ?_)
  refine XK.while (X := Nat) [0, 6, 8, 9, 10, 132, 133, 134, 135, 136, 137, 138, 139, 140, 141, 142, 143, 144, 145, 146, 147, 148, 149, 150, 151, 152, 153, 154, 155, 156, 157, 158, 159, 160, 161, 162, 163, 164, 165, 166, 167, 168, 169, 170, 171, 172, 173, 174, 175, 176, 177, 178, 179, 180, 181, 182, 183, 184, 185, 186, 187, 188, 189, 190, 191, 192, 193, 194, 195, 196, 197, 198, 199, 200, 201, 202, 203, 204, 205, 206, 207, 208, 209, 210, 211, 212, 213, 214, 215, 216, 217, 218, 219, 220, 221, 222] (fun i => [(132, some (.int .i64 (i : Nat)))]) (fun i => []) (fun i => i ≤ 11) (fun i => 11 - i) (0) [] rfl (by omega) (.c rfl (.base 0 rfl rfl)) ?_
  rintro i hi ih3
  dsimp only [lcA, lnA] at ih3 ⊢
  refine XK.seq (XK.region rfl ?_)
  refine XO.q (Q.lss rfl rfl) ?_
  refine XO.done (XK.seq ?_)
  refine XK.if rfl (fun c5 => ?_) (fun c5 => ?_)
  ·skip
   refine XK.skip (XK.seq (XK.block (XK.seq (XK.region rfl (XO.q (Q.move rfl) ?_)))))
   refine XO.q (Q.assign rfl) (XO.done (XK.seq (XK.region rfl (XO.q (Q.move rfl) ?_))))
   refine XO.len rfl fun l136 => ?_
   rw [show ((([-1, 0, 1, 63, 64, 65, 100, 101, 1000, 1001, 10000, 10001, 1000000, 1000001] : List Int).length : Nat) : Int) = 14 from rfl]
   refine XO.q (Q.move rfl) (XO.done (XK.block ?_))
   refine XK.while (X := Nat) [0, 8, 9, 10, 137, 138, 139, 140, 141, 142, 143, 144, 145, 146, 147, 148, 149, 150, 151, 152, 153, 154, 155, 156, 157, 158, 159, 160, 161, 162, 163, 164, 165, 166, 167, 168, 169, 170, 171, 172, 173, 174, 175, 176, 177, 178, 179, 180, 181, 182, 183, 184, 185, 186, 187, 188, 189, 190, 191, 192, 193, 194, 195, 196, 197, 198, 199, 200, 201, 202, 203, 204, 205, 206, 207, 208, 209, 210, 211, 212, 213, 214, 215, 216, 217, 218, 219, 220, 221] (fun k => [(137, some (.int .i64 (k : Nat)))]) (fun k => []) (fun k => k ≤ 14) (fun k => 14 - k) (0) [] rfl (by omega) (.c rfl (.base 0 rfl rfl)) ?_
   rintro k hk ih4
   dsimp only [lcA, lnA] at ih4 ⊢
   refine XK.seq (XK.region rfl ?_)
   refine XO.q (Q.lss rfl rfl) ?_
   refine XO.done (XK.seq ?_)
   refine XK.if rfl (fun c6 => ?_) (fun c6 => ?_)
   ·skip
    refine XK.skip (XK.seq (XK.block (XK.seq (XK.region rfl ?_))))
    refine XO.ix rfl rfl (by omega) (by show (k : Int) < 14; omega) fun i139 => ?_
    refine XO.q (Q.ldE rfl (by first | assumption | omega) rfl) ?_
    obtain ⟨x, ex⟩ : ∃ x : Int, x = ([-1, 0, 1, 63, 64, 65, 100, 101, 1000, 1001, 10000, 10001, 1000000, 1000001] : List Int).getD k default := ⟨_, rfl⟩
    rw [← ex]
    clear ex
    refine XO.q (Q.assign rfl) (XO.done (XK.seq (XK.region rfl ?_)))
    refine XO.call Tryz.call9 rfl rfl rfl (task_spec) fun v142 s142 R142 => ?_
    obtain ⟨vl, vr, kl, K, kr, l, rfl, rfl, OL, JL, el, OR⟩ := R142
    dsimp only [lcA, lnA]
    obtain ⟨p1, p2, p3, rfl⟩ := list3 el
    have lp3 : ([(p1, jobX), (p2, jobX), (p3, jobX)] : List (Value × PJob)).length = 3 := rfl
    refine XO.call Tryz.call8 rfl rfl rfl (copied3_spec (p1, jobX) (p2, jobX) (p3, jobX) vl kl K (JL 0 (by exact Nat.le_of_ble_eq_true rfl)) (JL 1 (by exact Nat.le_of_ble_eq_true rfl)) (JL 2 (by exact Nat.le_of_ble_eq_true rfl)) (by exact Nat.le_of_ble_eq_true rfl) (by exact Nat.le_of_ble_eq_true rfl) (by exact Nat.le_of_ble_eq_true rfl) taskX.racks vr kr ⟨1, 10⟩ (by decide)) fun v143 s143 R143 => ?_
    obtain ⟨va, vb, vr1, vr2, ka, k1, k2, k3, kr1, w1, w2, w3, rfl, rfl, ⟨OA, ob, O1, O2, O3⟩, or2, ORR⟩ := R143
    dsimp only [lcA, lnA]
    dsimp only at OA O1 O2 O3
    have ba0 : Int.toNat 0 < ([(w1, jobX), (w2, jobX), (w3, jobX)] : List (Value × PJob)).length := by exact Nat.le_of_ble_eq_true rfl
    have ba1 : Int.toNat 1 < ([(w1, jobX), (w2, jobX), (w3, jobX)] : List (Value × PJob)).length := by exact Nat.le_of_ble_eq_true rfl
    have ba2 : Int.toNat 2 < ([(w1, jobX), (w2, jobX), (w3, jobX)] : List (Value × PJob)).length := by exact Nat.le_of_ble_eq_true rfl
    have bd0 : Int.toNat 0 < jobX.draws.length := by exact Nat.le_of_ble_eq_true rfl
    have bd1 : Int.toNat 1 < jobX.draws.length := by exact Nat.le_of_ble_eq_true rfl
    have br0 : Int.toNat 0 < taskX.racks.length := by exact Nat.le_of_ble_eq_true rfl
    have oa0 : ∀ off, One (pat va 6 (Int.toNat 0) off) := fun off => pat_oneP (OArr.arr (s := OA)) ba0 off
    have oa2 : ∀ off, One (pat va 6 (Int.toNat 2) off) := fun off => pat_oneP (OArr.arr (s := OA)) ba2 off
    have od0 : ∀ off, One (pat w2 2 (Int.toNat 0) off) := fun off => pat_oneP (OArr.arr (s := O2)) bd0 off
    have od1 : ∀ off, One (pat w2 2 (Int.toNat 1) off) := fun off => pat_oneP (OArr.arr (s := O2)) bd1 off
    have ork0 : ∀ off, One (pat vr1 5 (Int.toNat 0) off) := fun off => pat_oneP (OArr.arr (s := ORR)) br0 off
    refine XO.q (Q.move rfl) ?_
    refine XO.q (Q.extract rfl rfl) ?_
    refine XO.q (Q.extract rfl rfl) ?_
    refine XO.alloc fun b9 => ?_
    refine XO.alloc fun b10 => ?_
    refine XO.st rfl rfl rfl ?_
    refine XO.st rfl rfl rfl ?_
    refine XO.done (XK.seq ?_)
    refine XK.meet (X := List (Value × PJob) × List PRack × PRat × PHeap × PHeap × PHeap) [146, 147, 148, 149, 150, 151, 152, 153, 154, 155, 156, 157, 158, 159, 160, 161, 162, 163, 164, 165, 166, 167, 168, 169, 170, 171, 172, 173, 174, 175, 176, 177, 178, 179, 180, 181, 182, 183, 184, 185, 186, 187, 188, 189, 190, 191, 192, 193, 194, 195, 196, 197, 198, 199, 200] (fun ⟨a, rs, m, ka2, K2, kr2⟩ => []) (fun ⟨a, rs, m, ka2, K2, kr2⟩ => [blk b9 [va, vr1, .int .i64 m.n, .int .i64 m.d] 27, ka2, K2, kr2]) (fun ⟨a, rs, m, ka2, K2, kr2⟩ => OArr va encPJ 6 41 ka2 a ∧ JobsK a K2 ∧ OArr vr1 encRack 5 43 kr2 rs ∧ a.length = 3 ∧ DrawsB a ∧ rs.length = 1) [blk b9 [va, vr1, .int .i64 1, .int .i64 10] 27, ka, k1, k2, k3, kr1] ?_ ?_
    ·rintro ⟨a, rs, m, ka2, K2, kr2⟩ ⟨OA2, JA, OR2, la, DA, lrs⟩
     dsimp only [lcA, lnA]
     refine XK.seq ?_
     refine XK.drawn [0, 3, 4, 2, 6, 7, 8, 9, 10, 11, 12, 13, 14, 15, 16, 18, 19] [b9] [kr2] (.q 0 (.q 3 (.q 4 (.br 1 true (.q 2 (.br 5 true (.q 6 (.q 7 (.q 8 (.q 9 (.q 10 (.q 11 (.q 12 (.q 13 (.q 14 (.q 15 (.q 16 (.br 17 true (.q 18 (.q 19 .done)) .stop)))))))))))) .stop)) .stop)))) Tryz.mixed rfl (by kernel_rfl) ?_
     refine XT.q rfl rfl (Q.ldA [_, _, _, _] rfl rfl rfl) ?_
     refine XT.q rfl rfl (Q.move rfl) ?_
     refine XT.q rfl rfl (Q.move rfl) ?_
     refine XT.lit [_, _, _] [_, _, _] [0, -1, 0] encI rfl rfl (by rfl) (by rfl) rfl (by rfl) (by exact .c 0 1 rfl rfl rfl (.c 1 1 rfl rfl rfl (.c 2 1 rfl rfl rfl (.n _)))) (fun _ => rfl) (by rfl) rfl (by infer_instance) rfl (fun v202 h202 O202 => ⟨inferInstance, ?_⟩) XT.stop
     refine XT.q rfl rfl (Q.build [_, _, _] (.c 0 1 rfl rfl rfl (.n _))) ?_
     refine XT.call rfl rfl Tryz.call6 rfl rfl rfl (tasks_spec (jp0 := nB h202) a va ka2 K2 JA rs vr1 kr2 m (by first | omega | decide | (simp only [List.length_cons, List.length_nil]; omega) | (simp only [List.length_replicate]; omega)) DA (by first | omega | decide | (simp only [List.length_cons, List.length_nil]; omega) | (simp only [List.length_replicate]; omega)) [0, -1, 0] v202 h202 0 [] (.slice none 0 0) h202 (by first | omega | decide | (simp only [List.length_cons, List.length_nil]; omega) | (simp only [List.length_replicate]; omega)) (by first | omega | decide | (simp only [List.length_cons, List.length_nil]; omega) | (simp only [List.length_replicate]; omega)) x (i : Int)) (fun v206 s206 R206 => ?_) XT.stop
     obtain ⟨rfl, rfl⟩ := R206
     dsimp only [lcA, lnA]
     refine ⟨inferInstance, ?_⟩
     refine XT.q rfl rfl (Q.not rfl) ?_
     refine XT.q rfl rfl (Q.move rfl) ?_
     refine XT.q rfl rfl (Quiet.guardF rfl rfl fun g209 p209 => Q.fieldAddr rfl) ?_
     refine XT.q rfl rfl (Quiet.guardF rfl rfl fun g210 p210 => Q.ld (lzv rfl rfl) rfl) ?_
     refine XT.q rfl rfl (Quiet.guardF rfl rfl fun g211 p211 => Q.fieldAddr rfl) ?_
     refine XT.q rfl rfl (Quiet.guardF rfl rfl fun g212 p212 => Q.ld (lzv rfl rfl) rfl) ?_
     refine XT.q rfl rfl (Quiet.guardF rfl rfl fun g213 p213 => Q.ix (lzv rfl rfl) rfl (by omega) (by omega)) ?_
     refine XT.q rfl rfl (Quiet.guardF rfl rfl fun g214 p214 => Q.ldEA [_, _, _, _, _] (lzv rfl rfl) (by first | assumption | omega) rfl rfl) ?_
     refine XT.q rfl rfl (Quiet.guardF rfl rfl fun g215 p215 => Q.move rfl) ?_
     refine XT.q rfl rfl (Quiet.guardF rfl rfl fun g216 p216 => Q.fieldAddr rfl) ?_
     refine XT.q rfl rfl (Quiet.guardF rfl rfl fun g217 p217 => Q.ldA [_, _] (lzv rfl rfl) rfl rfl) ?_
     refine XT.callS rfl rfl rfl rfl rfl Tryz.call10 rfl (.c (lzv rfl rfl) (.c (lzv rfl rfl) (.c (lzv rfl rfl) (.c (lzv rfl rfl) .n)))) rfl (chances_spec a va ka2 K2 JA (by first | omega | decide | (simp only [List.length_cons, List.length_nil]; omega) | (simp only [List.length_replicate]; omega)) DA (rs.getD (Int.toNat 0) default) x m) (fun v218 s218 R218 => ?_) XT.stop
     obtain ⟨rfl, rfl⟩ := R218
     dsimp only [lcA, lnA]
     refine ⟨inferInstance, ?_⟩
     refine XT.q rfl rfl (Quiet.guardF rfl rfl fun g219 p219 => Q.not rfl) ?_
     refine XT.q rfl rfl (Q.or rfl (fun hp => lzv hp rfl)) ?_
     refine XT.done ?_
     refine XK.if rfl (fun c7 => ?_) (fun c7 => ?_)
     ·skip
      simp at c7
     ·skip
      refine XK.skip ?_
      refine XK.inBlock ?_
      refine XK.region rfl ?_
      refine XO.q (Q.add rfl rfl ⟨by omega, by omega⟩) ?_
      refine XO.q (Q.move rfl) (XO.done ?_)
      exact ih4 (k + 1) _ _ (by omega) (by first | omega | (dsimp only; omega)) (.c rfl (.base 178 rfl rfl)) inferInstance
    ·intro mtr27
     dsimp only [lcA, lnA] at mtr27
     refine XK.drawNet [0, 5, 10, 17, 24, 28, 32, 37, 41, 45, 46, 47, 48, 50, 53] [] [0, 5, 10, 17, 24, 28, 32, 37, 41, 45, 46, 47, 48, 50, 53] [([1, 2, 3, 4], 4, (.br 1 false (.br 2 false (.br 3 false (.br 4 false .done .stop) .stop) .stop) .stop)), ([6, 7, 8, 9], 9, (.br 6 false (.br 7 false (.br 8 false (.br 9 false .done .stop) .stop) .stop) .stop)), ([11, 12, 13, 14, 15, 16], 16, (.br 11 false (.br 12 false (.br 13 false (.br 14 false (.br 15 false (.br 16 false .done .stop) .stop) .stop) .stop) .stop) .stop)), ([18, 19, 20, 21, 22, 23], 23, (.br 18 false (.br 19 false (.br 20 false (.br 21 false (.br 22 false (.br 23 false .done .stop) .stop) .stop) .stop) .stop) .stop)), ([25, 26, 27], 27, (.br 25 false (.br 26 false (.br 27 false .done .stop) .stop) .stop)), ([29, 30, 31], 31, (.br 29 false (.br 30 false (.br 31 false .done .stop) .stop) .stop)), ([33, 34, 35, 36], 36, (.br 33 false (.br 34 false (.br 35 false (.br 36 false .done .stop) .stop) .stop) .stop)), ([38, 39, 40], 40, (.br 38 false (.br 39 false (.br 40 false .done .stop) .stop) .stop)), ([42, 43, 44], 44, (.br 42 false (.br 43 false (.br 44 false .done .stop) .stop) .stop))] [147, 148, 149, 150, 152, 153, 154, 155, 157, 158, 159, 160, 161, 162, 164, 165, 166, 167, 168, 169, 171, 172, 173, 175, 176, 177, 179, 180, 181, 182, 184, 185, 186, 188, 189, 190] (.br 49 true (.br 51 true (.br 52 true (.br 54 false (.br 55 false .done .stop) .stop) .stop) .stop) .stop) Tryz.mixed rfl (by kernel_rfl) inferInstance ?_
     refine XQ.q rfl rfl (Q.fieldAddr rfl) ?_
     refine XQ.q rfl rfl (Q.fieldAddr rfl) ?_
     refine XQ.q rfl rfl (Q.fieldAddr rfl) ?_
     refine XQ.q rfl rfl (Q.fieldAddr rfl) ?_
     refine XQ.q rfl rfl (Q.fieldAddr rfl) ?_
     refine XQ.q rfl rfl (Q.fieldAddr rfl) ?_
     refine XQ.q rfl rfl (Q.fieldAddr rfl) ?_
     refine XQ.q rfl rfl (Q.fieldAddr rfl) ?_
     refine XQ.q rfl rfl (Q.fieldAddr rfl) ?_
     refine XQ.q rfl rfl (Q.fieldAddr rfl) ?_
     refine XQ.q rfl rfl (Q.fieldAddr rfl) ?_
     refine XQ.q rfl rfl (Q.fieldAddr rfl) ?_
     refine XQ.q rfl rfl (Q.fieldAddr rfl) ?_
     refine XQ.q rfl rfl (Q.move rfl) ?_
     refine XQ.q rfl rfl (Q.move rfl) ?_
     refine XQ.nil ?_
     refine XN.intro [fun el ol => el = [(150, some (pat va 6 (Int.toNat 0) (0 + 0 + (Int.toNat 0) * 1))), (149, some (pat va 6 (Int.toNat 0) (0 + 0))), (148, some (pat va 6 (Int.toNat 0) 0)), (147, some (va))] ∧ ol = [], fun el ol => el = [(155, some (pat va 6 (Int.toNat 0) (0 + 0 + (Int.toNat 2) * 1))), (154, some (pat va 6 (Int.toNat 0) (0 + 0))), (153, some (pat va 6 (Int.toNat 0) 0)), (152, some (va))] ∧ ol = [], fun el ol => el = [(162, some (pat w2 2 (Int.toNat 0) (0 + 0))), (161, some (pat w2 2 (Int.toNat 0) 0)), (160, some (w2)), (159, some (pat va 6 (Int.toNat 1) (0 + 3))), (158, some (pat va 6 (Int.toNat 1) 0)), (157, some (va))] ∧ ol = [], fun el ol => el = [(169, some (pat w2 2 (Int.toNat 1) (0 + 1))), (168, some (pat w2 2 (Int.toNat 1) 0)), (167, some (w2)), (166, some (pat va 6 (Int.toNat 1) (0 + 3))), (165, some (pat va 6 (Int.toNat 1) 0)), (164, some (va))] ∧ ol = [], fun el ol => el = [(173, some (pat va 6 (Int.toNat 2) (0 + 4))), (172, some (pat va 6 (Int.toNat 2) 0)), (171, some (va))] ∧ ol = [], fun el ol => el = [(177, some (pat va 6 (Int.toNat 2) (0 + 5))), (176, some (pat va 6 (Int.toNat 2) 0)), (175, some (va))] ∧ ol = [], fun el ol => el = [(182, some (pat vr1 5 (Int.toNat 0) (0 + 0 + (Int.toNat 1) * 1))), (181, some (pat vr1 5 (Int.toNat 0) (0 + 0))), (180, some (pat vr1 5 (Int.toNat 0) 0)), (179, some (vr1))] ∧ ol = [], fun el ol => el = [(186, some (pat vr1 5 (Int.toNat 0) (0 + 3))), (185, some (pat vr1 5 (Int.toNat 0) 0)), (184, some (vr1))] ∧ ol = [], fun el ol => el = [(190, some (pat vr1 5 (Int.toNat 0) (0 + 4))), (189, some (pat vr1 5 (Int.toNat 0) 0)), (188, some (vr1))] ∧ ol = []] (CTs.cons ?_ (CTs.cons ?_ (CTs.cons ?_ (CTs.cons ?_ (CTs.cons ?_ (CTs.cons ?_ (CTs.cons ?_ (CTs.cons ?_ (CTs.cons ?_ (CTs.nil)))))))))) ?_
     ·have _tn := True.intro
      dsimp only [List.cons_append, List.nil_append, List.append_nil]
      refine CT.qs rfl rfl (Q.ld rfl rfl) ?_ CT.stop
      refine CT.qs rfl rfl (Q.ix rfl rfl (by omega) (by show (0 : Int) < 3; decide)) ?_ CT.stop
      refine CT.qs rfl rfl (Q.fieldQ rfl (by first | assumption | omega)) ?_ CT.stop
      refine CT.qs rfl rfl (Q.ixE rfl (by first | assumption | omega) rfl (by omega) (by omega)) ?_ CT.stop
      refine CT.done ?_
      exact ⟨rfl, rfl⟩
     ·have _tn := True.intro
      dsimp only [List.cons_append, List.nil_append, List.append_nil]
      refine CT.qs rfl rfl (Q.ld rfl rfl) ?_ CT.stop
      refine CT.qs rfl rfl (Q.ix rfl rfl (by omega) (by show (0 : Int) < 3; decide)) ?_ CT.stop
      refine CT.qs rfl rfl (Q.fieldQ rfl (by first | assumption | omega)) ?_ CT.stop
      refine CT.qs rfl rfl (Q.ixE rfl (by first | assumption | omega) rfl (by omega) (by omega)) ?_ CT.stop
      refine CT.done ?_
      exact ⟨rfl, rfl⟩
     ·have _tn := True.intro
      dsimp only [List.cons_append, List.nil_append, List.append_nil]
      refine CT.qs rfl rfl (Q.ld rfl rfl) ?_ CT.stop
      refine CT.qs rfl rfl (Q.ix rfl rfl (by omega) (by show (1 : Int) < 3; decide)) ?_ CT.stop
      refine CT.qs rfl rfl (Q.fieldQ rfl (by first | assumption | omega)) ?_ CT.stop
      refine CT.qs rfl rfl (Q.ldE rfl (by first | assumption | omega) rfl) ?_ CT.stop
      rw [show (([(w1, jobX), (w2, jobX), (w3, jobX)] : List (Value × PJob)).getD (Int.toNat 1) default).1 = w2 from rfl]
      refine CT.qs rfl rfl (Q.ix rfl rfl (by omega) (by show (0 : Int) < 2; decide)) ?_ CT.stop
      refine CT.qs rfl rfl (Q.fieldQ rfl (by first | assumption | omega)) ?_ CT.stop
      refine CT.done ?_
      exact ⟨rfl, rfl⟩
     ·have _tn := True.intro
      dsimp only [List.cons_append, List.nil_append, List.append_nil]
      refine CT.qs rfl rfl (Q.ld rfl rfl) ?_ CT.stop
      refine CT.qs rfl rfl (Q.ix rfl rfl (by omega) (by show (1 : Int) < 3; decide)) ?_ CT.stop
      refine CT.qs rfl rfl (Q.fieldQ rfl (by first | assumption | omega)) ?_ CT.stop
      refine CT.qs rfl rfl (Q.ldE rfl (by first | assumption | omega) rfl) ?_ CT.stop
      rw [show (([(w1, jobX), (w2, jobX), (w3, jobX)] : List (Value × PJob)).getD (Int.toNat 1) default).1 = w2 from rfl]
      refine CT.qs rfl rfl (Q.ix rfl rfl (by omega) (by show (1 : Int) < 2; decide)) ?_ CT.stop
      refine CT.qs rfl rfl (Q.fieldQ rfl (by first | assumption | omega)) ?_ CT.stop
      refine CT.done ?_
      exact ⟨rfl, rfl⟩
     ·have _tn := True.intro
      dsimp only [List.cons_append, List.nil_append, List.append_nil]
      refine CT.qs rfl rfl (Q.ld rfl rfl) ?_ CT.stop
      refine CT.qs rfl rfl (Q.ix rfl rfl (by omega) (by show (2 : Int) < 3; decide)) ?_ CT.stop
      refine CT.qs rfl rfl (Q.fieldQ rfl (by first | assumption | omega)) ?_ CT.stop
      refine CT.done ?_
      exact ⟨rfl, rfl⟩
     ·have _tn := True.intro
      dsimp only [List.cons_append, List.nil_append, List.append_nil]
      refine CT.qs rfl rfl (Q.ld rfl rfl) ?_ CT.stop
      refine CT.qs rfl rfl (Q.ix rfl rfl (by omega) (by show (2 : Int) < 3; decide)) ?_ CT.stop
      refine CT.qs rfl rfl (Q.fieldQ rfl (by first | assumption | omega)) ?_ CT.stop
      refine CT.done ?_
      exact ⟨rfl, rfl⟩
     ·have _tn := True.intro
      dsimp only [List.cons_append, List.nil_append, List.append_nil]
      refine CT.qs rfl rfl (Q.ld rfl rfl) ?_ CT.stop
      refine CT.qs rfl rfl (Q.ix rfl rfl (by omega) (by show (0 : Int) < 1; decide)) ?_ CT.stop
      refine CT.qs rfl rfl (Q.fieldQ rfl (by first | assumption | omega)) ?_ CT.stop
      refine CT.qs rfl rfl (Q.ixE rfl (by first | assumption | omega) rfl (by omega) (by omega)) ?_ CT.stop
      refine CT.done ?_
      exact ⟨rfl, rfl⟩
     ·have _tn := True.intro
      dsimp only [List.cons_append, List.nil_append, List.append_nil]
      refine CT.qs rfl rfl (Q.ld rfl rfl) ?_ CT.stop
      refine CT.qs rfl rfl (Q.ix rfl rfl (by omega) (by show (0 : Int) < 1; decide)) ?_ CT.stop
      refine CT.qs rfl rfl (Q.fieldQ rfl (by first | assumption | omega)) ?_ CT.stop
      refine CT.done ?_
      exact ⟨rfl, rfl⟩
     ·have _tn := True.intro
      dsimp only [List.cons_append, List.nil_append, List.append_nil]
      refine CT.qs rfl rfl (Q.ld rfl rfl) ?_ CT.stop
      refine CT.qs rfl rfl (Q.ix rfl rfl (by omega) (by show (0 : Int) < 1; decide)) ?_ CT.stop
      refine CT.qs rfl rfl (Q.fieldQ rfl (by first | assumption | omega)) ?_ CT.stop
      refine CT.done ?_
      exact ⟨rfl, rfl⟩
     rintro _ _ ⟨rfl, rfl⟩
     rintro _ _ ⟨rfl, rfl⟩
     rintro _ _ ⟨rfl, rfl⟩
     rintro _ _ ⟨rfl, rfl⟩
     rintro _ _ ⟨rfl, rfl⟩
     rintro _ _ ⟨rfl, rfl⟩
     rintro _ _ ⟨rfl, rfl⟩
     rintro _ _ ⟨rfl, rfl⟩
     rintro _ _ ⟨rfl, rfl⟩
     dsimp only [FinAll, List.cons_append, List.nil_append, List.append_nil]
     refine XT.lit [_, _, _, _, _, _, _, _, _, _, _] [_, _, _, _, _, _, _, _, _, _, _] [_, _, _, _, _, _, _, _, _, _, _] encV rfl rfl (by rfl) (by rfl) rfl (by rfl) (by exact .c 0 1 rfl rfl rfl (.c 1 1 rfl rfl rfl (.c 2 1 rfl rfl rfl (.c 3 1 rfl rfl rfl (.c 4 1 rfl rfl rfl (.c 5 1 rfl rfl rfl (.c 6 1 rfl rfl rfl (.c 7 1 rfl rfl rfl (.c 8 1 rfl rfl rfl (.c 9 1 rfl rfl rfl (.c 10 1 rfl rfl rfl (.n _)))))))))))) (fun _ => rfl) (by rfl) rfl (by infer_instance) rfl (fun v195 h195 O195 => ⟨inferInstance, ?_⟩) XT.stop
     refine XT.qs rfl rfl (Q.ix rfl rfl (by omega) (by show (i : Int) < 11; omega)) ⟨inferInstance, ?_⟩ XT.stop
     refine XT.qs rfl rfl (Q.ldE rfl (by show (i : Nat) < 11; omega) rfl) ⟨inferInstance, ?_⟩ XT.stop
     rcases (show i = 0 ∨ i = 1 ∨ i = 2 ∨ i = 3 ∨ i = 4 ∨ i = 5 ∨ i = 6 ∨ i = 7 ∨ i = 8 ∨ i = 9 ∨ i = 10 by omega) with rfl | rfl | rfl | rfl | rfl | rfl | rfl | rfl | rfl | rfl | rfl
     ·have _ts := True.intro
      refine XT.qs rfl rfl (Q.nilCheckE rfl (by first | assumption | omega)) ⟨inferInstance, ?_⟩ XT.stop
      refine XT.stE (w1, (⟨x, jobX.n1, jobX.n2, jobX.draws, jobX.group, jobX.worth⟩ : PJob)) rfl rfl rfl rfl rfl (by assumption) rfl rfl (fun h27_55 O27_55 => ⟨inferInstance, ?_⟩) XT.stop
      refine XT.done ?_
      refine XK.cat k1 k2 fun q1 q2 => ?_
      refine XK.cat (cat k1 k2) k3 fun q3 q4 => ?_
      exact mtr27 (([(w1, (⟨x, jobX.n1, jobX.n2, jobX.draws, jobX.group, jobX.worth⟩ : PJob)), (w2, jobX), (w3, jobX)], taskX.racks, ⟨1, 10⟩, h27_55, (cat (cat k1 k2) k3), kr1)) _ _ ⟨O27_55, jobsK3 (x1 := (w1, (⟨x, jobX.n1, jobX.n2, jobX.draws, jobX.group, jobX.worth⟩ : PJob))) (x2 := (w2, jobX)) (x3 := (w3, jobX)) (OArr.arr (s := O1)) (OArr.arr (s := O2)) (OArr.arr (s := O3)) q1 q2 q3 q4, ORR, rfl, .cons (by exact Nat.le_of_ble_eq_true rfl) (.cons (by exact Nat.le_of_ble_eq_true rfl) (.cons (by exact Nat.le_of_ble_eq_true rfl) .nil)), rfl⟩ (.base 91 rfl rfl) inferInstance
     ·have _ts := True.intro
      refine XT.qs rfl rfl (Q.nilCheckE rfl (by first | assumption | omega)) ⟨inferInstance, ?_⟩ XT.stop
      refine XT.stE (w1, (⟨jobX.n0, jobX.n1, x, jobX.draws, jobX.group, jobX.worth⟩ : PJob)) rfl rfl rfl rfl rfl (by assumption) rfl rfl (fun h27_55 O27_55 => ⟨inferInstance, ?_⟩) XT.stop
      refine XT.done ?_
      refine XK.cat k1 k2 fun q1 q2 => ?_
      refine XK.cat (cat k1 k2) k3 fun q3 q4 => ?_
      exact mtr27 (([(w1, (⟨jobX.n0, jobX.n1, x, jobX.draws, jobX.group, jobX.worth⟩ : PJob)), (w2, jobX), (w3, jobX)], taskX.racks, ⟨1, 10⟩, h27_55, (cat (cat k1 k2) k3), kr1)) _ _ ⟨O27_55, jobsK3 (x1 := (w1, (⟨jobX.n0, jobX.n1, x, jobX.draws, jobX.group, jobX.worth⟩ : PJob))) (x2 := (w2, jobX)) (x3 := (w3, jobX)) (OArr.arr (s := O1)) (OArr.arr (s := O2)) (OArr.arr (s := O3)) q1 q2 q3 q4, ORR, rfl, .cons (by exact Nat.le_of_ble_eq_true rfl) (.cons (by exact Nat.le_of_ble_eq_true rfl) (.cons (by exact Nat.le_of_ble_eq_true rfl) .nil)), rfl⟩ (.base 91 rfl rfl) inferInstance
     ·have _ts := True.intro
      refine XT.qs rfl rfl (Q.nilCheckE rfl (by first | assumption | omega)) ⟨inferInstance, ?_⟩ XT.stop
      refine XT.stE (⟨x, 3⟩ : PDraw) rfl rfl rfl rfl rfl (by assumption) rfl rfl (fun h27_55 O27_55 => ⟨inferInstance, ?_⟩) XT.stop
      refine XT.done ?_
      refine XK.cat k1 h27_55 fun q1 q2 => ?_
      refine XK.cat (cat k1 h27_55) k3 fun q3 q4 => ?_
      exact mtr27 (([(w1, jobX), (w2, (⟨jobX.n0, jobX.n1, jobX.n2, [⟨x, 3⟩, ⟨200, 1⟩], jobX.group, jobX.worth⟩ : PJob)), (w3, jobX)], taskX.racks, ⟨1, 10⟩, ka, (cat (cat k1 h27_55) k3), kr1)) _ _ ⟨OArr.recode OA rfl, jobsK3 (x1 := (w1, jobX)) (x2 := (w2, (⟨jobX.n0, jobX.n1, jobX.n2, [⟨x, 3⟩, ⟨200, 1⟩], jobX.group, jobX.worth⟩ : PJob))) (x3 := (w3, jobX)) (OArr.arr (s := O1)) (OArr.arr (s := O27_55)) (OArr.arr (s := O3)) q1 q2 q3 q4, ORR, rfl, .cons (by exact Nat.le_of_ble_eq_true rfl) (.cons (by exact Nat.le_of_ble_eq_true rfl) (.cons (by exact Nat.le_of_ble_eq_true rfl) .nil)), rfl⟩ (.base 91 rfl rfl) inferInstance
     ·have _ts := True.intro
      refine XT.qs rfl rfl (Q.nilCheckE rfl (by first | assumption | omega)) ⟨inferInstance, ?_⟩ XT.stop
      refine XT.stE (⟨200, x⟩ : PDraw) rfl rfl rfl rfl rfl (by assumption) rfl rfl (fun h27_55 O27_55 => ⟨inferInstance, ?_⟩) XT.stop
      refine XT.done ?_
      refine XK.cat k1 h27_55 fun q1 q2 => ?_
      refine XK.cat (cat k1 h27_55) k3 fun q3 q4 => ?_
      exact mtr27 (([(w1, jobX), (w2, (⟨jobX.n0, jobX.n1, jobX.n2, [⟨100, 3⟩, ⟨200, x⟩], jobX.group, jobX.worth⟩ : PJob)), (w3, jobX)], taskX.racks, ⟨1, 10⟩, ka, (cat (cat k1 h27_55) k3), kr1)) _ _ ⟨OArr.recode OA rfl, jobsK3 (x1 := (w1, jobX)) (x2 := (w2, (⟨jobX.n0, jobX.n1, jobX.n2, [⟨100, 3⟩, ⟨200, x⟩], jobX.group, jobX.worth⟩ : PJob))) (x3 := (w3, jobX)) (OArr.arr (s := O1)) (OArr.arr (s := O27_55)) (OArr.arr (s := O3)) q1 q2 q3 q4, ORR, rfl, .cons (by exact Nat.le_of_ble_eq_true rfl) (.cons (by exact Nat.le_of_ble_eq_true rfl) (.cons (by exact Nat.le_of_ble_eq_true rfl) .nil)), rfl⟩ (.base 91 rfl rfl) inferInstance
     ·have _ts := True.intro
      refine XT.qs rfl rfl (Q.nilCheckE rfl (by first | assumption | omega)) ⟨inferInstance, ?_⟩ XT.stop
      refine XT.stE (w3, (⟨jobX.n0, jobX.n1, jobX.n2, jobX.draws, x, jobX.worth⟩ : PJob)) rfl rfl rfl rfl rfl (by assumption) rfl rfl (fun h27_55 O27_55 => ⟨inferInstance, ?_⟩) XT.stop
      refine XT.done ?_
      refine XK.cat k1 k2 fun q1 q2 => ?_
      refine XK.cat (cat k1 k2) k3 fun q3 q4 => ?_
      exact mtr27 (([(w1, jobX), (w2, jobX), (w3, (⟨jobX.n0, jobX.n1, jobX.n2, jobX.draws, x, jobX.worth⟩ : PJob))], taskX.racks, ⟨1, 10⟩, h27_55, (cat (cat k1 k2) k3), kr1)) _ _ ⟨O27_55, jobsK3 (x1 := (w1, jobX)) (x2 := (w2, jobX)) (x3 := (w3, (⟨jobX.n0, jobX.n1, jobX.n2, jobX.draws, x, jobX.worth⟩ : PJob))) (OArr.arr (s := O1)) (OArr.arr (s := O2)) (OArr.arr (s := O3)) q1 q2 q3 q4, ORR, rfl, .cons (by exact Nat.le_of_ble_eq_true rfl) (.cons (by exact Nat.le_of_ble_eq_true rfl) (.cons (by exact Nat.le_of_ble_eq_true rfl) .nil)), rfl⟩ (.base 91 rfl rfl) inferInstance
     ·have _ts := True.intro
      refine XT.qs rfl rfl (Q.nilCheckE rfl (by first | assumption | omega)) ⟨inferInstance, ?_⟩ XT.stop
      refine XT.stE (w3, (⟨jobX.n0, jobX.n1, jobX.n2, jobX.draws, jobX.group, x⟩ : PJob)) rfl rfl rfl rfl rfl (by assumption) rfl rfl (fun h27_55 O27_55 => ⟨inferInstance, ?_⟩) XT.stop
      refine XT.done ?_
      refine XK.cat k1 k2 fun q1 q2 => ?_
      refine XK.cat (cat k1 k2) k3 fun q3 q4 => ?_
      exact mtr27 (([(w1, jobX), (w2, jobX), (w3, (⟨jobX.n0, jobX.n1, jobX.n2, jobX.draws, jobX.group, x⟩ : PJob))], taskX.racks, ⟨1, 10⟩, h27_55, (cat (cat k1 k2) k3), kr1)) _ _ ⟨O27_55, jobsK3 (x1 := (w1, jobX)) (x2 := (w2, jobX)) (x3 := (w3, (⟨jobX.n0, jobX.n1, jobX.n2, jobX.draws, jobX.group, x⟩ : PJob))) (OArr.arr (s := O1)) (OArr.arr (s := O2)) (OArr.arr (s := O3)) q1 q2 q3 q4, ORR, rfl, .cons (by exact Nat.le_of_ble_eq_true rfl) (.cons (by exact Nat.le_of_ble_eq_true rfl) (.cons (by exact Nat.le_of_ble_eq_true rfl) .nil)), rfl⟩ (.base 91 rfl rfl) inferInstance
     ·have _ts := True.intro
      refine XT.qs rfl rfl (Q.nilCheckE rfl (by first | assumption | omega)) ⟨inferInstance, ?_⟩ XT.stop
      refine XT.stE (⟨(taskX.racks.getD 0 default).r0, x, (taskX.racks.getD 0 default).r2, (taskX.racks.getD 0 default).cap, (taskX.racks.getD 0 default).domain⟩ : PRack) rfl rfl rfl rfl rfl (by assumption) rfl rfl (fun h27_55 O27_55 => ⟨inferInstance, ?_⟩) XT.stop
      refine XT.done ?_
      refine XK.cat k1 k2 fun q1 q2 => ?_
      refine XK.cat (cat k1 k2) k3 fun q3 q4 => ?_
      exact mtr27 (([(w1, jobX), (w2, jobX), (w3, jobX)], [(⟨(taskX.racks.getD 0 default).r0, x, (taskX.racks.getD 0 default).r2, (taskX.racks.getD 0 default).cap, (taskX.racks.getD 0 default).domain⟩ : PRack)], ⟨1, 10⟩, ka, (cat (cat k1 k2) k3), h27_55)) _ _ ⟨OA, jobsK3 (x1 := (w1, jobX)) (x2 := (w2, jobX)) (x3 := (w3, jobX)) (OArr.arr (s := O1)) (OArr.arr (s := O2)) (OArr.arr (s := O3)) q1 q2 q3 q4, O27_55, rfl, .cons (by exact Nat.le_of_ble_eq_true rfl) (.cons (by exact Nat.le_of_ble_eq_true rfl) (.cons (by exact Nat.le_of_ble_eq_true rfl) .nil)), rfl⟩ (.base 91 rfl rfl) inferInstance
     ·have _ts := True.intro
      refine XT.qs rfl rfl (Q.nilCheckE rfl (by first | assumption | omega)) ⟨inferInstance, ?_⟩ XT.stop
      refine XT.stE (⟨(taskX.racks.getD 0 default).r0, (taskX.racks.getD 0 default).r1, (taskX.racks.getD 0 default).r2, x, (taskX.racks.getD 0 default).domain⟩ : PRack) rfl rfl rfl rfl rfl (by assumption) rfl rfl (fun h27_55 O27_55 => ⟨inferInstance, ?_⟩) XT.stop
      refine XT.done ?_
      refine XK.cat k1 k2 fun q1 q2 => ?_
      refine XK.cat (cat k1 k2) k3 fun q3 q4 => ?_
      exact mtr27 (([(w1, jobX), (w2, jobX), (w3, jobX)], [(⟨(taskX.racks.getD 0 default).r0, (taskX.racks.getD 0 default).r1, (taskX.racks.getD 0 default).r2, x, (taskX.racks.getD 0 default).domain⟩ : PRack)], ⟨1, 10⟩, ka, (cat (cat k1 k2) k3), h27_55)) _ _ ⟨OA, jobsK3 (x1 := (w1, jobX)) (x2 := (w2, jobX)) (x3 := (w3, jobX)) (OArr.arr (s := O1)) (OArr.arr (s := O2)) (OArr.arr (s := O3)) q1 q2 q3 q4, O27_55, rfl, .cons (by exact Nat.le_of_ble_eq_true rfl) (.cons (by exact Nat.le_of_ble_eq_true rfl) (.cons (by exact Nat.le_of_ble_eq_true rfl) .nil)), rfl⟩ (.base 91 rfl rfl) inferInstance
     ·have _ts := True.intro
      refine XT.qs rfl rfl (Q.nilCheckE rfl (by first | assumption | omega)) ⟨inferInstance, ?_⟩ XT.stop
      refine XT.stE (⟨(taskX.racks.getD 0 default).r0, (taskX.racks.getD 0 default).r1, (taskX.racks.getD 0 default).r2, (taskX.racks.getD 0 default).cap, x⟩ : PRack) rfl rfl rfl rfl rfl (by assumption) rfl rfl (fun h27_55 O27_55 => ⟨inferInstance, ?_⟩) XT.stop
      refine XT.done ?_
      refine XK.cat k1 k2 fun q1 q2 => ?_
      refine XK.cat (cat k1 k2) k3 fun q3 q4 => ?_
      exact mtr27 (([(w1, jobX), (w2, jobX), (w3, jobX)], [(⟨(taskX.racks.getD 0 default).r0, (taskX.racks.getD 0 default).r1, (taskX.racks.getD 0 default).r2, (taskX.racks.getD 0 default).cap, x⟩ : PRack)], ⟨1, 10⟩, ka, (cat (cat k1 k2) k3), h27_55)) _ _ ⟨OA, jobsK3 (x1 := (w1, jobX)) (x2 := (w2, jobX)) (x3 := (w3, jobX)) (OArr.arr (s := O1)) (OArr.arr (s := O2)) (OArr.arr (s := O3)) q1 q2 q3 q4, O27_55, rfl, .cons (by exact Nat.le_of_ble_eq_true rfl) (.cons (by exact Nat.le_of_ble_eq_true rfl) (.cons (by exact Nat.le_of_ble_eq_true rfl) .nil)), rfl⟩ (.base 91 rfl rfl) inferInstance
     ·have _ts := True.intro
      refine XT.qs rfl rfl (Q.nilCheck rfl) ⟨inferInstance, ?_⟩ XT.stop
      refine XT.st rfl rfl rfl rfl rfl ⟨inferInstance, ?_⟩ XT.stop
      refine XT.done ?_
      refine XK.cat k1 k2 fun q1 q2 => ?_
      refine XK.cat (cat k1 k2) k3 fun q3 q4 => ?_
      exact mtr27 (([(w1, jobX), (w2, jobX), (w3, jobX)], taskX.racks, ⟨x, 10⟩, ka, (cat (cat k1 k2) k3), kr1)) _ _ ⟨OA, jobsK3 (x1 := (w1, jobX)) (x2 := (w2, jobX)) (x3 := (w3, jobX)) (OArr.arr (s := O1)) (OArr.arr (s := O2)) (OArr.arr (s := O3)) q1 q2 q3 q4, ORR, rfl, .cons (by exact Nat.le_of_ble_eq_true rfl) (.cons (by exact Nat.le_of_ble_eq_true rfl) (.cons (by exact Nat.le_of_ble_eq_true rfl) .nil)), rfl⟩ (.base 91 rfl rfl) inferInstance
     ·have _ts := True.intro
      refine XT.qs rfl rfl (Q.nilCheck rfl) ⟨inferInstance, ?_⟩ XT.stop
      refine XT.st rfl rfl rfl rfl rfl ⟨inferInstance, ?_⟩ XT.stop
      refine XT.done ?_
      refine XK.cat k1 k2 fun q1 q2 => ?_
      refine XK.cat (cat k1 k2) k3 fun q3 q4 => ?_
      exact mtr27 (([(w1, jobX), (w2, jobX), (w3, jobX)], taskX.racks, ⟨1, x⟩, ka, (cat (cat k1 k2) k3), kr1)) _ _ ⟨OA, jobsK3 (x1 := (w1, jobX)) (x2 := (w2, jobX)) (x3 := (w3, jobX)) (OArr.arr (s := O1)) (OArr.arr (s := O2)) (OArr.arr (s := O3)) q1 q2 q3 q4, ORR, rfl, .cons (by exact Nat.le_of_ble_eq_true rfl) (.cons (by exact Nat.le_of_ble_eq_true rfl) (.cons (by exact Nat.le_of_ble_eq_true rfl) .nil)), rfl⟩ (.base 91 rfl rfl) inferInstance
   ·skip
    refine XK.exit rfl ?_
    refine XK.inBlock ?_
    refine XK.region rfl ?_
    refine XO.q (Q.add rfl rfl ⟨by omega, by omega⟩) ?_
    refine XO.q (Q.move rfl) (XO.done ?_)
    exact ih3 (i + 1) _ _ (by omega) (by first | omega | (dsimp only; omega)) (.c rfl (.base 196 rfl rfl)) inferInstance
  ·skip
   refine XK.exit rfl ?_
   refine XK.seq (XK.seq (XK.region rfl ?_))
   refine XO.q (Q.build [_, _] (.c 0 1 rfl rfl rfl (.c 1 1 rfl rfl rfl (.n _)))) ?_
   refine XO.q (Q.build [_, _] (.c 0 1 rfl rfl rfl (.c 1 1 rfl rfl rfl (.n _)))) ?_
   refine XO.q (Q.build [_, _] (.c 0 1 rfl rfl rfl (.c 1 1 rfl rfl rfl (.n _)))) ?_
   refine XO.q (Q.build [_, _] (.c 0 1 rfl rfl rfl (.c 1 1 rfl rfl rfl (.n _)))) ?_
   refine XO.q (Q.build [_, _] (.c 0 1 rfl rfl rfl (.c 1 1 rfl rfl rfl (.n _)))) ?_
   refine XO.q (Q.build [_, _] (.c 0 1 rfl rfl rfl (.c 1 1 rfl rfl rfl (.n _)))) ?_
   refine XO.q (Q.build [_, _] (.n _)) ?_
   refine XO.lit [_, _, _, _, _, _, _, _, _, _, _, _, _, _] [_, _, _, _, _, _, _, _, _, _, _, _, _, _] [⟨2, 4⟩, ⟨1, 1⟩, ⟨0, 2⟩, ⟨3, 2⟩, ⟨-1, 2⟩, ⟨1, -2⟩, ⟨0, 0⟩] encRat (by rfl) (by rfl) rfl (by rfl) (by exact .c 0 2 rfl rfl rfl (.c 2 2 rfl rfl rfl (.c 4 2 rfl rfl rfl (.c 6 2 rfl rfl rfl (.c 8 2 rfl rfl rfl (.c 10 2 rfl rfl rfl (.c 12 2 rfl rfl rfl (.n _)))))))) (fun _ => rfl) (by rfl) rfl (by infer_instance) rfl fun v230 h230 O230 => ?_
   refine XO.len rfl fun l231 => ?_
   rw [show ((([⟨2, 4⟩, ⟨1, 1⟩, ⟨0, 2⟩, ⟨3, 2⟩, ⟨-1, 2⟩, ⟨1, -2⟩, ⟨0, 0⟩] : List PRat).length : Nat) : Int) = 7 from rfl]
   refine XO.q (Q.move rfl) (XO.done (XK.block ?_))
   refine XK.while (X := Nat) [0, 12, 13, 232, 233, 234, 235, 236, 237, 238, 239, 240, 241, 242, 243, 244, 245, 246, 247, 248, 249, 250, 251, 252, 253, 254] (fun k => [(232, some (.int .i64 (k : Nat)))]) (fun k => []) (fun k => k ≤ 7) (fun k => 7 - k) (0) [] rfl (by omega) (.c rfl (.base 0 rfl rfl)) ?_
   rintro k hk ih5
   dsimp only [lcA, lnA] at ih5 ⊢
   refine XK.seq (XK.region rfl ?_)
   refine XO.q (Q.lss rfl rfl) ?_
   refine XO.done (XK.seq ?_)
   refine XK.if rfl (fun c8 => ?_) (fun c8 => ?_)
   ·skip
    refine XK.skip (XK.seq (XK.block (XK.seq (XK.region rfl ?_))))
    refine XO.ix rfl rfl (by omega) (by show (k : Int) < 7; omega) fun i234 => ?_
    refine XO.q (Q.ldEA [_, _] rfl (by first | assumption | omega) rfl rfl) ?_
    obtain ⟨c, ec⟩ : ∃ x : PRat, x = ([⟨2, 4⟩, ⟨1, 1⟩, ⟨0, 2⟩, ⟨3, 2⟩, ⟨-1, 2⟩, ⟨1, -2⟩, ⟨0, 0⟩] : List PRat).getD k default := ⟨_, rfl⟩
    rw [← ec]
    clear ec
    refine XO.alloc fun b12 => ?_
    refine XO.st rfl rfl rfl ?_
    refine XO.done (XK.seq (XK.region rfl ?_))
    refine XO.call Tryz.call9 rfl rfl rfl (task_spec) fun v236 s236 R236 => ?_
    obtain ⟨vl, vr, kl, K, kr, l, rfl, rfl, OL, JL, el, OR⟩ := R236
    dsimp only [lcA, lnA]
    obtain ⟨p1, p2, p3, rfl⟩ := list3 el
    have lp3 : ([(p1, jobX), (p2, jobX), (p3, jobX)] : List (Value × PJob)).length = 3 := rfl
    have br0 : Int.toNat 0 < taskX.racks.length := by exact Nat.le_of_ble_eq_true rfl
    refine XO.alloc fun b13 => ?_
    refine XO.st rfl rfl rfl ?_
    refine XO.done (XK.seq (XK.region rfl ?_))
    refine XO.q (Q.ldA [_, _] rfl rfl rfl) ?_
    refine XO.q (Q.fieldAddr rfl) ?_
    refine XO.st rfl rfl rfl ?_
    refine XO.done (XK.seq ?_)
    refine XK.drawn [0, 1, 3, 4, 5, 6, 7, 8, 9, 10, 11, 13, 14] [b13, b12] [kr] (.q 0 (.q 1 (.br 2 true (.q 3 (.q 4 (.q 5 (.q 6 (.q 7 (.q 8 (.q 9 (.q 10 (.q 11 (.br 12 true (.q 13 (.q 14 .done)) .stop)))))))))) .stop))) Tryz.mixed rfl (by kernel_rfl) ?_
    refine XT.q rfl rfl (Q.ldA [_, _, _, _] rfl rfl rfl) ?_
    refine XT.q rfl rfl (Q.build [_, _, _] (.n _)) ?_
    refine XT.call rfl rfl Tryz.call6 rfl rfl rfl (tasks_spec (jw0 := nI kl) (jp0 := nB kl) [(p1, jobX), (p2, jobX), (p3, jobX)] vl kl K JL taskX.racks vr kr c (by first | omega | decide | (simp only [List.length_cons, List.length_nil]; omega) | (simp only [List.length_replicate]; omega)) (DrawsB.cons (by exact Nat.le_of_ble_eq_true rfl) (DrawsB.cons (by exact Nat.le_of_ble_eq_true rfl) (DrawsB.cons (by exact Nat.le_of_ble_eq_true rfl) DrawsB.nil))) (by first | omega | decide | (simp only [List.length_cons, List.length_nil]; omega) | (simp only [List.length_replicate]; omega)) [] (.slice none 0 0) kl 0 [] (.slice none 0 0) kl (by first | omega | decide | (simp only [List.length_cons, List.length_nil]; omega) | (simp only [List.length_replicate]; omega)) (by first | omega | decide | (simp only [List.length_cons, List.length_nil]; omega) | (simp only [List.length_replicate]; omega)) 0 0) (fun v241 s241 R241 => ?_) XT.stop
    obtain ⟨rfl, rfl⟩ := R241
    dsimp only [lcA, lnA]
    refine ⟨inferInstance, ?_⟩
    refine XT.q rfl rfl (Q.not rfl) ?_
    refine XT.q rfl rfl (Q.move rfl) ?_
    refine XT.q rfl rfl (Quiet.guardF rfl rfl fun g244 p244 => Q.fieldAddr rfl) ?_
    refine XT.q rfl rfl (Quiet.guardF rfl rfl fun g245 p245 => Q.ld (lzv rfl rfl) rfl) ?_
    refine XT.q rfl rfl (Quiet.guardF rfl rfl fun g246 p246 => Q.fieldAddr rfl) ?_
    refine XT.q rfl rfl (Quiet.guardF rfl rfl fun g247 p247 => Q.ld (lzv rfl rfl) rfl) ?_
    refine XT.q rfl rfl (Quiet.guardF rfl rfl fun g248 p248 => Q.ix (lzv rfl rfl) rfl (by omega) (by show (0 : Int) < 1; decide)) ?_
    refine XT.q rfl rfl (Quiet.guardF rfl rfl fun g249 p249 => Q.ldEA [_, _, _, _, _] (lzv rfl rfl) (by first | assumption | omega) rfl rfl) ?_
    refine XT.q rfl rfl (Quiet.guardF rfl rfl fun g250 p250 => Q.ldA [_, _] rfl rfl rfl) ?_
    refine XT.callS rfl rfl rfl rfl rfl Tryz.call10 rfl (.c (lzv rfl rfl) (.c (lzv rfl rfl) (.c rfl (.c (lzv rfl rfl) .n)))) rfl (chances_spec [(p1, jobX), (p2, jobX), (p3, jobX)] vl kl K JL (by first | omega | decide | (simp only [List.length_cons, List.length_nil]; omega) | (simp only [List.length_replicate]; omega)) (DrawsB.cons (by exact Nat.le_of_ble_eq_true rfl) (DrawsB.cons (by exact Nat.le_of_ble_eq_true rfl) (DrawsB.cons (by exact Nat.le_of_ble_eq_true rfl) DrawsB.nil))) (taskX.racks.getD (Int.toNat 0) default) 0 c) (fun v251 s251 R251 => ?_) XT.stop
    obtain ⟨rfl, rfl⟩ := R251
    dsimp only [lcA, lnA]
    refine ⟨inferInstance, ?_⟩
    refine XT.q rfl rfl (Quiet.guardF rfl rfl fun g252 p252 => Q.not rfl) ?_
    refine XT.q rfl rfl (Q.or rfl (fun hp => lzv hp rfl)) ?_
    refine XT.done ?_
    refine XK.if rfl (fun c9 => ?_) (fun c9 => ?_)
    ·skip
     simp at c9
    ·skip
     refine XK.skip ?_
     refine XK.inBlock ?_
     refine XK.region rfl ?_
     refine XO.q (Q.add rfl rfl ⟨by omega, by omega⟩) ?_
     refine XO.q (Q.move rfl) (XO.done ?_)
     exact ih5 (k + 1) _ _ (by omega) (by first | omega | (dsimp only; omega)) (.c rfl (.base 52 rfl rfl)) inferInstance
   ·skip
    refine XK.exit rfl ?_
    refine XK.seq (XK.region rfl ?_)
    refine XO.q (Q.build [_, _] (.c 0 1 rfl rfl rfl (.c 1 1 rfl rfl rfl (.n _)))) ?_
    refine XO.q (Q.build [_, _] (.c 0 1 rfl rfl rfl (.c 1 1 rfl rfl rfl (.n _)))) ?_
    refine XO.q (Q.build [_, _] (.c 0 1 rfl rfl rfl (.c 1 1 rfl rfl rfl (.n _)))) ?_
    refine XO.q (Q.build [_, _] (.c 0 1 rfl rfl rfl (.c 1 1 rfl rfl rfl (.n _)))) ?_
    refine XO.q (Q.build [_, _] (.c 0 1 rfl rfl rfl (.c 1 1 rfl rfl rfl (.n _)))) ?_
    refine XO.q (Q.build [_, _] (.c 0 1 rfl rfl rfl (.c 1 1 rfl rfl rfl (.n _)))) ?_
    refine XO.q (Q.build [_, _] (.c 0 1 rfl rfl rfl (.c 1 1 rfl rfl rfl (.n _)))) ?_
    refine XO.q (Q.build [_, _] (.c 0 1 rfl rfl rfl (.c 1 1 rfl rfl rfl (.n _)))) ?_
    refine XO.lit [_, _, _, _, _, _, _, _, _, _, _, _, _, _, _, _] [_, _, _, _, _, _, _, _, _, _, _, _, _, _, _, _] [⟨0, 64⟩, ⟨1, 64⟩, ⟨2, 64⟩, ⟨3, 64⟩, ⟨4, 64⟩, ⟨5, 64⟩, ⟨6, 64⟩, ⟨7, 64⟩] encDraw (by rfl) (by rfl) rfl (by rfl) (by exact .c 0 2 rfl rfl rfl (.c 2 2 rfl rfl rfl (.c 4 2 rfl rfl rfl (.c 6 2 rfl rfl rfl (.c 8 2 rfl rfl rfl (.c 10 2 rfl rfl rfl (.c 12 2 rfl rfl rfl (.c 14 2 rfl rfl rfl (.n _))))))))) (fun _ => rfl) (by rfl) rfl (by infer_instance) rfl fun v263 h263 O263 => ?_
    obtain ⟨w8, lw8, O263⟩ : ∃ x : List PDraw, x.length = 8 ∧ OArr v263 encDraw 2 38 h263 x := ⟨_, rfl, O263⟩
    refine XO.q (Q.build [_, _, _, _, _, _] (.c 3 1 rfl rfl rfl (.n _))) ?_
    refine XO.alloc fun b14 => ?_
    refine XO.st rfl rfl rfl ?_
    refine XO.done (XK.seq (XK.region rfl ?_))
    refine XO.q (Q.fieldAddr rfl) ?_
    refine XO.q (Q.ld rfl rfl) ?_
    refine XO.cut (i := 0) (j := 2) rfl .n (.s rfl (by omega)) (by omega) (by omega) fun v267 A267 => ?_
    obtain ⟨w2, lw2, A267⟩ : ∃ x : List PDraw, x.length = 2 ∧ Arr v267 encDraw 2 h263 x := ⟨_, by rw [List.length_take, List.length_drop]; omega, A267⟩
    refine XO.q (Q.build [_, _, _, _, _, _] (.c 3 1 rfl rfl rfl (.n _))) ?_
    refine XO.alloc fun b15 => ?_
    refine XO.st rfl rfl rfl ?_
    refine XO.done (XK.seq (XK.region rfl ?_))
    refine XO.q (Q.build [_, _, _, _, _, _] (.n _)) ?_
    refine XO.q (Q.fieldAddr rfl) ?_
    refine XO.q (Q.ld rfl rfl) ?_
    refine XO.q (Q.build [_, _] (.c 0 1 rfl rfl rfl (.c 1 1 rfl rfl rfl (.n _)))) ?_
    refine XO.lit [_, _] [_, _] [⟨8, 1⟩] encDraw (by rfl) (by rfl) rfl (by rfl) (by exact .c 0 2 rfl rfl rfl (.n _)) (fun _ => rfl) (by rfl) rfl (by infer_instance) rfl fun v273 h273 O273 => ?_
    refine XO.lit [_, _] [_, _] [v263, v273] encV (by rfl) (by rfl) rfl (by rfl) (by exact .c 0 1 rfl rfl rfl (.c 1 1 rfl rfl rfl (.n _))) (fun _ => rfl) (by rfl) rfl (by infer_instance) rfl fun v274 h274 O274 => ?_
    refine XO.call Tryz.call11 rfl rfl rfl (concatD_spec v274 h274 v263 v273 h263 h273 w8 [⟨8, 1⟩] (by omega) (by decide)) fun v275 s275 R275 => ?_
    obtain ⟨k275, rfl, O275⟩ := R275
    dsimp only [lcA, lnA]
    obtain ⟨w9, lw9, O275⟩ : ∃ x : List PDraw, x.length = 9 ∧ OArr v275 encDraw 2 38 k275 x := ⟨_, by rw [List.length_append, lw8]; rfl, O275⟩
    refine XO.q (Q.build [_, _, _, _, _, _] (.c 3 1 rfl rfl rfl (.n _))) ?_
    refine XO.q (Q.build [_, _] (.c 0 1 rfl rfl rfl (.c 1 1 rfl rfl rfl (.n _)))) ?_
    refine XO.q (Q.build [_, _] (.c 0 1 rfl rfl rfl (.c 1 1 rfl rfl rfl (.n _)))) ?_
    refine XO.lit [_, _, _, _] [_, _, _, _] [⟨2, 1⟩, ⟨2, 1⟩] encDraw (by rfl) (by rfl) rfl (by rfl) (by exact .c 0 2 rfl rfl rfl (.c 2 2 rfl rfl rfl (.n _))) (fun _ => rfl) (by rfl) rfl (by infer_instance) rfl fun v279 h279 O279 => ?_
    refine XO.q (Q.build [_, _, _, _, _, _] (.c 3 1 rfl rfl rfl (.n _))) ?_
    refine XO.alloc fun b16 => ?_
    refine XO.alloc fun b17 => ?_
    refine XO.alloc fun b18 => ?_
    refine XO.st rfl rfl rfl ?_
    refine XO.st rfl rfl rfl ?_
    refine XO.st rfl rfl rfl ?_
    refine XO.done (XK.seq (XK.seq ?_))
    refine XK.meet (X := Value × PHeap × Value × PHeap × Value × PHeap × Value × PHeap × Value × PHeap × Value × PHeap × Value × PHeap × Value × PHeap × Value × PHeap × Value × PHeap × Value × PHeap × Value × PHeap) [281, 282, 283, 284, 285, 286, 287, 288, 289, 290, 291, 292, 293, 294, 295, 296, 297, 298, 299, 300, 301, 302, 303, 304, 305, 306, 307, 308, 309, 310, 311, 312, 313, 314, 315, 316, 317, 318, 319, 320, 321, 322, 323] (fun ⟨v286, h286, v292, h292, v294, h294, v300, h300, v302, h302, v308, h308, v311, k311, v314, k314, v316, h316, v318, h318, v320, h320, v321, h321⟩ => [(321, some (v321)), (322, some (.int .i64 10)), (323, some (.int .i64 ((0 : Nat) : Int)))]) (fun ⟨v286, h286, v292, h292, v294, h294, v300, h300, v302, h302, v308, h308, v311, k311, v314, k314, v316, h316, v318, h318, v320, h320, v321, h321⟩ => [h286, h292, h294, h300, h302, h308, k311, k314, h316, h318, h320, h321]) (fun ⟨v286, h286, v292, h292, v294, h294, v300, h300, v302, h302, v308, h308, v311, k311, v314, k314, v316, h316, v318, h318, v320, h320, v321, h321⟩ => OArr v286 encPJ 6 41 h286 [(v263, (⟨0, 0, 0, w8, 0, 0⟩ : PJob)), (v263, (⟨0, 0, 0, w8, 0, 0⟩ : PJob)), (v263, (⟨0, 0, 0, w8, 0, 0⟩ : PJob)), (v263, (⟨0, 0, 0, w8, 0, 0⟩ : PJob)), (v267, (⟨0, 0, 0, w2, 0, 0⟩ : PJob))] ∧ OArr v292 encDraw 2 38 h292 [⟨1, 16⟩] ∧ OArr v294 encPJ 6 41 h294 [(v263, (⟨0, 0, 0, w8, 0, 0⟩ : PJob)), (v263, (⟨0, 0, 0, w8, 0, 0⟩ : PJob)), (v263, (⟨0, 0, 0, w8, 0, 0⟩ : PJob)), (v263, (⟨0, 0, 0, w8, 0, 0⟩ : PJob)), (v292, (⟨0, 0, 0, [⟨1, 16⟩], 0, 0⟩ : PJob))] ∧ OArr v300 encDraw 2 38 h300 [⟨1, 17⟩] ∧ OArr v302 encPJ 6 41 h302 [(v263, (⟨0, 0, 0, w8, 0, 0⟩ : PJob)), (v263, (⟨0, 0, 0, w8, 0, 0⟩ : PJob)), (v263, (⟨0, 0, 0, w8, 0, 0⟩ : PJob)), (v263, (⟨0, 0, 0, w8, 0, 0⟩ : PJob)), (v300, (⟨0, 0, 0, [⟨1, 17⟩], 0, 0⟩ : PJob))] ∧ OArr v308 encPJ 6 41 h308 [(v263, (⟨0, 0, 0, w8, 0, 0⟩ : PJob)), (v263, (⟨0, 0, 0, w8, 0, 0⟩ : PJob)), (v263, (⟨0, 0, 0, w8, 0, 0⟩ : PJob)), (v263, (⟨0, 0, 0, w8, 0, 0⟩ : PJob)), (v263, (⟨0, 0, 0, w8, 0, 0⟩ : PJob))] ∧ OArr v311 encPJ 6 41 k311 (List.replicate 8 (v267, (⟨0, 0, 0, w2, 0, 0⟩ : PJob))) ∧ OArr v314 encPJ 6 41 k314 (List.replicate 9 (v267, (⟨0, 0, 0, w2, 0, 0⟩ : PJob))) ∧ OArr v316 encPJ 6 41 h316 [((.slice none 0 0 : Value), (⟨0, 0, 0, [], 0, 0⟩ : PJob))] ∧ OArr v318 encPJ 6 41 h318 [(v275, (⟨0, 0, 0, w9, 0, 0⟩ : PJob))] ∧ OArr v320 encPJ 6 41 h320 [(v279, (⟨0, 0, 0, [⟨2, 1⟩, ⟨2, 1⟩], 0, 0⟩ : PJob))] ∧ OArr v321 encV 1 22 h321 ([(.slice none 0 0), v286, v294, v302, v308, v311, v314, v316, v318, v320] : List Value)) [] ?_ ?_
    ·rintro ⟨v286, h286, v292, h292, v294, h294, v300, h300, v302, h302, v308, h308, v311, k311, v314, k314, v316, h316, v318, h318, v320, h320, v321, h321⟩ ⟨O286, O292, O294, O300, O302, O308, O311, O314, O316, O318, O320, O321⟩
     dsimp only [lcA, lnA]
     refine XK.block ?_
     refine XK.cat h263 h292 fun ql1 qr1 => ?_
     refine XK.cat (cat h263 h292) h300 fun ql2 qr2 => ?_
     refine XK.cat (cat (cat h263 h292) h300) k275 fun ql3 qr3 => ?_
     refine XK.cat (cat (cat (cat h263 h292) h300) k275) h279 fun ql4 qr4 => ?_
     refine XK.cat (cat (cat (cat (cat h263 h292) h300) k275) h279) h286 fun ql5 qr5 => ?_
     refine XK.cat (cat (cat (cat (cat (cat h263 h292) h300) k275) h279) h286) h294 fun ql6 qr6 => ?_
     refine XK.cat (cat (cat (cat (cat (cat (cat h263 h292) h300) k275) h279) h286) h294) h302 fun ql7 qr7 => ?_
     refine XK.cat (cat (cat (cat (cat (cat (cat (cat h263 h292) h300) k275) h279) h286) h294) h302) h308 fun ql8 qr8 => ?_
     refine XK.cat (cat (cat (cat (cat (cat (cat (cat (cat h263 h292) h300) k275) h279) h286) h294) h302) h308) k311 fun ql9 qr9 => ?_
     refine XK.cat (cat (cat (cat (cat (cat (cat (cat (cat (cat h263 h292) h300) k275) h279) h286) h294) h302) h308) k311) k314 fun ql10 qr10 => ?_
     refine XK.cat (cat (cat (cat (cat (cat (cat (cat (cat (cat (cat h263 h292) h300) k275) h279) h286) h294) h302) h308) k311) k314) h316 fun ql11 qr11 => ?_
     refine XK.cat (cat (cat (cat (cat (cat (cat (cat (cat (cat (cat (cat h263 h292) h300) k275) h279) h286) h294) h302) h308) k311) k314) h316) h318 fun ql12 qr12 => ?_
     refine XK.cat (cat (cat (cat (cat (cat (cat (cat (cat (cat (cat (cat (cat h263 h292) h300) k275) h279) h286) h294) h302) h308) k311) k314) h316) h318) h320 fun ql13 qr13 => ?_
     have aW : Arr v263 encDraw 2 (cat (cat (cat (cat (cat (cat (cat (cat (cat (cat (cat (cat (cat h263 h292) h300) k275) h279) h286) h294) h302) h308) k311) k314) h316) h318) h320) w8 := Arr.le_heap (Arr.le_heap (Arr.le_heap (Arr.le_heap (Arr.le_heap (Arr.le_heap (Arr.le_heap (Arr.le_heap (Arr.le_heap (Arr.le_heap (Arr.le_heap (Arr.le_heap (Arr.le_heap (OArr.arr (s := O263)) ql1) ql2) ql3) ql4) ql5) ql6) ql7) ql8) ql9) ql10) ql11) ql12) ql13
     have aH : Arr v267 encDraw 2 (cat (cat (cat (cat (cat (cat (cat (cat (cat (cat (cat (cat (cat h263 h292) h300) k275) h279) h286) h294) h302) h308) k311) k314) h316) h318) h320) w2 := Arr.le_heap (Arr.le_heap (Arr.le_heap (Arr.le_heap (Arr.le_heap (Arr.le_heap (Arr.le_heap (Arr.le_heap (Arr.le_heap (Arr.le_heap (Arr.le_heap (Arr.le_heap (Arr.le_heap (A267) ql1) ql2) ql3) ql4) ql5) ql6) ql7) ql8) ql9) ql10) ql11) ql12) ql13
     have aS : Arr v292 encDraw 2 (cat (cat (cat (cat (cat (cat (cat (cat (cat (cat (cat (cat (cat h263 h292) h300) k275) h279) h286) h294) h302) h308) k311) k314) h316) h318) h320) [⟨1, 16⟩] := Arr.le_heap (Arr.le_heap (Arr.le_heap (Arr.le_heap (Arr.le_heap (Arr.le_heap (Arr.le_heap (Arr.le_heap (Arr.le_heap (Arr.le_heap (Arr.le_heap (Arr.le_heap (Arr.le_heap (OArr.arr (s := O292)) qr1) ql2) ql3) ql4) ql5) ql6) ql7) ql8) ql9) ql10) ql11) ql12) ql13
     have aK : Arr v300 encDraw 2 (cat (cat (cat (cat (cat (cat (cat (cat (cat (cat (cat (cat (cat h263 h292) h300) k275) h279) h286) h294) h302) h308) k311) k314) h316) h318) h320) [⟨1, 17⟩] := Arr.le_heap (Arr.le_heap (Arr.le_heap (Arr.le_heap (Arr.le_heap (Arr.le_heap (Arr.le_heap (Arr.le_heap (Arr.le_heap (Arr.le_heap (Arr.le_heap (Arr.le_heap (OArr.arr (s := O300)) qr2) ql3) ql4) ql5) ql6) ql7) ql8) ql9) ql10) ql11) ql12) ql13
     have aC : Arr v275 encDraw 2 (cat (cat (cat (cat (cat (cat (cat (cat (cat (cat (cat (cat (cat h263 h292) h300) k275) h279) h286) h294) h302) h308) k311) k314) h316) h318) h320) w9 := Arr.le_heap (Arr.le_heap (Arr.le_heap (Arr.le_heap (Arr.le_heap (Arr.le_heap (Arr.le_heap (Arr.le_heap (Arr.le_heap (Arr.le_heap (Arr.le_heap (OArr.arr (s := O275)) qr3) ql4) ql5) ql6) ql7) ql8) ql9) ql10) ql11) ql12) ql13
     have aM : Arr v279 encDraw 2 (cat (cat (cat (cat (cat (cat (cat (cat (cat (cat (cat (cat (cat h263 h292) h300) k275) h279) h286) h294) h302) h308) k311) k314) h316) h318) h320) [⟨2, 1⟩, ⟨2, 1⟩] := Arr.le_heap (Arr.le_heap (Arr.le_heap (Arr.le_heap (Arr.le_heap (Arr.le_heap (Arr.le_heap (Arr.le_heap (Arr.le_heap (Arr.le_heap (OArr.arr (s := O279)) qr4) ql5) ql6) ql7) ql8) ql9) ql10) ql11) ql12) ql13
     have aN : Arr (.slice none 0 0) encDraw 2 (cat (cat (cat (cat (cat (cat (cat (cat (cat (cat (cat (cat (cat h263 h292) h300) k275) h279) h286) h294) h302) h308) k311) k314) h316) h318) h320) ([] : List PDraw) := Arr.nil (fun _ => rfl)
     have hA : ∀ g, g < 10 → Arr (([(.slice none 0 0), v286, v294, v302, v308, v311, v314, v316, v318, v320] : List Value).getD g default) encPJ 6 (cat (cat (cat (cat (cat (cat (cat (cat (cat (cat (cat (cat (cat h263 h292) h300) k275) h279) h286) h294) h302) h308) k311) k314) h316) h318) h320) (([([] : List (Value × PJob)), [(v263, (⟨0, 0, 0, w8, 0, 0⟩ : PJob)), (v263, (⟨0, 0, 0, w8, 0, 0⟩ : PJob)), (v263, (⟨0, 0, 0, w8, 0, 0⟩ : PJob)), (v263, (⟨0, 0, 0, w8, 0, 0⟩ : PJob)), (v267, (⟨0, 0, 0, w2, 0, 0⟩ : PJob))], [(v263, (⟨0, 0, 0, w8, 0, 0⟩ : PJob)), (v263, (⟨0, 0, 0, w8, 0, 0⟩ : PJob)), (v263, (⟨0, 0, 0, w8, 0, 0⟩ : PJob)), (v263, (⟨0, 0, 0, w8, 0, 0⟩ : PJob)), (v292, (⟨0, 0, 0, [⟨1, 16⟩], 0, 0⟩ : PJob))], [(v263, (⟨0, 0, 0, w8, 0, 0⟩ : PJob)), (v263, (⟨0, 0, 0, w8, 0, 0⟩ : PJob)), (v263, (⟨0, 0, 0, w8, 0, 0⟩ : PJob)), (v263, (⟨0, 0, 0, w8, 0, 0⟩ : PJob)), (v300, (⟨0, 0, 0, [⟨1, 17⟩], 0, 0⟩ : PJob))], [(v263, (⟨0, 0, 0, w8, 0, 0⟩ : PJob)), (v263, (⟨0, 0, 0, w8, 0, 0⟩ : PJob)), (v263, (⟨0, 0, 0, w8, 0, 0⟩ : PJob)), (v263, (⟨0, 0, 0, w8, 0, 0⟩ : PJob)), (v263, (⟨0, 0, 0, w8, 0, 0⟩ : PJob))], (List.replicate 8 (v267, (⟨0, 0, 0, w2, 0, 0⟩ : PJob))), (List.replicate 9 (v267, (⟨0, 0, 0, w2, 0, 0⟩ : PJob))), [((.slice none 0 0 : Value), (⟨0, 0, 0, [], 0, 0⟩ : PJob))], [(v275, (⟨0, 0, 0, w9, 0, 0⟩ : PJob))], [(v279, (⟨0, 0, 0, [⟨2, 1⟩, ⟨2, 1⟩], 0, 0⟩ : PJob))]] : List (List (Value × PJob))).getD g default) ∧ JobsK (([([] : List (Value × PJob)), [(v263, (⟨0, 0, 0, w8, 0, 0⟩ : PJob)), (v263, (⟨0, 0, 0, w8, 0, 0⟩ : PJob)), (v263, (⟨0, 0, 0, w8, 0, 0⟩ : PJob)), (v263, (⟨0, 0, 0, w8, 0, 0⟩ : PJob)), (v267, (⟨0, 0, 0, w2, 0, 0⟩ : PJob))], [(v263, (⟨0, 0, 0, w8, 0, 0⟩ : PJob)), (v263, (⟨0, 0, 0, w8, 0, 0⟩ : PJob)), (v263, (⟨0, 0, 0, w8, 0, 0⟩ : PJob)), (v263, (⟨0, 0, 0, w8, 0, 0⟩ : PJob)), (v292, (⟨0, 0, 0, [⟨1, 16⟩], 0, 0⟩ : PJob))], [(v263, (⟨0, 0, 0, w8, 0, 0⟩ : PJob)), (v263, (⟨0, 0, 0, w8, 0, 0⟩ : PJob)), (v263, (⟨0, 0, 0, w8, 0, 0⟩ : PJob)), (v263, (⟨0, 0, 0, w8, 0, 0⟩ : PJob)), (v300, (⟨0, 0, 0, [⟨1, 17⟩], 0, 0⟩ : PJob))], [(v263, (⟨0, 0, 0, w8, 0, 0⟩ : PJob)), (v263, (⟨0, 0, 0, w8, 0, 0⟩ : PJob)), (v263, (⟨0, 0, 0, w8, 0, 0⟩ : PJob)), (v263, (⟨0, 0, 0, w8, 0, 0⟩ : PJob)), (v263, (⟨0, 0, 0, w8, 0, 0⟩ : PJob))], (List.replicate 8 (v267, (⟨0, 0, 0, w2, 0, 0⟩ : PJob))), (List.replicate 9 (v267, (⟨0, 0, 0, w2, 0, 0⟩ : PJob))), [((.slice none 0 0 : Value), (⟨0, 0, 0, [], 0, 0⟩ : PJob))], [(v275, (⟨0, 0, 0, w9, 0, 0⟩ : PJob))], [(v279, (⟨0, 0, 0, [⟨2, 1⟩, ⟨2, 1⟩], 0, 0⟩ : PJob))]] : List (List (Value × PJob))).getD g default) (cat (cat (cat (cat (cat (cat (cat (cat (cat (cat (cat (cat (cat h263 h292) h300) k275) h279) h286) h294) h302) h308) k311) k314) h316) h318) h320) ∧ DrawsB (([([] : List (Value × PJob)), [(v263, (⟨0, 0, 0, w8, 0, 0⟩ : PJob)), (v263, (⟨0, 0, 0, w8, 0, 0⟩ : PJob)), (v263, (⟨0, 0, 0, w8, 0, 0⟩ : PJob)), (v263, (⟨0, 0, 0, w8, 0, 0⟩ : PJob)), (v267, (⟨0, 0, 0, w2, 0, 0⟩ : PJob))], [(v263, (⟨0, 0, 0, w8, 0, 0⟩ : PJob)), (v263, (⟨0, 0, 0, w8, 0, 0⟩ : PJob)), (v263, (⟨0, 0, 0, w8, 0, 0⟩ : PJob)), (v263, (⟨0, 0, 0, w8, 0, 0⟩ : PJob)), (v292, (⟨0, 0, 0, [⟨1, 16⟩], 0, 0⟩ : PJob))], [(v263, (⟨0, 0, 0, w8, 0, 0⟩ : PJob)), (v263, (⟨0, 0, 0, w8, 0, 0⟩ : PJob)), (v263, (⟨0, 0, 0, w8, 0, 0⟩ : PJob)), (v263, (⟨0, 0, 0, w8, 0, 0⟩ : PJob)), (v300, (⟨0, 0, 0, [⟨1, 17⟩], 0, 0⟩ : PJob))], [(v263, (⟨0, 0, 0, w8, 0, 0⟩ : PJob)), (v263, (⟨0, 0, 0, w8, 0, 0⟩ : PJob)), (v263, (⟨0, 0, 0, w8, 0, 0⟩ : PJob)), (v263, (⟨0, 0, 0, w8, 0, 0⟩ : PJob)), (v263, (⟨0, 0, 0, w8, 0, 0⟩ : PJob))], (List.replicate 8 (v267, (⟨0, 0, 0, w2, 0, 0⟩ : PJob))), (List.replicate 9 (v267, (⟨0, 0, 0, w2, 0, 0⟩ : PJob))), [((.slice none 0 0 : Value), (⟨0, 0, 0, [], 0, 0⟩ : PJob))], [(v275, (⟨0, 0, 0, w9, 0, 0⟩ : PJob))], [(v279, (⟨0, 0, 0, [⟨2, 1⟩, ⟨2, 1⟩], 0, 0⟩ : PJob))]] : List (List (Value × PJob))).getD g default) ∧ (([([] : List (Value × PJob)), [(v263, (⟨0, 0, 0, w8, 0, 0⟩ : PJob)), (v263, (⟨0, 0, 0, w8, 0, 0⟩ : PJob)), (v263, (⟨0, 0, 0, w8, 0, 0⟩ : PJob)), (v263, (⟨0, 0, 0, w8, 0, 0⟩ : PJob)), (v267, (⟨0, 0, 0, w2, 0, 0⟩ : PJob))], [(v263, (⟨0, 0, 0, w8, 0, 0⟩ : PJob)), (v263, (⟨0, 0, 0, w8, 0, 0⟩ : PJob)), (v263, (⟨0, 0, 0, w8, 0, 0⟩ : PJob)), (v263, (⟨0, 0, 0, w8, 0, 0⟩ : PJob)), (v292, (⟨0, 0, 0, [⟨1, 16⟩], 0, 0⟩ : PJob))], [(v263, (⟨0, 0, 0, w8, 0, 0⟩ : PJob)), (v263, (⟨0, 0, 0, w8, 0, 0⟩ : PJob)), (v263, (⟨0, 0, 0, w8, 0, 0⟩ : PJob)), (v263, (⟨0, 0, 0, w8, 0, 0⟩ : PJob)), (v300, (⟨0, 0, 0, [⟨1, 17⟩], 0, 0⟩ : PJob))], [(v263, (⟨0, 0, 0, w8, 0, 0⟩ : PJob)), (v263, (⟨0, 0, 0, w8, 0, 0⟩ : PJob)), (v263, (⟨0, 0, 0, w8, 0, 0⟩ : PJob)), (v263, (⟨0, 0, 0, w8, 0, 0⟩ : PJob)), (v263, (⟨0, 0, 0, w8, 0, 0⟩ : PJob))], (List.replicate 8 (v267, (⟨0, 0, 0, w2, 0, 0⟩ : PJob))), (List.replicate 9 (v267, (⟨0, 0, 0, w2, 0, 0⟩ : PJob))), [((.slice none 0 0 : Value), (⟨0, 0, 0, [], 0, 0⟩ : PJob))], [(v275, (⟨0, 0, 0, w9, 0, 0⟩ : PJob))], [(v279, (⟨0, 0, 0, [⟨2, 1⟩, ⟨2, 1⟩], 0, 0⟩ : PJob))]] : List (List (Value × PJob))).getD g default).length ≤ 1000 := fun g hg => by
      rcases (show g = 0 ∨ g = 1 ∨ g = 2 ∨ g = 3 ∨ g = 4 ∨ g = 5 ∨ g = 6 ∨ g = 7 ∨ g = 8 ∨ g = 9 by omega) with rfl | rfl | rfl | rfl | rfl | rfl | rfl | rfl | rfl | rfl
      ·exact ⟨Arr.nil (fun _ => rfl), JobsK.nil _, DrawsB.nil, by exact Nat.le_of_ble_eq_true rfl⟩
      ·exact ⟨Arr.le_heap (Arr.le_heap (Arr.le_heap (Arr.le_heap (Arr.le_heap (Arr.le_heap (Arr.le_heap (Arr.le_heap (Arr.le_heap (OArr.arr (s := O286)) qr5) ql6) ql7) ql8) ql9) ql10) ql11) ql12) ql13, .cons (x := (v263, (⟨0, 0, 0, w8, 0, 0⟩ : PJob))) aW (.cons (x := (v263, (⟨0, 0, 0, w8, 0, 0⟩ : PJob))) aW (.cons (x := (v263, (⟨0, 0, 0, w8, 0, 0⟩ : PJob))) aW (.cons (x := (v263, (⟨0, 0, 0, w8, 0, 0⟩ : PJob))) aW (.cons (x := (v267, (⟨0, 0, 0, w2, 0, 0⟩ : PJob))) aH (JobsK.nil _))))), DrawsB.cons (x := (v263, (⟨0, 0, 0, w8, 0, 0⟩ : PJob))) (by first | exact Nat.le_of_ble_eq_true rfl | (dsimp only; omega)) (DrawsB.cons (x := (v263, (⟨0, 0, 0, w8, 0, 0⟩ : PJob))) (by first | exact Nat.le_of_ble_eq_true rfl | (dsimp only; omega)) (DrawsB.cons (x := (v263, (⟨0, 0, 0, w8, 0, 0⟩ : PJob))) (by first | exact Nat.le_of_ble_eq_true rfl | (dsimp only; omega)) (DrawsB.cons (x := (v263, (⟨0, 0, 0, w8, 0, 0⟩ : PJob))) (by first | exact Nat.le_of_ble_eq_true rfl | (dsimp only; omega)) (DrawsB.cons (x := (v267, (⟨0, 0, 0, w2, 0, 0⟩ : PJob))) (by first | exact Nat.le_of_ble_eq_true rfl | (dsimp only; omega)) (DrawsB.nil))))), by exact Nat.le_of_ble_eq_true rfl⟩
      ·exact ⟨Arr.le_heap (Arr.le_heap (Arr.le_heap (Arr.le_heap (Arr.le_heap (Arr.le_heap (Arr.le_heap (Arr.le_heap (OArr.arr (s := O294)) qr6) ql7) ql8) ql9) ql10) ql11) ql12) ql13, .cons (x := (v263, (⟨0, 0, 0, w8, 0, 0⟩ : PJob))) aW (.cons (x := (v263, (⟨0, 0, 0, w8, 0, 0⟩ : PJob))) aW (.cons (x := (v263, (⟨0, 0, 0, w8, 0, 0⟩ : PJob))) aW (.cons (x := (v263, (⟨0, 0, 0, w8, 0, 0⟩ : PJob))) aW (.cons (x := (v292, (⟨0, 0, 0, [⟨1, 16⟩], 0, 0⟩ : PJob))) aS (JobsK.nil _))))), DrawsB.cons (x := (v263, (⟨0, 0, 0, w8, 0, 0⟩ : PJob))) (by first | exact Nat.le_of_ble_eq_true rfl | (dsimp only; omega)) (DrawsB.cons (x := (v263, (⟨0, 0, 0, w8, 0, 0⟩ : PJob))) (by first | exact Nat.le_of_ble_eq_true rfl | (dsimp only; omega)) (DrawsB.cons (x := (v263, (⟨0, 0, 0, w8, 0, 0⟩ : PJob))) (by first | exact Nat.le_of_ble_eq_true rfl | (dsimp only; omega)) (DrawsB.cons (x := (v263, (⟨0, 0, 0, w8, 0, 0⟩ : PJob))) (by first | exact Nat.le_of_ble_eq_true rfl | (dsimp only; omega)) (DrawsB.cons (x := (v292, (⟨0, 0, 0, [⟨1, 16⟩], 0, 0⟩ : PJob))) (by first | exact Nat.le_of_ble_eq_true rfl | (dsimp only; omega)) (DrawsB.nil))))), by exact Nat.le_of_ble_eq_true rfl⟩
      ·exact ⟨Arr.le_heap (Arr.le_heap (Arr.le_heap (Arr.le_heap (Arr.le_heap (Arr.le_heap (Arr.le_heap (OArr.arr (s := O302)) qr7) ql8) ql9) ql10) ql11) ql12) ql13, .cons (x := (v263, (⟨0, 0, 0, w8, 0, 0⟩ : PJob))) aW (.cons (x := (v263, (⟨0, 0, 0, w8, 0, 0⟩ : PJob))) aW (.cons (x := (v263, (⟨0, 0, 0, w8, 0, 0⟩ : PJob))) aW (.cons (x := (v263, (⟨0, 0, 0, w8, 0, 0⟩ : PJob))) aW (.cons (x := (v300, (⟨0, 0, 0, [⟨1, 17⟩], 0, 0⟩ : PJob))) aK (JobsK.nil _))))), DrawsB.cons (x := (v263, (⟨0, 0, 0, w8, 0, 0⟩ : PJob))) (by first | exact Nat.le_of_ble_eq_true rfl | (dsimp only; omega)) (DrawsB.cons (x := (v263, (⟨0, 0, 0, w8, 0, 0⟩ : PJob))) (by first | exact Nat.le_of_ble_eq_true rfl | (dsimp only; omega)) (DrawsB.cons (x := (v263, (⟨0, 0, 0, w8, 0, 0⟩ : PJob))) (by first | exact Nat.le_of_ble_eq_true rfl | (dsimp only; omega)) (DrawsB.cons (x := (v263, (⟨0, 0, 0, w8, 0, 0⟩ : PJob))) (by first | exact Nat.le_of_ble_eq_true rfl | (dsimp only; omega)) (DrawsB.cons (x := (v300, (⟨0, 0, 0, [⟨1, 17⟩], 0, 0⟩ : PJob))) (by first | exact Nat.le_of_ble_eq_true rfl | (dsimp only; omega)) (DrawsB.nil))))), by exact Nat.le_of_ble_eq_true rfl⟩
      ·exact ⟨Arr.le_heap (Arr.le_heap (Arr.le_heap (Arr.le_heap (Arr.le_heap (Arr.le_heap (OArr.arr (s := O308)) qr8) ql9) ql10) ql11) ql12) ql13, .cons (x := (v263, (⟨0, 0, 0, w8, 0, 0⟩ : PJob))) aW (.cons (x := (v263, (⟨0, 0, 0, w8, 0, 0⟩ : PJob))) aW (.cons (x := (v263, (⟨0, 0, 0, w8, 0, 0⟩ : PJob))) aW (.cons (x := (v263, (⟨0, 0, 0, w8, 0, 0⟩ : PJob))) aW (.cons (x := (v263, (⟨0, 0, 0, w8, 0, 0⟩ : PJob))) aW (JobsK.nil _))))), DrawsB.cons (x := (v263, (⟨0, 0, 0, w8, 0, 0⟩ : PJob))) (by first | exact Nat.le_of_ble_eq_true rfl | (dsimp only; omega)) (DrawsB.cons (x := (v263, (⟨0, 0, 0, w8, 0, 0⟩ : PJob))) (by first | exact Nat.le_of_ble_eq_true rfl | (dsimp only; omega)) (DrawsB.cons (x := (v263, (⟨0, 0, 0, w8, 0, 0⟩ : PJob))) (by first | exact Nat.le_of_ble_eq_true rfl | (dsimp only; omega)) (DrawsB.cons (x := (v263, (⟨0, 0, 0, w8, 0, 0⟩ : PJob))) (by first | exact Nat.le_of_ble_eq_true rfl | (dsimp only; omega)) (DrawsB.cons (x := (v263, (⟨0, 0, 0, w8, 0, 0⟩ : PJob))) (by first | exact Nat.le_of_ble_eq_true rfl | (dsimp only; omega)) (DrawsB.nil))))), by exact Nat.le_of_ble_eq_true rfl⟩
      ·exact ⟨Arr.le_heap (Arr.le_heap (Arr.le_heap (Arr.le_heap (Arr.le_heap (OArr.arr (s := O311)) qr9) ql10) ql11) ql12) ql13, JobsK.rep (x := (v267, (⟨0, 0, 0, w2, 0, 0⟩ : PJob))) aH _, DrawsB.rep (x := (v267, (⟨0, 0, 0, w2, 0, 0⟩ : PJob))) (by first | decide | (dsimp only; omega)) _, by exact Nat.le_of_ble_eq_true rfl⟩
      ·exact ⟨Arr.le_heap (Arr.le_heap (Arr.le_heap (Arr.le_heap (OArr.arr (s := O314)) qr10) ql11) ql12) ql13, JobsK.rep (x := (v267, (⟨0, 0, 0, w2, 0, 0⟩ : PJob))) aH _, DrawsB.rep (x := (v267, (⟨0, 0, 0, w2, 0, 0⟩ : PJob))) (by first | decide | (dsimp only; omega)) _, by exact Nat.le_of_ble_eq_true rfl⟩
      ·exact ⟨Arr.le_heap (Arr.le_heap (Arr.le_heap (OArr.arr (s := O316)) qr11) ql12) ql13, .cons (x := ((.slice none 0 0 : Value), (⟨0, 0, 0, [], 0, 0⟩ : PJob))) aN (JobsK.nil _), DrawsB.cons (x := ((.slice none 0 0 : Value), (⟨0, 0, 0, [], 0, 0⟩ : PJob))) (by first | exact Nat.le_of_ble_eq_true rfl | (dsimp only; omega)) (DrawsB.nil), by exact Nat.le_of_ble_eq_true rfl⟩
      ·exact ⟨Arr.le_heap (Arr.le_heap (OArr.arr (s := O318)) qr12) ql13, .cons (x := (v275, (⟨0, 0, 0, w9, 0, 0⟩ : PJob))) aC (JobsK.nil _), DrawsB.cons (x := (v275, (⟨0, 0, 0, w9, 0, 0⟩ : PJob))) (by first | exact Nat.le_of_ble_eq_true rfl | (dsimp only; omega)) (DrawsB.nil), by exact Nat.le_of_ble_eq_true rfl⟩
      ·exact ⟨Arr.le_heap (OArr.arr (s := O320)) qr13, .cons (x := (v279, (⟨0, 0, 0, [⟨2, 1⟩, ⟨2, 1⟩], 0, 0⟩ : PJob))) aM (JobsK.nil _), DrawsB.cons (x := (v279, (⟨0, 0, 0, [⟨2, 1⟩, ⟨2, 1⟩], 0, 0⟩ : PJob))) (by first | exact Nat.le_of_ble_eq_true rfl | (dsimp only; omega)) (DrawsB.nil), by exact Nat.le_of_ble_eq_true rfl⟩
     refine XK.while (X := Nat) [0, 20, 22, 323, 324, 325, 326, 327, 328, 329, 330, 331, 332, 333, 334, 335, 336, 337, 338, 339, 340] (fun g => [(323, some (.int .i64 (g : Nat)))]) (fun g => []) (fun g => g ≤ 10) (fun g => 10 - g) (0) [] rfl (by omega) (.c rfl (.base 0 rfl rfl)) ?_
     rintro g hg ih6
     dsimp only [lcA, lnA] at ih6 ⊢
     refine XK.seq (XK.region rfl ?_)
     refine XO.q (Q.lss rfl rfl) ?_
     refine XO.done (XK.seq ?_)
     refine XK.if rfl (fun c10 => ?_) (fun c10 => ?_)
     ·skip
      refine XK.skip (XK.seq (XK.block (XK.seq (XK.region rfl ?_))))
      refine XO.ix rfl rfl (by omega) (by show (g : Int) < 10; omega) fun i325 => ?_
      refine XO.q (Q.ldE rfl (by show (g : Nat) < 10; omega) rfl) ?_
      obtain ⟨ag, jg, bg, lg⟩ := hA g (by omega)
      obtain ⟨vg, evg⟩ : ∃ w, w = ([(.slice none 0 0), v286, v294, v302, v308, v311, v314, v316, v318, v320] : List Value).getD g default := ⟨_, rfl⟩
      rw [← evg] at ag
      rw [← evg]
      obtain ⟨lq, elq⟩ : ∃ w, w = ([([] : List (Value × PJob)), [(v263, (⟨0, 0, 0, w8, 0, 0⟩ : PJob)), (v263, (⟨0, 0, 0, w8, 0, 0⟩ : PJob)), (v263, (⟨0, 0, 0, w8, 0, 0⟩ : PJob)), (v263, (⟨0, 0, 0, w8, 0, 0⟩ : PJob)), (v267, (⟨0, 0, 0, w2, 0, 0⟩ : PJob))], [(v263, (⟨0, 0, 0, w8, 0, 0⟩ : PJob)), (v263, (⟨0, 0, 0, w8, 0, 0⟩ : PJob)), (v263, (⟨0, 0, 0, w8, 0, 0⟩ : PJob)), (v263, (⟨0, 0, 0, w8, 0, 0⟩ : PJob)), (v292, (⟨0, 0, 0, [⟨1, 16⟩], 0, 0⟩ : PJob))], [(v263, (⟨0, 0, 0, w8, 0, 0⟩ : PJob)), (v263, (⟨0, 0, 0, w8, 0, 0⟩ : PJob)), (v263, (⟨0, 0, 0, w8, 0, 0⟩ : PJob)), (v263, (⟨0, 0, 0, w8, 0, 0⟩ : PJob)), (v300, (⟨0, 0, 0, [⟨1, 17⟩], 0, 0⟩ : PJob))], [(v263, (⟨0, 0, 0, w8, 0, 0⟩ : PJob)), (v263, (⟨0, 0, 0, w8, 0, 0⟩ : PJob)), (v263, (⟨0, 0, 0, w8, 0, 0⟩ : PJob)), (v263, (⟨0, 0, 0, w8, 0, 0⟩ : PJob)), (v263, (⟨0, 0, 0, w8, 0, 0⟩ : PJob))], (List.replicate 8 (v267, (⟨0, 0, 0, w2, 0, 0⟩ : PJob))), (List.replicate 9 (v267, (⟨0, 0, 0, w2, 0, 0⟩ : PJob))), [((.slice none 0 0 : Value), (⟨0, 0, 0, [], 0, 0⟩ : PJob))], [(v275, (⟨0, 0, 0, w9, 0, 0⟩ : PJob))], [(v279, (⟨0, 0, 0, [⟨2, 1⟩, ⟨2, 1⟩], 0, 0⟩ : PJob))]] : List (List (Value × PJob))).getD g default := ⟨_, rfl⟩
      rw [← elq] at ag jg bg lg
      clear evg elq
      refine XO.q (Q.assign rfl) (XO.done (XK.seq (XK.region rfl ?_)))
      refine XO.lit [_, _, _, _, _, _] [_, _, _, _, _, _] [-9223372036854775808, -1, 0, 3, 20, 9223372036854775807] encI (by rfl) (by rfl) rfl (by rfl) (by exact .c 0 1 rfl rfl rfl (.c 1 1 rfl rfl rfl (.c 2 1 rfl rfl rfl (.c 3 1 rfl rfl rfl (.c 4 1 rfl rfl rfl (.c 5 1 rfl rfl rfl (.n _))))))) (fun _ => rfl) (by rfl) rfl (by infer_instance) rfl fun v327 h327 O327 => ?_
      refine XO.len rfl fun l328 => ?_
      rw [show ((([-9223372036854775808, -1, 0, 3, 20, 9223372036854775807] : List Int).length : Nat) : Int) = 6 from rfl]
      refine XO.q (Q.move rfl) (XO.done (XK.block ?_))
      refine XK.while (X := Nat) [0, 22, 329, 330, 331, 332, 333, 334, 335, 336, 337, 338, 339] (fun k => [(329, some (.int .i64 (k : Nat)))]) (fun k => []) (fun k => k ≤ 6) (fun k => 6 - k) (0) [] rfl (by omega) (.c rfl (.base 0 rfl rfl)) ?_
      rintro k hk ih7
      dsimp only [lcA, lnA] at ih7 ⊢
      refine XK.seq (XK.region rfl ?_)
      refine XO.q (Q.lss rfl rfl) ?_
      refine XO.done (XK.seq ?_)
      refine XK.if rfl (fun c11 => ?_) (fun c11 => ?_)
      ·skip
       refine XK.skip (XK.seq (XK.block (XK.seq (XK.region rfl ?_))))
       refine XO.ix rfl rfl (by omega) (by show (k : Int) < 6; omega) fun i331 => ?_
       refine XO.q (Q.ldE rfl (by first | assumption | omega) rfl) ?_
       obtain ⟨lo, elo⟩ : ∃ x : Int, x = ([-9223372036854775808, -1, 0, 3, 20, 9223372036854775807] : List Int).getD k default := ⟨_, rfl⟩
       rw [← elo]
       clear elo
       refine XO.q (Q.assign rfl) (XO.done (XK.seq (XK.region rfl (XO.q (Q.move rfl) ?_))))
       refine XO.q (Q.build [_, _, _, _, _] (.c 3 1 rfl rfl rfl (.n _))) ?_
       refine XO.q (Q.move rfl) ?_
       refine XO.q (Q.build [_, _] (.c 0 1 rfl rfl rfl (.c 1 1 rfl rfl rfl (.n _)))) ?_
       refine XO.call Tryz.call10 rfl rfl rfl (chances_spec lq vg (cat (cat (cat (cat (cat (cat (cat (cat (cat (cat (cat (cat (cat h263 h292) h300) k275) h279) h286) h294) h302) h308) k311) k314) h316) h318) h320) (cat (cat (cat (cat (cat (cat (cat (cat (cat (cat (cat (cat (cat h263 h292) h300) k275) h279) h286) h294) h302) h308) k311) k314) h316) h318) h320) jg (by first | omega | decide | (simp only [List.length_cons, List.length_nil]; omega) | (simp only [List.length_replicate]; omega)) bg ⟨0, 0, 0, 9, 0⟩ lo ⟨1, 3⟩) fun v337 s337 R337 => ?_
       obtain ⟨rfl, rfl⟩ := R337
       dsimp only [lcA, lnA]
       refine XO.q (Q.not rfl) ?_
       refine XO.done ?_
       refine XK.if rfl (fun c12 => ?_) (fun c12 => ?_)
       ·skip
        simp at c12
       ·skip
        refine XK.skip ?_
        refine XK.inBlock ?_
        refine XK.region rfl ?_
        refine XO.q (Q.add rfl rfl ⟨by omega, by omega⟩) ?_
        refine XO.q (Q.move rfl) (XO.done ?_)
        exact ih7 (k + 1) _ _ (by omega) (by first | omega | (dsimp only; omega)) (.c rfl (.base 26 rfl rfl)) inferInstance
      ·skip
       refine XK.exit rfl ?_
       refine XK.inBlock ?_
       refine XK.region rfl ?_
       refine XO.q (Q.add rfl rfl ⟨by omega, by omega⟩) ?_
       refine XO.q (Q.move rfl) (XO.done ?_)
       exact ih6 (g + 1) _ _ (by omega) (by first | omega | (dsimp only; omega)) (.c rfl (.base 46 rfl rfl)) inferInstance
     ·skip
      refine XK.exit rfl ?_
      refine XK.seq (XK.seq (XK.region rfl ?_))
      refine XO.lit [_, _, _, _] [_, _, _, _] [0, 1, 5, 6] encI (by rfl) (by rfl) rfl (by rfl) (by exact .c 0 1 rfl rfl rfl (.c 1 1 rfl rfl rfl (.c 2 1 rfl rfl rfl (.c 3 1 rfl rfl rfl (.n _))))) (fun _ => rfl) (by rfl) rfl (by infer_instance) rfl fun v341 h341 O341 => ?_
      refine XO.len rfl fun l342 => ?_
      rw [show ((([0, 1, 5, 6] : List Int).length : Nat) : Int) = 4 from rfl]
      refine XO.q (Q.move rfl) (XO.done (XK.block ?_))
      refine XK.while (X := Nat) [0, 24, 25, 343, 344, 345, 346, 347, 348, 349, 350, 351, 352, 353, 354, 355, 356, 357, 358, 359, 360, 361, 362, 363, 364, 365, 366, 367, 368, 369, 370, 371, 372, 373, 374, 375] (fun k => [(343, some (.int .i64 (k : Nat)))]) (fun k => []) (fun k => k ≤ 4) (fun k => 4 - k) (0) [] rfl (by omega) (.c rfl (.base 0 rfl rfl)) ?_
      rintro k hk ih8
      dsimp only [lcA, lnA] at ih8 ⊢
      refine XK.seq (XK.region rfl ?_)
      refine XO.q (Q.lss rfl rfl) ?_
      refine XO.done (XK.seq ?_)
      refine XK.if rfl (fun c13 => ?_) (fun c13 => ?_)
      ·skip
       refine XK.skip (XK.seq (XK.block (XK.seq (XK.region rfl ?_))))
       refine XO.ix rfl rfl (by omega) (by show (k : Int) < 4; omega) fun i345 => ?_
       refine XO.q (Q.ldE rfl (by first | assumption | omega) rfl) ?_
       obtain ⟨p, ep⟩ : ∃ x : Int, x = ([0, 1, 5, 6] : List Int).getD k default := ⟨_, rfl⟩
       rw [← ep]
       have hp := n4_bdP k (by omega)
       rw [← ep] at hp
       clear ep
       refine XO.q (Q.assign rfl) (XO.done (XK.seq (XK.region rfl ?_)))
       refine XO.call Tryz.call9 rfl rfl rfl (task_spec) fun v347 s347 R347 => ?_
       obtain ⟨vl, vr, kl, K, kr, l, rfl, rfl, OL, JL, el, OR⟩ := R347
       dsimp only [lcA, lnA]
       obtain ⟨p1, p2, p3, rfl⟩ := list3 el
       have lp3 : ([(p1, jobX), (p2, jobX), (p3, jobX)] : List (Value × PJob)).length = 3 := rfl
       refine XO.alloc fun b25 => ?_
       refine XO.st rfl rfl rfl ?_
       refine XO.done (XK.seq (XK.region rfl (XO.q (Q.move rfl) ?_)))
       refine XO.make encRack ((⟨0, 0, 0, 0, 0⟩ : PRack)) rfl rfl rfl (by omega) (by omega) (fun _ => rfl) rfl rfl rfl (by dsimp only [encRack]; infer_instance) fun v349 h349 O349 => ?_
       refine XO.q (Q.fieldAddr rfl) ?_
       refine XO.st rfl rfl rfl ?_
       refine XO.done (XK.seq (XK.region rfl ?_))
       refine XO.q (Q.fieldAddr rfl) ?_
       refine XO.q (Q.ld rfl rfl) ?_
       refine XO.cut (i := 0) (j := 2) rfl .n (.s rfl (by omega)) (by omega) (by omega) fun v353 A353 => ?_
       have J2 : JobsK [(p1, jobX), (p2, jobX)] K := .cons (JL 0 (by exact Nat.le_of_ble_eq_true rfl)) (.cons (JL 1 (by exact Nat.le_of_ble_eq_true rfl)) (JobsK.nil _))
       have A353b : Arr v353 encPJ 6 kl [(p1, jobX), (p2, jobX)] := A353
       refine XO.q (Q.fieldAddr rfl) ?_
       refine XO.st rfl rfl rfl ?_
       refine XO.done (XK.seq (XK.region rfl ?_))
       refine XO.q (Q.ldA [_, _, _, _] rfl rfl rfl) ?_
       refine XO.lit [_, _] [_, _] [-1, -1] encI (by rfl) (by rfl) rfl (by rfl) (by exact .c 0 1 rfl rfl rfl (.c 1 1 rfl rfl rfl (.n _))) (fun _ => rfl) (by rfl) rfl (by infer_instance) rfl fun v356 h356 O356 => ?_
       refine XO.q (Q.build [_, _, _] (.c 0 1 rfl rfl rfl (.n _))) ?_
       refine XO.call Tryz.call6 rfl rfl rfl (tasks_spec (jp0 := nB h356) [(p1, jobX), (p2, jobX)] v353 kl K J2 (List.replicate p.toNat (⟨0, 0, 0, 0, 0⟩ : PRack)) v349 h349 ⟨1, 10⟩ (by first | omega | decide | (simp only [List.length_cons, List.length_nil]; omega) | (simp only [List.length_replicate]; omega)) (DrawsB.cons (by exact Nat.le_of_ble_eq_true rfl) (DrawsB.cons (by exact Nat.le_of_ble_eq_true rfl) DrawsB.nil)) (by first | omega | decide | (simp only [List.length_cons, List.length_nil]; omega) | (simp only [List.length_replicate]; omega)) [-1, -1] v356 h356 0 [] (.slice none 0 0) h356 (by first | omega | decide | (simp only [List.length_cons, List.length_nil]; omega) | (simp only [List.length_replicate]; omega)) (by first | omega | decide | (simp only [List.length_cons, List.length_nil]; omega) | (simp only [List.length_replicate]; omega)) 0 0) fun v358 s358 R358 => ?_
       obtain ⟨rfl, rfl⟩ := R358
       dsimp only [lcA, lnA]
       refine XO.q (Q.not rfl) ?_
       refine XO.q (Q.move rfl) ?_
       refine XO.q (Quiet.guardF rfl rfl fun g361 p361 => Q.ldA [_, _, _, _] rfl rfl rfl) ?_
       refine XO.q (Quiet.guardF rfl rfl fun g362 p362 => Q.move rfl) ?_
       refine XO.litG [_, _] [_, _] [p, -2] encI rfl rfl rfl (by rfl) (by rfl) rfl (by rfl) (by exact .c 0 1 (lzv rfl rfl) rfl rfl (.c 1 1 rfl rfl rfl (.n _))) (fun _ => rfl) (by rfl) rfl (by infer_instance) rfl fun v363 h363 O363 => ?_
       refine XO.q (Quiet.guardF rfl rfl fun g364 p364 => Q.build [_, _, _] (.c 0 1 rfl rfl rfl (.n _))) ?_
       refine XO.callS rfl rfl rfl Tryz.call6 rfl (.c (lzv rfl rfl) (.c (lzv rfl rfl) (.c rfl (.c rfl .n)))) rfl (tasks_spec (jp0 := nB h363) [(p1, jobX), (p2, jobX)] v353 kl K J2 (List.replicate p.toNat (⟨0, 0, 0, 0, 0⟩ : PRack)) v349 h349 ⟨1, 10⟩ (by first | omega | decide | (simp only [List.length_cons, List.length_nil]; omega) | (simp only [List.length_replicate]; omega)) (DrawsB.cons (by exact Nat.le_of_ble_eq_true rfl) (DrawsB.cons (by exact Nat.le_of_ble_eq_true rfl) DrawsB.nil)) (by first | omega | decide | (simp only [List.length_cons, List.length_nil]; omega) | (simp only [List.length_replicate]; omega)) [p, -2] v363 h363 0 [] (.slice none 0 0) h363 (by first | omega | decide | (simp only [List.length_cons, List.length_nil]; omega) | (simp only [List.length_replicate]; omega)) (by first | omega | decide | (simp only [List.length_cons, List.length_nil]; omega) | (simp only [List.length_replicate]; omega)) 0 0) fun v365 s365 R365 => ?_
       obtain ⟨rfl, rfl⟩ := R365
       dsimp only [lcA, lnA]
       refine XO.q (Quiet.guardF rfl rfl fun g366 p366 => Q.not rfl) ?_
       refine XO.q (Q.or rfl (fun hp => lzv hp rfl)) ?_
       refine XO.q (Q.move rfl) ?_
       refine XO.q (Quiet.guardF rfl rfl fun g369 p369 => Q.ldA [_, _, _, _] rfl rfl rfl) ?_
       refine XO.litG [_] [_] [0] encI rfl rfl rfl (by rfl) (by rfl) rfl (by rfl) (by exact .c 0 1 rfl rfl rfl (.n _)) (fun _ => rfl) (by rfl) rfl (by infer_instance) rfl fun v370 h370 O370 => ?_
       refine XO.q (Quiet.guardF rfl rfl fun g371 p371 => Q.build [_, _, _] (.c 0 1 rfl rfl rfl (.n _))) ?_
       refine XO.callS rfl rfl rfl Tryz.call6 rfl (.c (lzv rfl rfl) (.c (lzv rfl rfl) (.c rfl (.c rfl .n)))) rfl (tasks_spec (jp0 := nB h370) [(p1, jobX), (p2, jobX)] v353 kl K J2 (List.replicate p.toNat (⟨0, 0, 0, 0, 0⟩ : PRack)) v349 h349 ⟨1, 10⟩ (by first | omega | decide | (simp only [List.length_cons, List.length_nil]; omega) | (simp only [List.length_replicate]; omega)) (DrawsB.cons (by exact Nat.le_of_ble_eq_true rfl) (DrawsB.cons (by exact Nat.le_of_ble_eq_true rfl) DrawsB.nil)) (by first | omega | decide | (simp only [List.length_cons, List.length_nil]; omega) | (simp only [List.length_replicate]; omega)) [0] v370 h370 0 [] (.slice none 0 0) h370 (by first | omega | decide | (simp only [List.length_cons, List.length_nil]; omega) | (simp only [List.length_replicate]; omega)) (by first | omega | decide | (simp only [List.length_cons, List.length_nil]; omega) | (simp only [List.length_replicate]; omega)) 0 0) fun v372 s372 R372 => ?_
       obtain ⟨rfl, rfl⟩ := R372
       dsimp only [lcA, lnA]
       refine XO.q (Quiet.guardF rfl rfl fun g373 p373 => Q.not rfl) ?_
       refine XO.q (Q.or rfl (fun hp => lzv hp rfl)) ?_
       refine XO.done ?_
       refine XK.if rfl (fun c14 => ?_) (fun c14 => ?_)
       ·skip
        simp at c14
       ·skip
        refine XK.skip ?_
        refine XK.inBlock ?_
        refine XK.region rfl ?_
        refine XO.q (Q.add rfl rfl ⟨by omega, by omega⟩) ?_
        refine XO.q (Q.move rfl) (XO.done ?_)
        exact ih8 (k + 1) _ _ (by omega) (by first | omega | (dsimp only; omega)) (.c rfl (.base 72 rfl rfl)) inferInstance
      ·skip
       refine XK.exit rfl ?_
       refine XK.seq (XK.region rfl ?_)
       refine XO.call Tryz.call9 rfl rfl rfl (task_spec) fun v376 s376 R376 => ?_
       obtain ⟨vlm, vrm, klm, Km, krm, lm, rfl, rfl, OLm, JLm, elm, ORm⟩ := R376
       dsimp only [lcA, lnA]
       obtain ⟨p1, p2, p3, rfl⟩ := list3 elm
       have lp3 : ([(p1, jobX), (p2, jobX), (p3, jobX)] : List (Value × PJob)).length = 3 := rfl
       refine XO.alloc fun b26 => ?_
       refine XO.st rfl rfl rfl ?_
       refine XO.done (XK.seq (XK.region rfl ?_))
       refine XO.call Tryz.call13 rfl rfl rfl (job_spec) fun v377 s377 R377 => ?_
       obtain ⟨vd377, k377, rfl, rfl, D377⟩ := R377
       dsimp only [lcA, lnA]
       refine XO.lit [_, _, _, _, _, _] [_, _, _, _, _, _] [(vd377, jobX)] encPJ (by rfl) (by rfl) rfl (by rfl) (by exact .c 0 6 rfl rfl rfl (.n _)) (fun _ => rfl) (by rfl) rfl (by infer_instance) rfl fun v378 h378 O378 => ?_
       refine XO.call Tryz.call12 rfl rfl rfl (repeatJ v378 h378 (vd377, jobX) 9 (by decide)) fun v379 s379 R379 => ?_
       obtain ⟨k379, rfl, O379⟩ := R379
       dsimp only [lcA, lnA]
       refine XO.q (Q.fieldAddr rfl) ?_
       refine XO.st rfl rfl rfl ?_
       refine XO.done (XK.seq ?_)
       refine XK.meet (X := Value × PHeap × Value × PHeap × Nat) [27, 381, 382, 383, 384, 385, 386, 387, 388, 389] (fun ⟨v386, h386, v387, h387, b27⟩ => [(27, some (ptr b27 0))]) (fun ⟨v386, h386, v387, h387, b27⟩ => [blk b27 [v386, v387, .int .i64 1, .int .i64 1] 27, h386, h387]) (fun ⟨v386, h386, v387, h387, b27⟩ => OArr v386 encPJ 6 41 h386 [(v263, (⟨0, 0, 0, w8, 0, 0⟩ : PJob)), (v263, (⟨0, 0, 0, w8, 0, 0⟩ : PJob)), (v263, (⟨0, 0, 0, w8, 0, 0⟩ : PJob)), (v263, (⟨0, 0, 0, w8, 0, 0⟩ : PJob)), (v267, (⟨0, 0, 0, w2, 0, 0⟩ : PJob))] ∧ OArr v387 encRack 5 43 h387 (List.replicate (Int.toNat 1) (⟨0, 0, 0, 0, 0⟩ : PRack))) [] ?_ ?_
       ·rintro ⟨v386, h386, v387, h387, b27⟩ ⟨O386, O387⟩
        dsimp only [lcA, lnA]
        have JLG : JobsK [(v263, (⟨0, 0, 0, w8, 0, 0⟩ : PJob)), (v263, (⟨0, 0, 0, w8, 0, 0⟩ : PJob)), (v263, (⟨0, 0, 0, w8, 0, 0⟩ : PJob)), (v263, (⟨0, 0, 0, w8, 0, 0⟩ : PJob)), (v267, (⟨0, 0, 0, w2, 0, 0⟩ : PJob))] (cat (cat (cat (cat (cat (cat (cat (cat (cat (cat (cat (cat (cat h263 h292) h300) k275) h279) h286) h294) h302) h308) k311) k314) h316) h318) h320) := .cons (x := (v263, (⟨0, 0, 0, w8, 0, 0⟩ : PJob))) aW (.cons (x := (v263, (⟨0, 0, 0, w8, 0, 0⟩ : PJob))) aW (.cons (x := (v263, (⟨0, 0, 0, w8, 0, 0⟩ : PJob))) aW (.cons (x := (v263, (⟨0, 0, 0, w8, 0, 0⟩ : PJob))) aW (.cons (x := (v267, (⟨0, 0, 0, w2, 0, 0⟩ : PJob))) aH (JobsK.nil _)))))
        have BLG : DrawsB [(v263, (⟨0, 0, 0, w8, 0, 0⟩ : PJob)), (v263, (⟨0, 0, 0, w8, 0, 0⟩ : PJob)), (v263, (⟨0, 0, 0, w8, 0, 0⟩ : PJob)), (v263, (⟨0, 0, 0, w8, 0, 0⟩ : PJob)), (v267, (⟨0, 0, 0, w2, 0, 0⟩ : PJob))] := DrawsB.cons (x := (v263, (⟨0, 0, 0, w8, 0, 0⟩ : PJob))) (by first | exact Nat.le_of_ble_eq_true rfl | (dsimp only; omega)) (DrawsB.cons (x := (v263, (⟨0, 0, 0, w8, 0, 0⟩ : PJob))) (by first | exact Nat.le_of_ble_eq_true rfl | (dsimp only; omega)) (DrawsB.cons (x := (v263, (⟨0, 0, 0, w8, 0, 0⟩ : PJob))) (by first | exact Nat.le_of_ble_eq_true rfl | (dsimp only; omega)) (DrawsB.cons (x := (v263, (⟨0, 0, 0, w8, 0, 0⟩ : PJob))) (by first | exact Nat.le_of_ble_eq_true rfl | (dsimp only; omega)) (DrawsB.cons (x := (v267, (⟨0, 0, 0, w2, 0, 0⟩ : PJob))) (by first | exact Nat.le_of_ble_eq_true rfl | (dsimp only; omega)) (DrawsB.nil)))))
        refine XK.seq (XK.region rfl ?_)
        refine XO.q (Q.ldA [_, _, _, _] rfl rfl rfl) ?_
        refine XO.q (Q.build [_, _, _] (.n _)) ?_
        refine XO.call Tryz.call6 rfl rfl rfl (tasks_spec (jw0 := nI krm) (jp0 := nB krm) (List.replicate 9 (vd377, jobX)) v379 k379 k377 (JobsK.rep (x := (vd377, jobX)) (OArr.arr (s := D377)) 9) taskX.racks vrm krm ⟨1, 10⟩ (by first | omega | decide | (simp only [List.length_cons, List.length_nil]; omega) | (simp only [List.length_replicate]; omega)) (DrawsB.rep (x := (vd377, jobX)) (by exact Nat.le_of_ble_eq_true rfl) 9) (by first | omega | decide | (simp only [List.length_cons, List.length_nil]; omega) | (simp only [List.length_replicate]; omega)) [] (.slice none 0 0) krm 0 [] (.slice none 0 0) krm (by first | omega | decide | (simp only [List.length_cons, List.length_nil]; omega) | (simp only [List.length_replicate]; omega)) (by first | omega | decide | (simp only [List.length_cons, List.length_nil]; omega) | (simp only [List.length_replicate]; omega)) 0 0) fun v392 s392 R392 => ?_
        obtain ⟨rfl, rfl⟩ := R392
        dsimp only [lcA, lnA]
        refine XO.q (Q.move rfl) ?_
        refine XO.makeS encRack ((⟨0, 0, 0, 0, 0⟩ : PRack)) rfl rfl rfl rfl rfl rfl (by omega) (by omega) (fun _ => rfl) rfl rfl rfl (by dsimp only [encRack]; infer_instance) fun v394 h394 O394 => ?_
        refine XO.q (Quiet.guardT rfl rfl fun g395 p395 => Q.build [_, _] (.c 0 1 rfl rfl rfl (.c 1 1 rfl rfl rfl (.n _)))) ?_
        refine XO.q (Quiet.guardT rfl rfl fun g396 p396 => Q.build [_, _, _, _] (.c 1 1 rfl rfl rfl (.c 2 2 (lzv rfl rfl) rfl rfl (.n _)))) ?_
        refine XO.litG [_] [_] [true] encB rfl rfl rfl (by rfl) (by rfl) rfl (by rfl) (by exact .c 0 1 rfl rfl rfl (.n _)) (fun _ => rfl) (by rfl) rfl (by infer_instance) rfl fun v397 h397 O397 => ?_
        refine XO.q (Quiet.guardT rfl rfl fun g398 p398 => Q.build [_, _, _] (.c 2 1 rfl rfl rfl (.n _))) ?_
        refine XO.callS rfl rfl rfl Tryz.call6 rfl (.c (lzv rfl rfl) (.c (lzv rfl rfl) (.c rfl (.c rfl .n)))) rfl (tasks_spec (jl := nJ h394) (jw0 := nI h394) [] (.slice none 0 0) h394 h394 (JobsK.nil _) (List.replicate (Int.toNat 2) (⟨0, 0, 0, 0, 0⟩ : PRack)) v394 h394 ⟨0, 1⟩ (by first | omega | decide | (simp only [List.length_cons, List.length_nil]; omega) | (simp only [List.length_replicate]; omega)) DrawsB.nil (by first | omega | decide | (simp only [List.length_cons, List.length_nil]; omega) | (simp only [List.length_replicate]; omega)) [] (.slice none 0 0) h394 0 [true] v397 h397 (by first | omega | decide | (simp only [List.length_cons, List.length_nil]; omega) | (simp only [List.length_replicate]; omega)) (by first | omega | decide | (simp only [List.length_cons, List.length_nil]; omega) | (simp only [List.length_replicate]; omega)) 0 0) fun v399 s399 R399 => ?_
        obtain ⟨rfl, rfl⟩ := R399
        dsimp only [lcA, lnA]
        refine XO.q (Q.and rfl (fun _ => rfl)) ?_
        refine XO.q (Q.move rfl) ?_
        refine XO.q (Quiet.guardT rfl rfl fun g402 p402 => Q.ldA [_, _, _, _] rfl rfl rfl) ?_
        refine XO.litG [_, _, _, _, _] [_, _, _, _, _] [0, 0, 0, 0, 0] encI rfl rfl rfl (by rfl) (by rfl) rfl (by rfl) (by exact .c 0 1 rfl rfl rfl (.c 1 1 rfl rfl rfl (.c 2 1 rfl rfl rfl (.c 3 1 rfl rfl rfl (.c 4 1 rfl rfl rfl (.n _)))))) (fun _ => rfl) (by rfl) rfl (by infer_instance) rfl fun v403 h403 O403 => ?_
        refine XO.q (Quiet.guardT rfl rfl fun g404 p404 => Q.build [_, _, _] (.c 0 1 rfl rfl rfl (.n _))) ?_
        refine XO.callS rfl rfl rfl Tryz.call6 rfl (.c (lzv rfl rfl) (.c (lzv rfl rfl) (.c rfl (.c rfl .n)))) rfl (tasks_spec (jp0 := nB h403) [(v263, (⟨0, 0, 0, w8, 0, 0⟩ : PJob)), (v263, (⟨0, 0, 0, w8, 0, 0⟩ : PJob)), (v263, (⟨0, 0, 0, w8, 0, 0⟩ : PJob)), (v263, (⟨0, 0, 0, w8, 0, 0⟩ : PJob)), (v267, (⟨0, 0, 0, w2, 0, 0⟩ : PJob))] v386 h386 (cat (cat (cat (cat (cat (cat (cat (cat (cat (cat (cat (cat (cat h263 h292) h300) k275) h279) h286) h294) h302) h308) k311) k314) h316) h318) h320) JLG (List.replicate (Int.toNat 1) (⟨0, 0, 0, 0, 0⟩ : PRack)) v387 h387 ⟨1, 1⟩ (by first | omega | decide | (simp only [List.length_cons, List.length_nil]; omega) | (simp only [List.length_replicate]; omega)) BLG (by first | omega | decide | (simp only [List.length_cons, List.length_nil]; omega) | (simp only [List.length_replicate]; omega)) [0, 0, 0, 0, 0] v403 h403 0 [] (.slice none 0 0) h403 (by first | omega | decide | (simp only [List.length_cons, List.length_nil]; omega) | (simp only [List.length_replicate]; omega)) (by first | omega | decide | (simp only [List.length_cons, List.length_nil]; omega) | (simp only [List.length_replicate]; omega)) 0 0) fun v405 s405 R405 => ?_
        obtain ⟨rfl, rfl⟩ := R405
        dsimp only [lcA, lnA]
        refine XO.q (Q.and rfl (fun _ => rfl)) ?_
        refine XO.q (Q.move rfl) ?_
        refine XO.q (Quiet.guardT rfl rfl fun g408 p408 => Q.ldA [_, _, _, _] rfl rfl rfl) ?_
        refine XO.litG [_, _, _, _, _] [_, _, _, _, _] [0, 0, 0, 0, -1] encI rfl rfl rfl (by rfl) (by rfl) rfl (by rfl) (by exact .c 0 1 rfl rfl rfl (.c 1 1 rfl rfl rfl (.c 2 1 rfl rfl rfl (.c 3 1 rfl rfl rfl (.c 4 1 rfl rfl rfl (.n _)))))) (fun _ => rfl) (by rfl) rfl (by infer_instance) rfl fun v409 h409 O409 => ?_
        refine XO.q (Quiet.guardT rfl rfl fun g410 p410 => Q.build [_, _, _] (.c 0 1 rfl rfl rfl (.n _))) ?_
        refine XO.callS rfl rfl rfl Tryz.call6 rfl (.c (lzv rfl rfl) (.c (lzv rfl rfl) (.c rfl (.c rfl .n)))) rfl (tasks_spec (jp0 := nB h409) [(v263, (⟨0, 0, 0, w8, 0, 0⟩ : PJob)), (v263, (⟨0, 0, 0, w8, 0, 0⟩ : PJob)), (v263, (⟨0, 0, 0, w8, 0, 0⟩ : PJob)), (v263, (⟨0, 0, 0, w8, 0, 0⟩ : PJob)), (v267, (⟨0, 0, 0, w2, 0, 0⟩ : PJob))] v386 h386 (cat (cat (cat (cat (cat (cat (cat (cat (cat (cat (cat (cat (cat h263 h292) h300) k275) h279) h286) h294) h302) h308) k311) k314) h316) h318) h320) JLG (List.replicate (Int.toNat 1) (⟨0, 0, 0, 0, 0⟩ : PRack)) v387 h387 ⟨1, 1⟩ (by first | omega | decide | (simp only [List.length_cons, List.length_nil]; omega) | (simp only [List.length_replicate]; omega)) BLG (by first | omega | decide | (simp only [List.length_cons, List.length_nil]; omega) | (simp only [List.length_replicate]; omega)) [0, 0, 0, 0, -1] v409 h409 0 [] (.slice none 0 0) h409 (by first | omega | decide | (simp only [List.length_cons, List.length_nil]; omega) | (simp only [List.length_replicate]; omega)) (by first | omega | decide | (simp only [List.length_cons, List.length_nil]; omega) | (simp only [List.length_replicate]; omega)) 0 0) fun v411 s411 R411 => ?_
        obtain ⟨rfl, rfl⟩ := R411
        dsimp only [lcA, lnA]
        refine XO.q (Q.and rfl (fun _ => rfl)) ?_
        refine XO.q (Q.move rfl) ?_
        refine XO.callS rfl rfl rfl Tryz.call7 rfl (.n) rfl (awake09) fun v414 s414 R414 => ?_
        obtain ⟨rfl, rfl⟩ := R414
        dsimp only [lcA, lnA]
        refine XO.q (Q.and rfl (fun _ => rfl)) ?_
        refine XO.q (Q.assign rfl) (XO.done ?_)
        refine XK.rt [] Tryz.func4 Tryz.results4 (.t rfl .n) ?_
        exact ⟨by simp, rfl⟩
       ·intro mtr64
        dsimp only [lcA, lnA] at mtr64
        refine XK.drawn [0, 1, 2, 3, 4, 7, 8] [b14, b15] [blk b14 [.int .i64 0, .int .i64 0, .int .i64 0, v263, .int .i64 0, .int .i64 0] 41, blk b15 [.int .i64 0, .int .i64 0, .int .i64 0, v267, .int .i64 0, .int .i64 0] 41] (.q 0 (.q 1 (.q 2 (.q 3 (.q 4 (.q 7 (.br 5 true (.br 6 true (.q 8 (.br 9 true (.br 10 false .done .stop) .stop)) (.br 9 true (.br 6 true (.q 8 (.br 10 false .done .stop)) .stop) .stop)) (.br 6 true (.br 5 true (.q 8 (.br 9 true (.br 10 false .done .stop) .stop)) (.br 9 true (.br 5 true (.q 8 (.br 10 false .done .stop)) .stop) .stop)) (.br 9 true (.br 5 true (.br 6 true (.q 8 (.br 10 false .done .stop)) .stop) (.br 6 true (.br 5 true (.q 8 (.br 10 false .done .stop)) .stop) .stop)) .stop))))))))) Tryz.mixed rfl (by kernel_rfl) ?_
        refine XT.q rfl rfl (Q.ldA [_, _, _, _, _, _] rfl rfl rfl) ?_
        refine XT.q rfl rfl (Q.ldA [_, _, _, _, _, _] rfl rfl rfl) ?_
        refine XT.q rfl rfl (Q.ldA [_, _, _, _, _, _] rfl rfl rfl) ?_
        refine XT.q rfl rfl (Q.ldA [_, _, _, _, _, _] rfl rfl rfl) ?_
        refine XT.q rfl rfl (Q.ldA [_, _, _, _, _, _] rfl rfl rfl) ?_
        refine XT.q rfl rfl (Q.build [_, _] (.c 0 1 rfl rfl rfl (.c 1 1 rfl rfl rfl (.n _)))) ?_
        refine XT.lit [_, _, _, _, _, _, _, _, _, _, _, _, _, _, _, _, _, _, _, _, _, _, _, _, _, _, _, _, _, _] [_, _, _, _, _, _, _, _, _, _, _, _, _, _, _, _, _, _, _, _, _, _, _, _, _, _, _, _, _, _] [(v263, (⟨0, 0, 0, w8, 0, 0⟩ : PJob)), (v263, (⟨0, 0, 0, w8, 0, 0⟩ : PJob)), (v263, (⟨0, 0, 0, w8, 0, 0⟩ : PJob)), (v263, (⟨0, 0, 0, w8, 0, 0⟩ : PJob)), (v267, (⟨0, 0, 0, w2, 0, 0⟩ : PJob))] encPJ rfl rfl (by rfl) (by rfl) rfl (by rfl) (by exact .c 0 6 rfl rfl rfl (.c 6 6 rfl rfl rfl (.c 12 6 rfl rfl rfl (.c 18 6 rfl rfl rfl (.c 24 6 rfl rfl rfl (.n _)))))) (fun _ => rfl) (by rfl) rfl (by infer_instance) rfl (fun v386 h386 O386 => ⟨inferInstance, ?_⟩) ?_
        ·skip
         refine XT.make encRack ((⟨0, 0, 0, 0, 0⟩ : PRack)) rfl rfl rfl rfl rfl (by omega) (by omega) (fun _ => rfl) rfl rfl rfl (by dsimp only [encRack]; infer_instance) (fun v387 h387 O387 => ⟨inferInstance, ?_⟩) ?_
         ·skip
          refine XT.q rfl rfl (Q.build [_, _, _, _] (.c 0 1 rfl rfl rfl (.c 1 1 rfl rfl rfl (.c 2 2 rfl rfl rfl (.n _))))) ?_
          refine XT.alloc rfl rfl (fun b27 => ⟨inferInstance, ?_⟩) XT.stop
          refine XT.st rfl rfl rfl rfl rfl ⟨inferInstance, ?_⟩ XT.stop
          refine XT.done ?_
          exact mtr64 ((v386, h386, v387, h387, b27)) _ _ ⟨O386, O387⟩ (.c rfl (.base 10 rfl rfl)) inferInstance
         ·skip
          refine XT.alloc rfl rfl (fun b27 => ⟨inferInstance, ?_⟩) XT.stop
          refine XT.make encRack ((⟨0, 0, 0, 0, 0⟩ : PRack)) rfl rfl rfl rfl rfl (by omega) (by omega) (fun _ => rfl) rfl rfl rfl (by dsimp only [encRack]; infer_instance) (fun v387 h387 O387 => ⟨inferInstance, ?_⟩) XT.stop
          refine XT.q rfl rfl (Q.build [_, _, _, _] (.c 0 1 rfl rfl rfl (.c 1 1 rfl rfl rfl (.c 2 2 rfl rfl rfl (.n _))))) ?_
          refine XT.st rfl rfl rfl rfl rfl ⟨inferInstance, ?_⟩ XT.stop
          refine XT.done ?_
          exact mtr64 ((v386, h386, v387, h387, b27)) _ _ ⟨O386, O387⟩ (.c rfl (.base 10 rfl rfl)) inferInstance
        ·skip
         refine XT.make encRack ((⟨0, 0, 0, 0, 0⟩ : PRack)) rfl rfl rfl rfl rfl (by omega) (by omega) (fun _ => rfl) rfl rfl rfl (by dsimp only [encRack]; infer_instance) (fun v387 h387 O387 => ⟨inferInstance, ?_⟩) ?_
         ·skip
          refine XT.lit [_, _, _, _, _, _, _, _, _, _, _, _, _, _, _, _, _, _, _, _, _, _, _, _, _, _, _, _, _, _] [_, _, _, _, _, _, _, _, _, _, _, _, _, _, _, _, _, _, _, _, _, _, _, _, _, _, _, _, _, _] [(v263, (⟨0, 0, 0, w8, 0, 0⟩ : PJob)), (v263, (⟨0, 0, 0, w8, 0, 0⟩ : PJob)), (v263, (⟨0, 0, 0, w8, 0, 0⟩ : PJob)), (v263, (⟨0, 0, 0, w8, 0, 0⟩ : PJob)), (v267, (⟨0, 0, 0, w2, 0, 0⟩ : PJob))] encPJ rfl rfl (by rfl) (by rfl) rfl (by rfl) (by exact .c 0 6 rfl rfl rfl (.c 6 6 rfl rfl rfl (.c 12 6 rfl rfl rfl (.c 18 6 rfl rfl rfl (.c 24 6 rfl rfl rfl (.n _)))))) (fun _ => rfl) (by rfl) rfl (by infer_instance) rfl (fun v386 h386 O386 => ⟨inferInstance, ?_⟩) ?_
          ·skip
           refine XT.q rfl rfl (Q.build [_, _, _, _] (.c 0 1 rfl rfl rfl (.c 1 1 rfl rfl rfl (.c 2 2 rfl rfl rfl (.n _))))) ?_
           refine XT.alloc rfl rfl (fun b27 => ⟨inferInstance, ?_⟩) XT.stop
           refine XT.st rfl rfl rfl rfl rfl ⟨inferInstance, ?_⟩ XT.stop
           refine XT.done ?_
           exact mtr64 ((v386, h386, v387, h387, b27)) _ _ ⟨O386, O387⟩ (.c rfl (.base 10 rfl rfl)) inferInstance
          ·skip
           refine XT.alloc rfl rfl (fun b27 => ⟨inferInstance, ?_⟩) XT.stop
           refine XT.lit [_, _, _, _, _, _, _, _, _, _, _, _, _, _, _, _, _, _, _, _, _, _, _, _, _, _, _, _, _, _] [_, _, _, _, _, _, _, _, _, _, _, _, _, _, _, _, _, _, _, _, _, _, _, _, _, _, _, _, _, _] [(v263, (⟨0, 0, 0, w8, 0, 0⟩ : PJob)), (v263, (⟨0, 0, 0, w8, 0, 0⟩ : PJob)), (v263, (⟨0, 0, 0, w8, 0, 0⟩ : PJob)), (v263, (⟨0, 0, 0, w8, 0, 0⟩ : PJob)), (v267, (⟨0, 0, 0, w2, 0, 0⟩ : PJob))] encPJ rfl rfl (by rfl) (by rfl) rfl (by rfl) (by exact .c 0 6 rfl rfl rfl (.c 6 6 rfl rfl rfl (.c 12 6 rfl rfl rfl (.c 18 6 rfl rfl rfl (.c 24 6 rfl rfl rfl (.n _)))))) (fun _ => rfl) (by rfl) rfl (by infer_instance) rfl (fun v386 h386 O386 => ⟨inferInstance, ?_⟩) XT.stop
           refine XT.q rfl rfl (Q.build [_, _, _, _] (.c 0 1 rfl rfl rfl (.c 1 1 rfl rfl rfl (.c 2 2 rfl rfl rfl (.n _))))) ?_
           refine XT.st rfl rfl rfl rfl rfl ⟨inferInstance, ?_⟩ XT.stop
           refine XT.done ?_
           exact mtr64 ((v386, h386, v387, h387, b27)) _ _ ⟨O386, O387⟩ (.c rfl (.base 10 rfl rfl)) inferInstance
         ·skip
          refine XT.alloc rfl rfl (fun b27 => ⟨inferInstance, ?_⟩) XT.stop
          refine XT.lit [_, _, _, _, _, _, _, _, _, _, _, _, _, _, _, _, _, _, _, _, _, _, _, _, _, _, _, _, _, _] [_, _, _, _, _, _, _, _, _, _, _, _, _, _, _, _, _, _, _, _, _, _, _, _, _, _, _, _, _, _] [(v263, (⟨0, 0, 0, w8, 0, 0⟩ : PJob)), (v263, (⟨0, 0, 0, w8, 0, 0⟩ : PJob)), (v263, (⟨0, 0, 0, w8, 0, 0⟩ : PJob)), (v263, (⟨0, 0, 0, w8, 0, 0⟩ : PJob)), (v267, (⟨0, 0, 0, w2, 0, 0⟩ : PJob))] encPJ rfl rfl (by rfl) (by rfl) rfl (by rfl) (by exact .c 0 6 rfl rfl rfl (.c 6 6 rfl rfl rfl (.c 12 6 rfl rfl rfl (.c 18 6 rfl rfl rfl (.c 24 6 rfl rfl rfl (.n _)))))) (fun _ => rfl) (by rfl) rfl (by infer_instance) rfl (fun v386 h386 O386 => ⟨inferInstance, ?_⟩) ?_
          ·skip
           refine XT.make encRack ((⟨0, 0, 0, 0, 0⟩ : PRack)) rfl rfl rfl rfl rfl (by omega) (by omega) (fun _ => rfl) rfl rfl rfl (by dsimp only [encRack]; infer_instance) (fun v387 h387 O387 => ⟨inferInstance, ?_⟩) XT.stop
           refine XT.q rfl rfl (Q.build [_, _, _, _] (.c 0 1 rfl rfl rfl (.c 1 1 rfl rfl rfl (.c 2 2 rfl rfl rfl (.n _))))) ?_
           refine XT.st rfl rfl rfl rfl rfl ⟨inferInstance, ?_⟩ XT.stop
           refine XT.done ?_
           exact mtr64 ((v386, h386, v387, h387, b27)) _ _ ⟨O386, O387⟩ (.c rfl (.base 10 rfl rfl)) inferInstance
          ·skip
           refine XT.make encRack ((⟨0, 0, 0, 0, 0⟩ : PRack)) rfl rfl rfl rfl rfl (by omega) (by omega) (fun _ => rfl) rfl rfl rfl (by dsimp only [encRack]; infer_instance) (fun v387 h387 O387 => ⟨inferInstance, ?_⟩) XT.stop
           refine XT.lit [_, _, _, _, _, _, _, _, _, _, _, _, _, _, _, _, _, _, _, _, _, _, _, _, _, _, _, _, _, _] [_, _, _, _, _, _, _, _, _, _, _, _, _, _, _, _, _, _, _, _, _, _, _, _, _, _, _, _, _, _] [(v263, (⟨0, 0, 0, w8, 0, 0⟩ : PJob)), (v263, (⟨0, 0, 0, w8, 0, 0⟩ : PJob)), (v263, (⟨0, 0, 0, w8, 0, 0⟩ : PJob)), (v263, (⟨0, 0, 0, w8, 0, 0⟩ : PJob)), (v267, (⟨0, 0, 0, w2, 0, 0⟩ : PJob))] encPJ rfl rfl (by rfl) (by rfl) rfl (by rfl) (by exact .c 0 6 rfl rfl rfl (.c 6 6 rfl rfl rfl (.c 12 6 rfl rfl rfl (.c 18 6 rfl rfl rfl (.c 24 6 rfl rfl rfl (.n _)))))) (fun _ => rfl) (by rfl) rfl (by infer_instance) rfl (fun v386 h386 O386 => ⟨inferInstance, ?_⟩) XT.stop
           refine XT.q rfl rfl (Q.build [_, _, _, _] (.c 0 1 rfl rfl rfl (.c 1 1 rfl rfl rfl (.c 2 2 rfl rfl rfl (.n _))))) ?_
           refine XT.st rfl rfl rfl rfl rfl ⟨inferInstance, ?_⟩ XT.stop
           refine XT.done ?_
           exact mtr64 ((v386, h386, v387, h387, b27)) _ _ ⟨O386, O387⟩ (.c rfl (.base 10 rfl rfl)) inferInstance
    ·intro mtr43
     dsimp only [lcA, lnA] at mtr43
     refine XK.drawNet [0, 1, 2, 3, 4, 6, 7, 8, 9, 10, 14, 15, 16, 17, 18, 22, 23, 24, 25, 26, 28, 31, 34, 36, 38, 42, 41] [blk b14 [.int .i64 0, .int .i64 0, .int .i64 0, v263, .int .i64 0, .int .i64 0] 41, blk b15 [.int .i64 0, .int .i64 0, .int .i64 0, v267, .int .i64 0, .int .i64 0] 41, blk b16 [.int .i64 0, .int .i64 0, .int .i64 0, .slice none 0 0, .int .i64 0, .int .i64 0] 41, blk b17 [.int .i64 0, .int .i64 0, .int .i64 0, v275, .int .i64 0, .int .i64 0] 41, blk b18 [.int .i64 0, .int .i64 0, .int .i64 0, v279, .int .i64 0, .int .i64 0] 41] [0, 1, 2, 3, 4, 6, 7, 8, 9, 10, 14, 15, 16, 17, 18, 22, 23, 24, 25, 26, 28, 31, 34, 36, 38, 42] [([5], 5, (.br 5 false .done .stop)), ([11, 12, 13], 13, (.br 11 false (.br 12 false (.br 13 false .done .stop) .stop) .stop)), ([19, 20, 21], 21, (.br 19 false (.br 20 false (.br 21 false .done .stop) .stop) .stop)), ([27], 27, (.br 27 false .done .stop)), ([35], 35, (.br 35 false .done .stop)), ([37], 37, (.br 37 false .done .stop)), ([39], 39, (.br 39 false .done .stop)), ([29, 30, 32, 33], 33, (.br 29 false (.br 30 false (.br 32 false (.br 33 false .done .stop) .stop) (.br 32 false (.br 30 false (.br 33 false .done .stop) .stop) .stop)) (.br 32 false (.br 29 false (.br 30 false (.br 33 false .done .stop) .stop) .stop) .stop)))] [286, 292, 293, 294, 300, 301, 302, 308, 316, 318, 320, 310, 311, 313, 314] (.br 40 true (.q 41 .done) .stop) Tryz.mixed rfl (by kernel_rfl) inferInstance ?_
     refine XQ.q rfl rfl (Q.ldA [_, _, _, _, _, _] rfl rfl rfl) ?_
     refine XQ.q rfl rfl (Q.ldA [_, _, _, _, _, _] rfl rfl rfl) ?_
     refine XQ.q rfl rfl (Q.ldA [_, _, _, _, _, _] rfl rfl rfl) ?_
     refine XQ.q rfl rfl (Q.ldA [_, _, _, _, _, _] rfl rfl rfl) ?_
     refine XQ.q rfl rfl (Q.ldA [_, _, _, _, _, _] rfl rfl rfl) ?_
     refine XQ.q rfl rfl (Q.ldA [_, _, _, _, _, _] rfl rfl rfl) ?_
     refine XQ.q rfl rfl (Q.ldA [_, _, _, _, _, _] rfl rfl rfl) ?_
     refine XQ.q rfl rfl (Q.ldA [_, _, _, _, _, _] rfl rfl rfl) ?_
     refine XQ.q rfl rfl (Q.ldA [_, _, _, _, _, _] rfl rfl rfl) ?_
     refine XQ.q rfl rfl (Q.build [_, _] (.c 0 1 rfl rfl rfl (.c 1 1 rfl rfl rfl (.n _)))) ?_
     refine XQ.q rfl rfl (Q.ldA [_, _, _, _, _, _] rfl rfl rfl) ?_
     refine XQ.q rfl rfl (Q.ldA [_, _, _, _, _, _] rfl rfl rfl) ?_
     refine XQ.q rfl rfl (Q.ldA [_, _, _, _, _, _] rfl rfl rfl) ?_
     refine XQ.q rfl rfl (Q.ldA [_, _, _, _, _, _] rfl rfl rfl) ?_
     refine XQ.q rfl rfl (Q.build [_, _] (.c 0 1 rfl rfl rfl (.c 1 1 rfl rfl rfl (.n _)))) ?_
     refine XQ.q rfl rfl (Q.ldA [_, _, _, _, _, _] rfl rfl rfl) ?_
     refine XQ.q rfl rfl (Q.ldA [_, _, _, _, _, _] rfl rfl rfl) ?_
     refine XQ.q rfl rfl (Q.ldA [_, _, _, _, _, _] rfl rfl rfl) ?_
     refine XQ.q rfl rfl (Q.ldA [_, _, _, _, _, _] rfl rfl rfl) ?_
     refine XQ.q rfl rfl (Q.ldA [_, _, _, _, _, _] rfl rfl rfl) ?_
     refine XQ.q rfl rfl (Q.ldA [_, _, _, _, _, _] rfl rfl rfl) ?_
     refine XQ.q rfl rfl (Q.ldA [_, _, _, _, _, _] rfl rfl rfl) ?_
     refine XQ.q rfl rfl (Q.ldA [_, _, _, _, _, _] rfl rfl rfl) ?_
     refine XQ.q rfl rfl (Q.ldA [_, _, _, _, _, _] rfl rfl rfl) ?_
     refine XQ.q rfl rfl (Q.ldA [_, _, _, _, _, _] rfl rfl rfl) ?_
     refine XQ.q rfl rfl (Q.move rfl) ?_
     refine XQ.nil ?_
     refine XN.intro [fun el ol => ∃ v h, el = [(286, some v)] ∧ ol = [h] ∧ OArr v encPJ 6 41 h [(v263, (⟨0, 0, 0, w8, 0, 0⟩ : PJob)), (v263, (⟨0, 0, 0, w8, 0, 0⟩ : PJob)), (v263, (⟨0, 0, 0, w8, 0, 0⟩ : PJob)), (v263, (⟨0, 0, 0, w8, 0, 0⟩ : PJob)), (v267, (⟨0, 0, 0, w2, 0, 0⟩ : PJob))], fun el ol => ∃ v h v2 h2, el = [(294, some v2), (293, some (.agg #[.int .i64 0, .int .i64 0, .int .i64 0, v, .int .i64 0, .int .i64 0])), (292, some v)] ∧ ol = [h2, h] ∧ OArr v encDraw 2 38 h [⟨1, 16⟩] ∧ OArr v2 encPJ 6 41 h2 [(v263, (⟨0, 0, 0, w8, 0, 0⟩ : PJob)), (v263, (⟨0, 0, 0, w8, 0, 0⟩ : PJob)), (v263, (⟨0, 0, 0, w8, 0, 0⟩ : PJob)), (v263, (⟨0, 0, 0, w8, 0, 0⟩ : PJob)), (v, (⟨0, 0, 0, [⟨1, 16⟩], 0, 0⟩ : PJob))], fun el ol => ∃ v h v2 h2, el = [(302, some v2), (301, some (.agg #[.int .i64 0, .int .i64 0, .int .i64 0, v, .int .i64 0, .int .i64 0])), (300, some v)] ∧ ol = [h2, h] ∧ OArr v encDraw 2 38 h [⟨1, 17⟩] ∧ OArr v2 encPJ 6 41 h2 [(v263, (⟨0, 0, 0, w8, 0, 0⟩ : PJob)), (v263, (⟨0, 0, 0, w8, 0, 0⟩ : PJob)), (v263, (⟨0, 0, 0, w8, 0, 0⟩ : PJob)), (v263, (⟨0, 0, 0, w8, 0, 0⟩ : PJob)), (v, (⟨0, 0, 0, [⟨1, 17⟩], 0, 0⟩ : PJob))], fun el ol => ∃ v h, el = [(308, some v)] ∧ ol = [h] ∧ OArr v encPJ 6 41 h [(v263, (⟨0, 0, 0, w8, 0, 0⟩ : PJob)), (v263, (⟨0, 0, 0, w8, 0, 0⟩ : PJob)), (v263, (⟨0, 0, 0, w8, 0, 0⟩ : PJob)), (v263, (⟨0, 0, 0, w8, 0, 0⟩ : PJob)), (v263, (⟨0, 0, 0, w8, 0, 0⟩ : PJob))], fun el ol => ∃ v h, el = [(316, some v)] ∧ ol = [h] ∧ OArr v encPJ 6 41 h [((.slice none 0 0 : Value), (⟨0, 0, 0, [], 0, 0⟩ : PJob))], fun el ol => ∃ v h, el = [(318, some v)] ∧ ol = [h] ∧ OArr v encPJ 6 41 h [(v275, (⟨0, 0, 0, w9, 0, 0⟩ : PJob))], fun el ol => ∃ v h, el = [(320, some v)] ∧ ol = [h] ∧ OArr v encPJ 6 41 h [(v279, (⟨0, 0, 0, [⟨2, 1⟩, ⟨2, 1⟩], 0, 0⟩ : PJob))], fun el ol => ∃ v1 h1 v2 k2 v3 h3 v4 k4, ((el = [(314, some v4), (313, some v3), (311, some v2), (310, some v1)] ∧ ol = [k4, h3, k2, h1]) ∨ (el = [(314, some v4), (311, some v2), (313, some v3), (310, some v1)] ∧ ol = [k4, k2, h3, h1]) ∨ (el = [(314, some v4), (311, some v2), (310, some v1), (313, some v3)] ∧ ol = [k4, k2, h1, h3])) ∧ OArr v2 encPJ 6 41 k2 (List.replicate 8 (v267, (⟨0, 0, 0, w2, 0, 0⟩ : PJob))) ∧ OArr v4 encPJ 6 41 k4 (List.replicate 9 (v267, (⟨0, 0, 0, w2, 0, 0⟩ : PJob)))] (CTs.cons ?_ (CTs.cons ?_ (CTs.cons ?_ (CTs.cons ?_ (CTs.cons ?_ (CTs.cons ?_ (CTs.cons ?_ (CTs.cons ?_ (CTs.nil))))))))) ?_
     ·have _tn := True.intro
      dsimp only [List.cons_append, List.nil_append, List.append_nil]
      refine CT.lit [_, _, _, _, _, _, _, _, _, _, _, _, _, _, _, _, _, _, _, _, _, _, _, _, _, _, _, _, _, _] [_, _, _, _, _, _, _, _, _, _, _, _, _, _, _, _, _, _, _, _, _, _, _, _, _, _, _, _, _, _] [(v263, (⟨0, 0, 0, w8, 0, 0⟩ : PJob)), (v263, (⟨0, 0, 0, w8, 0, 0⟩ : PJob)), (v263, (⟨0, 0, 0, w8, 0, 0⟩ : PJob)), (v263, (⟨0, 0, 0, w8, 0, 0⟩ : PJob)), (v267, (⟨0, 0, 0, w2, 0, 0⟩ : PJob))] encPJ rfl rfl (by rfl) (by rfl) rfl (by rfl) (by exact .c 0 6 rfl rfl rfl (.c 6 6 rfl rfl rfl (.c 12 6 rfl rfl rfl (.c 18 6 rfl rfl rfl (.c 24 6 rfl rfl rfl (.n _)))))) (fun _ => rfl) (by rfl) rfl (by infer_instance) rfl (fun v286 h286 O286 => ?_) CT.stop
      refine CT.done ?_
      exact ⟨v286, h286, rfl, rfl, O286⟩
     ·have _tn := True.intro
      dsimp only [List.cons_append, List.nil_append, List.append_nil]
      refine CT.lit [_, _] [_, _] [⟨1, 16⟩] encDraw rfl rfl (by rfl) (by rfl) rfl (by rfl) (by exact .c 0 2 rfl rfl rfl (.n _)) (fun _ => rfl) (by rfl) rfl (by infer_instance) rfl (fun v292 h292 O292 => ?_) CT.stop
      refine CT.qs rfl rfl (Q.build [_, _, _, _, _, _] (.c 3 1 rfl rfl rfl (.n _))) ?_ CT.stop
      refine CT.lit [_, _, _, _, _, _, _, _, _, _, _, _, _, _, _, _, _, _, _, _, _, _, _, _, _, _, _, _, _, _] [_, _, _, _, _, _, _, _, _, _, _, _, _, _, _, _, _, _, _, _, _, _, _, _, _, _, _, _, _, _] [(v263, (⟨0, 0, 0, w8, 0, 0⟩ : PJob)), (v263, (⟨0, 0, 0, w8, 0, 0⟩ : PJob)), (v263, (⟨0, 0, 0, w8, 0, 0⟩ : PJob)), (v263, (⟨0, 0, 0, w8, 0, 0⟩ : PJob)), (v292, (⟨0, 0, 0, [⟨1, 16⟩], 0, 0⟩ : PJob))] encPJ rfl rfl (by rfl) (by rfl) rfl (by rfl) (by exact .c 0 6 rfl rfl rfl (.c 6 6 rfl rfl rfl (.c 12 6 rfl rfl rfl (.c 18 6 rfl rfl rfl (.c 24 6 rfl rfl rfl (.n _)))))) (fun _ => rfl) (by rfl) rfl (by infer_instance) rfl (fun v294 h294 O294 => ?_) CT.stop
      refine CT.done ?_
      exact ⟨v292, h292, v294, h294, rfl, rfl, O292, O294⟩
     ·have _tn := True.intro
      dsimp only [List.cons_append, List.nil_append, List.append_nil]
      refine CT.lit [_, _] [_, _] [⟨1, 17⟩] encDraw rfl rfl (by rfl) (by rfl) rfl (by rfl) (by exact .c 0 2 rfl rfl rfl (.n _)) (fun _ => rfl) (by rfl) rfl (by infer_instance) rfl (fun v300 h300 O300 => ?_) CT.stop
      refine CT.qs rfl rfl (Q.build [_, _, _, _, _, _] (.c 3 1 rfl rfl rfl (.n _))) ?_ CT.stop
      refine CT.lit [_, _, _, _, _, _, _, _, _, _, _, _, _, _, _, _, _, _, _, _, _, _, _, _, _, _, _, _, _, _] [_, _, _, _, _, _, _, _, _, _, _, _, _, _, _, _, _, _, _, _, _, _, _, _, _, _, _, _, _, _] [(v263, (⟨0, 0, 0, w8, 0, 0⟩ : PJob)), (v263, (⟨0, 0, 0, w8, 0, 0⟩ : PJob)), (v263, (⟨0, 0, 0, w8, 0, 0⟩ : PJob)), (v263, (⟨0, 0, 0, w8, 0, 0⟩ : PJob)), (v300, (⟨0, 0, 0, [⟨1, 17⟩], 0, 0⟩ : PJob))] encPJ rfl rfl (by rfl) (by rfl) rfl (by rfl) (by exact .c 0 6 rfl rfl rfl (.c 6 6 rfl rfl rfl (.c 12 6 rfl rfl rfl (.c 18 6 rfl rfl rfl (.c 24 6 rfl rfl rfl (.n _)))))) (fun _ => rfl) (by rfl) rfl (by infer_instance) rfl (fun v302 h302 O302 => ?_) CT.stop
      refine CT.done ?_
      exact ⟨v300, h300, v302, h302, rfl, rfl, O300, O302⟩
     ·have _tn := True.intro
      dsimp only [List.cons_append, List.nil_append, List.append_nil]
      refine CT.lit [_, _, _, _, _, _, _, _, _, _, _, _, _, _, _, _, _, _, _, _, _, _, _, _, _, _, _, _, _, _] [_, _, _, _, _, _, _, _, _, _, _, _, _, _, _, _, _, _, _, _, _, _, _, _, _, _, _, _, _, _] [(v263, (⟨0, 0, 0, w8, 0, 0⟩ : PJob)), (v263, (⟨0, 0, 0, w8, 0, 0⟩ : PJob)), (v263, (⟨0, 0, 0, w8, 0, 0⟩ : PJob)), (v263, (⟨0, 0, 0, w8, 0, 0⟩ : PJob)), (v263, (⟨0, 0, 0, w8, 0, 0⟩ : PJob))] encPJ rfl rfl (by rfl) (by rfl) rfl (by rfl) (by exact .c 0 6 rfl rfl rfl (.c 6 6 rfl rfl rfl (.c 12 6 rfl rfl rfl (.c 18 6 rfl rfl rfl (.c 24 6 rfl rfl rfl (.n _)))))) (fun _ => rfl) (by rfl) rfl (by infer_instance) rfl (fun v308 h308 O308 => ?_) CT.stop
      refine CT.done ?_
      exact ⟨v308, h308, rfl, rfl, O308⟩
     ·have _tn := True.intro
      dsimp only [List.cons_append, List.nil_append, List.append_nil]
      refine CT.lit [_, _, _, _, _, _] [_, _, _, _, _, _] [((.slice none 0 0 : Value), (⟨0, 0, 0, [], 0, 0⟩ : PJob))] encPJ rfl rfl (by rfl) (by rfl) rfl (by rfl) (by exact .c 0 6 rfl rfl rfl (.n _)) (fun _ => rfl) (by rfl) rfl (by infer_instance) rfl (fun v316 h316 O316 => ?_) CT.stop
      refine CT.done ?_
      exact ⟨v316, h316, rfl, rfl, O316⟩
     ·have _tn := True.intro
      dsimp only [List.cons_append, List.nil_append, List.append_nil]
      refine CT.lit [_, _, _, _, _, _] [_, _, _, _, _, _] [(v275, (⟨0, 0, 0, w9, 0, 0⟩ : PJob))] encPJ rfl rfl (by rfl) (by rfl) rfl (by rfl) (by exact .c 0 6 rfl rfl rfl (.n _)) (fun _ => rfl) (by rfl) rfl (by infer_instance) rfl (fun v318 h318 O318 => ?_) CT.stop
      refine CT.done ?_
      exact ⟨v318, h318, rfl, rfl, O318⟩
     ·have _tn := True.intro
      dsimp only [List.cons_append, List.nil_append, List.append_nil]
      refine CT.lit [_, _, _, _, _, _] [_, _, _, _, _, _] [(v279, (⟨0, 0, 0, [⟨2, 1⟩, ⟨2, 1⟩], 0, 0⟩ : PJob))] encPJ rfl rfl (by rfl) (by rfl) rfl (by rfl) (by exact .c 0 6 rfl rfl rfl (.n _)) (fun _ => rfl) (by rfl) rfl (by infer_instance) rfl (fun v320 h320 O320 => ?_) CT.stop
      refine CT.done ?_
      exact ⟨v320, h320, rfl, rfl, O320⟩
     ·have _tn := True.intro
      dsimp only [List.cons_append, List.nil_append, List.append_nil]
      refine CT.lit [_, _, _, _, _, _] [_, _, _, _, _, _] [(v267, (⟨0, 0, 0, w2, 0, 0⟩ : PJob))] encPJ rfl rfl (by rfl) (by rfl) rfl (by rfl) (by exact .c 0 6 rfl rfl rfl (.n _)) (fun _ => rfl) (by rfl) rfl (by infer_instance) rfl (fun v310 h310 O310 => ?_) ?_
      ·skip
       refine CT.call rfl rfl Tryz.call12 rfl rfl rfl (repeatJ v310 h310 (v267, (⟨0, 0, 0, w2, 0, 0⟩ : PJob)) 8 (by decide)) (fun v311 s311 R311 => ?_) ?_
       ·skip
        obtain ⟨k311, rfl, O311⟩ := R311
        dsimp only [lcA, lnA]
        skip
        refine CT.lit [_, _, _, _, _, _] [_, _, _, _, _, _] [(v267, (⟨0, 0, 0, w2, 0, 0⟩ : PJob))] encPJ rfl rfl (by rfl) (by rfl) rfl (by rfl) (by exact .c 0 6 rfl rfl rfl (.n _)) (fun _ => rfl) (by rfl) rfl (by infer_instance) rfl (fun v313 h313 O313 => ?_) CT.stop
        refine CT.call rfl rfl Tryz.call12 rfl rfl rfl (repeatJ v313 h313 (v267, (⟨0, 0, 0, w2, 0, 0⟩ : PJob)) 9 (by decide)) (fun v314 s314 R314 => ?_) CT.stop
        obtain ⟨k314, rfl, O314⟩ := R314
        dsimp only [lcA, lnA]
        skip
        refine CT.done ?_
        first | exact ⟨v310, h310, v311, k311, v313, h313, v314, k314, .inl ⟨rfl, rfl⟩, O311, O314⟩ | exact ⟨v310, h310, v311, k311, v313, h313, v314, k314, .inr (.inl ⟨rfl, rfl⟩), O311, O314⟩ | exact ⟨v310, h310, v311, k311, v313, h313, v314, k314, .inr (.inr ⟨rfl, rfl⟩), O311, O314⟩
       refine CT.lit [_, _, _, _, _, _] [_, _, _, _, _, _] [(v267, (⟨0, 0, 0, w2, 0, 0⟩ : PJob))] encPJ rfl rfl (by rfl) (by rfl) rfl (by rfl) (by exact .c 0 6 rfl rfl rfl (.n _)) (fun _ => rfl) (by rfl) rfl (by infer_instance) rfl (fun v313 h313 O313 => ?_) CT.stop
       refine CT.call rfl rfl Tryz.call12 rfl rfl rfl (repeatJ v310 h310 (v267, (⟨0, 0, 0, w2, 0, 0⟩ : PJob)) 8 (by decide)) (fun v311 s311 R311 => ?_) CT.stop
       obtain ⟨k311, rfl, O311⟩ := R311
       dsimp only [lcA, lnA]
       skip
       refine CT.call rfl rfl Tryz.call12 rfl rfl rfl (repeatJ v313 h313 (v267, (⟨0, 0, 0, w2, 0, 0⟩ : PJob)) 9 (by decide)) (fun v314 s314 R314 => ?_) CT.stop
       obtain ⟨k314, rfl, O314⟩ := R314
       dsimp only [lcA, lnA]
       skip
       refine CT.done ?_
       first | exact ⟨v310, h310, v311, k311, v313, h313, v314, k314, .inl ⟨rfl, rfl⟩, O311, O314⟩ | exact ⟨v310, h310, v311, k311, v313, h313, v314, k314, .inr (.inl ⟨rfl, rfl⟩), O311, O314⟩ | exact ⟨v310, h310, v311, k311, v313, h313, v314, k314, .inr (.inr ⟨rfl, rfl⟩), O311, O314⟩
      refine CT.lit [_, _, _, _, _, _] [_, _, _, _, _, _] [(v267, (⟨0, 0, 0, w2, 0, 0⟩ : PJob))] encPJ rfl rfl (by rfl) (by rfl) rfl (by rfl) (by exact .c 0 6 rfl rfl rfl (.n _)) (fun _ => rfl) (by rfl) rfl (by infer_instance) rfl (fun v313 h313 O313 => ?_) CT.stop
      refine CT.lit [_, _, _, _, _, _] [_, _, _, _, _, _] [(v267, (⟨0, 0, 0, w2, 0, 0⟩ : PJob))] encPJ rfl rfl (by rfl) (by rfl) rfl (by rfl) (by exact .c 0 6 rfl rfl rfl (.n _)) (fun _ => rfl) (by rfl) rfl (by infer_instance) rfl (fun v310 h310 O310 => ?_) CT.stop
      refine CT.call rfl rfl Tryz.call12 rfl rfl rfl (repeatJ v310 h310 (v267, (⟨0, 0, 0, w2, 0, 0⟩ : PJob)) 8 (by decide)) (fun v311 s311 R311 => ?_) CT.stop
      obtain ⟨k311, rfl, O311⟩ := R311
      dsimp only [lcA, lnA]
      skip
      refine CT.call rfl rfl Tryz.call12 rfl rfl rfl (repeatJ v313 h313 (v267, (⟨0, 0, 0, w2, 0, 0⟩ : PJob)) 9 (by decide)) (fun v314 s314 R314 => ?_) CT.stop
      obtain ⟨k314, rfl, O314⟩ := R314
      dsimp only [lcA, lnA]
      skip
      refine CT.done ?_
      first | exact ⟨v310, h310, v311, k311, v313, h313, v314, k314, .inl ⟨rfl, rfl⟩, O311, O314⟩ | exact ⟨v310, h310, v311, k311, v313, h313, v314, k314, .inr (.inl ⟨rfl, rfl⟩), O311, O314⟩ | exact ⟨v310, h310, v311, k311, v313, h313, v314, k314, .inr (.inr ⟨rfl, rfl⟩), O311, O314⟩
     rintro _ _ ⟨v286, h286, rfl, rfl, O286⟩
     rintro _ _ ⟨v292, h292, v294, h294, rfl, rfl, O292, O294⟩
     rintro _ _ ⟨v300, h300, v302, h302, rfl, rfl, O300, O302⟩
     rintro _ _ ⟨v308, h308, rfl, rfl, O308⟩
     rintro _ _ ⟨v316, h316, rfl, rfl, O316⟩
     rintro _ _ ⟨v318, h318, rfl, rfl, O318⟩
     rintro _ _ ⟨v320, h320, rfl, rfl, O320⟩
     rintro _ _ ⟨v310, h310, v311, k311, v313, h313, v314, k314, ⟨rfl, rfl⟩ | ⟨rfl, rfl⟩ | ⟨rfl, rfl⟩, O311, O314⟩
     all_goals dsimp only [FinAll, List.cons_append, List.nil_append, List.append_nil]
     all_goals
      refine XT.lit [_, _, _, _, _, _, _, _, _, _] [_, _, _, _, _, _, _, _, _, _] ([(.slice none 0 0), v286, v294, v302, v308, v311, v314, v316, v318, v320] : List Value) encV rfl rfl (by rfl) (by rfl) rfl (by rfl) (by exact .c 0 1 rfl rfl rfl (.c 1 1 rfl rfl rfl (.c 2 1 rfl rfl rfl (.c 3 1 rfl rfl rfl (.c 4 1 rfl rfl rfl (.c 5 1 rfl rfl rfl (.c 6 1 rfl rfl rfl (.c 7 1 rfl rfl rfl (.c 8 1 rfl rfl rfl (.c 9 1 rfl rfl rfl (.n _))))))))))) (fun _ => rfl) (by rfl) rfl (by infer_instance) rfl (fun v321 h321 O321 => ⟨inferInstance, ?_⟩) XT.stop
      refine XT.q rfl rfl (Q.len rfl) ?_
      rw [show ((([(.slice none 0 0), v286, v294, v302, v308, v311, v314, v316, v318, v320] : List Value).length : Nat) : Int) = 10 from rfl]
      refine XT.done ?_
      exact mtr43 ((v286, h286, v292, h292, v294, h294, v300, h300, v302, h302, v308, h308, v311, k311, v314, k314, v316, h316, v318, h318, v320, h320, v321, h321)) _ _ ⟨O286, O292, O294, O300, O302, O308, O311, O314, O316, O318, O320, O321⟩ (.c rfl (.c rfl (.c rfl (.base 58 rfl rfl)))) inferInstance
end Go.X
