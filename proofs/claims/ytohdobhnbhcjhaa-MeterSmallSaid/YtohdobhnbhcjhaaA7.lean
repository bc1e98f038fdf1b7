/- A part of the proof: a small program logic, plain laws and contracts of functions, each proved by a walk through its operations. No condition but those that stand in each theorem. -/
import Derived.Test.YtohdobhnbhcjhaaA6
set_option linter.unusedSimpArgs false
set_option linter.unusedVariables false
set_option maxRecDepth 20000
namespace Go.X
open Go.Proofs
theorem pat_one {v : Value} {α : Type} {enc : α → List Value} {sz : Nat} {h : PHeap} {xs : List α} (s : Arr v enc sz h xs) {i : Nat} (hi : i < xs.length) (off : Nat) : One (pat v sz i off) := by
  obtain ⟨b, k, cs, T, fr, c, _, _, hp, _⟩ := s.at' hi
  rw [hp off]; infer_instance
theorem billsA (t : MTariff) (vp vt : Value) (hp ht : PHeap) [jp : Arr vp encI 1 hp t.price] [jt : Arr vt encTier 2 ht t.tiers] (v1 : Value) (u1 : MUse) (h1 : PHeap) [j1 : Arr v1 encI 1 h1 u1.values] (vl : Value) (hl : PHeap) [jl : Arr vl encUse 2 hl [(v1, u1)]]
    (np : t.price.length ≤ 30) (nt : t.tiers.length ≤ 12) (n1 : u1.values.length ≤ 5000) : Spec Try.prog 21 #[.agg #[vp, .int .i64 t.base, vt, .int .i64 t.credit], vl] [] [hp, ht, hl, h1] (fun v hs => v = .bool true ∧ hs = []) :=
  bills_spec t vp vt hp ht [(v1, u1)] vl hl h1 (fun i hi => (show i = 0 from Nat.lt_one_iff.1 hi) ▸ j1) (Nat.le_of_ble_eq_true rfl) np nt (fun i hi => (show i = 0 from Nat.lt_one_iff.1 hi) ▸ n1)
theorem billsB (t : MTariff) (vp vt : Value) (hp ht : PHeap) [jp : Arr vp encI 1 hp t.price] [jt : Arr vt encTier 2 ht t.tiers] (v1 : Value) (u1 : MUse) (h1 : PHeap) [j1 : Arr v1 encI 1 h1 u1.values] (v2 : Value) (u2 : MUse) (h2 : PHeap) [j2 : Arr v2 encI 1 h2 u2.values] (vl : Value) (hl : PHeap) [jl : Arr vl encUse 2 hl [(v1, u1), (v2, u2)]]
    (np : t.price.length ≤ 30) (nt : t.tiers.length ≤ 12) (n1 : u1.values.length ≤ 5000) (n2 : u2.values.length ≤ 5000) : Spec Try.prog 21 #[.agg #[vp, .int .i64 t.base, vt, .int .i64 t.credit], vl] [] [h1, h2, hp, ht, hl] (fun v hs => v = .bool true ∧ hs = []) :=
  Spec.catR fun c la lb => (bills_spec t vp vt hp ht [(v1, u1), (v2, u2)] vl hl c (fun i hi => by
    have e : i = 0 ∨ i = 1 := by
      change i < 2 at hi
      omega
    rcases e with rfl | rfl
    · exact Arr.le_heap j1 la
    · exact Arr.le_heap j2 lb) (Nat.le_of_ble_eq_true rfl) np nt (fun i hi => by
    have e : i = 0 ∨ i = 1 := by
      change i < 2 at hi
      omega
    rcases e with rfl | rfl
    · exact n1
    · exact n2)).wide (by intro x hx; simp only [List.mem_cons, List.not_mem_nil, or_false] at hx ⊢; rcases hx with h | h | h | h <;> simp [h])
theorem billsU (t : MTariff) (vp vt : Value) (hp ht : PHeap) [jp : Arr vp encI 1 hp t.price] [jt : Arr vt encTier 2 ht t.tiers] (n : Nat) (vl : Value) (hl : PHeap) [jl : Arr vl encUse 2 hl (List.replicate n ((.slice none 0 0), (⟨[], 0⟩ : MUse)))]
    (np : t.price.length ≤ 30) (nt : t.tiers.length ≤ 12) (n1 : n ≤ 70) : Spec Try.prog 21 #[.agg #[vp, .int .i64 t.base, vt, .int .i64 t.credit], vl] [] [hp, ht, hl] (fun v hs => v = .bool true ∧ hs = []) := by
  have e : ∀ i, i < (List.replicate n ((.slice none 0 0 : Value), (⟨[], 0⟩ : MUse))).length → (List.replicate n ((.slice none 0 0 : Value), (⟨[], 0⟩ : MUse))).getD i default = ((.slice none 0 0 : Value), (⟨[], 0⟩ : MUse)) := fun i hi => by
    rw [List.getD_eq_getElem?_getD, List.getElem?_eq_getElem hi]; simp
  exact (bills_spec t vp vt hp ht _ vl hl hl (fun i hi => by rw [e i hi]; exact Arr.nil (fun _ => rfl)) (by simpa using n1) np nt (fun i hi => by rw [e i hi]; simp)).wide (by intro x hx; simp only [List.mem_cons, List.not_mem_nil, or_false] at hx ⊢; rcases hx with h | h | h | h <;> simp [h])
theorem many_links {n : Nat} (h : 4096 < n) : checkG 0 (List.replicate n (⟨⟨0, 0, 0⟩, 0⟩ : MLink)) true = (0, 2) ∧ (tableG (List.replicate n (⟨⟨0, 0, 0⟩, 0⟩ : MLink))).2 = 2 ∧ (signG 0 (List.replicate n (⟨0, 0, 0⟩ : MRd))).2 = 2 := by
  have e : ∀ sg, checkG 0 (List.replicate n (⟨⟨0, 0, 0⟩, 0⟩ : MLink)) sg = (0, 2) := fun sg => by unfold checkG; rw [if_pos (by rw [List.length_replicate]; omega)]
  refine ⟨e true, ?_, ?_⟩
  · unfold tableG; rw [e]; rfl
  · unfold signG; rw [if_pos (by rw [List.length_replicate]; omega)]
def tiersV : List (List MTier) := [[], [⟨5, 5⟩, ⟨5, 6⟩], [⟨5, 5⟩, ⟨6, 4⟩], [⟨0, 0⟩, ⟨1, 0⟩, ⟨2, 100⟩], List.replicate 9 ⟨0, 0⟩]
theorem tiers_len : ∀ k, k < 5 → (tiersV.getD k default).length ≤ 12 := by decide
theorem edge_bd : ∀ k, k < 19 → -2 ≤ ([-2, -1, 0, 1, 2, 13, 14, 63, 64, 100, 101, 1000, 1001, 50000, 50001, 100000, 100001, 1000000000, 1000000001] : List Int).getD k default ∧ ([-2, -1, 0, 1, 2, 13, 14, 63, 64, 100, 101, 1000, 1001, 50000, 50001, 100000, 100001, 1000000000, 1000000001] : List Int).getD k default ≤ 1000000001 := by decide
theorem n4_bd : ∀ k, k < 4 → 0 ≤ ([0, 1, 14, 15] : List Int).getD k default ∧ ([0, 1, 14, 15] : List Int).getD k default ≤ 15 := by decide
theorem n2_bd : ∀ k, k < 2 → ([23, 25] : List Int).getD k default = 23 ∨ ([23, 25] : List Int).getD k default = 25 := by decide
set_option maxHeartbeats 32000000 in
set_option synthInstance.maxSize 1000 in
set_option synthInstance.maxHeartbeats 400000 in
theorem MeterSmall_spec : Spec Try.prog 8 #[] [] [] (fun v hs => v = .bool true ∧ hs = []) := by
  have nI : ∀ h, Arr (.slice none 0 0) encI 1 h ([] : List Int) := fun h => Arr.nil (fun _ => rfl)
  have oI : OArr (.slice none 0 0) encI 1 3 emp ([] : List Int) := OArr.nil (fun _ => rfl)
  refine Spec.intro (fn := Try.f8) (N := 375) Try.func8 rfl Try.ntmps8 rfl fun B => ?_
  refine XK.seq ?_
  refine XK.region rfl ?_
  refine XO.q (Q.assign rfl) ?_
  refine XO.done ?_
  refine XK.seq ?_
  refine XK.seq ?_
  refine XK.region rfl ?_
  refine XO.q (Q.move rfl) ?_
  refine XO.done ?_
  refine XK.block ?_
  refine XK.while (X := Nat) [0, 1, 2, 3, 37, 38, 39, 40, 41, 42, 43, 44, 45, 46, 47, 48, 49, 50, 51, 52, 53, 54, 55, 56, 57, 58, 59, 60, 61, 62, 63, 64, 65, 66, 67, 68, 69, 70, 71, 72, 73, 74, 75, 76, 77, 78, 79, 80, 81, 82, 83, 84, 85, 86, 87, 88, 89, 90] (fun n => [(37, some (.int .i64 (n : Nat)))]) (fun n => []) (fun n => n ≤ 3456) (fun n => 3456 - n) (0) [] rfl (by omega) (.c rfl (.base 0 rfl rfl)) ?_
  rintro n hn ih0
  dsimp only [List.cons_append, List.nil_append] at ih0 ⊢
  refine XK.seq ?_
  refine XK.region rfl ?_
  refine XO.q (Q.lss rfl rfl) ?_
  refine XO.done ?_
  refine XK.seq ?_
  refine XK.if rfl (fun c0 => ?_) (fun c0 => ?_)
  · have _t0 := True.intro
    refine XK.skip ?_
    refine XK.seq ?_
    refine XK.block ?_
    refine XK.seq ?_
    refine XK.region rfl ?_
    refine XO.q (Q.move rfl) ?_
    refine XO.q (Q.assign rfl) ?_
    refine XO.done ?_
    refine XK.seq ?_
    refine XK.region rfl ?_
    refine XO.q (Q.move rfl) ?_
    refine XO.q (Q.quo rfl rfl (by omega) (by omega) (by omega)) ?_
    refine XO.q (Q.rem rfl rfl (by omega) (by omega)) ?_
    refine XO.q (Q.build [_, _, _] (.c 0 1 rfl rfl rfl (.c 1 1 rfl rfl rfl (.c 2 1 rfl rfl rfl (.n _))))) ?_
    refine XO.q (Q.move rfl) ?_
    refine XO.q (Q.quo rfl rfl (by omega) (by omega) (by omega)) ?_
    refine XO.q (Q.build [_, _, _] (.c 0 1 rfl rfl rfl (.c 1 1 rfl rfl rfl (.c 2 1 rfl rfl rfl (.n _))))) ?_
    refine XO.q (Q.move rfl) ?_
    refine XO.q (Q.rem rfl rfl (by omega) (by omega)) ?_
    refine XO.q (Q.build [_, _, _] (.c 0 1 rfl rfl rfl (.c 2 1 rfl rfl rfl (.n _)))) ?_
    refine XO.q (Q.move rfl) ?_
    refine XO.q (Q.quo rfl rfl (by omega) (by omega) (by omega)) ?_
    refine XO.q (Q.rem rfl rfl (by omega) (by omega)) ?_
    refine XO.q (Q.build [_, _, _] (.c 0 1 rfl rfl rfl (.c 2 1 rfl rfl rfl (.n _)))) ?_
    refine XO.lit [_, _, _, _, _, _, _, _, _, _, _, _] [_, _, _, _, _, _, _, _, _, _, _, _] [⟨-1, (n : Int) / 384 % 3, 2⟩, ⟨0, 0, (n : Int) / 1152⟩, ⟨(n : Int) % 2, 0, 1⟩, ⟨(n : Int) / 2 % 3, 0, 2⟩] encNode (by rfl) (by rfl) rfl (by rfl) (by exact .c 0 3 rfl rfl rfl (.c 3 3 rfl rfl rfl (.c 6 3 rfl rfl rfl (.c 9 3 rfl rfl rfl (.n _))))) (fun _ => rfl) (by rfl) rfl (by infer_instance) rfl fun v54 h54 O54 => ?_
    obtain ⟨N1, eN1⟩ : ∃ x : List MNode, x = [⟨-1, (n : Int) / 384 % 3, 2⟩, ⟨0, 0, (n : Int) / 1152⟩, ⟨(n : Int) % 2, 0, 1⟩, ⟨(n : Int) / 2 % 3, 0, 2⟩] := ⟨_, rfl⟩
    rw [← eN1] at O54
    have lN1 : N1.length = 4 := by rw [eN1]; rfl
    clear eN1
    refine XO.q (Q.move rfl) ?_
    refine XO.q (Q.quo rfl rfl (by omega) (by omega) (by omega)) ?_
    refine XO.q (Q.rem rfl rfl (by omega) (by omega)) ?_
    refine XO.q (Q.mul rfl rfl ⟨by omega, by omega⟩) ?_
    refine XO.q (Q.move rfl) ?_
    refine XO.q (Q.quo rfl rfl (by omega) (by omega) (by omega)) ?_
    refine XO.q (Q.rem rfl rfl (by omega) (by omega)) ?_
    refine XO.q (Q.move rfl) ?_
    refine XO.q (Q.quo rfl rfl (by omega) (by omega) (by omega)) ?_
    refine XO.q (Q.rem rfl rfl (by omega) (by omega)) ?_
    refine XO.q (Q.move rfl) ?_
    refine XO.q (Q.rem rfl rfl (by omega) (by omega)) ?_
    refine XO.lit [_, _, _, _] [_, _, _, _] [(n : Int) / 6 % 4 * 2, (n : Int) / 24 % 4, (n : Int) / 96 % 4, (n : Int) % 3] encI (by rfl) (by rfl) rfl (by rfl) (by exact .c 0 1 rfl rfl rfl (.c 1 1 rfl rfl rfl (.c 2 1 rfl rfl rfl (.c 3 1 rfl rfl rfl (.n _))))) (fun _ => rfl) (by rfl) rfl (by infer_instance) rfl fun v67 h67 O67 => ?_
    obtain ⟨V1, eV1⟩ : ∃ x : List Int, x = [(n : Int) / 6 % 4 * 2, (n : Int) / 24 % 4, (n : Int) / 96 % 4, (n : Int) % 3] := ⟨_, rfl⟩
    rw [← eV1] at O67
    have lV1 : V1.length = 4 := by rw [eV1]; rfl
    clear eV1
    refine XO.q (Q.build [_, _] (.c 0 1 rfl rfl rfl (.c 1 1 rfl rfl rfl (.n _)))) ?_
    refine XO.alloc fun b2 => ?_
    refine XO.st rfl rfl rfl ?_
    refine XO.done ?_
    refine XK.seq ?_
    refine XK.region rfl ?_
    refine XO.lit [_] [_] [0] encI (by rfl) (by rfl) rfl (by rfl) (by exact .c 0 1 rfl rfl rfl (.n _)) (fun _ => rfl) (by rfl) rfl (by infer_instance) rfl fun v69 h69 O69 => ?_
    refine XO.lit [_] [_] [1] encI (by rfl) (by rfl) rfl (by rfl) (by exact .c 0 1 rfl rfl rfl (.n _)) (fun _ => rfl) (by rfl) rfl (by infer_instance) rfl fun v70 h70 O70 => ?_
    refine XO.lit [_] [_] [2] encI (by rfl) (by rfl) rfl (by rfl) (by exact .c 0 1 rfl rfl rfl (.n _)) (fun _ => rfl) (by rfl) rfl (by infer_instance) rfl fun v71 h71 O71 => ?_
    refine XO.lit [_] [_] [3] encI (by rfl) (by rfl) rfl (by rfl) (by exact .c 0 1 rfl rfl rfl (.n _)) (fun _ => rfl) (by rfl) rfl (by infer_instance) rfl fun v72 h72 O72 => ?_
    refine XO.lit [_, _] [_, _] [0, 1] encI (by rfl) (by rfl) rfl (by rfl) (by exact .c 0 1 rfl rfl rfl (.c 1 1 rfl rfl rfl (.n _))) (fun _ => rfl) (by rfl) rfl (by infer_instance) rfl fun v73 h73 O73 => ?_
    refine XO.lit [_, _] [_, _] [1, 2] encI (by rfl) (by rfl) rfl (by rfl) (by exact .c 0 1 rfl rfl rfl (.c 1 1 rfl rfl rfl (.n _))) (fun _ => rfl) (by rfl) rfl (by infer_instance) rfl fun v74 h74 O74 => ?_
    refine XO.lit [_, _] [_, _] [1, 3] encI (by rfl) (by rfl) rfl (by rfl) (by exact .c 0 1 rfl rfl rfl (.c 1 1 rfl rfl rfl (.n _))) (fun _ => rfl) (by rfl) rfl (by infer_instance) rfl fun v75 h75 O75 => ?_
    refine XO.lit [_, _, _] [_, _, _] [0, 2, 3] encI (by rfl) (by rfl) rfl (by rfl) (by exact .c 0 1 rfl rfl rfl (.c 1 1 rfl rfl rfl (.c 2 1 rfl rfl rfl (.n _)))) (fun _ => rfl) (by rfl) rfl (by infer_instance) rfl fun v76 h76 O76 => ?_
    refine XO.lit [_, _, _, _] [_, _, _, _] [0, 1, 2, 3] encI (by rfl) (by rfl) rfl (by rfl) (by exact .c 0 1 rfl rfl rfl (.c 1 1 rfl rfl rfl (.c 2 1 rfl rfl rfl (.c 3 1 rfl rfl rfl (.n _))))) (fun _ => rfl) (by rfl) rfl (by infer_instance) rfl fun v77 h77 O77 => ?_
    refine XO.lit [_, _] [_, _] [2, 1] encI (by rfl) (by rfl) rfl (by rfl) (by exact .c 0 1 rfl rfl rfl (.c 1 1 rfl rfl rfl (.n _))) (fun _ => rfl) (by rfl) rfl (by infer_instance) rfl fun v78 h78 O78 => ?_
    refine XO.lit [_] [_] [4] encI (by rfl) (by rfl) rfl (by rfl) (by exact .c 0 1 rfl rfl rfl (.n _)) (fun _ => rfl) (by rfl) rfl (by infer_instance) rfl fun v79 h79 O79 => ?_
    refine XO.lit [_] [_] [-1] encI (by rfl) (by rfl) rfl (by rfl) (by exact .c 0 1 rfl rfl rfl (.n _)) (fun _ => rfl) (by rfl) rfl (by infer_instance) rfl fun v80 h80 O80 => ?_
    refine XO.lit [_, _, _, _, _, _, _, _, _, _, _, _, _] [_, _, _, _, _, _, _, _, _, _, _, _, _] ([(.slice none 0 0), v69, v70, v71, v72, v73, v74, v75, v76, v77, v78, v79, v80] : List Value) encV (by rfl) (by rfl) rfl (by rfl) (by exact .c 0 1 rfl rfl rfl (.c 1 1 rfl rfl rfl (.c 2 1 rfl rfl rfl (.c 3 1 rfl rfl rfl (.c 4 1 rfl rfl rfl (.c 5 1 rfl rfl rfl (.c 6 1 rfl rfl rfl (.c 7 1 rfl rfl rfl (.c 8 1 rfl rfl rfl (.c 9 1 rfl rfl rfl (.c 10 1 rfl rfl rfl (.c 11 1 rfl rfl rfl (.c 12 1 rfl rfl rfl (.n _)))))))))))))) (fun _ => rfl) (by rfl) rfl (by infer_instance) rfl fun v81 h81 O81 => ?_
    refine XO.q (Q.move rfl) ?_
    refine XO.q (Q.rem rfl rfl (by omega) (by omega)) ?_
    obtain ⟨k, ek, hk13⟩ : ∃ k : Nat, (n : Int) % 13 = (k : Int) ∧ k < 13 := ⟨n % 13, by omega, by omega⟩
    rw [ek]
    refine XO.ix rfl rfl (by omega) (by show (k : Int) < 13; omega) fun i84 => ?_
    refine XO.q (Q.ldE rfl (by show (k : Nat) < 13; omega) rfl) ?_
    rcases (show k = 0 ∨ k = 1 ∨ k = 2 ∨ k = 3 ∨ k = 4 ∨ k = 5 ∨ k = 6 ∨ k = 7 ∨ k = 8 ∨ k = 9 ∨ k = 10 ∨ k = 11 ∨ k = 12 by omega) with hk | hk | hk | hk | hk | hk | hk | hk | hk | hk | hk | hk | hk
    · have _tb := True.intro
      rw [show ([(.slice none 0 0), v69, v70, v71, v72, v73, v74, v75, v76, v77, v78, v79, v80] : List Value).getD k default = (.slice none 0 0) by rw [hk]; rfl]
      refine XO.q (Q.assign rfl) ?_
      refine XO.done ?_
      refine XK.seq ?_
      refine XK.region rfl ?_
      refine XO.q (Q.ldA [_, _] rfl rfl rfl) ?_
      refine XO.q (Q.move rfl) ?_
      refine XO.call Try.call37 rfl rfl rfl (cases11 (js := nI h54) ⟨N1, V1⟩ v54 v67 h54 h67 [] (.slice none 0 0) h54 (by first | omega | decide | (dsimp only; omega) | (simp only [List.length_cons, List.length_nil]; omega) | (simp only [List.length_replicate]; omega)) (by first | omega | decide | (dsimp only; omega) | (simp only [List.length_cons, List.length_nil]; omega) | (simp only [List.length_replicate]; omega)) (by first | omega | decide | (dsimp only; omega) | (simp only [List.length_cons, List.length_nil]; omega) | (simp only [List.length_replicate]; omega))) fun v88 s88 R88 => ?_
      obtain ⟨rfl, rfl⟩ := R88
      dsimp only [List.cons_append, List.nil_append]
      refine XO.q (Q.not rfl) ?_
      refine XO.done ?_
      refine XK.if rfl (fun c1 => ?_) (fun c1 => ?_)
      · have _t1 := True.intro
        simp at c1
      · have _t1 := True.intro
        refine XK.skip ?_
        refine XK.inBlock ?_
        refine XK.region rfl ?_
        refine XO.q (Q.add rfl rfl ⟨by omega, by omega⟩) ?_
        refine XO.q (Q.move rfl) ?_
        refine XO.done ?_
        exact ih0 (n + 1) _ _ (by omega) (by first | omega | (dsimp only; omega)) (.c rfl (.base 116 rfl rfl)) inferInstance
    · have _tb := True.intro
      rw [show ([(.slice none 0 0), v69, v70, v71, v72, v73, v74, v75, v76, v77, v78, v79, v80] : List Value).getD k default = v69 by rw [hk]; rfl]
      refine XO.q (Q.assign rfl) ?_
      refine XO.done ?_
      refine XK.seq ?_
      refine XK.region rfl ?_
      refine XO.q (Q.ldA [_, _] rfl rfl rfl) ?_
      refine XO.q (Q.move rfl) ?_
      refine XO.call Try.call37 rfl rfl rfl (cases11 ⟨N1, V1⟩ v54 v67 h54 h67 [0] v69 h69 (by first | omega | decide | (dsimp only; omega) | (simp only [List.length_cons, List.length_nil]; omega) | (simp only [List.length_replicate]; omega)) (by first | omega | decide | (dsimp only; omega) | (simp only [List.length_cons, List.length_nil]; omega) | (simp only [List.length_replicate]; omega)) (by first | omega | decide | (dsimp only; omega) | (simp only [List.length_cons, List.length_nil]; omega) | (simp only [List.length_replicate]; omega))) fun v88 s88 R88 => ?_
      obtain ⟨rfl, rfl⟩ := R88
      dsimp only [List.cons_append, List.nil_append]
      refine XO.q (Q.not rfl) ?_
      refine XO.done ?_
      refine XK.if rfl (fun c2 => ?_) (fun c2 => ?_)
      · have _t2 := True.intro
        simp at c2
      · have _t2 := True.intro
        refine XK.skip ?_
        refine XK.inBlock ?_
        refine XK.region rfl ?_
        refine XO.q (Q.add rfl rfl ⟨by omega, by omega⟩) ?_
        refine XO.q (Q.move rfl) ?_
        refine XO.done ?_
        exact ih0 (n + 1) _ _ (by omega) (by first | omega | (dsimp only; omega)) (.c rfl (.base 116 rfl rfl)) inferInstance
    · have _tb := True.intro
      rw [show ([(.slice none 0 0), v69, v70, v71, v72, v73, v74, v75, v76, v77, v78, v79, v80] : List Value).getD k default = v70 by rw [hk]; rfl]
      refine XO.q (Q.assign rfl) ?_
      refine XO.done ?_
      refine XK.seq ?_
      refine XK.region rfl ?_
      refine XO.q (Q.ldA [_, _] rfl rfl rfl) ?_
      refine XO.q (Q.move rfl) ?_
      refine XO.call Try.call37 rfl rfl rfl (cases11 ⟨N1, V1⟩ v54 v67 h54 h67 [1] v70 h70 (by first | omega | decide | (dsimp only; omega) | (simp only [List.length_cons, List.length_nil]; omega) | (simp only [List.length_replicate]; omega)) (by first | omega | decide | (dsimp only; omega) | (simp only [List.length_cons, List.length_nil]; omega) | (simp only [List.length_replicate]; omega)) (by first | omega | decide | (dsimp only; omega) | (simp only [List.length_cons, List.length_nil]; omega) | (simp only [List.length_replicate]; omega))) fun v88 s88 R88 => ?_
      obtain ⟨rfl, rfl⟩ := R88
      dsimp only [List.cons_append, List.nil_append]
      refine XO.q (Q.not rfl) ?_
      refine XO.done ?_
      refine XK.if rfl (fun c3 => ?_) (fun c3 => ?_)
      · have _t3 := True.intro
        simp at c3
      · have _t3 := True.intro
        refine XK.skip ?_
        refine XK.inBlock ?_
        refine XK.region rfl ?_
        refine XO.q (Q.add rfl rfl ⟨by omega, by omega⟩) ?_
        refine XO.q (Q.move rfl) ?_
        refine XO.done ?_
        exact ih0 (n + 1) _ _ (by omega) (by first | omega | (dsimp only; omega)) (.c rfl (.base 116 rfl rfl)) inferInstance
    · have _tb := True.intro
      rw [show ([(.slice none 0 0), v69, v70, v71, v72, v73, v74, v75, v76, v77, v78, v79, v80] : List Value).getD k default = v71 by rw [hk]; rfl]
      refine XO.q (Q.assign rfl) ?_
      refine XO.done ?_
      refine XK.seq ?_
      refine XK.region rfl ?_
      refine XO.q (Q.ldA [_, _] rfl rfl rfl) ?_
      refine XO.q (Q.move rfl) ?_
      refine XO.call Try.call37 rfl rfl rfl (cases11 ⟨N1, V1⟩ v54 v67 h54 h67 [2] v71 h71 (by first | omega | decide | (dsimp only; omega) | (simp only [List.length_cons, List.length_nil]; omega) | (simp only [List.length_replicate]; omega)) (by first | omega | decide | (dsimp only; omega) | (simp only [List.length_cons, List.length_nil]; omega) | (simp only [List.length_replicate]; omega)) (by first | omega | decide | (dsimp only; omega) | (simp only [List.length_cons, List.length_nil]; omega) | (simp only [List.length_replicate]; omega))) fun v88 s88 R88 => ?_
      obtain ⟨rfl, rfl⟩ := R88
      dsimp only [List.cons_append, List.nil_append]
      refine XO.q (Q.not rfl) ?_
      refine XO.done ?_
      refine XK.if rfl (fun c4 => ?_) (fun c4 => ?_)
      · have _t4 := True.intro
        simp at c4
      · have _t4 := True.intro
        refine XK.skip ?_
        refine XK.inBlock ?_
        refine XK.region rfl ?_
        refine XO.q (Q.add rfl rfl ⟨by omega, by omega⟩) ?_
        refine XO.q (Q.move rfl) ?_
        refine XO.done ?_
        exact ih0 (n + 1) _ _ (by omega) (by first | omega | (dsimp only; omega)) (.c rfl (.base 116 rfl rfl)) inferInstance
    · have _tb := True.intro
      rw [show ([(.slice none 0 0), v69, v70, v71, v72, v73, v74, v75, v76, v77, v78, v79, v80] : List Value).getD k default = v72 by rw [hk]; rfl]
      refine XO.q (Q.assign rfl) ?_
      refine XO.done ?_
      refine XK.seq ?_
      refine XK.region rfl ?_
      refine XO.q (Q.ldA [_, _] rfl rfl rfl) ?_
      refine XO.q (Q.move rfl) ?_
      refine XO.call Try.call37 rfl rfl rfl (cases11 ⟨N1, V1⟩ v54 v67 h54 h67 [3] v72 h72 (by first | omega | decide | (dsimp only; omega) | (simp only [List.length_cons, List.length_nil]; omega) | (simp only [List.length_replicate]; omega)) (by first | omega | decide | (dsimp only; omega) | (simp only [List.length_cons, List.length_nil]; omega) | (simp only [List.length_replicate]; omega)) (by first | omega | decide | (dsimp only; omega) | (simp only [List.length_cons, List.length_nil]; omega) | (simp only [List.length_replicate]; omega))) fun v88 s88 R88 => ?_
      obtain ⟨rfl, rfl⟩ := R88
      dsimp only [List.cons_append, List.nil_append]
      refine XO.q (Q.not rfl) ?_
      refine XO.done ?_
      refine XK.if rfl (fun c5 => ?_) (fun c5 => ?_)
      · have _t5 := True.intro
        simp at c5
      · have _t5 := True.intro
        refine XK.skip ?_
        refine XK.inBlock ?_
        refine XK.region rfl ?_
        refine XO.q (Q.add rfl rfl ⟨by omega, by omega⟩) ?_
        refine XO.q (Q.move rfl) ?_
        refine XO.done ?_
        exact ih0 (n + 1) _ _ (by omega) (by first | omega | (dsimp only; omega)) (.c rfl (.base 116 rfl rfl)) inferInstance
    · have _tb := True.intro
      rw [show ([(.slice none 0 0), v69, v70, v71, v72, v73, v74, v75, v76, v77, v78, v79, v80] : List Value).getD k default = v73 by rw [hk]; rfl]
      refine XO.q (Q.assign rfl) ?_
      refine XO.done ?_
      refine XK.seq ?_
      refine XK.region rfl ?_
      refine XO.q (Q.ldA [_, _] rfl rfl rfl) ?_
      refine XO.q (Q.move rfl) ?_
      refine XO.call Try.call37 rfl rfl rfl (cases11 ⟨N1, V1⟩ v54 v67 h54 h67 [0, 1] v73 h73 (by first | omega | decide | (dsimp only; omega) | (simp only [List.length_cons, List.length_nil]; omega) | (simp only [List.length_replicate]; omega)) (by first | omega | decide | (dsimp only; omega) | (simp only [List.length_cons, List.length_nil]; omega) | (simp only [List.length_replicate]; omega)) (by first | omega | decide | (dsimp only; omega) | (simp only [List.length_cons, List.length_nil]; omega) | (simp only [List.length_replicate]; omega))) fun v88 s88 R88 => ?_
      obtain ⟨rfl, rfl⟩ := R88
      dsimp only [List.cons_append, List.nil_append]
      refine XO.q (Q.not rfl) ?_
      refine XO.done ?_
      refine XK.if rfl (fun c6 => ?_) (fun c6 => ?_)
      · have _t6 := True.intro
        simp at c6
      · have _t6 := True.intro
        refine XK.skip ?_
        refine XK.inBlock ?_
        refine XK.region rfl ?_
        refine XO.q (Q.add rfl rfl ⟨by omega, by omega⟩) ?_
        refine XO.q (Q.move rfl) ?_
        refine XO.done ?_
        exact ih0 (n + 1) _ _ (by omega) (by first | omega | (dsimp only; omega)) (.c rfl (.base 116 rfl rfl)) inferInstance
    · have _tb := True.intro
      rw [show ([(.slice none 0 0), v69, v70, v71, v72, v73, v74, v75, v76, v77, v78, v79, v80] : List Value).getD k default = v74 by rw [hk]; rfl]
      refine XO.q (Q.assign rfl) ?_
      refine XO.done ?_
      refine XK.seq ?_
      refine XK.region rfl ?_
      refine XO.q (Q.ldA [_, _] rfl rfl rfl) ?_
      refine XO.q (Q.move rfl) ?_
      refine XO.call Try.call37 rfl rfl rfl (cases11 ⟨N1, V1⟩ v54 v67 h54 h67 [1, 2] v74 h74 (by first | omega | decide | (dsimp only; omega) | (simp only [List.length_cons, List.length_nil]; omega) | (simp only [List.length_replicate]; omega)) (by first | omega | decide | (dsimp only; omega) | (simp only [List.length_cons, List.length_nil]; omega) | (simp only [List.length_replicate]; omega)) (by first | omega | decide | (dsimp only; omega) | (simp only [List.length_cons, List.length_nil]; omega) | (simp only [List.length_replicate]; omega))) fun v88 s88 R88 => ?_
      obtain ⟨rfl, rfl⟩ := R88
      dsimp only [List.cons_append, List.nil_append]
      refine XO.q (Q.not rfl) ?_
      refine XO.done ?_
      refine XK.if rfl (fun c7 => ?_) (fun c7 => ?_)
      · have _t7 := True.intro
        simp at c7
      · have _t7 := True.intro
        refine XK.skip ?_
        refine XK.inBlock ?_
        refine XK.region rfl ?_
        refine XO.q (Q.add rfl rfl ⟨by omega, by omega⟩) ?_
        refine XO.q (Q.move rfl) ?_
        refine XO.done ?_
        exact ih0 (n + 1) _ _ (by omega) (by first | omega | (dsimp only; omega)) (.c rfl (.base 116 rfl rfl)) inferInstance
    · have _tb := True.intro
      rw [show ([(.slice none 0 0), v69, v70, v71, v72, v73, v74, v75, v76, v77, v78, v79, v80] : List Value).getD k default = v75 by rw [hk]; rfl]
      refine XO.q (Q.assign rfl) ?_
      refine XO.done ?_
      refine XK.seq ?_
      refine XK.region rfl ?_
      refine XO.q (Q.ldA [_, _] rfl rfl rfl) ?_
      refine XO.q (Q.move rfl) ?_
      refine XO.call Try.call37 rfl rfl rfl (cases11 ⟨N1, V1⟩ v54 v67 h54 h67 [1, 3] v75 h75 (by first | omega | decide | (dsimp only; omega) | (simp only [List.length_cons, List.length_nil]; omega) | (simp only [List.length_replicate]; omega)) (by first | omega | decide | (dsimp only; omega) | (simp only [List.length_cons, List.length_nil]; omega) | (simp only [List.length_replicate]; omega)) (by first | omega | decide | (dsimp only; omega) | (simp only [List.length_cons, List.length_nil]; omega) | (simp only [List.length_replicate]; omega))) fun v88 s88 R88 => ?_
      obtain ⟨rfl, rfl⟩ := R88
      dsimp only [List.cons_append, List.nil_append]
      refine XO.q (Q.not rfl) ?_
      refine XO.done ?_
      refine XK.if rfl (fun c8 => ?_) (fun c8 => ?_)
      · have _t8 := True.intro
        simp at c8
      · have _t8 := True.intro
        refine XK.skip ?_
        refine XK.inBlock ?_
        refine XK.region rfl ?_
        refine XO.q (Q.add rfl rfl ⟨by omega, by omega⟩) ?_
        refine XO.q (Q.move rfl) ?_
        refine XO.done ?_
        exact ih0 (n + 1) _ _ (by omega) (by first | omega | (dsimp only; omega)) (.c rfl (.base 116 rfl rfl)) inferInstance
    · have _tb := True.intro
      rw [show ([(.slice none 0 0), v69, v70, v71, v72, v73, v74, v75, v76, v77, v78, v79, v80] : List Value).getD k default = v76 by rw [hk]; rfl]
      refine XO.q (Q.assign rfl) ?_
      refine XO.done ?_
      refine XK.seq ?_
      refine XK.region rfl ?_
      refine XO.q (Q.ldA [_, _] rfl rfl rfl) ?_
      refine XO.q (Q.move rfl) ?_
      refine XO.call Try.call37 rfl rfl rfl (cases11 ⟨N1, V1⟩ v54 v67 h54 h67 [0, 2, 3] v76 h76 (by first | omega | decide | (dsimp only; omega) | (simp only [List.length_cons, List.length_nil]; omega) | (simp only [List.length_replicate]; omega)) (by first | omega | decide | (dsimp only; omega) | (simp only [List.length_cons, List.length_nil]; omega) | (simp only [List.length_replicate]; omega)) (by first | omega | decide | (dsimp only; omega) | (simp only [List.length_cons, List.length_nil]; omega) | (simp only [List.length_replicate]; omega))) fun v88 s88 R88 => ?_
      obtain ⟨rfl, rfl⟩ := R88
      dsimp only [List.cons_append, List.nil_append]
      refine XO.q (Q.not rfl) ?_
      refine XO.done ?_
      refine XK.if rfl (fun c9 => ?_) (fun c9 => ?_)
      · have _t9 := True.intro
        simp at c9
      · have _t9 := True.intro
        refine XK.skip ?_
        refine XK.inBlock ?_
        refine XK.region rfl ?_
        refine XO.q (Q.add rfl rfl ⟨by omega, by omega⟩) ?_
        refine XO.q (Q.move rfl) ?_
        refine XO.done ?_
        exact ih0 (n + 1) _ _ (by omega) (by first | omega | (dsimp only; omega)) (.c rfl (.base 116 rfl rfl)) inferInstance
    · have _tb := True.intro
      rw [show ([(.slice none 0 0), v69, v70, v71, v72, v73, v74, v75, v76, v77, v78, v79, v80] : List Value).getD k default = v77 by rw [hk]; rfl]
      refine XO.q (Q.assign rfl) ?_
      refine XO.done ?_
      refine XK.seq ?_
      refine XK.region rfl ?_
      refine XO.q (Q.ldA [_, _] rfl rfl rfl) ?_
      refine XO.q (Q.move rfl) ?_
      refine XO.call Try.call37 rfl rfl rfl (cases11 ⟨N1, V1⟩ v54 v67 h54 h67 [0, 1, 2, 3] v77 h77 (by first | omega | decide | (dsimp only; omega) | (simp only [List.length_cons, List.length_nil]; omega) | (simp only [List.length_replicate]; omega)) (by first | omega | decide | (dsimp only; omega) | (simp only [List.length_cons, List.length_nil]; omega) | (simp only [List.length_replicate]; omega)) (by first | omega | decide | (dsimp only; omega) | (simp only [List.length_cons, List.length_nil]; omega) | (simp only [List.length_replicate]; omega))) fun v88 s88 R88 => ?_
      obtain ⟨rfl, rfl⟩ := R88
      dsimp only [List.cons_append, List.nil_append]
      refine XO.q (Q.not rfl) ?_
      refine XO.done ?_
      refine XK.if rfl (fun c10 => ?_) (fun c10 => ?_)
      · have _t10 := True.intro
        simp at c10
      · have _t10 := True.intro
        refine XK.skip ?_
        refine XK.inBlock ?_
        refine XK.region rfl ?_
        refine XO.q (Q.add rfl rfl ⟨by omega, by omega⟩) ?_
        refine XO.q (Q.move rfl) ?_
        refine XO.done ?_
        exact ih0 (n + 1) _ _ (by omega) (by first | omega | (dsimp only; omega)) (.c rfl (.base 116 rfl rfl)) inferInstance
    · have _tb := True.intro
      rw [show ([(.slice none 0 0), v69, v70, v71, v72, v73, v74, v75, v76, v77, v78, v79, v80] : List Value).getD k default = v78 by rw [hk]; rfl]
      refine XO.q (Q.assign rfl) ?_
      refine XO.done ?_
      refine XK.seq ?_
      refine XK.region rfl ?_
      refine XO.q (Q.ldA [_, _] rfl rfl rfl) ?_
      refine XO.q (Q.move rfl) ?_
      refine XO.call Try.call37 rfl rfl rfl (cases11 ⟨N1, V1⟩ v54 v67 h54 h67 [2, 1] v78 h78 (by first | omega | decide | (dsimp only; omega) | (simp only [List.length_cons, List.length_nil]; omega) | (simp only [List.length_replicate]; omega)) (by first | omega | decide | (dsimp only; omega) | (simp only [List.length_cons, List.length_nil]; omega) | (simp only [List.length_replicate]; omega)) (by first | omega | decide | (dsimp only; omega) | (simp only [List.length_cons, List.length_nil]; omega) | (simp only [List.length_replicate]; omega))) fun v88 s88 R88 => ?_
      obtain ⟨rfl, rfl⟩ := R88
      dsimp only [List.cons_append, List.nil_append]
      refine XO.q (Q.not rfl) ?_
      refine XO.done ?_
      refine XK.if rfl (fun c11 => ?_) (fun c11 => ?_)
      · have _t11 := True.intro
        simp at c11
      · have _t11 := True.intro
        refine XK.skip ?_
        refine XK.inBlock ?_
        refine XK.region rfl ?_
        refine XO.q (Q.add rfl rfl ⟨by omega, by omega⟩) ?_
        refine XO.q (Q.move rfl) ?_
        refine XO.done ?_
        exact ih0 (n + 1) _ _ (by omega) (by first | omega | (dsimp only; omega)) (.c rfl (.base 116 rfl rfl)) inferInstance
    · have _tb := True.intro
      rw [show ([(.slice none 0 0), v69, v70, v71, v72, v73, v74, v75, v76, v77, v78, v79, v80] : List Value).getD k default = v79 by rw [hk]; rfl]
      refine XO.q (Q.assign rfl) ?_
      refine XO.done ?_
      refine XK.seq ?_
      refine XK.region rfl ?_
      refine XO.q (Q.ldA [_, _] rfl rfl rfl) ?_
      refine XO.q (Q.move rfl) ?_
      refine XO.call Try.call37 rfl rfl rfl (cases11 ⟨N1, V1⟩ v54 v67 h54 h67 [4] v79 h79 (by first | omega | decide | (dsimp only; omega) | (simp only [List.length_cons, List.length_nil]; omega) | (simp only [List.length_replicate]; omega)) (by first | omega | decide | (dsimp only; omega) | (simp only [List.length_cons, List.length_nil]; omega) | (simp only [List.length_replicate]; omega)) (by first | omega | decide | (dsimp only; omega) | (simp only [List.length_cons, List.length_nil]; omega) | (simp only [List.length_replicate]; omega))) fun v88 s88 R88 => ?_
      obtain ⟨rfl, rfl⟩ := R88
      dsimp only [List.cons_append, List.nil_append]
      refine XO.q (Q.not rfl) ?_
      refine XO.done ?_
      refine XK.if rfl (fun c12 => ?_) (fun c12 => ?_)
      · have _t12 := True.intro
        simp at c12
      · have _t12 := True.intro
        refine XK.skip ?_
        refine XK.inBlock ?_
        refine XK.region rfl ?_
        refine XO.q (Q.add rfl rfl ⟨by omega, by omega⟩) ?_
        refine XO.q (Q.move rfl) ?_
        refine XO.done ?_
        exact ih0 (n + 1) _ _ (by omega) (by first | omega | (dsimp only; omega)) (.c rfl (.base 116 rfl rfl)) inferInstance
    · have _tb := True.intro
      rw [show ([(.slice none 0 0), v69, v70, v71, v72, v73, v74, v75, v76, v77, v78, v79, v80] : List Value).getD k default = v80 by rw [hk]; rfl]
      refine XO.q (Q.assign rfl) ?_
      refine XO.done ?_
      refine XK.seq ?_
      refine XK.region rfl ?_
      refine XO.q (Q.ldA [_, _] rfl rfl rfl) ?_
      refine XO.q (Q.move rfl) ?_
      refine XO.call Try.call37 rfl rfl rfl (cases11 ⟨N1, V1⟩ v54 v67 h54 h67 [-1] v80 h80 (by first | omega | decide | (dsimp only; omega) | (simp only [List.length_cons, List.length_nil]; omega) | (simp only [List.length_replicate]; omega)) (by first | omega | decide | (dsimp only; omega) | (simp only [List.length_cons, List.length_nil]; omega) | (simp only [List.length_replicate]; omega)) (by first | omega | decide | (dsimp only; omega) | (simp only [List.length_cons, List.length_nil]; omega) | (simp only [List.length_replicate]; omega))) fun v88 s88 R88 => ?_
      obtain ⟨rfl, rfl⟩ := R88
      dsimp only [List.cons_append, List.nil_append]
      refine XO.q (Q.not rfl) ?_
      refine XO.done ?_
      refine XK.if rfl (fun c13 => ?_) (fun c13 => ?_)
      · have _t13 := True.intro
        simp at c13
      · have _t13 := True.intro
        refine XK.skip ?_
        refine XK.inBlock ?_
        refine XK.region rfl ?_
        refine XO.q (Q.add rfl rfl ⟨by omega, by omega⟩) ?_
        refine XO.q (Q.move rfl) ?_
        refine XO.done ?_
        exact ih0 (n + 1) _ _ (by omega) (by first | omega | (dsimp only; omega)) (.c rfl (.base 116 rfl rfl)) inferInstance
  · have _t0 := True.intro
    refine XK.exit rfl ?_
    refine XK.seq ?_
    refine XK.region rfl ?_
    refine XO.lit [_, _, _, _, _, _, _, _, _, _, _, _, _, _, _, _, _, _, _] [_, _, _, _, _, _, _, _, _, _, _, _, _, _, _, _, _, _, _] [-2, -1, 0, 1, 2, 13, 14, 63, 64, 100, 101, 1000, 1001, 50000, 50001, 100000, 100001, 1000000000, 1000000001] encI (by rfl) (by rfl) rfl (by rfl) (by exact .c 0 1 rfl rfl rfl (.c 1 1 rfl rfl rfl (.c 2 1 rfl rfl rfl (.c 3 1 rfl rfl rfl (.c 4 1 rfl rfl rfl (.c 5 1 rfl rfl rfl (.c 6 1 rfl rfl rfl (.c 7 1 rfl rfl rfl (.c 8 1 rfl rfl rfl (.c 9 1 rfl rfl rfl (.c 10 1 rfl rfl rfl (.c 11 1 rfl rfl rfl (.c 12 1 rfl rfl rfl (.c 13 1 rfl rfl rfl (.c 14 1 rfl rfl rfl (.c 15 1 rfl rfl rfl (.c 16 1 rfl rfl rfl (.c 17 1 rfl rfl rfl (.c 18 1 rfl rfl rfl (.n _)))))))))))))))))))) (fun _ => rfl) (by rfl) rfl (by infer_instance) rfl fun v91 h91 O91 => ?_
    refine XO.q (Q.assign rfl) ?_
    refine XO.done ?_
    refine XK.seq ?_
    refine XK.seq ?_
    refine XK.region rfl ?_
    refine XO.q (Q.move rfl) ?_
    refine XO.len rfl fun l93 => ?_
    rw [show ((([-2, -1, 0, 1, 2, 13, 14, 63, 64, 100, 101, 1000, 1001, 50000, 50001, 100000, 100001, 1000000000, 1000000001] : List Int).length : Nat) : Int) = 19 from rfl]
    refine XO.q (Q.move rfl) ?_
    refine XO.done ?_
    refine XK.block ?_
    refine XK.while (X := Nat) [0, 6, 7, 8, 9, 10, 11, 12, 13, 14, 94, 95, 96, 97, 98, 99, 100, 101, 102, 103, 104, 105, 106, 107, 108, 109, 110, 111, 112, 113, 114, 115, 116, 117, 118, 119, 120, 121, 122, 123, 124, 125, 126, 127, 128, 129, 130, 131, 132, 133, 134, 135, 136, 137, 138, 139, 140, 141, 142, 143, 144, 145, 146, 147, 148, 149, 150, 151, 152, 153, 154, 155, 156, 157, 158, 159, 160, 161, 162, 163, 164, 165, 166, 167, 168, 169, 170, 171, 172, 173, 174, 175, 176, 177, 178, 179, 180, 181, 182, 183, 184, 185, 186, 187, 188, 189, 190, 191, 192, 193, 194, 195, 196, 197, 198, 199, 200, 201, 202, 203, 204, 205, 206, 207, 208, 209, 210, 211, 212, 213, 214] (fun k => [(94, some (.int .i64 (k : Nat)))]) (fun k => []) (fun k => k ≤ 19) (fun k => 19 - k) (0) [] rfl (by omega) (.c rfl (.base 0 rfl rfl)) ?_
    rintro k hk0 ih1
    dsimp only [List.cons_append, List.nil_append] at ih1 ⊢
    refine XK.seq ?_
    refine XK.region rfl ?_
    refine XO.q (Q.lss rfl rfl) ?_
    refine XO.done ?_
    refine XK.seq ?_
    refine XK.if rfl (fun c14 => ?_) (fun c14 => ?_)
    · have _t14 := True.intro
      refine XK.skip ?_
      refine XK.seq ?_
      refine XK.block ?_
      refine XK.seq ?_
      refine XK.region rfl ?_
      refine XO.ix rfl rfl (by omega) (by show (k : Int) < 19; omega) fun i96 => ?_
      refine XO.q (Q.ldE rfl (by first | assumption | omega) rfl) ?_
      obtain ⟨x, ex⟩ : ∃ x : Int, x = ([-2, -1, 0, 1, 2, 13, 14, 63, 64, 100, 101, 1000, 1001, 50000, 50001, 100000, 100001, 1000000000, 1000000001] : List Int).getD k default := ⟨_, rfl⟩
      rw [← ex]
      have hx := edge_bd k (by omega)
      rw [← ex] at hx
      clear ex
      refine XO.q (Q.assign rfl) ?_
      refine XO.done ?_
      refine XK.seq ?_
      refine XK.seq ?_
      refine XK.region rfl ?_
      refine XO.q (Q.move rfl) ?_
      refine XO.done ?_
      refine XK.block ?_
      refine XK.while (X := Nat) [0, 7, 8, 9, 98, 99, 100, 101, 102, 103, 104, 105, 106, 107, 108, 109, 110, 111, 112, 113, 114, 115, 116, 117, 118, 119, 120, 121, 122, 123, 124, 125, 126, 127, 128, 129, 130, 131, 132, 133, 134, 135, 136, 137, 138, 139, 140, 141, 142, 143, 144, 145, 146, 147, 148] (fun i => [(98, some (.int .i64 (i : Nat)))]) (fun i => []) (fun i => i ≤ 7) (fun i => 7 - i) (0) [] rfl (by omega) (.c rfl (.base 0 rfl rfl)) ?_
      rintro i hi ih2
      dsimp only [List.cons_append, List.nil_append] at ih2 ⊢
      refine XK.seq ?_
      refine XK.region rfl ?_
      refine XO.q (Q.lss rfl rfl) ?_
      refine XO.done ?_
      refine XK.seq ?_
      refine XK.if rfl (fun c15 => ?_) (fun c15 => ?_)
      · have _t15 := True.intro
        refine XK.skip ?_
        refine XK.seq ?_
        refine XK.block ?_
        refine XK.seq ?_
        refine XK.region rfl ?_
        refine XO.q (Q.move rfl) ?_
        refine XO.q (Q.assign rfl) ?_
        refine XO.done ?_
        refine XK.seq ?_
        refine XK.region rfl ?_
        refine XO.call Try.call38 rfl rfl rfl (example11) fun v101 s101 R101 => ?_
        obtain ⟨vn, vv, kn, kv, rfl, rfl, ONN, OVV⟩ := R101
        dsimp only [List.cons_append, List.nil_append]
        refine XO.alloc fun b8 => ?_
        refine XO.st rfl rfl rfl ?_
        refine XO.done ?_
        refine XK.seq ?_
        refine XK.region rfl ?_
        refine XO.lit [_] [_] [1] encI (by rfl) (by rfl) rfl (by rfl) (by exact .c 0 1 rfl rfl rfl (.n _)) (fun _ => rfl) (by rfl) rfl (by infer_instance) rfl fun v102 h102 O102 => ?_
        have bn0 : Int.toNat 0 < exC.nodes.length := by decide
        have bn1 : Int.toNat 1 < exC.nodes.length := by decide
        have bv0 : Int.toNat 0 < exC.vals.length := by decide
        have bv2 : Int.toNat 2 < exC.vals.length := by decide
        have bs0 : Int.toNat 0 < ([1] : List Int).length := by decide
        have on0 : ∀ off, One (pat vn 3 (Int.toNat 0) off) := fun off => pat_one (OArr.arr (s := ONN)) bn0 off
        have on1 : ∀ off, One (pat vn 3 (Int.toNat 1) off) := fun off => pat_one (OArr.arr (s := ONN)) bn1 off
        have ov0 : ∀ off, One (pat vv 1 (Int.toNat 0) off) := fun off => pat_one (OArr.arr (s := OVV)) bv0 off
        have ov2 : ∀ off, One (pat vv 1 (Int.toNat 2) off) := fun off => pat_one (OArr.arr (s := OVV)) bv2 off
        have os0 : ∀ off, One (pat v102 1 (Int.toNat 0) off) := fun off => pat_one (OArr.arr (s := O102)) bs0 off
        refine XO.q (Q.assign rfl) ?_
        refine XO.done ?_
        refine XK.seq ?_
        refine XK.meet (X := MCase × List Int × PHeap × PHeap × PHeap) [103, 104, 105, 106, 107, 108, 109, 110, 111, 112, 113, 114, 115, 116, 117, 118, 119, 120, 121, 122, 123, 124, 125, 126, 127, 128, 129, 130, 131, 132] (fun ⟨c, st, kn2, kv2, ks2⟩ => []) (fun ⟨c, st, kn2, kv2, ks2⟩ => [kn2, kv2, ks2]) (fun ⟨c, st, kn2, kv2, ks2⟩ => OArr vn encNode 3 97 kn2 c.nodes ∧ OArr vv encI 1 3 kv2 c.vals ∧ OArr v102 encI 1 3 ks2 st ∧ c.nodes.length ≤ 1000 ∧ c.vals.length ≤ 1000 ∧ st.length ≤ 1000) [kn, kv, h102] ?_ ?_
        · rintro ⟨c, st, kn2, kv2, ks2⟩ ⟨ON2, OV2, OS2, ln2, lv2, ls2⟩
          dsimp only [List.cons_append, List.nil_append]
          refine XK.seq ?_
          refine XK.region rfl ?_
          refine XO.q (Q.ldA [_, _] rfl rfl rfl) ?_
          refine XO.q (Q.move rfl) ?_
          refine XO.call Try.call37 rfl rfl rfl (cases11 c vn vv kn2 kv2 st v102 ks2 (by first | omega | decide | (dsimp only; omega) | (simp only [List.length_cons, List.length_nil]; omega) | (simp only [List.length_replicate]; omega)) (by first | omega | decide | (dsimp only; omega) | (simp only [List.length_cons, List.length_nil]; omega) | (simp only [List.length_replicate]; omega)) (by first | omega | decide | (dsimp only; omega) | (simp only [List.length_cons, List.length_nil]; omega) | (simp only [List.length_replicate]; omega))) fun v135 s135 R135 => ?_
          obtain ⟨rfl, rfl⟩ := R135
          dsimp only [List.cons_append, List.nil_append]
          refine XO.q (Q.not rfl) ?_
          refine XO.q (Q.move rfl) ?_
          refine XO.q (Quiet.guardF rfl rfl fun g138 p138 => Q.ldA [_, _] rfl rfl rfl) ?_
          refine XO.callS rfl rfl rfl Try.call37 rfl (.c (lzv rfl rfl) (.c rfl .n)) rfl (cases11 (js := nI kn2) c vn vv kn2 kv2 [] (.slice none 0 0) kn2 (by first | omega | decide | (dsimp only; omega) | (simp only [List.length_cons, List.length_nil]; omega) | (simp only [List.length_replicate]; omega)) (by first | omega | decide | (dsimp only; omega) | (simp only [List.length_cons, List.length_nil]; omega) | (simp only [List.length_replicate]; omega)) (by first | omega | decide | (dsimp only; omega) | (simp only [List.length_cons, List.length_nil]; omega) | (simp only [List.length_replicate]; omega))) fun v139 s139 R139 => ?_
          obtain ⟨rfl, rfl⟩ := R139
          dsimp only [List.cons_append, List.nil_append]
          refine XO.q (Quiet.guardF rfl rfl fun g140 p140 => Q.not rfl) ?_
          refine XO.q (Q.or rfl (fun hp => lzv hp rfl)) ?_
          refine XO.q (Q.move rfl) ?_
          refine XO.q (Quiet.guardF rfl rfl fun g143 p143 => Q.ldA [_, _] rfl rfl rfl) ?_
          refine XO.litG [_, _, _] [_, _, _] [0, 1, 2] encI rfl rfl rfl (by rfl) (by rfl) rfl (by rfl) (by exact .c 0 1 rfl rfl rfl (.c 1 1 rfl rfl rfl (.c 2 1 rfl rfl rfl (.n _)))) (fun _ => rfl) (by rfl) rfl (by infer_instance) rfl fun v144 h144 O144 => ?_
          refine XO.callS rfl rfl rfl Try.call37 rfl (.c (lzv rfl rfl) (.c rfl .n)) rfl (cases11 c vn vv kn2 kv2 [0, 1, 2] v144 h144 (by first | omega | decide | (dsimp only; omega) | (simp only [List.length_cons, List.length_nil]; omega) | (simp only [List.length_replicate]; omega)) (by first | omega | decide | (dsimp only; omega) | (simp only [List.length_cons, List.length_nil]; omega) | (simp only [List.length_replicate]; omega)) (by first | omega | decide | (dsimp only; omega) | (simp only [List.length_cons, List.length_nil]; omega) | (simp only [List.length_replicate]; omega))) fun v145 s145 R145 => ?_
          obtain ⟨rfl, rfl⟩ := R145
          dsimp only [List.cons_append, List.nil_append]
          refine XO.q (Quiet.guardF rfl rfl fun g146 p146 => Q.not rfl) ?_
          refine XO.q (Q.or rfl (fun hp => lzv hp rfl)) ?_
          refine XO.done ?_
          refine XK.if rfl (fun c16 => ?_) (fun c16 => ?_)
          · have _t16 := True.intro
            simp at c16
          · have _t16 := True.intro
            refine XK.skip ?_
            refine XK.inBlock ?_
            refine XK.region rfl ?_
            refine XO.q (Q.add rfl rfl ⟨by omega, by omega⟩) ?_
            refine XO.q (Q.move rfl) ?_
            refine XO.done ?_
            exact ih2 (i + 1) _ _ (by omega) (by first | omega | (dsimp only; omega)) (.c rfl (.base 110 rfl rfl)) inferInstance
        · intro mtr18
          dsimp only [List.cons_append, List.nil_append] at mtr18
          refine XK.drawn [0, 1, 2, 3, 4, 5, 6, 7, 8, 9, 10, 11, 12, 13, 14, 15, 16, 17, 18, 19, 20, 21, 22, 23, 25, 28, 26, 29] [b8] [kn, kv, h102] (.q 0 (.q 1 (.q 2 (.q 3 (.q 4 (.q 5 (.q 6 (.q 7 (.q 8 (.q 9 (.q 10 (.q 11 (.q 12 (.q 13 (.q 14 (.q 15 (.q 16 (.q 17 (.q 18 (.q 19 (.q 20 (.q 21 (.q 22 (.q 23 (.q 25 (.q 28 (.br 24 true (.q 26 (.br 27 true (.q 29 (.br 30 false .done .stop)) .stop)) .stop))))))))))))))))))))))))))) Try.mixed rfl (by kernel_rfl) ?_
          refine XT.q rfl rfl (Q.fieldAddr rfl) ?_
          refine XT.q rfl rfl (Q.ld rfl rfl) ?_
          refine XT.ix rfl rfl rfl rfl (by decide) (by decide) fun i105 => ?_
          refine XT.q rfl rfl (Q.fieldQ rfl (by first | assumption | omega)) ?_
          refine XT.q rfl rfl (Q.fieldAddr rfl) ?_
          refine XT.q rfl rfl (Q.ld rfl rfl) ?_
          refine XT.ix rfl rfl rfl rfl (by decide) (by decide) fun i109 => ?_
          refine XT.q rfl rfl (Q.fieldQ rfl (by first | assumption | omega)) ?_
          refine XT.q rfl rfl (Q.fieldAddr rfl) ?_
          refine XT.q rfl rfl (Q.ld rfl rfl) ?_
          refine XT.ix rfl rfl rfl rfl (by decide) (by decide) fun i113 => ?_
          refine XT.q rfl rfl (Q.fieldQ rfl (by first | assumption | omega)) ?_
          refine XT.q rfl rfl (Q.fieldAddr rfl) ?_
          refine XT.q rfl rfl (Q.ld rfl rfl) ?_
          refine XT.ix rfl rfl rfl rfl (by decide) (by decide) fun i117 => ?_
          refine XT.q rfl rfl (Q.fieldQ rfl (by first | assumption | omega)) ?_
          refine XT.q rfl rfl (Q.fieldAddr rfl) ?_
          refine XT.q rfl rfl (Q.ld rfl rfl) ?_
          refine XT.ix rfl rfl rfl rfl (by decide) (by decide) fun i121 => ?_
          refine XT.q rfl rfl (Q.fieldAddr rfl) ?_
          refine XT.q rfl rfl (Q.ld rfl rfl) ?_
          refine XT.ix rfl rfl rfl rfl (by decide) (by decide) fun i124 => ?_
          refine XT.q rfl rfl (Q.move rfl) ?_
          refine XT.ix rfl rfl rfl rfl (by decide) (by decide) fun i126 => ?_
          refine XT.q rfl rfl (Q.move rfl) ?_
          refine XT.q rfl rfl (Q.move rfl) ?_
          refine XT.lit [_, _, _, _, _, _, _] [_, _, _, _, _, _, _] [_, _, _, _, _, _, _] encV rfl rfl (by rfl) (by rfl) rfl (by rfl) (by exact .c 0 1 rfl rfl rfl (.c 1 1 rfl rfl rfl (.c 2 1 rfl rfl rfl (.c 3 1 rfl rfl rfl (.c 4 1 rfl rfl rfl (.c 5 1 rfl rfl rfl (.c 6 1 rfl rfl rfl (.n _)))))))) (fun _ => rfl) (by rfl) rfl (by infer_instance) rfl (fun v127 h127 O127 => ⟨inferInstance, ?_⟩) XT.stop
          refine XT.ix rfl rfl rfl rfl (by omega) (by show (i : Int) < 7; omega) fun i129 => ?_
          refine XT.qs rfl rfl (Q.ldE rfl (by show (i : Nat) < 7; omega) rfl) ⟨inferInstance, ?_⟩ XT.stop
          rcases (show i = 0 ∨ i = 1 ∨ i = 2 ∨ i = 3 ∨ i = 4 ∨ i = 5 ∨ i = 6 by omega) with rfl | rfl | rfl | rfl | rfl | rfl | rfl
          · have _ts := True.intro
            refine XT.q rfl rfl (Q.nilCheckE rfl (by first | assumption | omega)) ?_
            refine XT.stE (⟨x, (exC.nodes.getD 0 default).low, (exC.nodes.getD 0 default).high⟩ : MNode) rfl rfl rfl rfl rfl (by assumption) rfl rfl (fun h18_30 O18_30 => ⟨inferInstance, ?_⟩) XT.stop
            refine XT.done ?_
            exact mtr18 ((⟨exC.nodes.set 0 (⟨x, (exC.nodes.getD 0 default).low, (exC.nodes.getD 0 default).high⟩ : MNode), exC.vals⟩, [1], h18_30, kv, h102)) _ _ ⟨O18_30, OVV, O102, by (try dsimp only); (try simp only [List.length_set]); first | omega | decide, by (try dsimp only); (try simp only [List.length_set]); first | omega | decide, by (try dsimp only); (try simp only [List.length_set]); first | omega | decide⟩ (.base 30 rfl rfl) inferInstance
          · have _ts := True.intro
            refine XT.q rfl rfl (Q.nilCheckE rfl (by first | assumption | omega)) ?_
            refine XT.stE (⟨x, (exC.nodes.getD 1 default).low, (exC.nodes.getD 1 default).high⟩ : MNode) rfl rfl rfl rfl rfl (by assumption) rfl rfl (fun h18_30 O18_30 => ⟨inferInstance, ?_⟩) XT.stop
            refine XT.done ?_
            exact mtr18 ((⟨exC.nodes.set 1 (⟨x, (exC.nodes.getD 1 default).low, (exC.nodes.getD 1 default).high⟩ : MNode), exC.vals⟩, [1], h18_30, kv, h102)) _ _ ⟨O18_30, OVV, O102, by (try dsimp only); (try simp only [List.length_set]); first | omega | decide, by (try dsimp only); (try simp only [List.length_set]); first | omega | decide, by (try dsimp only); (try simp only [List.length_set]); first | omega | decide⟩ (.base 30 rfl rfl) inferInstance
          · have _ts := True.intro
            refine XT.q rfl rfl (Q.nilCheckE rfl (by first | assumption | omega)) ?_
            refine XT.stE (⟨(exC.nodes.getD 0 default).up, x, (exC.nodes.getD 0 default).high⟩ : MNode) rfl rfl rfl rfl rfl (by assumption) rfl rfl (fun h18_30 O18_30 => ⟨inferInstance, ?_⟩) XT.stop
            refine XT.done ?_
            exact mtr18 ((⟨exC.nodes.set 0 (⟨(exC.nodes.getD 0 default).up, x, (exC.nodes.getD 0 default).high⟩ : MNode), exC.vals⟩, [1], h18_30, kv, h102)) _ _ ⟨O18_30, OVV, O102, by (try dsimp only); (try simp only [List.length_set]); first | omega | decide, by (try dsimp only); (try simp only [List.length_set]); first | omega | decide, by (try dsimp only); (try simp only [List.length_set]); first | omega | decide⟩ (.base 30 rfl rfl) inferInstance
          · have _ts := True.intro
            refine XT.q rfl rfl (Q.nilCheckE rfl (by first | assumption | omega)) ?_
            refine XT.stE (⟨(exC.nodes.getD 0 default).up, (exC.nodes.getD 0 default).low, x⟩ : MNode) rfl rfl rfl rfl rfl (by assumption) rfl rfl (fun h18_30 O18_30 => ⟨inferInstance, ?_⟩) XT.stop
            refine XT.done ?_
            exact mtr18 ((⟨exC.nodes.set 0 (⟨(exC.nodes.getD 0 default).up, (exC.nodes.getD 0 default).low, x⟩ : MNode), exC.vals⟩, [1], h18_30, kv, h102)) _ _ ⟨O18_30, OVV, O102, by (try dsimp only); (try simp only [List.length_set]); first | omega | decide, by (try dsimp only); (try simp only [List.length_set]); first | omega | decide, by (try dsimp only); (try simp only [List.length_set]); first | omega | decide⟩ (.base 30 rfl rfl) inferInstance
          · have _ts := True.intro
            refine XT.q rfl rfl (Q.nilCheckE rfl (by first | assumption | omega)) ?_
            refine XT.stE x rfl rfl rfl rfl rfl (by assumption) rfl rfl (fun h18_30 O18_30 => ⟨inferInstance, ?_⟩) XT.stop
            refine XT.done ?_
            exact mtr18 ((⟨exC.nodes, exC.vals.set 0 x⟩, [1], kn, h18_30, h102)) _ _ ⟨ONN, O18_30, O102, by (try dsimp only); (try simp only [List.length_set]); first | omega | decide, by (try dsimp only); (try simp only [List.length_set]); first | omega | decide, by (try dsimp only); (try simp only [List.length_set]); first | omega | decide⟩ (.base 30 rfl rfl) inferInstance
          · have _ts := True.intro
            refine XT.q rfl rfl (Q.nilCheckE rfl (by first | assumption | omega)) ?_
            refine XT.stE x rfl rfl rfl rfl rfl (by assumption) rfl rfl (fun h18_30 O18_30 => ⟨inferInstance, ?_⟩) XT.stop
            refine XT.done ?_
            exact mtr18 ((⟨exC.nodes, exC.vals.set 2 x⟩, [1], kn, h18_30, h102)) _ _ ⟨ONN, O18_30, O102, by (try dsimp only); (try simp only [List.length_set]); first | omega | decide, by (try dsimp only); (try simp only [List.length_set]); first | omega | decide, by (try dsimp only); (try simp only [List.length_set]); first | omega | decide⟩ (.base 30 rfl rfl) inferInstance
          · have _ts := True.intro
            refine XT.q rfl rfl (Q.nilCheckE rfl (by first | assumption | omega)) ?_
            refine XT.stE x rfl rfl rfl rfl rfl (by assumption) rfl rfl (fun h18_30 O18_30 => ⟨inferInstance, ?_⟩) XT.stop
            refine XT.done ?_
            exact mtr18 ((⟨exC.nodes, exC.vals⟩, ([1] : List Int).set 0 x, kn, kv, h18_30)) _ _ ⟨ONN, OVV, O18_30, by (try dsimp only); (try simp only [List.length_set]); first | omega | decide, by (try dsimp only); (try simp only [List.length_set]); first | omega | decide, by (try dsimp only); (try simp only [List.length_set]); first | omega | decide⟩ (.base 30 rfl rfl) inferInstance
      · have _t15 := True.intro
        refine XK.exit rfl ?_
        refine XK.seq ?_
        refine XK.seq ?_
        refine XK.region rfl ?_
        refine XO.q (Q.move rfl) ?_
        refine XO.done ?_
        refine XK.block ?_
        refine XK.while (X := Nat) [0, 10, 11, 12, 149, 150, 151, 152, 153, 154, 155, 156, 157, 158, 159, 160, 161, 162, 163, 164, 165, 166, 167, 168, 169, 170, 171, 172, 173, 174, 175, 176, 177, 178, 179, 180, 181, 182, 183, 184, 185, 186, 187, 188, 189] (fun i => [(149, some (.int .i64 (i : Nat)))]) (fun i => []) (fun i => i ≤ 8) (fun i => 8 - i) (0) [] rfl (by omega) (.c rfl (.base 0 rfl rfl)) ?_
        rintro i hi ih3
        dsimp only [List.cons_append, List.nil_append] at ih3 ⊢
        refine XK.seq ?_
        refine XK.region rfl ?_
        refine XO.q (Q.lss rfl rfl) ?_
        refine XO.done ?_
        refine XK.seq ?_
        refine XK.if rfl (fun c17 => ?_) (fun c17 => ?_)
        · have _t17 := True.intro
          refine XK.skip ?_
          refine XK.seq ?_
          refine XK.block ?_
          refine XK.seq ?_
          refine XK.region rfl ?_
          refine XO.q (Q.move rfl) ?_
          refine XO.q (Q.assign rfl) ?_
          refine XO.done ?_
          refine XK.seq ?_
          refine XK.region rfl ?_
          refine XO.call Try.call39 rfl rfl rfl (tariff11) fun v152 s152 R152 => ?_
          obtain ⟨vp, vt, kp, kt, rfl, rfl, OPP, OTT⟩ := R152
          dsimp only [List.cons_append, List.nil_append]
          have bp1 : Int.toNat 1 < exT.price.length := by decide
          have bt0 : Int.toNat 0 < exT.tiers.length := by decide
          have bt1 : Int.toNat 1 < exT.tiers.length := by decide
          have op1 : ∀ off, One (pat vp 1 (Int.toNat 1) off) := fun off => pat_one (OArr.arr (s := OPP)) bp1 off
          have ot0 : ∀ off, One (pat vt 2 (Int.toNat 0) off) := fun off => pat_one (OArr.arr (s := OTT)) bt0 off
          have ot1 : ∀ off, One (pat vt 2 (Int.toNat 1) off) := fun off => pat_one (OArr.arr (s := OTT)) bt1 off
          refine XO.alloc fun b11 => ?_
          refine XO.st rfl rfl rfl ?_
          refine XO.done ?_
          refine XK.seq ?_
          refine XK.region rfl ?_
          refine XO.lit [_, _] [_, _] [3, 7] encI (by rfl) (by rfl) rfl (by rfl) (by exact .c 0 1 rfl rfl rfl (.c 1 1 rfl rfl rfl (.n _))) (fun _ => rfl) (by rfl) rfl (by infer_instance) rfl fun v153 h153 O153 => ?_
          have bu1 : Int.toNat 1 < ([3, 7] : List Int).length := by decide
          have ou1 : ∀ off, One (pat v153 1 (Int.toNat 1) off) := fun off => pat_one (OArr.arr (s := O153)) bu1 off
          refine XO.q (Q.build [_, _] (.c 0 1 rfl rfl rfl (.c 1 1 rfl rfl rfl (.n _)))) ?_
          refine XO.alloc fun b12 => ?_
          refine XO.st rfl rfl rfl ?_
          refine XO.done ?_
          refine XK.seq ?_
          refine XK.meet (X := MTariff × MUse × PHeap × PHeap × PHeap) [155, 156, 157, 158, 159, 160, 161, 162, 163, 164, 165, 166, 167, 168, 169, 170, 171, 172, 173, 174, 175, 176, 177, 178, 179, 180, 181] (fun ⟨t, u, kp2, kt2, ku2⟩ => []) (fun ⟨t, u, kp2, kt2, ku2⟩ => [blk b11 [vp, .int .i64 t.base, vt, .int .i64 t.credit] 27, blk b12 [v153, .int .i64 u.out] 35, kp2, kt2, ku2]) (fun ⟨t, u, kp2, kt2, ku2⟩ => OArr vp encI 1 3 kp2 t.price ∧ OArr vt encTier 2 33 kt2 t.tiers ∧ OArr v153 encI 1 3 ku2 u.values ∧ t.price.length ≤ 30 ∧ t.tiers.length ≤ 12 ∧ u.values.length ≤ 5000) [blk b11 [vp, .int .i64 exT.base, vt, .int .i64 exT.credit] 27, blk b12 [v153, .int .i64 40] 35, kp, kt, h153] ?_ ?_
          · rintro ⟨t, u, kp2, kt2, ku2⟩ ⟨OP2, OT2, OU2, lp2, lt2, lu2⟩
            dsimp only [List.cons_append, List.nil_append]
            refine XK.seq ?_
            refine XK.region rfl ?_
            refine XO.q (Q.ldA [_, _, _, _] rfl rfl rfl) ?_
            refine XO.q (Q.ldA [_, _] rfl rfl rfl) ?_
            refine XO.lit [_] [_] [1] encI (by rfl) (by rfl) rfl (by rfl) (by exact .c 0 1 rfl rfl rfl (.n _)) (fun _ => rfl) (by rfl) rfl (by infer_instance) rfl fun v184 h184 O184 => ?_
            refine XO.q (Q.build [_, _] (.c 0 1 rfl rfl rfl (.c 1 1 rfl rfl rfl (.n _)))) ?_
            refine XO.lit [_, _, _, _] [_, _, _, _] [(v153, u), (v184, ⟨[1], 130⟩)] encUse (by rfl) (by rfl) rfl (by rfl) (by exact .c 0 2 rfl rfl rfl (.c 2 2 rfl rfl rfl (.n _))) (fun _ => rfl) (by rfl) rfl (by infer_instance) rfl fun v186 h186 O186 => ?_
            refine XO.call Try.call21 rfl rfl rfl (billsB t vp vt kp2 kt2 v153 u ku2 v184 ⟨[1], 130⟩ h184 v186 h186 (by omega) (by omega) (by omega) (by decide)) fun v187 s187 R187 => ?_
            obtain ⟨rfl, rfl⟩ := R187
            dsimp only [List.cons_append, List.nil_append]
            refine XO.q (Q.not rfl) ?_
            refine XO.done ?_
            refine XK.if rfl (fun c18 => ?_) (fun c18 => ?_)
            · have _t18 := True.intro
              simp at c18
            · have _t18 := True.intro
              refine XK.skip ?_
              refine XK.inBlock ?_
              refine XK.region rfl ?_
              refine XO.q (Q.add rfl rfl ⟨by omega, by omega⟩) ?_
              refine XO.q (Q.move rfl) ?_
              refine XO.done ?_
              exact ih3 (i + 1) _ _ (by omega) (by first | omega | (dsimp only; omega)) (.c rfl (.base 90 rfl rfl)) inferInstance
          · intro mtr27
            dsimp only [List.cons_append, List.nil_append] at mtr27
            refine XK.drawn [0, 1, 2, 3, 4, 5, 6, 7, 8, 9, 10, 11, 12, 13, 14, 15, 16, 17, 18, 19, 20, 22, 25, 23, 26] [b11, b12] [kp, kt, h153] (.q 0 (.q 1 (.q 2 (.q 3 (.q 4 (.q 5 (.q 6 (.q 7 (.q 8 (.q 9 (.q 10 (.q 11 (.q 12 (.q 13 (.q 14 (.q 15 (.q 16 (.q 17 (.q 18 (.q 19 (.q 20 (.q 22 (.q 25 (.br 21 true (.q 23 (.br 24 true (.q 26 (.br 27 false .done .stop)) .stop)) .stop)))))))))))))))))))))))) Try.mixed rfl (by kernel_rfl) ?_
            refine XT.q rfl rfl (Q.fieldAddr rfl) ?_
            refine XT.q rfl rfl (Q.ld rfl rfl) ?_
            refine XT.ix rfl rfl rfl rfl (by decide) (by decide) fun i157 => ?_
            refine XT.q rfl rfl (Q.fieldAddr rfl) ?_
            refine XT.q rfl rfl (Q.fieldAddr rfl) ?_
            refine XT.q rfl rfl (Q.ld rfl rfl) ?_
            refine XT.ix rfl rfl rfl rfl (by decide) (by decide) fun i161 => ?_
            refine XT.q rfl rfl (Q.fieldQ rfl (by first | assumption | omega)) ?_
            refine XT.q rfl rfl (Q.fieldAddr rfl) ?_
            refine XT.q rfl rfl (Q.ld rfl rfl) ?_
            refine XT.ix rfl rfl rfl rfl (by decide) (by decide) fun i165 => ?_
            refine XT.q rfl rfl (Q.fieldQ rfl (by first | assumption | omega)) ?_
            refine XT.q rfl rfl (Q.fieldAddr rfl) ?_
            refine XT.q rfl rfl (Q.ld rfl rfl) ?_
            refine XT.ix rfl rfl rfl rfl (by decide) (by decide) fun i169 => ?_
            refine XT.q rfl rfl (Q.fieldQ rfl (by first | assumption | omega)) ?_
            refine XT.q rfl rfl (Q.fieldAddr rfl) ?_
            refine XT.q rfl rfl (Q.fieldAddr rfl) ?_
            refine XT.q rfl rfl (Q.ld rfl rfl) ?_
            refine XT.ix rfl rfl rfl rfl (by decide) (by decide) fun i174 => ?_
            refine XT.q rfl rfl (Q.fieldAddr rfl) ?_
            refine XT.q rfl rfl (Q.move rfl) ?_
            refine XT.q rfl rfl (Q.move rfl) ?_
            refine XT.lit [_, _, _, _, _, _, _, _] [_, _, _, _, _, _, _, _] [_, _, _, _, _, _, _, _] encV rfl rfl (by rfl) (by rfl) rfl (by rfl) (by exact .c 0 1 rfl rfl rfl (.c 1 1 rfl rfl rfl (.c 2 1 rfl rfl rfl (.c 3 1 rfl rfl rfl (.c 4 1 rfl rfl rfl (.c 5 1 rfl rfl rfl (.c 6 1 rfl rfl rfl (.c 7 1 rfl rfl rfl (.n _))))))))) (fun _ => rfl) (by rfl) rfl (by infer_instance) rfl (fun v176 h176 O176 => ⟨inferInstance, ?_⟩) XT.stop
            refine XT.ix rfl rfl rfl rfl (by omega) (by show (i : Int) < 8; omega) fun i178 => ?_
            refine XT.qs rfl rfl (Q.ldE rfl (by show (i : Nat) < 8; omega) rfl) ⟨inferInstance, ?_⟩ XT.stop
            rcases (show i = 0 ∨ i = 1 ∨ i = 2 ∨ i = 3 ∨ i = 4 ∨ i = 5 ∨ i = 6 ∨ i = 7 by omega) with rfl | rfl | rfl | rfl | rfl | rfl | rfl | rfl
            · have _ts := True.intro
              refine XT.q rfl rfl (Q.nilCheckE rfl (by first | assumption | omega)) ?_
              refine XT.stE x rfl rfl rfl rfl rfl (by assumption) rfl rfl (fun h27_27 O27_27 => ⟨inferInstance, ?_⟩) XT.stop
              refine XT.done ?_
              exact mtr27 ((⟨exT.price.set 1 x, exT.base, exT.tiers, exT.credit⟩, ⟨[3, 7], 40⟩, h27_27, kt, h153)) _ _ ⟨O27_27, OTT, O153, by (try dsimp only); (try simp only [List.length_set]); first | omega | decide, by (try dsimp only); (try simp only [List.length_set]); first | omega | decide, by (try dsimp only); (try simp only [List.length_set]); first | omega | decide⟩ (.base 27 rfl rfl) inferInstance
            · have _ts := True.intro
              refine XT.q rfl rfl (Q.nilCheck rfl) ?_
              refine XT.st rfl rfl rfl rfl rfl ⟨inferInstance, ?_⟩ XT.stop
              refine XT.done ?_
              exact mtr27 ((⟨exT.price, x, exT.tiers, exT.credit⟩, ⟨[3, 7], 40⟩, kp, kt, h153)) _ _ ⟨OPP, OTT, O153, by (try dsimp only); (try simp only [List.length_set]); first | omega | decide, by (try dsimp only); (try simp only [List.length_set]); first | omega | decide, by (try dsimp only); (try simp only [List.length_set]); first | omega | decide⟩ (.base 27 rfl rfl) inferInstance
            · have _ts := True.intro
              refine XT.q rfl rfl (Q.nilCheckE rfl (by first | assumption | omega)) ?_
              refine XT.stE (⟨x, (exT.tiers.getD 0 default).pct⟩ : MTier) rfl rfl rfl rfl rfl (by assumption) rfl rfl (fun h27_27 O27_27 => ⟨inferInstance, ?_⟩) XT.stop
              refine XT.done ?_
              exact mtr27 ((⟨exT.price, exT.base, exT.tiers.set 0 (⟨x, (exT.tiers.getD 0 default).pct⟩ : MTier), exT.credit⟩, ⟨[3, 7], 40⟩, kp, h27_27, h153)) _ _ ⟨OPP, O27_27, O153, by (try dsimp only); (try simp only [List.length_set]); first | omega | decide, by (try dsimp only); (try simp only [List.length_set]); first | omega | decide, by (try dsimp only); (try simp only [List.length_set]); first | omega | decide⟩ (.base 27 rfl rfl) inferInstance
            · have _ts := True.intro
              refine XT.q rfl rfl (Q.nilCheckE rfl (by first | assumption | omega)) ?_
              refine XT.stE (⟨(exT.tiers.getD 1 default).min, x⟩ : MTier) rfl rfl rfl rfl rfl (by assumption) rfl rfl (fun h27_27 O27_27 => ⟨inferInstance, ?_⟩) XT.stop
              refine XT.done ?_
              exact mtr27 ((⟨exT.price, exT.base, exT.tiers.set 1 (⟨(exT.tiers.getD 1 default).min, x⟩ : MTier), exT.credit⟩, ⟨[3, 7], 40⟩, kp, h27_27, h153)) _ _ ⟨OPP, O27_27, O153, by (try dsimp only); (try simp only [List.length_set]); first | omega | decide, by (try dsimp only); (try simp only [List.length_set]); first | omega | decide, by (try dsimp only); (try simp only [List.length_set]); first | omega | decide⟩ (.base 27 rfl rfl) inferInstance
            · have _ts := True.intro
              refine XT.q rfl rfl (Q.nilCheckE rfl (by first | assumption | omega)) ?_
              refine XT.stE (⟨x, (exT.tiers.getD 1 default).pct⟩ : MTier) rfl rfl rfl rfl rfl (by assumption) rfl rfl (fun h27_27 O27_27 => ⟨inferInstance, ?_⟩) XT.stop
              refine XT.done ?_
              exact mtr27 ((⟨exT.price, exT.base, exT.tiers.set 1 (⟨x, (exT.tiers.getD 1 default).pct⟩ : MTier), exT.credit⟩, ⟨[3, 7], 40⟩, kp, h27_27, h153)) _ _ ⟨OPP, O27_27, O153, by (try dsimp only); (try simp only [List.length_set]); first | omega | decide, by (try dsimp only); (try simp only [List.length_set]); first | omega | decide, by (try dsimp only); (try simp only [List.length_set]); first | omega | decide⟩ (.base 27 rfl rfl) inferInstance
            · have _ts := True.intro
              refine XT.q rfl rfl (Q.nilCheck rfl) ?_
              refine XT.st rfl rfl rfl rfl rfl ⟨inferInstance, ?_⟩ XT.stop
              refine XT.done ?_
              exact mtr27 ((⟨exT.price, exT.base, exT.tiers, x⟩, ⟨[3, 7], 40⟩, kp, kt, h153)) _ _ ⟨OPP, OTT, O153, by (try dsimp only); (try simp only [List.length_set]); first | omega | decide, by (try dsimp only); (try simp only [List.length_set]); first | omega | decide, by (try dsimp only); (try simp only [List.length_set]); first | omega | decide⟩ (.base 27 rfl rfl) inferInstance
            · have _ts := True.intro
              refine XT.q rfl rfl (Q.nilCheckE rfl (by first | assumption | omega)) ?_
              refine XT.stE x rfl rfl rfl rfl rfl (by assumption) rfl rfl (fun h27_27 O27_27 => ⟨inferInstance, ?_⟩) XT.stop
              refine XT.done ?_
              exact mtr27 ((⟨exT.price, exT.base, exT.tiers, exT.credit⟩, ⟨([3, 7] : List Int).set 1 x, 40⟩, kp, kt, h27_27)) _ _ ⟨OPP, OTT, O27_27, by (try dsimp only); (try simp only [List.length_set]); first | omega | decide, by (try dsimp only); (try simp only [List.length_set]); first | omega | decide, by (try dsimp only); (try simp only [List.length_set]); first | omega | decide⟩ (.base 27 rfl rfl) inferInstance
            · have _ts := True.intro
              refine XT.q rfl rfl (Q.nilCheck rfl) ?_
              refine XT.st rfl rfl rfl rfl rfl ⟨inferInstance, ?_⟩ XT.stop
              refine XT.done ?_
              exact mtr27 ((⟨exT.price, exT.base, exT.tiers, exT.credit⟩, ⟨[3, 7], x⟩, kp, kt, h153)) _ _ ⟨OPP, OTT, O153, by (try dsimp only); (try simp only [List.length_set]); first | omega | decide, by (try dsimp only); (try simp only [List.length_set]); first | omega | decide, by (try dsimp only); (try simp only [List.length_set]); first | omega | decide⟩ (.base 27 rfl rfl) inferInstance
        · have _t17 := True.intro
          refine XK.exit rfl ?_
          refine XK.seq ?_
          refine XK.region rfl ?_
          refine XO.q (Q.move rfl) ?_
          refine XO.done ?_
          refine XK.block ?_
          refine XK.while (X := Nat) [0, 13, 14, 190, 191, 192, 193, 194, 195, 196, 197, 198, 199, 200, 201, 202, 203, 204, 205, 206, 207, 208, 209, 210, 211, 212, 213] (fun i => [(190, some (.int .i64 (i : Nat)))]) (fun i => []) (fun i => i ≤ 3) (fun i => 3 - i) (0) [] rfl (by omega) (.c rfl (.base 0 rfl rfl)) ?_
          rintro i hi ih4
          dsimp only [List.cons_append, List.nil_append] at ih4 ⊢
          refine XK.seq ?_
          refine XK.region rfl ?_
          refine XO.q (Q.lss rfl rfl) ?_
          refine XO.done ?_
          refine XK.seq ?_
          refine XK.if rfl (fun c19 => ?_) (fun c19 => ?_)
          · have _t19 := True.intro
            refine XK.skip ?_
            refine XK.seq ?_
            refine XK.block ?_
            refine XK.seq ?_
            refine XK.region rfl ?_
            refine XO.q (Q.move rfl) ?_
            refine XO.q (Q.assign rfl) ?_
            refine XO.done ?_
            refine XK.seq ?_
            refine XK.region rfl ?_
            refine XO.q (Q.build [_, _, _] (.c 0 1 rfl rfl rfl (.c 1 1 rfl rfl rfl (.c 2 1 rfl rfl rfl (.n _))))) ?_
            refine XO.alloc fun b14 => ?_
            refine XO.st rfl rfl rfl ?_
            refine XO.done ?_
            refine XK.seq ?_
            refine XK.meet (X := MRd) [194, 195, 196, 197, 198, 199, 200, 201, 202] (fun r => []) (fun r => [blk b14 [.int .i64 r.meter, .int .i64 r.hour, .int .i64 r.value] 74]) (fun r => True) [blk b14 [.int .i64 1, .int .i64 2, .int .i64 3] 74] ?_ ?_
            · rintro r _
              dsimp only [List.cons_append, List.nil_append]
              refine XK.seq ?_
              refine XK.region rfl ?_
              refine XO.q (Q.move rfl) ?_
              refine XO.q (Q.conv rfl) ?_
              refine XO.q (Q.build [_, _, _] (.c 0 1 rfl rfl rfl (.c 1 1 rfl rfl rfl (.c 2 1 rfl rfl rfl (.n _))))) ?_
              refine XO.q (Q.build [_, _, _, _] (.c 0 3 rfl rfl rfl (.n _))) ?_
              refine XO.q (Q.ldA [_, _, _] rfl rfl rfl) ?_
              refine XO.q (Q.build [_, _, _, _] (.c 0 3 rfl rfl rfl (.c 3 1 rfl rfl rfl (.n _)))) ?_
              refine XO.lit [_, _, _, _, _, _, _, _] [_, _, _, _, _, _, _, _] [⟨⟨1, 2, 9⟩, 0⟩, ⟨r, 7⟩] encLink (by rfl) (by rfl) rfl (by rfl) (by exact .c 0 4 rfl rfl rfl (.c 4 4 rfl rfl rfl (.n _))) (fun _ => rfl) (by rfl) rfl (by infer_instance) rfl fun v209 h209 O209 => ?_
              refine XO.q (Q.move rfl) ?_
              refine XO.call Try.call7 rfl rfl rfl (MeterChains_spec _ 5 [⟨⟨1, 2, 9⟩, 0⟩, ⟨r, 7⟩] v209 h209 (i : Nat) ⟨by omega, by omega⟩) fun v211 s211 R211 => ?_
              obtain ⟨rfl, rfl⟩ := R211
              dsimp only [List.cons_append, List.nil_append]
              refine XO.q (Q.not rfl) ?_
              refine XO.done ?_
              refine XK.if rfl (fun c20 => ?_) (fun c20 => ?_)
              · have _t20 := True.intro
                simp at c20
              · have _t20 := True.intro
                refine XK.skip ?_
                refine XK.inBlock ?_
                refine XK.region rfl ?_
                refine XO.q (Q.add rfl rfl ⟨by omega, by omega⟩) ?_
                refine XO.q (Q.move rfl) ?_
                refine XO.done ?_
                exact ih4 (i + 1) _ _ (by omega) (by first | omega | (dsimp only; omega)) (.c rfl (.base 54 rfl rfl)) inferInstance
            · intro mtr35
              dsimp only [List.cons_append, List.nil_append] at mtr35
              refine XK.region rfl ?_
              refine XO.q (Q.fieldAddr rfl) ?_
              refine XO.q (Q.fieldAddr rfl) ?_
              refine XO.q (Q.fieldAddr rfl) ?_
              refine XO.lit [_, _, _] [_, _, _] [ptr b14 0, ptr b14 1, ptr b14 2] encV (by rfl) (by rfl) rfl (by rfl) (by exact .c 0 1 rfl rfl rfl (.c 1 1 rfl rfl rfl (.c 2 1 rfl rfl rfl (.n _)))) (fun _ => rfl) (by rfl) rfl (by infer_instance) rfl fun v197 h197 O197 => ?_
              refine XO.q (Q.move rfl) ?_
              refine XO.ix rfl rfl (by omega) (by show (i : Int) < 3; omega) fun i199 => ?_
              refine XO.q (Q.ldE rfl (by show (i : Nat) < 3; omega) rfl) ?_
              refine XO.q (Q.move rfl) ?_
              rcases (show i = 0 ∨ i = 1 ∨ i = 2 by omega) with rfl | rfl | rfl
              · have _tb := True.intro
                refine XO.q (Q.nilCheck rfl) ?_
                refine XO.st rfl rfl rfl ?_
                refine XO.done ?_
                exact mtr35 (⟨x, 2, 3⟩) _ _ trivial (.base 9 rfl rfl) inferInstance
              · have _tb := True.intro
                refine XO.q (Q.nilCheck rfl) ?_
                refine XO.st rfl rfl rfl ?_
                refine XO.done ?_
                exact mtr35 (⟨1, x, 3⟩) _ _ trivial (.base 9 rfl rfl) inferInstance
              · have _tb := True.intro
                refine XO.q (Q.nilCheck rfl) ?_
                refine XO.st rfl rfl rfl ?_
                refine XO.done ?_
                exact mtr35 (⟨1, 2, x⟩) _ _ trivial (.base 9 rfl rfl) inferInstance
          · have _t19 := True.intro
            refine XK.exit rfl ?_
            refine XK.inBlock ?_
            refine XK.region rfl ?_
            refine XO.q (Q.add rfl rfl ⟨by omega, by omega⟩) ?_
            refine XO.q (Q.move rfl) ?_
            refine XO.done ?_
            exact ih1 (k + 1) _ _ (by omega) (by first | omega | (dsimp only; omega)) (.c rfl (.base 274 rfl rfl)) inferInstance
    · have _t14 := True.intro
      refine XK.exit rfl ?_
      refine XK.seq ?_
      refine XK.seq ?_
      refine XK.region rfl ?_
      refine XO.q (Q.build [_, _] (.c 0 1 rfl rfl rfl (.c 1 1 rfl rfl rfl (.n _)))) ?_
      refine XO.q (Q.build [_, _] (.c 0 1 rfl rfl rfl (.c 1 1 rfl rfl rfl (.n _)))) ?_
      refine XO.lit [_, _, _, _] [_, _, _, _] [⟨5, 5⟩, ⟨5, 6⟩] encTier (by rfl) (by rfl) rfl (by rfl) (by exact .c 0 2 rfl rfl rfl (.c 2 2 rfl rfl rfl (.n _))) (fun _ => rfl) (by rfl) rfl (by infer_instance) rfl fun v217 h217 O217 => ?_
      refine XO.q (Q.build [_, _] (.c 0 1 rfl rfl rfl (.c 1 1 rfl rfl rfl (.n _)))) ?_
      refine XO.q (Q.build [_, _] (.c 0 1 rfl rfl rfl (.c 1 1 rfl rfl rfl (.n _)))) ?_
      refine XO.lit [_, _, _, _] [_, _, _, _] [⟨5, 5⟩, ⟨6, 4⟩] encTier (by rfl) (by rfl) rfl (by rfl) (by exact .c 0 2 rfl rfl rfl (.c 2 2 rfl rfl rfl (.n _))) (fun _ => rfl) (by rfl) rfl (by infer_instance) rfl fun v220 h220 O220 => ?_
      refine XO.q (Q.build [_, _] (.c 0 1 rfl rfl rfl (.c 1 1 rfl rfl rfl (.n _)))) ?_
      refine XO.q (Q.build [_, _] (.c 0 1 rfl rfl rfl (.c 1 1 rfl rfl rfl (.n _)))) ?_
      refine XO.q (Q.build [_, _] (.c 0 1 rfl rfl rfl (.c 1 1 rfl rfl rfl (.n _)))) ?_
      refine XO.lit [_, _, _, _, _, _] [_, _, _, _, _, _] [⟨0, 0⟩, ⟨1, 0⟩, ⟨2, 100⟩] encTier (by rfl) (by rfl) rfl (by rfl) (by exact .c 0 2 rfl rfl rfl (.c 2 2 rfl rfl rfl (.c 4 2 rfl rfl rfl (.n _)))) (fun _ => rfl) (by rfl) rfl (by infer_instance) rfl fun v224 h224 O224 => ?_
      refine XO.make encTier ((⟨0, 0⟩ : MTier)) rfl rfl rfl (by omega) (by omega) (fun _ => rfl) rfl rfl rfl (by dsimp only [encTier]; infer_instance) fun v225 h225 O225 => ?_
      refine XO.cat h217 h220 fun q1 q2 => ?_
      refine XO.cat (cat h217 h220) h224 fun q3 q4 => ?_
      refine XO.cat (cat (cat h217 h220) h224) h225 fun q5 q6 => ?_
      have hA : ∀ k, k < 5 → Arr (([(.slice none 0 0), v217, v220, v224, v225] : List Value).getD k default) encTier 2 (cat (cat (cat h217 h220) h224) h225) (tiersV.getD k default) := fun k hk => by
        rcases (show k = 0 ∨ k = 1 ∨ k = 2 ∨ k = 3 ∨ k = 4 by omega) with rfl | rfl | rfl | rfl | rfl
        · exact Arr.nil (fun _ => rfl)
        · exact Arr.le_heap (Arr.le_heap (Arr.le_heap (OArr.arr (s := O217)) q1) q3) q5
        · exact Arr.le_heap (Arr.le_heap (Arr.le_heap (OArr.arr (s := O220)) q2) q3) q5
        · exact Arr.le_heap (Arr.le_heap (OArr.arr (s := O224)) q4) q5
        · exact Arr.le_heap (OArr.arr (s := O225)) q6
      refine XO.lit [_, _, _, _, _] [_, _, _, _, _] ([(.slice none 0 0), v217, v220, v224, v225] : List Value) encV (by rfl) (by rfl) rfl (by rfl) (by exact .c 0 1 rfl rfl rfl (.c 1 1 rfl rfl rfl (.c 2 1 rfl rfl rfl (.c 3 1 rfl rfl rfl (.c 4 1 rfl rfl rfl (.n _)))))) (fun _ => rfl) (by rfl) rfl (by infer_instance) rfl fun v226 h226 O226 => ?_
      refine XO.len rfl fun l227 => ?_
      rw [show ((([(.slice none 0 0), v217, v220, v224, v225] : List Value).length : Nat) : Int) = 5 from rfl]
      refine XO.q (Q.move rfl) ?_
      refine XO.done ?_
      refine XK.block ?_
      refine XK.while (X := Nat) [0, 16, 17, 18, 228, 229, 230, 231, 232, 233, 234, 235, 236, 237, 238, 239, 240, 241, 242, 243, 244, 245, 246, 247] (fun k => [(228, some (.int .i64 (k : Nat)))]) (fun k => []) (fun k => k ≤ 5) (fun k => 5 - k) (0) [] rfl (by omega) (.c rfl (.base 0 rfl rfl)) ?_
      rintro k hk ih5
      dsimp only [List.cons_append, List.nil_append] at ih5 ⊢
      refine XK.seq ?_
      refine XK.region rfl ?_
      refine XO.q (Q.lss rfl rfl) ?_
      refine XO.done ?_
      refine XK.seq ?_
      refine XK.if rfl (fun c21 => ?_) (fun c21 => ?_)
      · have _t21 := True.intro
        refine XK.skip ?_
        refine XK.seq ?_
        refine XK.block ?_
        refine XK.seq ?_
        refine XK.region rfl ?_
        refine XO.ix rfl rfl (by omega) (by show (k : Int) < 5; omega) fun i230 => ?_
        refine XO.q (Q.ldE rfl (by show (k : Nat) < 5; omega) rfl) ?_
        have ak := hA k (by omega)
        obtain ⟨w, ew⟩ : ∃ w, w = ([(.slice none 0 0), v217, v220, v224, v225] : List Value).getD k default := ⟨_, rfl⟩
        rw [← ew] at ak
        rw [← ew]
        refine XO.q (Q.assign rfl) ?_
        refine XO.done ?_
        refine XK.seq ?_
        refine XK.region rfl ?_
        refine XO.call Try.call39 rfl rfl rfl (tariff11) fun v232 s232 R232 => ?_
        obtain ⟨vp, vt, kp, kt, rfl, rfl, OPP, OTT⟩ := R232
        dsimp only [List.cons_append, List.nil_append]
        refine XO.alloc fun b17 => ?_
        refine XO.st rfl rfl rfl ?_
        refine XO.done ?_
        refine XK.seq ?_
        refine XK.region rfl ?_
        refine XO.q (Q.move rfl) ?_
        refine XO.q (Q.fieldAddr rfl) ?_
        refine XO.st rfl rfl rfl ?_
        refine XO.done ?_
        refine XK.seq ?_
        refine XK.region rfl ?_
        refine XO.q (Q.move rfl) ?_
        refine XO.done ?_
        refine XK.block ?_
        refine XK.while (X := Nat) [0, 18, 235, 236, 237, 238, 239, 240, 241, 242, 243, 244, 245, 246] (fun o => [(235, some (.int .i64 (o : Nat)))]) (fun o => []) (fun o => o ≤ 8) (fun o => 8 - o) (0) [] rfl (by omega) (.c rfl (.base 0 rfl rfl)) ?_
        rintro o ho ih6
        dsimp only [List.cons_append, List.nil_append] at ih6 ⊢
        refine XK.seq ?_
        refine XK.region rfl ?_
        refine XO.q (Q.lss rfl rfl) ?_
        refine XO.done ?_
        refine XK.seq ?_
        refine XK.if rfl (fun c22 => ?_) (fun c22 => ?_)
        · have _t22 := True.intro
          refine XK.skip ?_
          refine XK.seq ?_
          refine XK.block ?_
          refine XK.seq ?_
          refine XK.region rfl ?_
          refine XO.q (Q.move rfl) ?_
          refine XO.q (Q.assign rfl) ?_
          refine XO.done ?_
          refine XK.seq ?_
          refine XK.region rfl ?_
          refine XO.q (Q.ldA [_, _, _, _] rfl rfl rfl) ?_
          refine XO.q (Q.move rfl) ?_
          refine XO.lit [_, _] [_, _] [((o : Nat) : Int), 3] encI (by rfl) (by rfl) rfl (by rfl) (by exact .c 0 1 rfl rfl rfl (.c 1 1 rfl rfl rfl (.n _))) (fun _ => rfl) (by rfl) rfl (by infer_instance) rfl fun v240 h240 O240 => ?_
          refine XO.q (Q.move rfl) ?_
          refine XO.q (Q.build [_, _] (.c 0 1 rfl rfl rfl (.c 1 1 rfl rfl rfl (.n _)))) ?_
          refine XO.lit [_, _] [_, _] [(v240, ⟨[((o : Nat) : Int), 3], ((o : Nat) : Int)⟩)] encUse (by rfl) (by rfl) rfl (by rfl) (by exact .c 0 2 rfl rfl rfl (.n _)) (fun _ => rfl) (by rfl) rfl (by infer_instance) rfl fun v243 h243 O243 => ?_
          refine XO.call Try.call21 rfl rfl rfl (billsA ⟨exT.price, exT.base, tiersV.getD k default, exT.credit⟩ vp w kp (cat (cat (cat h217 h220) h224) h225) v240 ⟨[((o : Nat) : Int), 3], ((o : Nat) : Int)⟩ h240 v243 h243 (by first | omega | decide | exact tiers_len k (by omega) | (simp only [List.length_cons, List.length_nil]; omega) | (simp only [List.length_replicate]; omega) | (simp only [List.length_replicate]; decide)) (by first | omega | decide | exact tiers_len k (by omega) | (simp only [List.length_cons, List.length_nil]; omega) | (simp only [List.length_replicate]; omega) | (simp only [List.length_replicate]; decide)) (by first | omega | decide | exact tiers_len k (by omega) | (simp only [List.length_cons, List.length_nil]; omega) | (simp only [List.length_replicate]; omega) | (simp only [List.length_replicate]; decide))) fun v244 s244 R244 => ?_
          obtain ⟨rfl, rfl⟩ := R244
          dsimp only [List.cons_append, List.nil_append]
          refine XO.q (Q.not rfl) ?_
          refine XO.done ?_
          refine XK.if rfl (fun c23 => ?_) (fun c23 => ?_)
          · have _t23 := True.intro
            simp at c23
          · have _t23 := True.intro
            refine XK.skip ?_
            refine XK.inBlock ?_
            refine XK.region rfl ?_
            refine XO.q (Q.add rfl rfl ⟨by omega, by omega⟩) ?_
            refine XO.q (Q.move rfl) ?_
            refine XO.done ?_
            exact ih6 (o + 1) _ _ (by omega) (by first | omega | (dsimp only; omega)) (.c rfl (.base 28 rfl rfl)) inferInstance
        · have _t22 := True.intro
          refine XK.exit rfl ?_
          refine XK.inBlock ?_
          refine XK.region rfl ?_
          refine XO.q (Q.add rfl rfl ⟨by omega, by omega⟩) ?_
          refine XO.q (Q.move rfl) ?_
          refine XO.done ?_
          exact ih5 (k + 1) _ _ (by omega) (by first | omega | (dsimp only; omega)) (.c rfl (.base 52 rfl rfl)) inferInstance
      · have _t21 := True.intro
        refine XK.exit rfl ?_
        refine XK.seq ?_
        refine XK.seq ?_
        refine XK.region rfl ?_
        refine XO.q (Q.move rfl) ?_
        refine XO.done ?_
        refine XK.block ?_
        refine XK.while (X := Nat) [0, 19, 20, 248, 249, 250, 251, 252, 253, 254, 255, 256, 257, 258, 259, 260, 261, 262, 263, 264, 265, 266, 267, 268] (fun n => [(248, some (.int .i64 (n : Nat)))]) (fun n => []) (fun n => n ≤ 100) (fun n => 100 - n) (0) [] rfl (by omega) (.c rfl (.base 0 rfl rfl)) ?_
        rintro n hn ih7
        dsimp only [List.cons_append, List.nil_append] at ih7 ⊢
        refine XK.seq ?_
        refine XK.region rfl ?_
        refine XO.q (Q.lss rfl rfl) ?_
        refine XO.done ?_
        refine XK.seq ?_
        refine XK.if rfl (fun c24 => ?_) (fun c24 => ?_)
        · have _t24 := True.intro
          refine XK.skip ?_
          refine XK.seq ?_
          refine XK.block ?_
          refine XK.seq ?_
          refine XK.region rfl ?_
          refine XO.q (Q.move rfl) ?_
          refine XO.q (Q.assign rfl) ?_
          refine XO.done ?_
          refine XK.seq ?_
          refine XK.region rfl ?_
          refine XO.call Try.call39 rfl rfl rfl (tariff11) fun v251 s251 R251 => ?_
          obtain ⟨vp, vt, kp, kt, rfl, rfl, OPP, OTT⟩ := R251
          dsimp only [List.cons_append, List.nil_append]
          refine XO.alloc fun b20 => ?_
          refine XO.st rfl rfl rfl ?_
          refine XO.done ?_
          refine XK.seq ?_
          refine XK.region rfl ?_
          refine XO.q (Q.move rfl) ?_
          refine XO.q (Q.move rfl) ?_
          refine XO.q (Q.rem rfl rfl (by omega) (by omega)) ?_
          refine XO.q (Q.sub rfl rfl ⟨by omega, by omega⟩) ?_
          refine XO.q (Q.build [_, _] (.c 1 1 rfl rfl rfl (.n _))) ?_
          refine XO.lit [_, _] [_, _] [⟨0, 50 - (n : Int) % 4⟩] encTier (by rfl) (by rfl) rfl (by rfl) (by exact .c 0 2 rfl rfl rfl (.n _)) (fun _ => rfl) (by rfl) rfl (by infer_instance) rfl fun v257 h257 O257 => ?_
          refine XO.q (Q.fieldAddr rfl) ?_
          refine XO.st rfl rfl rfl ?_
          refine XO.q (Q.fieldAddr rfl) ?_
          refine XO.st rfl rfl rfl ?_
          refine XO.q (Q.fieldAddr rfl) ?_
          refine XO.st rfl rfl rfl ?_
          refine XO.done ?_
          refine XK.seq ?_
          refine XK.region rfl ?_
          refine XO.q (Q.ldA [_, _, _, _] rfl rfl rfl) ?_
          refine XO.q (Q.move rfl) ?_
          refine XO.lit [_] [_] [(n : Int)] encI (by rfl) (by rfl) rfl (by rfl) (by exact .c 0 1 rfl rfl rfl (.n _)) (fun _ => rfl) (by rfl) rfl (by infer_instance) rfl fun v263 h263 O263 => ?_
          refine XO.q (Q.build [_, _] (.c 0 1 rfl rfl rfl (.n _))) ?_
          refine XO.lit [_, _] [_, _] [(v263, ⟨[(n : Int)], 0⟩)] encUse (by rfl) (by rfl) rfl (by rfl) (by exact .c 0 2 rfl rfl rfl (.n _)) (fun _ => rfl) (by rfl) rfl (by infer_instance) rfl fun v265 h265 O265 => ?_
          refine XO.call Try.call21 rfl rfl rfl (billsA ⟨exT.price, (n : Int), [⟨0, 50 - (n : Int) % 4⟩], 100⟩ vp v257 kp h257 v263 ⟨[(n : Int)], 0⟩ h263 v265 h265 (by first | omega | decide | exact tiers_len k (by omega) | (simp only [List.length_cons, List.length_nil]; omega) | (simp only [List.length_replicate]; omega) | (simp only [List.length_replicate]; decide)) (by first | omega | decide | exact tiers_len k (by omega) | (simp only [List.length_cons, List.length_nil]; omega) | (simp only [List.length_replicate]; omega) | (simp only [List.length_replicate]; decide)) (by first | omega | decide | exact tiers_len k (by omega) | (simp only [List.length_cons, List.length_nil]; omega) | (simp only [List.length_replicate]; omega) | (simp only [List.length_replicate]; decide))) fun v266 s266 R266 => ?_
          obtain ⟨rfl, rfl⟩ := R266
          dsimp only [List.cons_append, List.nil_append]
          refine XO.q (Q.not rfl) ?_
          refine XO.done ?_
          refine XK.if rfl (fun c25 => ?_) (fun c25 => ?_)
          · have _t25 := True.intro
            simp at c25
          · have _t25 := True.intro
            refine XK.skip ?_
            refine XK.inBlock ?_
            refine XK.region rfl ?_
            refine XO.q (Q.add rfl rfl ⟨by omega, by omega⟩) ?_
            refine XO.q (Q.move rfl) ?_
            refine XO.done ?_
            exact ih7 (n + 1) _ _ (by omega) (by first | omega | (dsimp only; omega)) (.c rfl (.base 48 rfl rfl)) inferInstance
        · have _t24 := True.intro
          refine XK.exit rfl ?_
          refine XK.seq ?_
          refine XK.seq ?_
          refine XK.region rfl ?_
          refine XO.lit [_, _] [_, _] [23, 25] encI (by rfl) (by rfl) rfl (by rfl) (by exact .c 0 1 rfl rfl rfl (.c 1 1 rfl rfl rfl (.n _))) (fun _ => rfl) (by rfl) rfl (by infer_instance) rfl fun v269 h269 O269 => ?_
          refine XO.len rfl fun l270 => ?_
          rw [show ((([23, 25] : List Int).length : Nat) : Int) = 2 from rfl]
          refine XO.q (Q.move rfl) ?_
          refine XO.done ?_
          refine XK.block ?_
          refine XK.while (X := Nat) [0, 22, 23, 271, 272, 273, 274, 275, 276, 277, 278, 279, 280, 281, 282, 283, 284, 285] (fun k => [(271, some (.int .i64 (k : Nat)))]) (fun k => []) (fun k => k ≤ 2) (fun k => 2 - k) (0) [] rfl (by omega) (.c rfl (.base 0 rfl rfl)) ?_
          rintro k hk ih8
          dsimp only [List.cons_append, List.nil_append] at ih8 ⊢
          refine XK.seq ?_
          refine XK.region rfl ?_
          refine XO.q (Q.lss rfl rfl) ?_
          refine XO.done ?_
          refine XK.seq ?_
          refine XK.if rfl (fun c26 => ?_) (fun c26 => ?_)
          · have _t26 := True.intro
            refine XK.skip ?_
            refine XK.seq ?_
            refine XK.block ?_
            refine XK.seq ?_
            refine XK.region rfl ?_
            refine XO.ix rfl rfl (by omega) (by show (k : Int) < 2; omega) fun i273 => ?_
            refine XO.q (Q.ldE rfl (by first | assumption | omega) rfl) ?_
            obtain ⟨m, em, hm⟩ : ∃ m : Nat, ([23, 25] : List Int).getD k default = (m : Int) ∧ m ≤ 25 := (n2_bd k (by omega)).elim (fun h => ⟨23, h, by omega⟩) (fun h => ⟨25, h, by omega⟩)
            rw [em]
            refine XO.q (Q.assign rfl) ?_
            refine XO.done ?_
            refine XK.seq ?_
            refine XK.region rfl ?_
            refine XO.call Try.call39 rfl rfl rfl (tariff11) fun v275 s275 R275 => ?_
            obtain ⟨vp, vt, kp, kt, rfl, rfl, OPP, OTT⟩ := R275
            dsimp only [List.cons_append, List.nil_append]
            refine XO.alloc fun b23 => ?_
            refine XO.st rfl rfl rfl ?_
            refine XO.done ?_
            refine XK.seq ?_
            refine XK.region rfl ?_
            refine XO.lit [_] [_] [1] encI (by rfl) (by rfl) rfl (by rfl) (by exact .c 0 1 rfl rfl rfl (.n _)) (fun _ => rfl) (by rfl) rfl (by infer_instance) rfl fun v276 h276 O276 => ?_
            refine XO.q (Q.move rfl) ?_
            refine XO.call Try.call40 rfl rfl rfl (repeatI v276 h276 1 m (by omega)) fun v278 s278 R278 => ?_
            obtain ⟨h278, rfl, O278⟩ := R278
            dsimp only [List.cons_append, List.nil_append]
            refine XO.q (Q.fieldAddr rfl) ?_
            refine XO.st rfl rfl rfl ?_
            refine XO.done ?_
            refine XK.seq ?_
            refine XK.region rfl ?_
            refine XO.q (Q.ldA [_, _, _, _] rfl rfl rfl) ?_
            refine XO.q (Q.build [_, _] (.n _)) ?_
            refine XO.lit [_, _] [_, _] [((.slice none 0 0 : Value), (⟨[], 0⟩ : MUse))] encUse (by rfl) (by rfl) rfl (by rfl) (by exact .c 0 2 rfl rfl rfl (.n _)) (fun _ => rfl) (by rfl) rfl (by infer_instance) rfl fun v282 h282 O282 => ?_
            refine XO.call Try.call21 rfl rfl rfl (billsA (j1 := nI h282) ⟨List.replicate m 1, exT.base, exT.tiers, exT.credit⟩ v278 vt h278 kt (.slice none 0 0) ⟨[], 0⟩ h282 v282 h282 (by first | omega | decide | exact tiers_len k (by omega) | (simp only [List.length_cons, List.length_nil]; omega) | (simp only [List.length_replicate]; omega) | (simp only [List.length_replicate]; decide)) (by first | omega | decide | exact tiers_len k (by omega) | (simp only [List.length_cons, List.length_nil]; omega) | (simp only [List.length_replicate]; omega) | (simp only [List.length_replicate]; decide)) (by first | omega | decide | exact tiers_len k (by omega) | (simp only [List.length_cons, List.length_nil]; omega) | (simp only [List.length_replicate]; omega) | (simp only [List.length_replicate]; decide))) fun v283 s283 R283 => ?_
            obtain ⟨rfl, rfl⟩ := R283
            dsimp only [List.cons_append, List.nil_append]
            refine XO.q (Q.not rfl) ?_
            refine XO.done ?_
            refine XK.if rfl (fun c27 => ?_) (fun c27 => ?_)
            · have _t27 := True.intro
              simp at c27
            · have _t27 := True.intro
              refine XK.skip ?_
              refine XK.inBlock ?_
              refine XK.region rfl ?_
              refine XO.q (Q.add rfl rfl ⟨by omega, by omega⟩) ?_
              refine XO.q (Q.move rfl) ?_
              refine XO.done ?_
              exact ih8 (k + 1) _ _ (by omega) (by first | omega | (dsimp only; omega)) (.c rfl (.base 36 rfl rfl)) inferInstance
          · have _t26 := True.intro
            refine XK.exit rfl ?_
            refine XK.seq ?_
            refine XK.seq ?_
            refine XK.region rfl ?_
            refine XO.lit [_, _, _, _] [_, _, _, _] [0, 1, 14, 15] encI (by rfl) (by rfl) rfl (by rfl) (by exact .c 0 1 rfl rfl rfl (.c 1 1 rfl rfl rfl (.c 2 1 rfl rfl rfl (.c 3 1 rfl rfl rfl (.n _))))) (fun _ => rfl) (by rfl) rfl (by infer_instance) rfl fun v286 h286 O286 => ?_
            refine XO.len rfl fun l287 => ?_
            rw [show ((([0, 1, 14, 15] : List Int).length : Nat) : Int) = 4 from rfl]
            refine XO.q (Q.move rfl) ?_
            refine XO.done ?_
            refine XK.block ?_
            refine XK.while (X := Nat) [0, 25, 27, 28, 288, 289, 290, 291, 292, 293, 294, 295, 296, 297, 298, 299, 300, 301, 302, 303, 304, 305, 306, 307, 308, 309, 310, 311, 312, 313, 314, 315, 316] (fun k => [(288, some (.int .i64 (k : Nat)))]) (fun k => []) (fun k => k ≤ 4) (fun k => 4 - k) (0) [] rfl (by omega) (.c rfl (.base 0 rfl rfl)) ?_
            rintro k hk ih9
            dsimp only [List.cons_append, List.nil_append] at ih9 ⊢
            refine XK.seq ?_
            refine XK.region rfl ?_
            refine XO.q (Q.lss rfl rfl) ?_
            refine XO.done ?_
            refine XK.seq ?_
            refine XK.if rfl (fun c28 => ?_) (fun c28 => ?_)
            · have _t28 := True.intro
              refine XK.skip ?_
              refine XK.seq ?_
              refine XK.block ?_
              refine XK.seq ?_
              refine XK.region rfl ?_
              refine XO.ix rfl rfl (by omega) (by show (k : Int) < 4; omega) fun i290 => ?_
              refine XO.q (Q.ldE rfl (by first | assumption | omega) rfl) ?_
              obtain ⟨m, em, hm⟩ : ∃ m : Nat, ([0, 1, 14, 15] : List Int).getD k default = (m : Int) ∧ m ≤ 15 := ⟨(([0, 1, 14, 15] : List Int).getD k default).toNat, by have := n4_bd k (by omega); omega, by have := n4_bd k (by omega); omega⟩
              rw [em]
              refine XO.q (Q.assign rfl) ?_
              refine XO.done ?_
              refine XK.seq ?_
              refine XK.region rfl ?_
              refine XO.q (Q.move rfl) ?_
              refine XO.q (Q.move rfl) ?_
              refine XO.q (Q.add rfl rfl ⟨by omega, by omega⟩) ?_
              refine XO.lit [_, _] [_, _] [(m : Int), (m : Int) + 1] encI (by rfl) (by rfl) rfl (by rfl) (by exact .c 0 1 rfl rfl rfl (.c 1 1 rfl rfl rfl (.n _))) (fun _ => rfl) (by rfl) rfl (by infer_instance) rfl fun v295 h295 O295 => ?_
              refine XO.len rfl fun l296 => ?_
              rw [show ((([(m : Int), (m : Int) + 1] : List Int).length : Nat) : Int) = 2 from rfl]
              refine XO.q (Q.move rfl) ?_
              refine XO.done ?_
              refine XK.block ?_
              refine XK.while (X := Nat) [0, 27, 28, 297, 298, 299, 300, 301, 302, 303, 304, 305, 306, 307, 308, 309, 310, 311, 312, 313, 314, 315] (fun j => [(297, some (.int .i64 (j : Nat)))]) (fun j => []) (fun j => j ≤ 2) (fun j => 2 - j) (0) [] rfl (by omega) (.c rfl (.base 0 rfl rfl)) ?_
              rintro j hj ih10
              dsimp only [List.cons_append, List.nil_append] at ih10 ⊢
              refine XK.seq ?_
              refine XK.region rfl ?_
              refine XO.q (Q.lss rfl rfl) ?_
              refine XO.done ?_
              refine XK.seq ?_
              refine XK.if rfl (fun c29 => ?_) (fun c29 => ?_)
              · have _t29 := True.intro
                refine XK.skip ?_
                refine XK.seq ?_
                refine XK.block ?_
                refine XK.seq ?_
                refine XK.region rfl ?_
                refine XO.ix rfl rfl (by omega) (by show (j : Int) < 2; omega) fun i299 => ?_
                refine XO.q (Q.ldE rfl (by first | assumption | omega) rfl) ?_
                obtain ⟨p, ep, hp⟩ : ∃ p : Nat, ([(m : Int), (m : Int) + 1] : List Int).getD j default = (p : Int) ∧ p ≤ 16 := by
                  rcases (show j = 0 ∨ j = 1 by omega) with rfl | rfl
                  · exact ⟨m, rfl, by omega⟩
                  · exact ⟨m + 1, rfl, by omega⟩
                rw [ep]
                refine XO.q (Q.assign rfl) ?_
                refine XO.done ?_
                refine XK.seq ?_
                refine XK.meet (X := Nat × Value × Value × PHeap × PHeap) [28, 301, 302, 303, 304, 305] (fun ⟨b28, vn, vv, kn, kv⟩ => [(28, some (ptr b28 0))]) (fun ⟨b28, vn, vv, kn, kv⟩ => [blk b28 [vn, vv] 50, kn, kv]) (fun ⟨b28, vn, vv, kn, kv⟩ => OArr vn encNode 3 97 kn (List.replicate m (⟨0, 0, 0⟩ : MNode)) ∧ OArr vv encI 1 3 kv (List.replicate p 0)) [] ?_ ?_
                · rintro ⟨b28, vn, vv, kn, kv⟩ ⟨ONN, OVV⟩
                  dsimp only [List.cons_append, List.nil_append]
                  refine XK.seq ?_
                  refine XK.seq ?_
                  refine XK.region rfl ?_
                  refine XO.q (Q.move rfl) ?_
                  refine XO.q (Q.gtr rfl rfl) ?_
                  refine XO.done ?_
                  refine XK.meet (X := PHeap × List MNode) [308, 309, 310, 311] (fun ⟨kn2, N2⟩ => []) (fun ⟨kn2, N2⟩ => [kn2]) (fun ⟨kn2, N2⟩ => OArr vn encNode 3 97 kn2 N2 ∧ N2.length ≤ 1000) [kn] ?_ ?_
                  · rintro ⟨kn2, N2⟩ ⟨ON2, lN2⟩
                    dsimp only [List.cons_append, List.nil_append]
                    refine XK.seq ?_
                    refine XK.region rfl ?_
                    refine XO.q (Q.ldA [_, _] rfl rfl rfl) ?_
                    refine XO.call Try.call37 rfl rfl rfl (cases11 (js := nI kn2) ⟨N2, List.replicate p 0⟩ vn vv kn2 kv [] (.slice none 0 0) kn2 (by first | omega | decide | (dsimp only; omega) | (simp only [List.length_cons, List.length_nil]; omega) | (simp only [List.length_replicate]; omega)) (by first | omega | decide | (dsimp only; omega) | (simp only [List.length_cons, List.length_nil]; omega) | (simp only [List.length_replicate]; omega)) (by first | omega | decide | (dsimp only; omega) | (simp only [List.length_cons, List.length_nil]; omega) | (simp only [List.length_replicate]; omega))) fun v313 s313 R313 => ?_
                    obtain ⟨rfl, rfl⟩ := R313
                    dsimp only [List.cons_append, List.nil_append]
                    refine XO.q (Q.not rfl) ?_
                    refine XO.done ?_
                    refine XK.if rfl (fun c31 => ?_) (fun c31 => ?_)
                    · have _t31 := True.intro
                      simp at c31
                    · have _t31 := True.intro
                      refine XK.skip ?_
                      refine XK.inBlock ?_
                      refine XK.region rfl ?_
                      refine XO.q (Q.add rfl rfl ⟨by omega, by omega⟩) ?_
                      refine XO.q (Q.move rfl) ?_
                      refine XO.done ?_
                      exact ih10 (j + 1) _ _ (by omega) (by first | omega | (dsimp only; omega)) (.c rfl (.base 45 rfl rfl)) inferInstance
                  · intro mt30
                    dsimp only [List.cons_append, List.nil_append] at mt30
                    refine XK.if rfl (fun c30 => ?_) (fun c30 => ?_)
                    · have _t30 := True.intro
                      refine XK.region rfl ?_
                      refine XO.q (Q.fieldAddr rfl) ?_
                      refine XO.q (Q.ld rfl rfl) ?_
                      refine XO.ix rfl rfl (by omega) (by rw [List.length_replicate]; omega) fun i310 => ?_
                      refine XO.q (Q.fieldQ rfl (by first | assumption | omega)) ?_
                      refine XO.stE (⟨-1, ((List.replicate m (⟨0, 0, 0⟩ : MNode)).getD 0 default).low, ((List.replicate m (⟨0, 0, 0⟩ : MNode)).getD 0 default).high⟩ : MNode) rfl rfl rfl (by assumption) rfl rfl fun h76_4 O76_4 => ?_
                      refine XO.done ?_
                      exact mt30 ((h76_4, _)) _ _ ⟨O76_4, by rw [List.length_set, List.length_replicate]; omega⟩ (.base 4 rfl rfl) inferInstance
                    · have _t30 := True.intro
                      refine XK.skip ?_
                      exact mt30 ((kn, _)) _ _ ⟨ONN, by rw [List.length_replicate]; omega⟩ (.base 0 rfl rfl) inferInstance
                · intro mtr74
                  dsimp only [List.cons_append, List.nil_append] at mtr74
                  refine XK.drawn [0, 2, 4] [] [] (.q 0 (.q 2 (.br 1 true (.br 3 true (.q 4 (.br 5 true (.br 6 false .done .stop) .stop)) (.br 5 true (.br 3 true (.q 4 (.br 6 false .done .stop)) .stop) .stop)) (.br 3 true (.br 1 true (.q 4 (.br 5 true (.br 6 false .done .stop) .stop)) (.br 5 true (.br 1 true (.q 4 (.br 6 false .done .stop)) .stop) .stop)) (.br 5 true (.br 1 true (.br 3 true (.q 4 (.br 6 false .done .stop)) .stop) (.br 3 true (.br 1 true (.q 4 (.br 6 false .done .stop)) .stop) .stop)) .stop))))) Try.mixed rfl (by kernel_rfl) ?_
                  refine XT.q rfl rfl (Q.move rfl) ?_
                  refine XT.q rfl rfl (Q.move rfl) ?_
                  refine XT.make encNode ((⟨0, 0, 0⟩ : MNode)) rfl rfl rfl rfl rfl (by omega) (by omega) (fun _ => rfl) rfl rfl rfl (by dsimp only [encNode]; infer_instance) (fun v302 h302 O302 => ⟨inferInstance, ?_⟩) ?_
                  · skip
                    refine XT.make encI (0) rfl rfl rfl rfl rfl (by omega) (by omega) (fun _ => rfl) rfl rfl rfl (by dsimp only [encI]; infer_instance) (fun v304 h304 O304 => ⟨inferInstance, ?_⟩) ?_
                    · skip
                      refine XT.q rfl rfl (Q.build [_, _] (.c 0 1 rfl rfl rfl (.c 1 1 rfl rfl rfl (.n _)))) ?_
                      refine XT.alloc rfl rfl (fun b28 => ⟨inferInstance, ?_⟩) XT.stop
                      refine XT.st rfl rfl rfl rfl rfl ⟨inferInstance, ?_⟩ XT.stop
                      refine XT.done ?_
                      exact mtr74 ((b28, v302, v304, h302, h304)) _ _ ⟨by simpa using O302, by simpa using O304⟩ (.c rfl (.base 6 rfl rfl)) inferInstance
                    · skip
                      refine XT.alloc rfl rfl (fun b28 => ⟨inferInstance, ?_⟩) XT.stop
                      refine XT.make encI (0) rfl rfl rfl rfl rfl (by omega) (by omega) (fun _ => rfl) rfl rfl rfl (by dsimp only [encI]; infer_instance) (fun v304 h304 O304 => ⟨inferInstance, ?_⟩) XT.stop
                      refine XT.q rfl rfl (Q.build [_, _] (.c 0 1 rfl rfl rfl (.c 1 1 rfl rfl rfl (.n _)))) ?_
                      refine XT.st rfl rfl rfl rfl rfl ⟨inferInstance, ?_⟩ XT.stop
                      refine XT.done ?_
                      exact mtr74 ((b28, v302, v304, h302, h304)) _ _ ⟨by simpa using O302, by simpa using O304⟩ (.c rfl (.base 6 rfl rfl)) inferInstance
                  · skip
                    refine XT.make encI (0) rfl rfl rfl rfl rfl (by omega) (by omega) (fun _ => rfl) rfl rfl rfl (by dsimp only [encI]; infer_instance) (fun v304 h304 O304 => ⟨inferInstance, ?_⟩) ?_
                    · skip
                      refine XT.make encNode ((⟨0, 0, 0⟩ : MNode)) rfl rfl rfl rfl rfl (by omega) (by omega) (fun _ => rfl) rfl rfl rfl (by dsimp only [encNode]; infer_instance) (fun v302 h302 O302 => ⟨inferInstance, ?_⟩) ?_
                      · skip
                        refine XT.q rfl rfl (Q.build [_, _] (.c 0 1 rfl rfl rfl (.c 1 1 rfl rfl rfl (.n _)))) ?_
                        refine XT.alloc rfl rfl (fun b28 => ⟨inferInstance, ?_⟩) XT.stop
                        refine XT.st rfl rfl rfl rfl rfl ⟨inferInstance, ?_⟩ XT.stop
                        refine XT.done ?_
                        exact mtr74 ((b28, v302, v304, h302, h304)) _ _ ⟨by simpa using O302, by simpa using O304⟩ (.c rfl (.base 6 rfl rfl)) inferInstance
                      · skip
                        refine XT.alloc rfl rfl (fun b28 => ⟨inferInstance, ?_⟩) XT.stop
                        refine XT.make encNode ((⟨0, 0, 0⟩ : MNode)) rfl rfl rfl rfl rfl (by omega) (by omega) (fun _ => rfl) rfl rfl rfl (by dsimp only [encNode]; infer_instance) (fun v302 h302 O302 => ⟨inferInstance, ?_⟩) XT.stop
                        refine XT.q rfl rfl (Q.build [_, _] (.c 0 1 rfl rfl rfl (.c 1 1 rfl rfl rfl (.n _)))) ?_
                        refine XT.st rfl rfl rfl rfl rfl ⟨inferInstance, ?_⟩ XT.stop
                        refine XT.done ?_
                        exact mtr74 ((b28, v302, v304, h302, h304)) _ _ ⟨by simpa using O302, by simpa using O304⟩ (.c rfl (.base 6 rfl rfl)) inferInstance
                    · skip
                      refine XT.alloc rfl rfl (fun b28 => ⟨inferInstance, ?_⟩) XT.stop
                      refine XT.make encNode ((⟨0, 0, 0⟩ : MNode)) rfl rfl rfl rfl rfl (by omega) (by omega) (fun _ => rfl) rfl rfl rfl (by dsimp only [encNode]; infer_instance) (fun v302 h302 O302 => ⟨inferInstance, ?_⟩) ?_
                      · skip
                        refine XT.make encI (0) rfl rfl rfl rfl rfl (by omega) (by omega) (fun _ => rfl) rfl rfl rfl (by dsimp only [encI]; infer_instance) (fun v304 h304 O304 => ⟨inferInstance, ?_⟩) XT.stop
                        refine XT.q rfl rfl (Q.build [_, _] (.c 0 1 rfl rfl rfl (.c 1 1 rfl rfl rfl (.n _)))) ?_
                        refine XT.st rfl rfl rfl rfl rfl ⟨inferInstance, ?_⟩ XT.stop
                        refine XT.done ?_
                        exact mtr74 ((b28, v302, v304, h302, h304)) _ _ ⟨by simpa using O302, by simpa using O304⟩ (.c rfl (.base 6 rfl rfl)) inferInstance
                      · skip
                        refine XT.make encI (0) rfl rfl rfl rfl rfl (by omega) (by omega) (fun _ => rfl) rfl rfl rfl (by dsimp only [encI]; infer_instance) (fun v304 h304 O304 => ⟨inferInstance, ?_⟩) XT.stop
                        refine XT.make encNode ((⟨0, 0, 0⟩ : MNode)) rfl rfl rfl rfl rfl (by omega) (by omega) (fun _ => rfl) rfl rfl rfl (by dsimp only [encNode]; infer_instance) (fun v302 h302 O302 => ⟨inferInstance, ?_⟩) XT.stop
                        refine XT.q rfl rfl (Q.build [_, _] (.c 0 1 rfl rfl rfl (.c 1 1 rfl rfl rfl (.n _)))) ?_
                        refine XT.st rfl rfl rfl rfl rfl ⟨inferInstance, ?_⟩ XT.stop
                        refine XT.done ?_
                        exact mtr74 ((b28, v302, v304, h302, h304)) _ _ ⟨by simpa using O302, by simpa using O304⟩ (.c rfl (.base 6 rfl rfl)) inferInstance
              · have _t29 := True.intro
                refine XK.exit rfl ?_
                refine XK.inBlock ?_
                refine XK.region rfl ?_
                refine XO.q (Q.add rfl rfl ⟨by omega, by omega⟩) ?_
                refine XO.q (Q.move rfl) ?_
                refine XO.done ?_
                exact ih9 (k + 1) _ _ (by omega) (by first | omega | (dsimp only; omega)) (.c rfl (.base 70 rfl rfl)) inferInstance
            · have _t28 := True.intro
              refine XK.exit rfl ?_
              refine XK.seq ?_
              refine XK.region rfl ?_
              refine XO.q (Q.build [_, _, _] (.c 0 1 rfl rfl rfl (.c 1 1 rfl rfl rfl (.c 2 1 rfl rfl rfl (.n _))))) ?_
              refine XO.q (Q.build [_, _, _] (.c 0 1 rfl rfl rfl (.c 1 1 rfl rfl rfl (.c 2 1 rfl rfl rfl (.n _))))) ?_
              refine XO.q (Q.build [_, _, _] (.c 0 1 rfl rfl rfl (.n _))) ?_
              refine XO.lit [_, _, _, _, _, _, _, _, _] [_, _, _, _, _, _, _, _, _] [⟨-1, 1000000000, 1000000000⟩, ⟨0, 1, 1⟩, ⟨1, 0, 0⟩] encNode (by rfl) (by rfl) rfl (by rfl) (by exact .c 0 3 rfl rfl rfl (.c 3 3 rfl rfl rfl (.c 6 3 rfl rfl rfl (.n _)))) (fun _ => rfl) (by rfl) rfl (by infer_instance) rfl fun v320 h320 O320 => ?_
              refine XO.lit [_, _, _] [_, _, _] [0, 0, 0] encI (by rfl) (by rfl) rfl (by rfl) (by exact .c 0 1 rfl rfl rfl (.c 1 1 rfl rfl rfl (.c 2 1 rfl rfl rfl (.n _)))) (fun _ => rfl) (by rfl) rfl (by infer_instance) rfl fun v321 h321 O321 => ?_
              refine XO.q (Q.build [_, _] (.c 0 1 rfl rfl rfl (.c 1 1 rfl rfl rfl (.n _)))) ?_
              refine XO.alloc fun b29 => ?_
              refine XO.st rfl rfl rfl ?_
              refine XO.done ?_
              refine XK.seq ?_
              refine XK.region rfl ?_
              refine XO.make encLink ((⟨⟨0, 0, 0⟩, 0⟩ : MLink)) rfl rfl rfl (by omega) (by omega) (fun _ => rfl) rfl rfl rfl (by dsimp only [encLink]; infer_instance) fun v323 h323 O323 => ?_
              rw [show Int.toNat 4097 = 4097 from rfl] at O323
              refine XO.q (Q.assign rfl) ?_
              refine XO.done ?_
              refine XK.seq ?_
              refine XK.region rfl ?_
              refine XO.q (Q.move rfl) ?_
              refine XO.call Try.call24 rfl rfl rfl (Verify_spec 0 (List.replicate 4097 (⟨⟨0, 0, 0⟩, 0⟩ : MLink)) v323 h323) fun v326 s326 R326 => ?_
              obtain ⟨rfl, rfl⟩ := R326
              dsimp only [List.cons_append, List.nil_append]
              rw [(many_links (n := 4097) (by decide)).1]
              dsimp only
              refine XO.q (Q.move rfl) ?_
              refine XO.q (Q.extract rfl rfl) ?_
              refine XO.q (Q.extract rfl rfl) ?_
              refine XO.q (Q.assign rfl) ?_
              refine XO.q (Q.assign rfl) ?_
              refine XO.done ?_
              refine XK.seq ?_
              refine XK.region rfl ?_
              refine XO.q (Q.move rfl) ?_
              refine XO.call Try.call41 rfl rfl rfl (Table_spec (List.replicate 4097 (⟨⟨0, 0, 0⟩, 0⟩ : MLink)) v323 h323) fun v331 s331 R331 => ?_
              obtain ⟨w331, k331, rfl, rfl, OT331⟩ := R331
              dsimp only [List.cons_append, List.nil_append]
              rw [(many_links (n := 4097) (by decide)).2.1]
              refine XO.q (Q.move rfl) ?_
              refine XO.q (Q.extract rfl rfl) ?_
              refine XO.q (Q.extract rfl rfl) ?_
              refine XO.q (Q.assign rfl) ?_
              refine XO.q (Q.assign rfl) ?_
              refine XO.done ?_
              refine XK.seq ?_
              refine XK.region rfl ?_
              refine XO.make encRd ((⟨0, 0, 0⟩ : MRd)) rfl rfl rfl (by omega) (by omega) (fun _ => rfl) rfl rfl rfl (by dsimp only [encRd]; infer_instance) fun v335 h335 O335 => ?_
              rw [show Int.toNat 4097 = 4097 from rfl] at O335
              refine XO.call Try.call23 rfl rfl rfl (Sign_spec 0 (List.replicate 4097 (⟨0, 0, 0⟩ : MRd)) v335 h335) fun v336 s336 R336 => ?_
              obtain ⟨w336, k336, rfl, rfl, OS336⟩ := R336
              dsimp only [List.cons_append, List.nil_append]
              rw [(many_links (n := 4097) (by decide)).2.2]
              refine XO.q (Q.move rfl) ?_
              refine XO.q (Q.extract rfl rfl) ?_
              refine XO.q (Q.extract rfl rfl) ?_
              refine XO.q (Q.assign rfl) ?_
              refine XO.q (Q.assign rfl) ?_
              refine XO.done ?_
              refine XK.seq ?_
              refine XK.meet (X := Unit) [0, 339, 340, 341, 342, 343, 344, 345, 346, 347, 348, 349, 350, 351, 352, 353, 354, 355, 356, 357, 358, 359, 360, 361, 362, 363, 364, 365, 366, 367, 368, 369, 370, 371, 372, 373, 374] (fun ⟨⟩ => [(0, some (.bool true))]) (fun ⟨⟩ => []) (fun ⟨⟩ => True) [] ?_ ?_
              · rintro ⟨⟩ _
                dsimp only [List.cons_append, List.nil_append]
                refine XK.rt [] Try.func8 Try.results8 (.t rfl .n) ?_
                exact ⟨by simp, rfl⟩
              · intro mtr86
                dsimp only [List.cons_append, List.nil_append] at mtr86
                refine XK.drawn [0, 2, 3, 6, 7, 11, 12, 15, 17, 20, 21, 22, 23, 24, 25, 26, 27, 28, 29, 30, 31, 32, 33, 35, 36] [b29] [] (.q 0 (.br 1 true (.q 2 (.q 3 (.br 4 true (.br 5 true (.q 6 (.q 7 (.br 8 true (.br 9 true (.br 10 true (.q 11 (.q 12 (.br 13 true (.br 14 true (.q 15 (.br 16 true (.q 17 (.br 18 true (.br 19 true (.q 20 (.q 21 (.q 22 (.q 23 (.q 24 (.q 25 (.q 26 (.q 27 (.q 28 (.q 29 (.q 30 (.q 31 (.q 32 (.q 33 (.br 34 true (.q 35 (.q 36 .done)) .stop))))))))))))))) .stop) .stop)) .stop)) (.br 16 true (.q 17 (.br 14 true (.q 15 (.br 18 true (.br 19 true (.q 20 (.q 21 (.q 22 (.q 23 (.q 24 (.q 25 (.q 26 (.q 27 (.q 28 (.q 29 (.q 30 (.q 31 (.q 32 (.q 33 (.br 34 true (.q 35 (.q 36 .done)) .stop))))))))))))))) .stop) .stop)) .stop)) .stop)) (.br 14 true (.q 15 (.br 13 true (.br 16 true (.q 17 (.br 18 true (.br 19 true (.q 20 (.q 21 (.q 22 (.q 23 (.q 24 (.q 25 (.q 26 (.q 27 (.q 28 (.q 29 (.q 30 (.q 31 (.q 32 (.q 33 (.br 34 true (.q 35 (.q 36 .done)) .stop))))))))))))))) .stop) .stop)) .stop) (.br 16 true (.q 17 (.br 13 true (.br 18 true (.br 19 true (.q 20 (.q 21 (.q 22 (.q 23 (.q 24 (.q 25 (.q 26 (.q 27 (.q 28 (.q 29 (.q 30 (.q 31 (.q 32 (.q 33 (.br 34 true (.q 35 (.q 36 .done)) .stop))))))))))))))) .stop) .stop) (.br 18 true (.br 13 true (.br 19 true (.q 20 (.q 21 (.q 22 (.q 23 (.q 24 (.q 25 (.q 26 (.q 27 (.q 28 (.q 29 (.q 30 (.q 31 (.q 32 (.q 33 (.br 34 true (.q 35 (.q 36 .done)) .stop))))))))))))))) .stop) .stop) .stop))) .stop))) (.br 16 true (.q 17 (.br 13 true (.br 14 true (.q 15 (.br 18 true (.br 19 true (.q 20 (.q 21 (.q 22 (.q 23 (.q 24 (.q 25 (.q 26 (.q 27 (.q 28 (.q 29 (.q 30 (.q 31 (.q 32 (.q 33 (.br 34 true (.q 35 (.q 36 .done)) .stop))))))))))))))) .stop) .stop)) .stop) (.br 14 true (.q 15 (.br 13 true (.br 18 true (.br 19 true (.q 20 (.q 21 (.q 22 (.q 23 (.q 24 (.q 25 (.q 26 (.q 27 (.q 28 (.q 29 (.q 30 (.q 31 (.q 32 (.q 33 (.br 34 true (.q 35 (.q 36 .done)) .stop))))))))))))))) .stop) .stop) (.br 18 true (.br 13 true (.br 19 true (.q 20 (.q 21 (.q 22 (.q 23 (.q 24 (.q 25 (.q 26 (.q 27 (.q 28 (.q 29 (.q 30 (.q 31 (.q 32 (.q 33 (.br 34 true (.q 35 (.q 36 .done)) .stop))))))))))))))) .stop) .stop) .stop))) .stop))) .stop))))) .stop) .stop) (.br 9 true (.br 8 true (.br 10 true (.q 11 (.q 12 (.br 13 true (.br 14 true (.q 15 (.br 16 true (.q 17 (.br 18 true (.br 19 true (.q 20 (.q 21 (.q 22 (.q 23 (.q 24 (.q 25 (.q 26 (.q 27 (.q 28 (.q 29 (.q 30 (.q 31 (.q 32 (.q 33 (.br 34 true (.q 35 (.q 36 .done)) .stop))))))))))))))) .stop) .stop)) .stop)) (.br 16 true (.q 17 (.br 14 true (.q 15 (.br 18 true (.br 19 true (.q 20 (.q 21 (.q 22 (.q 23 (.q 24 (.q 25 (.q 26 (.q 27 (.q 28 (.q 29 (.q 30 (.q 31 (.q 32 (.q 33 (.br 34 true (.q 35 (.q 36 .done)) .stop))))))))))))))) .stop) .stop)) .stop)) .stop)) (.br 14 true (.q 15 (.br 13 true (.br 16 true (.q 17 (.br 18 true (.br 19 true (.q 20 (.q 21 (.q 22 (.q 23 (.q 24 (.q 25 (.q 26 (.q 27 (.q 28 (.q 29 (.q 30 (.q 31 (.q 32 (.q 33 (.br 34 true (.q 35 (.q 36 .done)) .stop))))))))))))))) .stop) .stop)) .stop) (.br 16 true (.q 17 (.br 13 true (.br 18 true (.br 19 true (.q 20 (.q 21 (.q 22 (.q 23 (.q 24 (.q 25 (.q 26 (.q 27 (.q 28 (.q 29 (.q 30 (.q 31 (.q 32 (.q 33 (.br 34 true (.q 35 (.q 36 .done)) .stop))))))))))))))) .stop) .stop) (.br 18 true (.br 13 true (.br 19 true (.q 20 (.q 21 (.q 22 (.q 23 (.q 24 (.q 25 (.q 26 (.q 27 (.q 28 (.q 29 (.q 30 (.q 31 (.q 32 (.q 33 (.br 34 true (.q 35 (.q 36 .done)) .stop))))))))))))))) .stop) .stop) .stop))) .stop))) (.br 16 true (.q 17 (.br 13 true (.br 14 true (.q 15 (.br 18 true (.br 19 true (.q 20 (.q 21 (.q 22 (.q 23 (.q 24 (.q 25 (.q 26 (.q 27 (.q 28 (.q 29 (.q 30 (.q 31 (.q 32 (.q 33 (.br 34 true (.q 35 (.q 36 .done)) .stop))))))))))))))) .stop) .stop)) .stop) (.br 14 true (.q 15 (.br 13 true (.br 18 true (.br 19 true (.q 20 (.q 21 (.q 22 (.q 23 (.q 24 (.q 25 (.q 26 (.q 27 (.q 28 (.q 29 (.q 30 (.q 31 (.q 32 (.q 33 (.br 34 true (.q 35 (.q 36 .done)) .stop))))))))))))))) .stop) .stop) (.br 18 true (.br 13 true (.br 19 true (.q 20 (.q 21 (.q 22 (.q 23 (.q 24 (.q 25 (.q 26 (.q 27 (.q 28 (.q 29 (.q 30 (.q 31 (.q 32 (.q 33 (.br 34 true (.q 35 (.q 36 .done)) .stop))))))))))))))) .stop) .stop) .stop))) .stop))) .stop))))) .stop) .stop) .stop)))) .stop) .stop))) .stop)) Try.mixed rfl (by kernel_rfl) ?_
                refine XT.q rfl rfl (Q.ldA [_, _] rfl rfl rfl) ?_
                refine XT.call rfl rfl Try.call37 rfl rfl rfl (cases11 (js := nI h320) (⟨[⟨-1, 1000000000, 1000000000⟩, ⟨0, 1, 1⟩, ⟨1, 0, 0⟩], [0, 0, 0]⟩ : MCase) v320 v321 h320 h321 [] (.slice none 0 0) h320 (by first | omega | decide | (dsimp only; omega) | (simp only [List.length_cons, List.length_nil]; omega) | (simp only [List.length_replicate]; omega)) (by first | omega | decide | (dsimp only; omega) | (simp only [List.length_cons, List.length_nil]; omega) | (simp only [List.length_replicate]; omega)) (by first | omega | decide | (dsimp only; omega) | (simp only [List.length_cons, List.length_nil]; omega) | (simp only [List.length_replicate]; omega))) (fun v340 s340 R340 => ?_) XT.stop
                obtain ⟨rfl, rfl⟩ := R340
                dsimp only [List.cons_append, List.nil_append]
                refine ⟨inferInstance, ?_⟩
                refine XT.q rfl rfl (Q.move rfl) ?_
                refine XT.q rfl rfl (Quiet.guardT rfl rfl fun g342 p342 => Q.ldA [_, _] rfl rfl rfl) ?_
                refine XT.litS [_, _, _] [_, _, _] [0, 1, 2] encI rfl rfl rfl rfl rfl (by rfl) (by rfl) rfl (by rfl) (by exact .c 0 1 rfl rfl rfl (.c 1 1 rfl rfl rfl (.c 2 1 rfl rfl rfl (.n _)))) (fun _ => rfl) (by rfl) rfl (by infer_instance) rfl (fun v343 h343 O343 => ⟨inferInstance, ?_⟩) XT.stop
                refine XT.callS rfl rfl rfl rfl rfl Try.call37 rfl (.c (lzv rfl rfl) (.c rfl .n)) rfl (cases11 (⟨[⟨-1, 1000000000, 1000000000⟩, ⟨0, 1, 1⟩, ⟨1, 0, 0⟩], [0, 0, 0]⟩ : MCase) v320 v321 h320 h321 [0, 1, 2] v343 h343 (by first | omega | decide | (dsimp only; omega) | (simp only [List.length_cons, List.length_nil]; omega) | (simp only [List.length_replicate]; omega)) (by first | omega | decide | (dsimp only; omega) | (simp only [List.length_cons, List.length_nil]; omega) | (simp only [List.length_replicate]; omega)) (by first | omega | decide | (dsimp only; omega) | (simp only [List.length_cons, List.length_nil]; omega) | (simp only [List.length_replicate]; omega))) (fun v344 s344 R344 => ?_) XT.stop
                obtain ⟨rfl, rfl⟩ := R344
                dsimp only [List.cons_append, List.nil_append]
                refine ⟨inferInstance, ?_⟩
                refine XT.q rfl rfl (Q.and rfl (fun _ => rfl)) ?_
                refine XT.q rfl rfl (Q.move rfl) ?_
                refine XT.callS rfl rfl rfl rfl rfl Try.call39 rfl (.n) rfl (tariff11) (fun v347 s347 R347 => ?_) ?_
                · skip
                  obtain ⟨vp1, vt1, kp1, kt1, rfl, rfl, OPP1, OTT1⟩ := R347
                  dsimp only [List.cons_append, List.nil_append]
                  refine ⟨inferInstance, ?_⟩
                  refine XT.makeS encUse (((.slice none 0 0 : Value), (⟨[], 0⟩ : MUse))) rfl rfl rfl rfl rfl rfl rfl rfl (by omega) (by omega) (fun _ => rfl) rfl rfl rfl (by dsimp only [encUse]; infer_instance) (fun v348 h348 O348 => ⟨inferInstance, ?_⟩) XT.stop
                  refine XT.callS rfl rfl rfl rfl rfl Try.call21 rfl (.c rfl (.c rfl .n)) rfl (billsU exT vp1 vt1 kp1 kt1 (Int.toNat 65) v348 h348 (by decide) (by decide) (by decide)) (fun v349 s349 R349 => ?_) XT.stop
                  obtain ⟨rfl, rfl⟩ := R349
                  dsimp only [List.cons_append, List.nil_append]
                  refine ⟨inferInstance, ?_⟩
                  refine XT.q rfl rfl (Q.and rfl (fun _ => rfl)) ?_
                  refine XT.q rfl rfl (Q.move rfl) ?_
                  refine XT.callS rfl rfl rfl rfl rfl Try.call39 rfl (.n) rfl (tariff11) (fun v352 s352 R352 => ?_) ?_
                  · skip
                    obtain ⟨vp2, vt2, kp2, kt2, rfl, rfl, OPP2, OTT2⟩ := R352
                    dsimp only [List.cons_append, List.nil_append]
                    refine ⟨inferInstance, ?_⟩
                    refine XT.makeS encI (0) rfl rfl rfl rfl rfl rfl rfl rfl (by omega) (by omega) (fun _ => rfl) rfl rfl rfl (by dsimp only [encI]; infer_instance) (fun v353 h353 O353 => ⟨inferInstance, ?_⟩) ?_
                    · skip
                      refine XT.q rfl rfl (Quiet.guardT rfl rfl fun g354 p354 => Q.build [_, _] (.c 0 1 rfl rfl rfl (.n _))) ?_
                      refine XT.makeS encI (0) rfl rfl rfl rfl rfl rfl rfl rfl (by omega) (by omega) (fun _ => rfl) rfl rfl rfl (by dsimp only [encI]; infer_instance) (fun v355 h355 O355 => ⟨inferInstance, ?_⟩) XT.stop
                      refine XT.q rfl rfl (Quiet.guardT rfl rfl fun g356 p356 => Q.build [_, _] (.c 0 1 rfl rfl rfl (.n _))) ?_
                      refine XT.litS [_, _, _, _] [_, _, _, _] [(v353, ⟨List.replicate (Int.toNat 1000) 0, 0⟩), (v355, ⟨List.replicate (Int.toNat 1001) 0, 0⟩)] encUse rfl rfl rfl rfl rfl (by rfl) (by rfl) rfl (by rfl) (by exact .c 0 2 (lzv rfl rfl) rfl rfl (.c 2 2 (lzv rfl rfl) rfl rfl (.n _))) (fun _ => rfl) (by rfl) rfl (by infer_instance) rfl (fun v357 h357 O357 => ⟨inferInstance, ?_⟩) XT.stop
                      refine XT.callS rfl rfl rfl rfl rfl Try.call21 rfl (.c rfl (.c rfl .n)) rfl (billsB exT vp2 vt2 kp2 kt2 v353 ⟨List.replicate (Int.toNat 1000) 0, 0⟩ h353 v355 ⟨List.replicate (Int.toNat 1001) 0, 0⟩ h355 v357 h357 (by decide) (by decide) (by first | omega | decide | exact tiers_len k (by omega) | (simp only [List.length_cons, List.length_nil]; omega) | (simp only [List.length_replicate]; omega) | (simp only [List.length_replicate]; decide)) (by first | omega | decide | exact tiers_len k (by omega) | (simp only [List.length_cons, List.length_nil]; omega) | (simp only [List.length_replicate]; omega) | (simp only [List.length_replicate]; decide))) (fun v358 s358 R358 => ?_) XT.stop
                      obtain ⟨rfl, rfl⟩ := R358
                      dsimp only [List.cons_append, List.nil_append]
                      refine ⟨inferInstance, ?_⟩
                      refine XT.q rfl rfl (Q.and rfl (fun _ => rfl)) ?_
                      refine XT.q rfl rfl (Q.move rfl) ?_
                      refine XT.q rfl rfl (Quiet.guardT rfl rfl fun g361 p361 => Q.move rfl) ?_
                      refine XT.q rfl rfl (Quiet.guardT rfl rfl fun g362 p362 => Q.eql (lzv rfl rfl) rfl) ?_
                      refine XT.q rfl rfl (Q.and rfl (fun hp => lzv hp rfl)) ?_
                      refine XT.q rfl rfl (Q.move rfl) ?_
                      refine XT.q rfl rfl (Quiet.guardT rfl rfl fun g365 p365 => Q.move rfl) ?_
                      refine XT.q rfl rfl (Quiet.guardT rfl rfl fun g366 p366 => Q.eql (lzv rfl rfl) rfl) ?_
                      refine XT.q rfl rfl (Q.and rfl (fun hp => lzv hp rfl)) ?_
                      refine XT.q rfl rfl (Q.move rfl) ?_
                      refine XT.q rfl rfl (Quiet.guardT rfl rfl fun g369 p369 => Q.move rfl) ?_
                      refine XT.q rfl rfl (Quiet.guardT rfl rfl fun g370 p370 => Q.eql (lzv rfl rfl) rfl) ?_
                      refine XT.q rfl rfl (Q.and rfl (fun hp => lzv hp rfl)) ?_
                      refine XT.q rfl rfl (Q.move rfl) ?_
                      refine XT.callS rfl rfl rfl rfl rfl Try.call13 rfl (.n) rfl (awake11) (fun v373 s373 R373 => ?_) XT.stop
                      obtain ⟨rfl, rfl⟩ := R373
                      dsimp only [List.cons_append, List.nil_append]
                      refine ⟨inferInstance, ?_⟩
                      refine XT.q rfl rfl (Q.and rfl (fun _ => rfl)) ?_
                      refine XT.q rfl rfl (Q.assign rfl) ?_
                      refine XT.done ?_
                      exact mtr86 (()) _ _ trivial (.c rfl (.base 37 rfl rfl)) inferInstance
                    · skip
                      refine XT.makeS encI (0) rfl rfl rfl rfl rfl rfl rfl rfl (by omega) (by omega) (fun _ => rfl) rfl rfl rfl (by dsimp only [encI]; infer_instance) (fun v355 h355 O355 => ⟨inferInstance, ?_⟩) XT.stop
                      refine XT.q rfl rfl (Quiet.guardT rfl rfl fun g356 p356 => Q.build [_, _] (.c 0 1 rfl rfl rfl (.n _))) ?_
                      refine XT.makeS encI (0) rfl rfl rfl rfl rfl rfl rfl rfl (by omega) (by omega) (fun _ => rfl) rfl rfl rfl (by dsimp only [encI]; infer_instance) (fun v353 h353 O353 => ⟨inferInstance, ?_⟩) XT.stop
                      refine XT.q rfl rfl (Quiet.guardT rfl rfl fun g354 p354 => Q.build [_, _] (.c 0 1 rfl rfl rfl (.n _))) ?_
                      refine XT.litS [_, _, _, _] [_, _, _, _] [(v353, ⟨List.replicate (Int.toNat 1000) 0, 0⟩), (v355, ⟨List.replicate (Int.toNat 1001) 0, 0⟩)] encUse rfl rfl rfl rfl rfl (by rfl) (by rfl) rfl (by rfl) (by exact .c 0 2 (lzv rfl rfl) rfl rfl (.c 2 2 (lzv rfl rfl) rfl rfl (.n _))) (fun _ => rfl) (by rfl) rfl (by infer_instance) rfl (fun v357 h357 O357 => ⟨inferInstance, ?_⟩) XT.stop
                      refine XT.callS rfl rfl rfl rfl rfl Try.call21 rfl (.c rfl (.c rfl .n)) rfl (billsB exT vp2 vt2 kp2 kt2 v353 ⟨List.replicate (Int.toNat 1000) 0, 0⟩ h353 v355 ⟨List.replicate (Int.toNat 1001) 0, 0⟩ h355 v357 h357 (by decide) (by decide) (by first | omega | decide | exact tiers_len k (by omega) | (simp only [List.length_cons, List.length_nil]; omega) | (simp only [List.length_replicate]; omega) | (simp only [List.length_replicate]; decide)) (by first | omega | decide | exact tiers_len k (by omega) | (simp only [List.length_cons, List.length_nil]; omega) | (simp only [List.length_replicate]; omega) | (simp only [List.length_replicate]; decide))) (fun v358 s358 R358 => ?_) XT.stop
                      obtain ⟨rfl, rfl⟩ := R358
                      dsimp only [List.cons_append, List.nil_append]
                      refine ⟨inferInstance, ?_⟩
                      refine XT.q rfl rfl (Q.and rfl (fun _ => rfl)) ?_
                      refine XT.q rfl rfl (Q.move rfl) ?_
                      refine XT.q rfl rfl (Quiet.guardT rfl rfl fun g361 p361 => Q.move rfl) ?_
                      refine XT.q rfl rfl (Quiet.guardT rfl rfl fun g362 p362 => Q.eql (lzv rfl rfl) rfl) ?_
                      refine XT.q rfl rfl (Q.and rfl (fun hp => lzv hp rfl)) ?_
                      refine XT.q rfl rfl (Q.move rfl) ?_
                      refine XT.q rfl rfl (Quiet.guardT rfl rfl fun g365 p365 => Q.move rfl) ?_
                      refine XT.q rfl rfl (Quiet.guardT rfl rfl fun g366 p366 => Q.eql (lzv rfl rfl) rfl) ?_
                      refine XT.q rfl rfl (Q.and rfl (fun hp => lzv hp rfl)) ?_
                      refine XT.q rfl rfl (Q.move rfl) ?_
                      refine XT.q rfl rfl (Quiet.guardT rfl rfl fun g369 p369 => Q.move rfl) ?_
                      refine XT.q rfl rfl (Quiet.guardT rfl rfl fun g370 p370 => Q.eql (lzv rfl rfl) rfl) ?_
                      refine XT.q rfl rfl (Q.and rfl (fun hp => lzv hp rfl)) ?_
                      refine XT.q rfl rfl (Q.move rfl) ?_
                      refine XT.callS rfl rfl rfl rfl rfl Try.call13 rfl (.n) rfl (awake11) (fun v373 s373 R373 => ?_) XT.stop
                      obtain ⟨rfl, rfl⟩ := R373
                      dsimp only [List.cons_append, List.nil_append]
                      refine ⟨inferInstance, ?_⟩
                      refine XT.q rfl rfl (Q.and rfl (fun _ => rfl)) ?_
                      refine XT.q rfl rfl (Q.assign rfl) ?_
                      refine XT.done ?_
                      exact mtr86 (()) _ _ trivial (.c rfl (.base 37 rfl rfl)) inferInstance
                  · skip
                    refine XT.makeS encI (0) rfl rfl rfl rfl rfl rfl rfl rfl (by omega) (by omega) (fun _ => rfl) rfl rfl rfl (by dsimp only [encI]; infer_instance) (fun v353 h353 O353 => ⟨inferInstance, ?_⟩) ?_
                    · skip
                      refine XT.q rfl rfl (Quiet.guardT rfl rfl fun g354 p354 => Q.build [_, _] (.c 0 1 rfl rfl rfl (.n _))) ?_
                      refine XT.callS rfl rfl rfl rfl rfl Try.call39 rfl (.n) rfl (tariff11) (fun v352 s352 R352 => ?_) ?_
                      · skip
                        obtain ⟨vp2, vt2, kp2, kt2, rfl, rfl, OPP2, OTT2⟩ := R352
                        dsimp only [List.cons_append, List.nil_append]
                        refine ⟨inferInstance, ?_⟩
                        refine XT.makeS encI (0) rfl rfl rfl rfl rfl rfl rfl rfl (by omega) (by omega) (fun _ => rfl) rfl rfl rfl (by dsimp only [encI]; infer_instance) (fun v355 h355 O355 => ⟨inferInstance, ?_⟩) XT.stop
                        refine XT.q rfl rfl (Quiet.guardT rfl rfl fun g356 p356 => Q.build [_, _] (.c 0 1 rfl rfl rfl (.n _))) ?_
                        refine XT.litS [_, _, _, _] [_, _, _, _] [(v353, ⟨List.replicate (Int.toNat 1000) 0, 0⟩), (v355, ⟨List.replicate (Int.toNat 1001) 0, 0⟩)] encUse rfl rfl rfl rfl rfl (by rfl) (by rfl) rfl (by rfl) (by exact .c 0 2 (lzv rfl rfl) rfl rfl (.c 2 2 (lzv rfl rfl) rfl rfl (.n _))) (fun _ => rfl) (by rfl) rfl (by infer_instance) rfl (fun v357 h357 O357 => ⟨inferInstance, ?_⟩) XT.stop
                        refine XT.callS rfl rfl rfl rfl rfl Try.call21 rfl (.c rfl (.c rfl .n)) rfl (billsB exT vp2 vt2 kp2 kt2 v353 ⟨List.replicate (Int.toNat 1000) 0, 0⟩ h353 v355 ⟨List.replicate (Int.toNat 1001) 0, 0⟩ h355 v357 h357 (by decide) (by decide) (by first | omega | decide | exact tiers_len k (by omega) | (simp only [List.length_cons, List.length_nil]; omega) | (simp only [List.length_replicate]; omega) | (simp only [List.length_replicate]; decide)) (by first | omega | decide | exact tiers_len k (by omega) | (simp only [List.length_cons, List.length_nil]; omega) | (simp only [List.length_replicate]; omega) | (simp only [List.length_replicate]; decide))) (fun v358 s358 R358 => ?_) XT.stop
                        obtain ⟨rfl, rfl⟩ := R358
                        dsimp only [List.cons_append, List.nil_append]
                        refine ⟨inferInstance, ?_⟩
                        refine XT.q rfl rfl (Q.and rfl (fun _ => rfl)) ?_
                        refine XT.q rfl rfl (Q.move rfl) ?_
                        refine XT.q rfl rfl (Quiet.guardT rfl rfl fun g361 p361 => Q.move rfl) ?_
                        refine XT.q rfl rfl (Quiet.guardT rfl rfl fun g362 p362 => Q.eql (lzv rfl rfl) rfl) ?_
                        refine XT.q rfl rfl (Q.and rfl (fun hp => lzv hp rfl)) ?_
                        refine XT.q rfl rfl (Q.move rfl) ?_
                        refine XT.q rfl rfl (Quiet.guardT rfl rfl fun g365 p365 => Q.move rfl) ?_
                        refine XT.q rfl rfl (Quiet.guardT rfl rfl fun g366 p366 => Q.eql (lzv rfl rfl) rfl) ?_
                        refine XT.q rfl rfl (Q.and rfl (fun hp => lzv hp rfl)) ?_
                        refine XT.q rfl rfl (Q.move rfl) ?_
                        refine XT.q rfl rfl (Quiet.guardT rfl rfl fun g369 p369 => Q.move rfl) ?_
                        refine XT.q rfl rfl (Quiet.guardT rfl rfl fun g370 p370 => Q.eql (lzv rfl rfl) rfl) ?_
                        refine XT.q rfl rfl (Q.and rfl (fun hp => lzv hp rfl)) ?_
                        refine XT.q rfl rfl (Q.move rfl) ?_
                        refine XT.callS rfl rfl rfl rfl rfl Try.call13 rfl (.n) rfl (awake11) (fun v373 s373 R373 => ?_) XT.stop
                        obtain ⟨rfl, rfl⟩ := R373
                        dsimp only [List.cons_append, List.nil_append]
                        refine ⟨inferInstance, ?_⟩
                        refine XT.q rfl rfl (Q.and rfl (fun _ => rfl)) ?_
                        refine XT.q rfl rfl (Q.assign rfl) ?_
                        refine XT.done ?_
                        exact mtr86 (()) _ _ trivial (.c rfl (.base 37 rfl rfl)) inferInstance
                      · skip
                        refine XT.makeS encI (0) rfl rfl rfl rfl rfl rfl rfl rfl (by omega) (by omega) (fun _ => rfl) rfl rfl rfl (by dsimp only [encI]; infer_instance) (fun v355 h355 O355 => ⟨inferInstance, ?_⟩) XT.stop
                        refine XT.q rfl rfl (Quiet.guardT rfl rfl fun g356 p356 => Q.build [_, _] (.c 0 1 rfl rfl rfl (.n _))) ?_
                        refine XT.callS rfl rfl rfl rfl rfl Try.call39 rfl (.n) rfl (tariff11) (fun v352 s352 R352 => ?_) ?_
                        · skip
                          obtain ⟨vp2, vt2, kp2, kt2, rfl, rfl, OPP2, OTT2⟩ := R352
                          dsimp only [List.cons_append, List.nil_append]
                          refine ⟨inferInstance, ?_⟩
                          refine XT.litS [_, _, _, _] [_, _, _, _] [(v353, ⟨List.replicate (Int.toNat 1000) 0, 0⟩), (v355, ⟨List.replicate (Int.toNat 1001) 0, 0⟩)] encUse rfl rfl rfl rfl rfl (by rfl) (by rfl) rfl (by rfl) (by exact .c 0 2 (lzv rfl rfl) rfl rfl (.c 2 2 (lzv rfl rfl) rfl rfl (.n _))) (fun _ => rfl) (by rfl) rfl (by infer_instance) rfl (fun v357 h357 O357 => ⟨inferInstance, ?_⟩) XT.stop
                          refine XT.callS rfl rfl rfl rfl rfl Try.call21 rfl (.c rfl (.c rfl .n)) rfl (billsB exT vp2 vt2 kp2 kt2 v353 ⟨List.replicate (Int.toNat 1000) 0, 0⟩ h353 v355 ⟨List.replicate (Int.toNat 1001) 0, 0⟩ h355 v357 h357 (by decide) (by decide) (by first | omega | decide | exact tiers_len k (by omega) | (simp only [List.length_cons, List.length_nil]; omega) | (simp only [List.length_replicate]; omega) | (simp only [List.length_replicate]; decide)) (by first | omega | decide | exact tiers_len k (by omega) | (simp only [List.length_cons, List.length_nil]; omega) | (simp only [List.length_replicate]; omega) | (simp only [List.length_replicate]; decide))) (fun v358 s358 R358 => ?_) XT.stop
                          obtain ⟨rfl, rfl⟩ := R358
                          dsimp only [List.cons_append, List.nil_append]
                          refine ⟨inferInstance, ?_⟩
                          refine XT.q rfl rfl (Q.and rfl (fun _ => rfl)) ?_
                          refine XT.q rfl rfl (Q.move rfl) ?_
                          refine XT.q rfl rfl (Quiet.guardT rfl rfl fun g361 p361 => Q.move rfl) ?_
                          refine XT.q rfl rfl (Quiet.guardT rfl rfl fun g362 p362 => Q.eql (lzv rfl rfl) rfl) ?_
                          refine XT.q rfl rfl (Q.and rfl (fun hp => lzv hp rfl)) ?_
                          refine XT.q rfl rfl (Q.move rfl) ?_
                          refine XT.q rfl rfl (Quiet.guardT rfl rfl fun g365 p365 => Q.move rfl) ?_
                          refine XT.q rfl rfl (Quiet.guardT rfl rfl fun g366 p366 => Q.eql (lzv rfl rfl) rfl) ?_
                          refine XT.q rfl rfl (Q.and rfl (fun hp => lzv hp rfl)) ?_
                          refine XT.q rfl rfl (Q.move rfl) ?_
                          refine XT.q rfl rfl (Quiet.guardT rfl rfl fun g369 p369 => Q.move rfl) ?_
                          refine XT.q rfl rfl (Quiet.guardT rfl rfl fun g370 p370 => Q.eql (lzv rfl rfl) rfl) ?_
                          refine XT.q rfl rfl (Q.and rfl (fun hp => lzv hp rfl)) ?_
                          refine XT.q rfl rfl (Q.move rfl) ?_
                          refine XT.callS rfl rfl rfl rfl rfl Try.call13 rfl (.n) rfl (awake11) (fun v373 s373 R373 => ?_) XT.stop
                          obtain ⟨rfl, rfl⟩ := R373
                          dsimp only [List.cons_append, List.nil_append]
                          refine ⟨inferInstance, ?_⟩
                          refine XT.q rfl rfl (Q.and rfl (fun _ => rfl)) ?_
                          refine XT.q rfl rfl (Q.assign rfl) ?_
                          refine XT.done ?_
                          exact mtr86 (()) _ _ trivial (.c rfl (.base 37 rfl rfl)) inferInstance
                        · skip
                          refine XT.litS [_, _, _, _] [_, _, _, _] [(v353, ⟨List.replicate (Int.toNat 1000) 0, 0⟩), (v355, ⟨List.replicate (Int.toNat 1001) 0, 0⟩)] encUse rfl rfl rfl rfl rfl (by rfl) (by rfl) rfl (by rfl) (by exact .c 0 2 (lzv rfl rfl) rfl rfl (.c 2 2 (lzv rfl rfl) rfl rfl (.n _))) (fun _ => rfl) (by rfl) rfl (by infer_instance) rfl (fun v357 h357 O357 => ⟨inferInstance, ?_⟩) XT.stop
                          refine XT.callS rfl rfl rfl rfl rfl Try.call39 rfl (.n) rfl (tariff11) (fun v352 s352 R352 => ?_) XT.stop
                          obtain ⟨vp2, vt2, kp2, kt2, rfl, rfl, OPP2, OTT2⟩ := R352
                          dsimp only [List.cons_append, List.nil_append]
                          refine ⟨inferInstance, ?_⟩
                          refine XT.callS rfl rfl rfl rfl rfl Try.call21 rfl (.c rfl (.c rfl .n)) rfl (billsB exT vp2 vt2 kp2 kt2 v353 ⟨List.replicate (Int.toNat 1000) 0, 0⟩ h353 v355 ⟨List.replicate (Int.toNat 1001) 0, 0⟩ h355 v357 h357 (by decide) (by decide) (by first | omega | decide | exact tiers_len k (by omega) | (simp only [List.length_cons, List.length_nil]; omega) | (simp only [List.length_replicate]; omega) | (simp only [List.length_replicate]; decide)) (by first | omega | decide | exact tiers_len k (by omega) | (simp only [List.length_cons, List.length_nil]; omega) | (simp only [List.length_replicate]; omega) | (simp only [List.length_replicate]; decide))) (fun v358 s358 R358 => ?_) XT.stop
                          obtain ⟨rfl, rfl⟩ := R358
                          dsimp only [List.cons_append, List.nil_append]
                          refine ⟨inferInstance, ?_⟩
                          refine XT.q rfl rfl (Q.and rfl (fun _ => rfl)) ?_
                          refine XT.q rfl rfl (Q.move rfl) ?_
                          refine XT.q rfl rfl (Quiet.guardT rfl rfl fun g361 p361 => Q.move rfl) ?_
                          refine XT.q rfl rfl (Quiet.guardT rfl rfl fun g362 p362 => Q.eql (lzv rfl rfl) rfl) ?_
                          refine XT.q rfl rfl (Q.and rfl (fun hp => lzv hp rfl)) ?_
                          refine XT.q rfl rfl (Q.move rfl) ?_
                          refine XT.q rfl rfl (Quiet.guardT rfl rfl fun g365 p365 => Q.move rfl) ?_
                          refine XT.q rfl rfl (Quiet.guardT rfl rfl fun g366 p366 => Q.eql (lzv rfl rfl) rfl) ?_
                          refine XT.q rfl rfl (Q.and rfl (fun hp => lzv hp rfl)) ?_
                          refine XT.q rfl rfl (Q.move rfl) ?_
                          refine XT.q rfl rfl (Quiet.guardT rfl rfl fun g369 p369 => Q.move rfl) ?_
                          refine XT.q rfl rfl (Quiet.guardT rfl rfl fun g370 p370 => Q.eql (lzv rfl rfl) rfl) ?_
                          refine XT.q rfl rfl (Q.and rfl (fun hp => lzv hp rfl)) ?_
                          refine XT.q rfl rfl (Q.move rfl) ?_
                          refine XT.callS rfl rfl rfl rfl rfl Try.call13 rfl (.n) rfl (awake11) (fun v373 s373 R373 => ?_) XT.stop
                          obtain ⟨rfl, rfl⟩ := R373
                          dsimp only [List.cons_append, List.nil_append]
                          refine ⟨inferInstance, ?_⟩
                          refine XT.q rfl rfl (Q.and rfl (fun _ => rfl)) ?_
                          refine XT.q rfl rfl (Q.assign rfl) ?_
                          refine XT.done ?_
                          exact mtr86 (()) _ _ trivial (.c rfl (.base 37 rfl rfl)) inferInstance
                    · skip
                      refine XT.makeS encI (0) rfl rfl rfl rfl rfl rfl rfl rfl (by omega) (by omega) (fun _ => rfl) rfl rfl rfl (by dsimp only [encI]; infer_instance) (fun v355 h355 O355 => ⟨inferInstance, ?_⟩) XT.stop
                      refine XT.q rfl rfl (Quiet.guardT rfl rfl fun g356 p356 => Q.build [_, _] (.c 0 1 rfl rfl rfl (.n _))) ?_
                      refine XT.callS rfl rfl rfl rfl rfl Try.call39 rfl (.n) rfl (tariff11) (fun v352 s352 R352 => ?_) ?_
                      · skip
                        obtain ⟨vp2, vt2, kp2, kt2, rfl, rfl, OPP2, OTT2⟩ := R352
                        dsimp only [List.cons_append, List.nil_append]
                        refine ⟨inferInstance, ?_⟩
                        refine XT.makeS encI (0) rfl rfl rfl rfl rfl rfl rfl rfl (by omega) (by omega) (fun _ => rfl) rfl rfl rfl (by dsimp only [encI]; infer_instance) (fun v353 h353 O353 => ⟨inferInstance, ?_⟩) XT.stop
                        refine XT.q rfl rfl (Quiet.guardT rfl rfl fun g354 p354 => Q.build [_, _] (.c 0 1 rfl rfl rfl (.n _))) ?_
                        refine XT.litS [_, _, _, _] [_, _, _, _] [(v353, ⟨List.replicate (Int.toNat 1000) 0, 0⟩), (v355, ⟨List.replicate (Int.toNat 1001) 0, 0⟩)] encUse rfl rfl rfl rfl rfl (by rfl) (by rfl) rfl (by rfl) (by exact .c 0 2 (lzv rfl rfl) rfl rfl (.c 2 2 (lzv rfl rfl) rfl rfl (.n _))) (fun _ => rfl) (by rfl) rfl (by infer_instance) rfl (fun v357 h357 O357 => ⟨inferInstance, ?_⟩) XT.stop
                        refine XT.callS rfl rfl rfl rfl rfl Try.call21 rfl (.c rfl (.c rfl .n)) rfl (billsB exT vp2 vt2 kp2 kt2 v353 ⟨List.replicate (Int.toNat 1000) 0, 0⟩ h353 v355 ⟨List.replicate (Int.toNat 1001) 0, 0⟩ h355 v357 h357 (by decide) (by decide) (by first | omega | decide | exact tiers_len k (by omega) | (simp only [List.length_cons, List.length_nil]; omega) | (simp only [List.length_replicate]; omega) | (simp only [List.length_replicate]; decide)) (by first | omega | decide | exact tiers_len k (by omega) | (simp only [List.length_cons, List.length_nil]; omega) | (simp only [List.length_replicate]; omega) | (simp only [List.length_replicate]; decide))) (fun v358 s358 R358 => ?_) XT.stop
                        obtain ⟨rfl, rfl⟩ := R358
                        dsimp only [List.cons_append, List.nil_append]
                        refine ⟨inferInstance, ?_⟩
                        refine XT.q rfl rfl (Q.and rfl (fun _ => rfl)) ?_
                        refine XT.q rfl rfl (Q.move rfl) ?_
                        refine XT.q rfl rfl (Quiet.guardT rfl rfl fun g361 p361 => Q.move rfl) ?_
                        refine XT.q rfl rfl (Quiet.guardT rfl rfl fun g362 p362 => Q.eql (lzv rfl rfl) rfl) ?_
                        refine XT.q rfl rfl (Q.and rfl (fun hp => lzv hp rfl)) ?_
                        refine XT.q rfl rfl (Q.move rfl) ?_
                        refine XT.q rfl rfl (Quiet.guardT rfl rfl fun g365 p365 => Q.move rfl) ?_
                        refine XT.q rfl rfl (Quiet.guardT rfl rfl fun g366 p366 => Q.eql (lzv rfl rfl) rfl) ?_
                        refine XT.q rfl rfl (Q.and rfl (fun hp => lzv hp rfl)) ?_
                        refine XT.q rfl rfl (Q.move rfl) ?_
                        refine XT.q rfl rfl (Quiet.guardT rfl rfl fun g369 p369 => Q.move rfl) ?_
                        refine XT.q rfl rfl (Quiet.guardT rfl rfl fun g370 p370 => Q.eql (lzv rfl rfl) rfl) ?_
                        refine XT.q rfl rfl (Q.and rfl (fun hp => lzv hp rfl)) ?_
                        refine XT.q rfl rfl (Q.move rfl) ?_
                        refine XT.callS rfl rfl rfl rfl rfl Try.call13 rfl (.n) rfl (awake11) (fun v373 s373 R373 => ?_) XT.stop
                        obtain ⟨rfl, rfl⟩ := R373
                        dsimp only [List.cons_append, List.nil_append]
                        refine ⟨inferInstance, ?_⟩
                        refine XT.q rfl rfl (Q.and rfl (fun _ => rfl)) ?_
                        refine XT.q rfl rfl (Q.assign rfl) ?_
                        refine XT.done ?_
                        exact mtr86 (()) _ _ trivial (.c rfl (.base 37 rfl rfl)) inferInstance
                      · skip
                        refine XT.makeS encI (0) rfl rfl rfl rfl rfl rfl rfl rfl (by omega) (by omega) (fun _ => rfl) rfl rfl rfl (by dsimp only [encI]; infer_instance) (fun v353 h353 O353 => ⟨inferInstance, ?_⟩) XT.stop
                        refine XT.q rfl rfl (Quiet.guardT rfl rfl fun g354 p354 => Q.build [_, _] (.c 0 1 rfl rfl rfl (.n _))) ?_
                        refine XT.callS rfl rfl rfl rfl rfl Try.call39 rfl (.n) rfl (tariff11) (fun v352 s352 R352 => ?_) ?_
                        · skip
                          obtain ⟨vp2, vt2, kp2, kt2, rfl, rfl, OPP2, OTT2⟩ := R352
                          dsimp only [List.cons_append, List.nil_append]
                          refine ⟨inferInstance, ?_⟩
                          refine XT.litS [_, _, _, _] [_, _, _, _] [(v353, ⟨List.replicate (Int.toNat 1000) 0, 0⟩), (v355, ⟨List.replicate (Int.toNat 1001) 0, 0⟩)] encUse rfl rfl rfl rfl rfl (by rfl) (by rfl) rfl (by rfl) (by exact .c 0 2 (lzv rfl rfl) rfl rfl (.c 2 2 (lzv rfl rfl) rfl rfl (.n _))) (fun _ => rfl) (by rfl) rfl (by infer_instance) rfl (fun v357 h357 O357 => ⟨inferInstance, ?_⟩) XT.stop
                          refine XT.callS rfl rfl rfl rfl rfl Try.call21 rfl (.c rfl (.c rfl .n)) rfl (billsB exT vp2 vt2 kp2 kt2 v353 ⟨List.replicate (Int.toNat 1000) 0, 0⟩ h353 v355 ⟨List.replicate (Int.toNat 1001) 0, 0⟩ h355 v357 h357 (by decide) (by decide) (by first | omega | decide | exact tiers_len k (by omega) | (simp only [List.length_cons, List.length_nil]; omega) | (simp only [List.length_replicate]; omega) | (simp only [List.length_replicate]; decide)) (by first | omega | decide | exact tiers_len k (by omega) | (simp only [List.length_cons, List.length_nil]; omega) | (simp only [List.length_replicate]; omega) | (simp only [List.length_replicate]; decide))) (fun v358 s358 R358 => ?_) XT.stop
                          obtain ⟨rfl, rfl⟩ := R358
                          dsimp only [List.cons_append, List.nil_append]
                          refine ⟨inferInstance, ?_⟩
                          refine XT.q rfl rfl (Q.and rfl (fun _ => rfl)) ?_
                          refine XT.q rfl rfl (Q.move rfl) ?_
                          refine XT.q rfl rfl (Quiet.guardT rfl rfl fun g361 p361 => Q.move rfl) ?_
                          refine XT.q rfl rfl (Quiet.guardT rfl rfl fun g362 p362 => Q.eql (lzv rfl rfl) rfl) ?_
                          refine XT.q rfl rfl (Q.and rfl (fun hp => lzv hp rfl)) ?_
                          refine XT.q rfl rfl (Q.move rfl) ?_
                          refine XT.q rfl rfl (Quiet.guardT rfl rfl fun g365 p365 => Q.move rfl) ?_
                          refine XT.q rfl rfl (Quiet.guardT rfl rfl fun g366 p366 => Q.eql (lzv rfl rfl) rfl) ?_
                          refine XT.q rfl rfl (Q.and rfl (fun hp => lzv hp rfl)) ?_
                          refine XT.q rfl rfl (Q.move rfl) ?_
                          refine XT.q rfl rfl (Quiet.guardT rfl rfl fun g369 p369 => Q.move rfl) ?_
                          refine XT.q rfl rfl (Quiet.guardT rfl rfl fun g370 p370 => Q.eql (lzv rfl rfl) rfl) ?_
                          refine XT.q rfl rfl (Q.and rfl (fun hp => lzv hp rfl)) ?_
                          refine XT.q rfl rfl (Q.move rfl) ?_
                          refine XT.callS rfl rfl rfl rfl rfl Try.call13 rfl (.n) rfl (awake11) (fun v373 s373 R373 => ?_) XT.stop
                          obtain ⟨rfl, rfl⟩ := R373
                          dsimp only [List.cons_append, List.nil_append]
                          refine ⟨inferInstance, ?_⟩
                          refine XT.q rfl rfl (Q.and rfl (fun _ => rfl)) ?_
                          refine XT.q rfl rfl (Q.assign rfl) ?_
                          refine XT.done ?_
                          exact mtr86 (()) _ _ trivial (.c rfl (.base 37 rfl rfl)) inferInstance
                        · skip
                          refine XT.litS [_, _, _, _] [_, _, _, _] [(v353, ⟨List.replicate (Int.toNat 1000) 0, 0⟩), (v355, ⟨List.replicate (Int.toNat 1001) 0, 0⟩)] encUse rfl rfl rfl rfl rfl (by rfl) (by rfl) rfl (by rfl) (by exact .c 0 2 (lzv rfl rfl) rfl rfl (.c 2 2 (lzv rfl rfl) rfl rfl (.n _))) (fun _ => rfl) (by rfl) rfl (by infer_instance) rfl (fun v357 h357 O357 => ⟨inferInstance, ?_⟩) XT.stop
                          refine XT.callS rfl rfl rfl rfl rfl Try.call39 rfl (.n) rfl (tariff11) (fun v352 s352 R352 => ?_) XT.stop
                          obtain ⟨vp2, vt2, kp2, kt2, rfl, rfl, OPP2, OTT2⟩ := R352
                          dsimp only [List.cons_append, List.nil_append]
                          refine ⟨inferInstance, ?_⟩
                          refine XT.callS rfl rfl rfl rfl rfl Try.call21 rfl (.c rfl (.c rfl .n)) rfl (billsB exT vp2 vt2 kp2 kt2 v353 ⟨List.replicate (Int.toNat 1000) 0, 0⟩ h353 v355 ⟨List.replicate (Int.toNat 1001) 0, 0⟩ h355 v357 h357 (by decide) (by decide) (by first | omega | decide | exact tiers_len k (by omega) | (simp only [List.length_cons, List.length_nil]; omega) | (simp only [List.length_replicate]; omega) | (simp only [List.length_replicate]; decide)) (by first | omega | decide | exact tiers_len k (by omega) | (simp only [List.length_cons, List.length_nil]; omega) | (simp only [List.length_replicate]; omega) | (simp only [List.length_replicate]; decide))) (fun v358 s358 R358 => ?_) XT.stop
                          obtain ⟨rfl, rfl⟩ := R358
                          dsimp only [List.cons_append, List.nil_append]
                          refine ⟨inferInstance, ?_⟩
                          refine XT.q rfl rfl (Q.and rfl (fun _ => rfl)) ?_
                          refine XT.q rfl rfl (Q.move rfl) ?_
                          refine XT.q rfl rfl (Quiet.guardT rfl rfl fun g361 p361 => Q.move rfl) ?_
                          refine XT.q rfl rfl (Quiet.guardT rfl rfl fun g362 p362 => Q.eql (lzv rfl rfl) rfl) ?_
                          refine XT.q rfl rfl (Q.and rfl (fun hp => lzv hp rfl)) ?_
                          refine XT.q rfl rfl (Q.move rfl) ?_
                          refine XT.q rfl rfl (Quiet.guardT rfl rfl fun g365 p365 => Q.move rfl) ?_
                          refine XT.q rfl rfl (Quiet.guardT rfl rfl fun g366 p366 => Q.eql (lzv rfl rfl) rfl) ?_
                          refine XT.q rfl rfl (Q.and rfl (fun hp => lzv hp rfl)) ?_
                          refine XT.q rfl rfl (Q.move rfl) ?_
                          refine XT.q rfl rfl (Quiet.guardT rfl rfl fun g369 p369 => Q.move rfl) ?_
                          refine XT.q rfl rfl (Quiet.guardT rfl rfl fun g370 p370 => Q.eql (lzv rfl rfl) rfl) ?_
                          refine XT.q rfl rfl (Q.and rfl (fun hp => lzv hp rfl)) ?_
                          refine XT.q rfl rfl (Q.move rfl) ?_
                          refine XT.callS rfl rfl rfl rfl rfl Try.call13 rfl (.n) rfl (awake11) (fun v373 s373 R373 => ?_) XT.stop
                          obtain ⟨rfl, rfl⟩ := R373
                          dsimp only [List.cons_append, List.nil_append]
                          refine ⟨inferInstance, ?_⟩
                          refine XT.q rfl rfl (Q.and rfl (fun _ => rfl)) ?_
                          refine XT.q rfl rfl (Q.assign rfl) ?_
                          refine XT.done ?_
                          exact mtr86 (()) _ _ trivial (.c rfl (.base 37 rfl rfl)) inferInstance
                · skip
                  refine XT.makeS encUse (((.slice none 0 0 : Value), (⟨[], 0⟩ : MUse))) rfl rfl rfl rfl rfl rfl rfl rfl (by omega) (by omega) (fun _ => rfl) rfl rfl rfl (by dsimp only [encUse]; infer_instance) (fun v348 h348 O348 => ⟨inferInstance, ?_⟩) XT.stop
                  refine XT.callS rfl rfl rfl rfl rfl Try.call39 rfl (.n) rfl (tariff11) (fun v347 s347 R347 => ?_) XT.stop
                  obtain ⟨vp1, vt1, kp1, kt1, rfl, rfl, OPP1, OTT1⟩ := R347
                  dsimp only [List.cons_append, List.nil_append]
                  refine ⟨inferInstance, ?_⟩
                  refine XT.callS rfl rfl rfl rfl rfl Try.call21 rfl (.c rfl (.c rfl .n)) rfl (billsU exT vp1 vt1 kp1 kt1 (Int.toNat 65) v348 h348 (by decide) (by decide) (by decide)) (fun v349 s349 R349 => ?_) XT.stop
                  obtain ⟨rfl, rfl⟩ := R349
                  dsimp only [List.cons_append, List.nil_append]
                  refine ⟨inferInstance, ?_⟩
                  refine XT.q rfl rfl (Q.and rfl (fun _ => rfl)) ?_
                  refine XT.q rfl rfl (Q.move rfl) ?_
                  refine XT.callS rfl rfl rfl rfl rfl Try.call39 rfl (.n) rfl (tariff11) (fun v352 s352 R352 => ?_) ?_
                  · skip
                    obtain ⟨vp2, vt2, kp2, kt2, rfl, rfl, OPP2, OTT2⟩ := R352
                    dsimp only [List.cons_append, List.nil_append]
                    refine ⟨inferInstance, ?_⟩
                    refine XT.makeS encI (0) rfl rfl rfl rfl rfl rfl rfl rfl (by omega) (by omega) (fun _ => rfl) rfl rfl rfl (by dsimp only [encI]; infer_instance) (fun v353 h353 O353 => ⟨inferInstance, ?_⟩) ?_
                    · skip
                      refine XT.q rfl rfl (Quiet.guardT rfl rfl fun g354 p354 => Q.build [_, _] (.c 0 1 rfl rfl rfl (.n _))) ?_
                      refine XT.makeS encI (0) rfl rfl rfl rfl rfl rfl rfl rfl (by omega) (by omega) (fun _ => rfl) rfl rfl rfl (by dsimp only [encI]; infer_instance) (fun v355 h355 O355 => ⟨inferInstance, ?_⟩) XT.stop
                      refine XT.q rfl rfl (Quiet.guardT rfl rfl fun g356 p356 => Q.build [_, _] (.c 0 1 rfl rfl rfl (.n _))) ?_
                      refine XT.litS [_, _, _, _] [_, _, _, _] [(v353, ⟨List.replicate (Int.toNat 1000) 0, 0⟩), (v355, ⟨List.replicate (Int.toNat 1001) 0, 0⟩)] encUse rfl rfl rfl rfl rfl (by rfl) (by rfl) rfl (by rfl) (by exact .c 0 2 (lzv rfl rfl) rfl rfl (.c 2 2 (lzv rfl rfl) rfl rfl (.n _))) (fun _ => rfl) (by rfl) rfl (by infer_instance) rfl (fun v357 h357 O357 => ⟨inferInstance, ?_⟩) XT.stop
                      refine XT.callS rfl rfl rfl rfl rfl Try.call21 rfl (.c rfl (.c rfl .n)) rfl (billsB exT vp2 vt2 kp2 kt2 v353 ⟨List.replicate (Int.toNat 1000) 0, 0⟩ h353 v355 ⟨List.replicate (Int.toNat 1001) 0, 0⟩ h355 v357 h357 (by decide) (by decide) (by first | omega | decide | exact tiers_len k (by omega) | (simp only [List.length_cons, List.length_nil]; omega) | (simp only [List.length_replicate]; omega) | (simp only [List.length_replicate]; decide)) (by first | omega | decide | exact tiers_len k (by omega) | (simp only [List.length_cons, List.length_nil]; omega) | (simp only [List.length_replicate]; omega) | (simp only [List.length_replicate]; decide))) (fun v358 s358 R358 => ?_) XT.stop
                      obtain ⟨rfl, rfl⟩ := R358
                      dsimp only [List.cons_append, List.nil_append]
                      refine ⟨inferInstance, ?_⟩
                      refine XT.q rfl rfl (Q.and rfl (fun _ => rfl)) ?_
                      refine XT.q rfl rfl (Q.move rfl) ?_
                      refine XT.q rfl rfl (Quiet.guardT rfl rfl fun g361 p361 => Q.move rfl) ?_
                      refine XT.q rfl rfl (Quiet.guardT rfl rfl fun g362 p362 => Q.eql (lzv rfl rfl) rfl) ?_
                      refine XT.q rfl rfl (Q.and rfl (fun hp => lzv hp rfl)) ?_
                      refine XT.q rfl rfl (Q.move rfl) ?_
                      refine XT.q rfl rfl (Quiet.guardT rfl rfl fun g365 p365 => Q.move rfl) ?_
                      refine XT.q rfl rfl (Quiet.guardT rfl rfl fun g366 p366 => Q.eql (lzv rfl rfl) rfl) ?_
                      refine XT.q rfl rfl (Q.and rfl (fun hp => lzv hp rfl)) ?_
                      refine XT.q rfl rfl (Q.move rfl) ?_
                      refine XT.q rfl rfl (Quiet.guardT rfl rfl fun g369 p369 => Q.move rfl) ?_
                      refine XT.q rfl rfl (Quiet.guardT rfl rfl fun g370 p370 => Q.eql (lzv rfl rfl) rfl) ?_
                      refine XT.q rfl rfl (Q.and rfl (fun hp => lzv hp rfl)) ?_
                      refine XT.q rfl rfl (Q.move rfl) ?_
                      refine XT.callS rfl rfl rfl rfl rfl Try.call13 rfl (.n) rfl (awake11) (fun v373 s373 R373 => ?_) XT.stop
                      obtain ⟨rfl, rfl⟩ := R373
                      dsimp only [List.cons_append, List.nil_append]
                      refine ⟨inferInstance, ?_⟩
                      refine XT.q rfl rfl (Q.and rfl (fun _ => rfl)) ?_
                      refine XT.q rfl rfl (Q.assign rfl) ?_
                      refine XT.done ?_
                      exact mtr86 (()) _ _ trivial (.c rfl (.base 37 rfl rfl)) inferInstance
                    · skip
                      refine XT.makeS encI (0) rfl rfl rfl rfl rfl rfl rfl rfl (by omega) (by omega) (fun _ => rfl) rfl rfl rfl (by dsimp only [encI]; infer_instance) (fun v355 h355 O355 => ⟨inferInstance, ?_⟩) XT.stop
                      refine XT.q rfl rfl (Quiet.guardT rfl rfl fun g356 p356 => Q.build [_, _] (.c 0 1 rfl rfl rfl (.n _))) ?_
                      refine XT.makeS encI (0) rfl rfl rfl rfl rfl rfl rfl rfl (by omega) (by omega) (fun _ => rfl) rfl rfl rfl (by dsimp only [encI]; infer_instance) (fun v353 h353 O353 => ⟨inferInstance, ?_⟩) XT.stop
                      refine XT.q rfl rfl (Quiet.guardT rfl rfl fun g354 p354 => Q.build [_, _] (.c 0 1 rfl rfl rfl (.n _))) ?_
                      refine XT.litS [_, _, _, _] [_, _, _, _] [(v353, ⟨List.replicate (Int.toNat 1000) 0, 0⟩), (v355, ⟨List.replicate (Int.toNat 1001) 0, 0⟩)] encUse rfl rfl rfl rfl rfl (by rfl) (by rfl) rfl (by rfl) (by exact .c 0 2 (lzv rfl rfl) rfl rfl (.c 2 2 (lzv rfl rfl) rfl rfl (.n _))) (fun _ => rfl) (by rfl) rfl (by infer_instance) rfl (fun v357 h357 O357 => ⟨inferInstance, ?_⟩) XT.stop
                      refine XT.callS rfl rfl rfl rfl rfl Try.call21 rfl (.c rfl (.c rfl .n)) rfl (billsB exT vp2 vt2 kp2 kt2 v353 ⟨List.replicate (Int.toNat 1000) 0, 0⟩ h353 v355 ⟨List.replicate (Int.toNat 1001) 0, 0⟩ h355 v357 h357 (by decide) (by decide) (by first | omega | decide | exact tiers_len k (by omega) | (simp only [List.length_cons, List.length_nil]; omega) | (simp only [List.length_replicate]; omega) | (simp only [List.length_replicate]; decide)) (by first | omega | decide | exact tiers_len k (by omega) | (simp only [List.length_cons, List.length_nil]; omega) | (simp only [List.length_replicate]; omega) | (simp only [List.length_replicate]; decide))) (fun v358 s358 R358 => ?_) XT.stop
                      obtain ⟨rfl, rfl⟩ := R358
                      dsimp only [List.cons_append, List.nil_append]
                      refine ⟨inferInstance, ?_⟩
                      refine XT.q rfl rfl (Q.and rfl (fun _ => rfl)) ?_
                      refine XT.q rfl rfl (Q.move rfl) ?_
                      refine XT.q rfl rfl (Quiet.guardT rfl rfl fun g361 p361 => Q.move rfl) ?_
                      refine XT.q rfl rfl (Quiet.guardT rfl rfl fun g362 p362 => Q.eql (lzv rfl rfl) rfl) ?_
                      refine XT.q rfl rfl (Q.and rfl (fun hp => lzv hp rfl)) ?_
                      refine XT.q rfl rfl (Q.move rfl) ?_
                      refine XT.q rfl rfl (Quiet.guardT rfl rfl fun g365 p365 => Q.move rfl) ?_
                      refine XT.q rfl rfl (Quiet.guardT rfl rfl fun g366 p366 => Q.eql (lzv rfl rfl) rfl) ?_
                      refine XT.q rfl rfl (Q.and rfl (fun hp => lzv hp rfl)) ?_
                      refine XT.q rfl rfl (Q.move rfl) ?_
                      refine XT.q rfl rfl (Quiet.guardT rfl rfl fun g369 p369 => Q.move rfl) ?_
                      refine XT.q rfl rfl (Quiet.guardT rfl rfl fun g370 p370 => Q.eql (lzv rfl rfl) rfl) ?_
                      refine XT.q rfl rfl (Q.and rfl (fun hp => lzv hp rfl)) ?_
                      refine XT.q rfl rfl (Q.move rfl) ?_
                      refine XT.callS rfl rfl rfl rfl rfl Try.call13 rfl (.n) rfl (awake11) (fun v373 s373 R373 => ?_) XT.stop
                      obtain ⟨rfl, rfl⟩ := R373
                      dsimp only [List.cons_append, List.nil_append]
                      refine ⟨inferInstance, ?_⟩
                      refine XT.q rfl rfl (Q.and rfl (fun _ => rfl)) ?_
                      refine XT.q rfl rfl (Q.assign rfl) ?_
                      refine XT.done ?_
                      exact mtr86 (()) _ _ trivial (.c rfl (.base 37 rfl rfl)) inferInstance
                  · skip
                    refine XT.makeS encI (0) rfl rfl rfl rfl rfl rfl rfl rfl (by omega) (by omega) (fun _ => rfl) rfl rfl rfl (by dsimp only [encI]; infer_instance) (fun v353 h353 O353 => ⟨inferInstance, ?_⟩) ?_
                    · skip
                      refine XT.q rfl rfl (Quiet.guardT rfl rfl fun g354 p354 => Q.build [_, _] (.c 0 1 rfl rfl rfl (.n _))) ?_
                      refine XT.callS rfl rfl rfl rfl rfl Try.call39 rfl (.n) rfl (tariff11) (fun v352 s352 R352 => ?_) ?_
                      · skip
                        obtain ⟨vp2, vt2, kp2, kt2, rfl, rfl, OPP2, OTT2⟩ := R352
                        dsimp only [List.cons_append, List.nil_append]
                        refine ⟨inferInstance, ?_⟩
                        refine XT.makeS encI (0) rfl rfl rfl rfl rfl rfl rfl rfl (by omega) (by omega) (fun _ => rfl) rfl rfl rfl (by dsimp only [encI]; infer_instance) (fun v355 h355 O355 => ⟨inferInstance, ?_⟩) XT.stop
                        refine XT.q rfl rfl (Quiet.guardT rfl rfl fun g356 p356 => Q.build [_, _] (.c 0 1 rfl rfl rfl (.n _))) ?_
                        refine XT.litS [_, _, _, _] [_, _, _, _] [(v353, ⟨List.replicate (Int.toNat 1000) 0, 0⟩), (v355, ⟨List.replicate (Int.toNat 1001) 0, 0⟩)] encUse rfl rfl rfl rfl rfl (by rfl) (by rfl) rfl (by rfl) (by exact .c 0 2 (lzv rfl rfl) rfl rfl (.c 2 2 (lzv rfl rfl) rfl rfl (.n _))) (fun _ => rfl) (by rfl) rfl (by infer_instance) rfl (fun v357 h357 O357 => ⟨inferInstance, ?_⟩) XT.stop
                        refine XT.callS rfl rfl rfl rfl rfl Try.call21 rfl (.c rfl (.c rfl .n)) rfl (billsB exT vp2 vt2 kp2 kt2 v353 ⟨List.replicate (Int.toNat 1000) 0, 0⟩ h353 v355 ⟨List.replicate (Int.toNat 1001) 0, 0⟩ h355 v357 h357 (by decide) (by decide) (by first | omega | decide | exact tiers_len k (by omega) | (simp only [List.length_cons, List.length_nil]; omega) | (simp only [List.length_replicate]; omega) | (simp only [List.length_replicate]; decide)) (by first | omega | decide | exact tiers_len k (by omega) | (simp only [List.length_cons, List.length_nil]; omega) | (simp only [List.length_replicate]; omega) | (simp only [List.length_replicate]; decide))) (fun v358 s358 R358 => ?_) XT.stop
                        obtain ⟨rfl, rfl⟩ := R358
                        dsimp only [List.cons_append, List.nil_append]
                        refine ⟨inferInstance, ?_⟩
                        refine XT.q rfl rfl (Q.and rfl (fun _ => rfl)) ?_
                        refine XT.q rfl rfl (Q.move rfl) ?_
                        refine XT.q rfl rfl (Quiet.guardT rfl rfl fun g361 p361 => Q.move rfl) ?_
                        refine XT.q rfl rfl (Quiet.guardT rfl rfl fun g362 p362 => Q.eql (lzv rfl rfl) rfl) ?_
                        refine XT.q rfl rfl (Q.and rfl (fun hp => lzv hp rfl)) ?_
                        refine XT.q rfl rfl (Q.move rfl) ?_
                        refine XT.q rfl rfl (Quiet.guardT rfl rfl fun g365 p365 => Q.move rfl) ?_
                        refine XT.q rfl rfl (Quiet.guardT rfl rfl fun g366 p366 => Q.eql (lzv rfl rfl) rfl) ?_
                        refine XT.q rfl rfl (Q.and rfl (fun hp => lzv hp rfl)) ?_
                        refine XT.q rfl rfl (Q.move rfl) ?_
                        refine XT.q rfl rfl (Quiet.guardT rfl rfl fun g369 p369 => Q.move rfl) ?_
                        refine XT.q rfl rfl (Quiet.guardT rfl rfl fun g370 p370 => Q.eql (lzv rfl rfl) rfl) ?_
                        refine XT.q rfl rfl (Q.and rfl (fun hp => lzv hp rfl)) ?_
                        refine XT.q rfl rfl (Q.move rfl) ?_
                        refine XT.callS rfl rfl rfl rfl rfl Try.call13 rfl (.n) rfl (awake11) (fun v373 s373 R373 => ?_) XT.stop
                        obtain ⟨rfl, rfl⟩ := R373
                        dsimp only [List.cons_append, List.nil_append]
                        refine ⟨inferInstance, ?_⟩
                        refine XT.q rfl rfl (Q.and rfl (fun _ => rfl)) ?_
                        refine XT.q rfl rfl (Q.assign rfl) ?_
                        refine XT.done ?_
                        exact mtr86 (()) _ _ trivial (.c rfl (.base 37 rfl rfl)) inferInstance
                      · skip
                        refine XT.makeS encI (0) rfl rfl rfl rfl rfl rfl rfl rfl (by omega) (by omega) (fun _ => rfl) rfl rfl rfl (by dsimp only [encI]; infer_instance) (fun v355 h355 O355 => ⟨inferInstance, ?_⟩) XT.stop
                        refine XT.q rfl rfl (Quiet.guardT rfl rfl fun g356 p356 => Q.build [_, _] (.c 0 1 rfl rfl rfl (.n _))) ?_
                        refine XT.callS rfl rfl rfl rfl rfl Try.call39 rfl (.n) rfl (tariff11) (fun v352 s352 R352 => ?_) ?_
                        · skip
                          obtain ⟨vp2, vt2, kp2, kt2, rfl, rfl, OPP2, OTT2⟩ := R352
                          dsimp only [List.cons_append, List.nil_append]
                          refine ⟨inferInstance, ?_⟩
                          refine XT.litS [_, _, _, _] [_, _, _, _] [(v353, ⟨List.replicate (Int.toNat 1000) 0, 0⟩), (v355, ⟨List.replicate (Int.toNat 1001) 0, 0⟩)] encUse rfl rfl rfl rfl rfl (by rfl) (by rfl) rfl (by rfl) (by exact .c 0 2 (lzv rfl rfl) rfl rfl (.c 2 2 (lzv rfl rfl) rfl rfl (.n _))) (fun _ => rfl) (by rfl) rfl (by infer_instance) rfl (fun v357 h357 O357 => ⟨inferInstance, ?_⟩) XT.stop
                          refine XT.callS rfl rfl rfl rfl rfl Try.call21 rfl (.c rfl (.c rfl .n)) rfl (billsB exT vp2 vt2 kp2 kt2 v353 ⟨List.replicate (Int.toNat 1000) 0, 0⟩ h353 v355 ⟨List.replicate (Int.toNat 1001) 0, 0⟩ h355 v357 h357 (by decide) (by decide) (by first | omega | decide | exact tiers_len k (by omega) | (simp only [List.length_cons, List.length_nil]; omega) | (simp only [List.length_replicate]; omega) | (simp only [List.length_replicate]; decide)) (by first | omega | decide | exact tiers_len k (by omega) | (simp only [List.length_cons, List.length_nil]; omega) | (simp only [List.length_replicate]; omega) | (simp only [List.length_replicate]; decide))) (fun v358 s358 R358 => ?_) XT.stop
                          obtain ⟨rfl, rfl⟩ := R358
                          dsimp only [List.cons_append, List.nil_append]
                          refine ⟨inferInstance, ?_⟩
                          refine XT.q rfl rfl (Q.and rfl (fun _ => rfl)) ?_
                          refine XT.q rfl rfl (Q.move rfl) ?_
                          refine XT.q rfl rfl (Quiet.guardT rfl rfl fun g361 p361 => Q.move rfl) ?_
                          refine XT.q rfl rfl (Quiet.guardT rfl rfl fun g362 p362 => Q.eql (lzv rfl rfl) rfl) ?_
                          refine XT.q rfl rfl (Q.and rfl (fun hp => lzv hp rfl)) ?_
                          refine XT.q rfl rfl (Q.move rfl) ?_
                          refine XT.q rfl rfl (Quiet.guardT rfl rfl fun g365 p365 => Q.move rfl) ?_
                          refine XT.q rfl rfl (Quiet.guardT rfl rfl fun g366 p366 => Q.eql (lzv rfl rfl) rfl) ?_
                          refine XT.q rfl rfl (Q.and rfl (fun hp => lzv hp rfl)) ?_
                          refine XT.q rfl rfl (Q.move rfl) ?_
                          refine XT.q rfl rfl (Quiet.guardT rfl rfl fun g369 p369 => Q.move rfl) ?_
                          refine XT.q rfl rfl (Quiet.guardT rfl rfl fun g370 p370 => Q.eql (lzv rfl rfl) rfl) ?_
                          refine XT.q rfl rfl (Q.and rfl (fun hp => lzv hp rfl)) ?_
                          refine XT.q rfl rfl (Q.move rfl) ?_
                          refine XT.callS rfl rfl rfl rfl rfl Try.call13 rfl (.n) rfl (awake11) (fun v373 s373 R373 => ?_) XT.stop
                          obtain ⟨rfl, rfl⟩ := R373
                          dsimp only [List.cons_append, List.nil_append]
                          refine ⟨inferInstance, ?_⟩
                          refine XT.q rfl rfl (Q.and rfl (fun _ => rfl)) ?_
                          refine XT.q rfl rfl (Q.assign rfl) ?_
                          refine XT.done ?_
                          exact mtr86 (()) _ _ trivial (.c rfl (.base 37 rfl rfl)) inferInstance
                        · skip
                          refine XT.litS [_, _, _, _] [_, _, _, _] [(v353, ⟨List.replicate (Int.toNat 1000) 0, 0⟩), (v355, ⟨List.replicate (Int.toNat 1001) 0, 0⟩)] encUse rfl rfl rfl rfl rfl (by rfl) (by rfl) rfl (by rfl) (by exact .c 0 2 (lzv rfl rfl) rfl rfl (.c 2 2 (lzv rfl rfl) rfl rfl (.n _))) (fun _ => rfl) (by rfl) rfl (by infer_instance) rfl (fun v357 h357 O357 => ⟨inferInstance, ?_⟩) XT.stop
                          refine XT.callS rfl rfl rfl rfl rfl Try.call39 rfl (.n) rfl (tariff11) (fun v352 s352 R352 => ?_) XT.stop
                          obtain ⟨vp2, vt2, kp2, kt2, rfl, rfl, OPP2, OTT2⟩ := R352
                          dsimp only [List.cons_append, List.nil_append]
                          refine ⟨inferInstance, ?_⟩
                          refine XT.callS rfl rfl rfl rfl rfl Try.call21 rfl (.c rfl (.c rfl .n)) rfl (billsB exT vp2 vt2 kp2 kt2 v353 ⟨List.replicate (Int.toNat 1000) 0, 0⟩ h353 v355 ⟨List.replicate (Int.toNat 1001) 0, 0⟩ h355 v357 h357 (by decide) (by decide) (by first | omega | decide | exact tiers_len k (by omega) | (simp only [List.length_cons, List.length_nil]; omega) | (simp only [List.length_replicate]; omega) | (simp only [List.length_replicate]; decide)) (by first | omega | decide | exact tiers_len k (by omega) | (simp only [List.length_cons, List.length_nil]; omega) | (simp only [List.length_replicate]; omega) | (simp only [List.length_replicate]; decide))) (fun v358 s358 R358 => ?_) XT.stop
                          obtain ⟨rfl, rfl⟩ := R358
                          dsimp only [List.cons_append, List.nil_append]
                          refine ⟨inferInstance, ?_⟩
                          refine XT.q rfl rfl (Q.and rfl (fun _ => rfl)) ?_
                          refine XT.q rfl rfl (Q.move rfl) ?_
                          refine XT.q rfl rfl (Quiet.guardT rfl rfl fun g361 p361 => Q.move rfl) ?_
                          refine XT.q rfl rfl (Quiet.guardT rfl rfl fun g362 p362 => Q.eql (lzv rfl rfl) rfl) ?_
                          refine XT.q rfl rfl (Q.and rfl (fun hp => lzv hp rfl)) ?_
                          refine XT.q rfl rfl (Q.move rfl) ?_
                          refine XT.q rfl rfl (Quiet.guardT rfl rfl fun g365 p365 => Q.move rfl) ?_
                          refine XT.q rfl rfl (Quiet.guardT rfl rfl fun g366 p366 => Q.eql (lzv rfl rfl) rfl) ?_
                          refine XT.q rfl rfl (Q.and rfl (fun hp => lzv hp rfl)) ?_
                          refine XT.q rfl rfl (Q.move rfl) ?_
                          refine XT.q rfl rfl (Quiet.guardT rfl rfl fun g369 p369 => Q.move rfl) ?_
                          refine XT.q rfl rfl (Quiet.guardT rfl rfl fun g370 p370 => Q.eql (lzv rfl rfl) rfl) ?_
                          refine XT.q rfl rfl (Q.and rfl (fun hp => lzv hp rfl)) ?_
                          refine XT.q rfl rfl (Q.move rfl) ?_
                          refine XT.callS rfl rfl rfl rfl rfl Try.call13 rfl (.n) rfl (awake11) (fun v373 s373 R373 => ?_) XT.stop
                          obtain ⟨rfl, rfl⟩ := R373
                          dsimp only [List.cons_append, List.nil_append]
                          refine ⟨inferInstance, ?_⟩
                          refine XT.q rfl rfl (Q.and rfl (fun _ => rfl)) ?_
                          refine XT.q rfl rfl (Q.assign rfl) ?_
                          refine XT.done ?_
                          exact mtr86 (()) _ _ trivial (.c rfl (.base 37 rfl rfl)) inferInstance
                    · skip
                      refine XT.makeS encI (0) rfl rfl rfl rfl rfl rfl rfl rfl (by omega) (by omega) (fun _ => rfl) rfl rfl rfl (by dsimp only [encI]; infer_instance) (fun v355 h355 O355 => ⟨inferInstance, ?_⟩) XT.stop
                      refine XT.q rfl rfl (Quiet.guardT rfl rfl fun g356 p356 => Q.build [_, _] (.c 0 1 rfl rfl rfl (.n _))) ?_
                      refine XT.callS rfl rfl rfl rfl rfl Try.call39 rfl (.n) rfl (tariff11) (fun v352 s352 R352 => ?_) ?_
                      · skip
                        obtain ⟨vp2, vt2, kp2, kt2, rfl, rfl, OPP2, OTT2⟩ := R352
                        dsimp only [List.cons_append, List.nil_append]
                        refine ⟨inferInstance, ?_⟩
                        refine XT.makeS encI (0) rfl rfl rfl rfl rfl rfl rfl rfl (by omega) (by omega) (fun _ => rfl) rfl rfl rfl (by dsimp only [encI]; infer_instance) (fun v353 h353 O353 => ⟨inferInstance, ?_⟩) XT.stop
                        refine XT.q rfl rfl (Quiet.guardT rfl rfl fun g354 p354 => Q.build [_, _] (.c 0 1 rfl rfl rfl (.n _))) ?_
                        refine XT.litS [_, _, _, _] [_, _, _, _] [(v353, ⟨List.replicate (Int.toNat 1000) 0, 0⟩), (v355, ⟨List.replicate (Int.toNat 1001) 0, 0⟩)] encUse rfl rfl rfl rfl rfl (by rfl) (by rfl) rfl (by rfl) (by exact .c 0 2 (lzv rfl rfl) rfl rfl (.c 2 2 (lzv rfl rfl) rfl rfl (.n _))) (fun _ => rfl) (by rfl) rfl (by infer_instance) rfl (fun v357 h357 O357 => ⟨inferInstance, ?_⟩) XT.stop
                        refine XT.callS rfl rfl rfl rfl rfl Try.call21 rfl (.c rfl (.c rfl .n)) rfl (billsB exT vp2 vt2 kp2 kt2 v353 ⟨List.replicate (Int.toNat 1000) 0, 0⟩ h353 v355 ⟨List.replicate (Int.toNat 1001) 0, 0⟩ h355 v357 h357 (by decide) (by decide) (by first | omega | decide | exact tiers_len k (by omega) | (simp only [List.length_cons, List.length_nil]; omega) | (simp only [List.length_replicate]; omega) | (simp only [List.length_replicate]; decide)) (by first | omega | decide | exact tiers_len k (by omega) | (simp only [List.length_cons, List.length_nil]; omega) | (simp only [List.length_replicate]; omega) | (simp only [List.length_replicate]; decide))) (fun v358 s358 R358 => ?_) XT.stop
                        obtain ⟨rfl, rfl⟩ := R358
                        dsimp only [List.cons_append, List.nil_append]
                        refine ⟨inferInstance, ?_⟩
                        refine XT.q rfl rfl (Q.and rfl (fun _ => rfl)) ?_
                        refine XT.q rfl rfl (Q.move rfl) ?_
                        refine XT.q rfl rfl (Quiet.guardT rfl rfl fun g361 p361 => Q.move rfl) ?_
                        refine XT.q rfl rfl (Quiet.guardT rfl rfl fun g362 p362 => Q.eql (lzv rfl rfl) rfl) ?_
                        refine XT.q rfl rfl (Q.and rfl (fun hp => lzv hp rfl)) ?_
                        refine XT.q rfl rfl (Q.move rfl) ?_
                        refine XT.q rfl rfl (Quiet.guardT rfl rfl fun g365 p365 => Q.move rfl) ?_
                        refine XT.q rfl rfl (Quiet.guardT rfl rfl fun g366 p366 => Q.eql (lzv rfl rfl) rfl) ?_
                        refine XT.q rfl rfl (Q.and rfl (fun hp => lzv hp rfl)) ?_
                        refine XT.q rfl rfl (Q.move rfl) ?_
                        refine XT.q rfl rfl (Quiet.guardT rfl rfl fun g369 p369 => Q.move rfl) ?_
                        refine XT.q rfl rfl (Quiet.guardT rfl rfl fun g370 p370 => Q.eql (lzv rfl rfl) rfl) ?_
                        refine XT.q rfl rfl (Q.and rfl (fun hp => lzv hp rfl)) ?_
                        refine XT.q rfl rfl (Q.move rfl) ?_
                        refine XT.callS rfl rfl rfl rfl rfl Try.call13 rfl (.n) rfl (awake11) (fun v373 s373 R373 => ?_) XT.stop
                        obtain ⟨rfl, rfl⟩ := R373
                        dsimp only [List.cons_append, List.nil_append]
                        refine ⟨inferInstance, ?_⟩
                        refine XT.q rfl rfl (Q.and rfl (fun _ => rfl)) ?_
                        refine XT.q rfl rfl (Q.assign rfl) ?_
                        refine XT.done ?_
                        exact mtr86 (()) _ _ trivial (.c rfl (.base 37 rfl rfl)) inferInstance
                      · skip
                        refine XT.makeS encI (0) rfl rfl rfl rfl rfl rfl rfl rfl (by omega) (by omega) (fun _ => rfl) rfl rfl rfl (by dsimp only [encI]; infer_instance) (fun v353 h353 O353 => ⟨inferInstance, ?_⟩) XT.stop
                        refine XT.q rfl rfl (Quiet.guardT rfl rfl fun g354 p354 => Q.build [_, _] (.c 0 1 rfl rfl rfl (.n _))) ?_
                        refine XT.callS rfl rfl rfl rfl rfl Try.call39 rfl (.n) rfl (tariff11) (fun v352 s352 R352 => ?_) ?_
                        · skip
                          obtain ⟨vp2, vt2, kp2, kt2, rfl, rfl, OPP2, OTT2⟩ := R352
                          dsimp only [List.cons_append, List.nil_append]
                          refine ⟨inferInstance, ?_⟩
                          refine XT.litS [_, _, _, _] [_, _, _, _] [(v353, ⟨List.replicate (Int.toNat 1000) 0, 0⟩), (v355, ⟨List.replicate (Int.toNat 1001) 0, 0⟩)] encUse rfl rfl rfl rfl rfl (by rfl) (by rfl) rfl (by rfl) (by exact .c 0 2 (lzv rfl rfl) rfl rfl (.c 2 2 (lzv rfl rfl) rfl rfl (.n _))) (fun _ => rfl) (by rfl) rfl (by infer_instance) rfl (fun v357 h357 O357 => ⟨inferInstance, ?_⟩) XT.stop
                          refine XT.callS rfl rfl rfl rfl rfl Try.call21 rfl (.c rfl (.c rfl .n)) rfl (billsB exT vp2 vt2 kp2 kt2 v353 ⟨List.replicate (Int.toNat 1000) 0, 0⟩ h353 v355 ⟨List.replicate (Int.toNat 1001) 0, 0⟩ h355 v357 h357 (by decide) (by decide) (by first | omega | decide | exact tiers_len k (by omega) | (simp only [List.length_cons, List.length_nil]; omega) | (simp only [List.length_replicate]; omega) | (simp only [List.length_replicate]; decide)) (by first | omega | decide | exact tiers_len k (by omega) | (simp only [List.length_cons, List.length_nil]; omega) | (simp only [List.length_replicate]; omega) | (simp only [List.length_replicate]; decide))) (fun v358 s358 R358 => ?_) XT.stop
                          obtain ⟨rfl, rfl⟩ := R358
                          dsimp only [List.cons_append, List.nil_append]
                          refine ⟨inferInstance, ?_⟩
                          refine XT.q rfl rfl (Q.and rfl (fun _ => rfl)) ?_
                          refine XT.q rfl rfl (Q.move rfl) ?_
                          refine XT.q rfl rfl (Quiet.guardT rfl rfl fun g361 p361 => Q.move rfl) ?_
                          refine XT.q rfl rfl (Quiet.guardT rfl rfl fun g362 p362 => Q.eql (lzv rfl rfl) rfl) ?_
                          refine XT.q rfl rfl (Q.and rfl (fun hp => lzv hp rfl)) ?_
                          refine XT.q rfl rfl (Q.move rfl) ?_
                          refine XT.q rfl rfl (Quiet.guardT rfl rfl fun g365 p365 => Q.move rfl) ?_
                          refine XT.q rfl rfl (Quiet.guardT rfl rfl fun g366 p366 => Q.eql (lzv rfl rfl) rfl) ?_
                          refine XT.q rfl rfl (Q.and rfl (fun hp => lzv hp rfl)) ?_
                          refine XT.q rfl rfl (Q.move rfl) ?_
                          refine XT.q rfl rfl (Quiet.guardT rfl rfl fun g369 p369 => Q.move rfl) ?_
                          refine XT.q rfl rfl (Quiet.guardT rfl rfl fun g370 p370 => Q.eql (lzv rfl rfl) rfl) ?_
                          refine XT.q rfl rfl (Q.and rfl (fun hp => lzv hp rfl)) ?_
                          refine XT.q rfl rfl (Q.move rfl) ?_
                          refine XT.callS rfl rfl rfl rfl rfl Try.call13 rfl (.n) rfl (awake11) (fun v373 s373 R373 => ?_) XT.stop
                          obtain ⟨rfl, rfl⟩ := R373
                          dsimp only [List.cons_append, List.nil_append]
                          refine ⟨inferInstance, ?_⟩
                          refine XT.q rfl rfl (Q.and rfl (fun _ => rfl)) ?_
                          refine XT.q rfl rfl (Q.assign rfl) ?_
                          refine XT.done ?_
                          exact mtr86 (()) _ _ trivial (.c rfl (.base 37 rfl rfl)) inferInstance
                        · skip
                          refine XT.litS [_, _, _, _] [_, _, _, _] [(v353, ⟨List.replicate (Int.toNat 1000) 0, 0⟩), (v355, ⟨List.replicate (Int.toNat 1001) 0, 0⟩)] encUse rfl rfl rfl rfl rfl (by rfl) (by rfl) rfl (by rfl) (by exact .c 0 2 (lzv rfl rfl) rfl rfl (.c 2 2 (lzv rfl rfl) rfl rfl (.n _))) (fun _ => rfl) (by rfl) rfl (by infer_instance) rfl (fun v357 h357 O357 => ⟨inferInstance, ?_⟩) XT.stop
                          refine XT.callS rfl rfl rfl rfl rfl Try.call39 rfl (.n) rfl (tariff11) (fun v352 s352 R352 => ?_) XT.stop
                          obtain ⟨vp2, vt2, kp2, kt2, rfl, rfl, OPP2, OTT2⟩ := R352
                          dsimp only [List.cons_append, List.nil_append]
                          refine ⟨inferInstance, ?_⟩
                          refine XT.callS rfl rfl rfl rfl rfl Try.call21 rfl (.c rfl (.c rfl .n)) rfl (billsB exT vp2 vt2 kp2 kt2 v353 ⟨List.replicate (Int.toNat 1000) 0, 0⟩ h353 v355 ⟨List.replicate (Int.toNat 1001) 0, 0⟩ h355 v357 h357 (by decide) (by decide) (by first | omega | decide | exact tiers_len k (by omega) | (simp only [List.length_cons, List.length_nil]; omega) | (simp only [List.length_replicate]; omega) | (simp only [List.length_replicate]; decide)) (by first | omega | decide | exact tiers_len k (by omega) | (simp only [List.length_cons, List.length_nil]; omega) | (simp only [List.length_replicate]; omega) | (simp only [List.length_replicate]; decide))) (fun v358 s358 R358 => ?_) XT.stop
                          obtain ⟨rfl, rfl⟩ := R358
                          dsimp only [List.cons_append, List.nil_append]
                          refine ⟨inferInstance, ?_⟩
                          refine XT.q rfl rfl (Q.and rfl (fun _ => rfl)) ?_
                          refine XT.q rfl rfl (Q.move rfl) ?_
                          refine XT.q rfl rfl (Quiet.guardT rfl rfl fun g361 p361 => Q.move rfl) ?_
                          refine XT.q rfl rfl (Quiet.guardT rfl rfl fun g362 p362 => Q.eql (lzv rfl rfl) rfl) ?_
                          refine XT.q rfl rfl (Q.and rfl (fun hp => lzv hp rfl)) ?_
                          refine XT.q rfl rfl (Q.move rfl) ?_
                          refine XT.q rfl rfl (Quiet.guardT rfl rfl fun g365 p365 => Q.move rfl) ?_
                          refine XT.q rfl rfl (Quiet.guardT rfl rfl fun g366 p366 => Q.eql (lzv rfl rfl) rfl) ?_
                          refine XT.q rfl rfl (Q.and rfl (fun hp => lzv hp rfl)) ?_
                          refine XT.q rfl rfl (Q.move rfl) ?_
                          refine XT.q rfl rfl (Quiet.guardT rfl rfl fun g369 p369 => Q.move rfl) ?_
                          refine XT.q rfl rfl (Quiet.guardT rfl rfl fun g370 p370 => Q.eql (lzv rfl rfl) rfl) ?_
                          refine XT.q rfl rfl (Q.and rfl (fun hp => lzv hp rfl)) ?_
                          refine XT.q rfl rfl (Q.move rfl) ?_
                          refine XT.callS rfl rfl rfl rfl rfl Try.call13 rfl (.n) rfl (awake11) (fun v373 s373 R373 => ?_) XT.stop
                          obtain ⟨rfl, rfl⟩ := R373
                          dsimp only [List.cons_append, List.nil_append]
                          refine ⟨inferInstance, ?_⟩
                          refine XT.q rfl rfl (Q.and rfl (fun _ => rfl)) ?_
                          refine XT.q rfl rfl (Q.assign rfl) ?_
                          refine XT.done ?_
                          exact mtr86 (()) _ _ trivial (.c rfl (.base 37 rfl rfl)) inferInstance
end Go.X
