/- A part of the proof: a small program logic, plain laws and contracts of functions, each proved by a walk through its operations. No condition but those that stand in each theorem. -/
import Derived.Test.YtmpbiclgfnjjeaaA3
set_option linter.unusedSimpArgs false
set_option linter.unusedVariables false
set_option maxRecDepth 20000
namespace Go.X
open Go.Proofs
theorem made7 (vl : Value) (hl : PHeap) (l : List UInt8) [sl : Arr vl encU8 1 hl l] : Spec Try.prog 9 #[vl] [] [hl]
    (fun v hs => ∃ (h : Hall) (vr vw vb vc : Value) (kr kw kb kc : PHeap), v = .agg #[vr, vw, vb, vc] ∧ hs = [kr, kw, kb, kc] ∧ OArr vr encRoom 2 48 kr h.rooms ∧ OArr vw encWall 3 50 kw h.walls ∧ OArr vb encBranch 3 38 kb h.branches ∧ OArr vc encCooler 5 52 kc h.coolers ∧ MOk h) := by
  have nR : OArr (.slice none 0 0) encRoom 2 48 emp ([] : List HRoom) := OArr.nil (fun _ => rfl)
  have nW : OArr (.slice none 0 0) encWall 3 50 emp ([] : List HWall) := OArr.nil (fun _ => rfl)
  have nB : OArr (.slice none 0 0) encBranch 3 38 emp ([] : List HBranch) := OArr.nil (fun _ => rfl)
  have nC : OArr (.slice none 0 0) encCooler 5 52 emp ([] : List HCooler) := OArr.nil (fun _ => rfl)
  refine Spec.intro (fn := Try.f9) (N := 163) Try.func9 rfl Try.ntmps9 rfl fun B => ?_
  refine XK.seq ?_
  refine XK.region rfl ?_
  refine XO.alloc fun b2 => ?_
  refine XO.done ?_
  refine XK.seq ?_
  refine XK.region rfl ?_
  refine XO.q (Q.move rfl) ?_
  refine XO.q (Q.build [_, _] (.c 0 1 rfl rfl rfl (.n _))) ?_
  refine XO.box rfl fun b14 => ?_
  refine XO.q (Q.assign rfl) ?_
  refine XO.done ?_
  refine XK.seq ?_
  refine XK.region rfl ?_
  refine XO.alloc fun b4 => ?_
  refine XO.done ?_
  refine XK.seq ?_
  refine XK.region rfl ?_
  refine XO.q (Q.move rfl) ?_
  refine XO.callB b14 Try.call35 rfl rfl rfl (next7 b14 vl hl l (0) (4) (by omega) (by omega) (by omega)) fun v16 s16 R16 => ?_
  obtain ⟨rfl, n16, rfl, h16⟩ := R16
  dsimp only [List.cons_append, List.nil_append]
  refine XO.q (Q.add rfl rfl ⟨by omega, by omega⟩) ?_
  rw [show ((1 : Int) + (n16 : Int)) = ((1 + n16 : Nat) : Int) from rfl]
  obtain ⟨n, en⟩ : ∃ n, n = 1 + n16 := ⟨_, rfl⟩
  rw [← en]
  refine XO.q (Q.assign rfl) ?_
  refine XO.done ?_
  refine XK.seq ?_
  refine XK.region rfl ?_
  refine XO.q (Q.move rfl) ?_
  refine XO.make encI (0) rfl rfl rfl (by omega) (by omega) (fun _ => rfl) rfl rfl rfl (by dsimp only [encI]; infer_instance) fun v19 h19 O19 => ?_
  refine XO.q (Q.assign rfl) ?_
  refine XO.done ?_
  refine XK.seq ?_
  refine XK.seq ?_
  refine XK.region rfl ?_
  refine XO.q (Q.move rfl) ?_
  refine XO.callB b14 Try.call35 rfl rfl rfl (next7 b14 vl hl l (0 + 1) (7) (by omega) (by omega) (by omega)) fun v21 s21 R21 => ?_
  obtain ⟨rfl, n21, rfl, h21⟩ := R21
  dsimp only [List.cons_append, List.nil_append]
  refine XO.q (Q.move rfl) ?_
  refine XO.done ?_
  refine XK.block ?_
  refine XK.while (X := Nat × Nat × List HWall × Value × PHeap × List Int × PHeap) [7, 22, 23, 24, 25, 26, 27, 28, 29, 30, 31, 32, 33, 34, 35, 36, 37, 38, 39, 40, 41, 42, 43, 44, 45, 46, 47, 48, 49, 50, 51, 52, 53, 54, 55, 56, 57, 58, 59, 60, 61, 62, 63, 64, 65, 66, 67, 68] (fun ⟨k, j, ws, vW, kW, sl, kS⟩ => [(22, some (.int .i64 (k : Nat)))]) (fun ⟨k, j, ws, vW, kW, sl, kS⟩ => [blk b14 [vl, .int .i64 ((j : Nat) : Int)] 99, blk b4 [.slice none 0 0, vW, .slice none 0 0, .slice none 0 0] 29, kW, kS]) (fun ⟨k, j, ws, vW, kW, sl, kS⟩ => k ≤ n21 ∧ j ≤ 2 + k * 3 ∧ ws.length = k ∧ Each (fun _ => WOk n) ws ∧ IsAt n sl (wS ws) ∧ OArr vW encWall 3 50 kW ws ∧ OArr v19 encI 1 3 kS sl) (fun ⟨k, j, ws, vW, kW, sl, kS⟩ => n21 - k) (0, 0 + 1 + 1, [], .slice none 0 0, emp, List.replicate n 0, h19) [blk b14 [vl, .int .i64 ((0 + 1 + 1 : Nat) : Int)] 99, blk b4 [.slice none 0 0, .slice none 0 0, .slice none 0 0, .slice none 0 0] 29, emp, h19] rfl ⟨by omega, by omega, rfl, Each.nil, IsAt.zero n, nW, O19⟩ (.c rfl (.base 0 rfl rfl)) ?_
  rintro ⟨k, j, ws, vW, kW, sl, kS⟩ ⟨hk, hj, hwl, hW, hS, OW, OS⟩ ih0
  dsimp only [List.cons_append, List.nil_append] at ih0 ⊢
  refine XK.seq ?_
  refine XK.region rfl ?_
  refine XO.q (Q.lss rfl rfl) ?_
  refine XO.done ?_
  refine XK.seq ?_
  refine XK.if rfl (fun c0 => ?_) (fun c0 => ?_)
  · have _t0 := True.intro
    refine XK.skip ?_
    refine XK.seq ?_
    refine XK.block ?_
    refine XK.seq ?_
    refine XK.region rfl ?_
    refine XO.q (Q.move rfl) ?_
    refine XO.q (Q.move rfl) ?_
    refine XO.callB b14 Try.call35 rfl rfl rfl (next7 b14 vl hl l (j) (n) (by omega) (by omega) (by omega)) fun v26 s26 R26 => ?_
    obtain ⟨rfl, n26, rfl, h26⟩ := R26
    dsimp only [List.cons_append, List.nil_append]
    refine XO.q (Q.move rfl) ?_
    refine XO.q (Q.move rfl) ?_
    refine XO.q (Q.add rfl rfl ⟨by omega, by omega⟩) ?_
    rw [show ((n : Int) + 1) = ((n + 1 : Nat) : Int) from rfl]
    refine XO.callB b14 Try.call35 rfl rfl rfl (next7 b14 vl hl l (j + 1) (n + 1) (by omega) (by omega) (by omega)) fun v30 s30 R30 => ?_
    obtain ⟨rfl, n30, rfl, h30⟩ := R30
    dsimp only [List.cons_append, List.nil_append]
    refine XO.q (Q.sub rfl rfl ⟨by omega, by omega⟩) ?_
    refine XO.q (Q.move rfl) ?_
    refine XO.callB b14 Try.call35 rfl rfl rfl (next7 b14 vl hl l (j + 1 + 1) (40) (by omega) (by omega) (by omega)) fun v33 s33 R33 => ?_
    obtain ⟨rfl, n33, rfl, h33⟩ := R33
    dsimp only [List.cons_append, List.nil_append]
    refine XO.q (Q.build [_, _, _] (.c 0 1 rfl rfl rfl (.c 1 1 rfl rfl rfl (.c 2 1 rfl rfl rfl (.n _))))) ?_
    refine XO.alloc fun b7 => ?_
    refine XO.st rfl rfl rfl ?_
    refine XO.done ?_
    refine XK.seq ?_
    refine XK.seq ?_
    refine XK.region rfl ?_
    refine XO.q (Q.fieldAddr rfl) ?_
    refine XO.q (Q.ld rfl rfl) ?_
    refine XO.q (Q.fieldAddr rfl) ?_
    refine XO.q (Q.ld rfl rfl) ?_
    refine XO.q (Q.eql rfl rfl) ?_
    refine XO.done ?_
    refine XK.meet (X := Int) [40] (fun y => []) (fun y => [blk b7 [.int .i64 (n26 : Nat), .int .i64 (y), .int .i64 (n33 : Nat)] 50]) (fun y => -1 ≤ y ∧ y < (n : Int) ∧ y ≠ (n26 : Int)) [blk b7 [.int .i64 (n26 : Nat), .int .i64 ((n30 : Int) - 1), .int .i64 (n33 : Nat)] 50] ?_ ?_
    · rintro y ⟨hy0, hy1, hy2⟩
      dsimp only [List.cons_append, List.nil_append]
      have hsl := hS.1
      have hs26 := hS.2 n26 (by omega)
      change sl.getD n26 default = _ at hs26
      have hwr := wS_rng hW n26
      refine XK.seq ?_
      refine XK.drawn [0, 1, 2, 3, 5, 6, 7, 8] [b7] [] (.q 0 (.q 1 (.q 2 (.q 3 (.q 5 (.q 6 (.br 4 true (.q 7 (.q 8 (.br 9 false .done .stop))) .stop))))))) Try.mixed rfl (by kernel_rfl) ?_
      refine XT.q rfl rfl (Q.move rfl) ?_
      refine XT.q rfl rfl (Q.fieldAddr rfl) ?_
      refine XT.q rfl rfl (Q.ld rfl rfl) ?_
      refine XT.ix rfl rfl rfl rfl (by omega) (by omega) fun i44 => ?_
      refine XT.q rfl rfl (Q.fieldAddr rfl) ?_
      refine XT.q rfl rfl (Q.ld rfl rfl) ?_
      refine XT.qs rfl rfl (Q.ldE rfl (by first | assumption | omega) rfl) ⟨inferInstance, ?_⟩ XT.stop
      refine XT.q rfl rfl (Q.add rfl rfl ⟨by omega, by omega⟩) ?_
      refine XT.ix rfl rfl rfl rfl (by omega) (by omega) fun i49 => ?_
      refine XT.stE _ rfl rfl rfl rfl rfl (by assumption) rfl rfl (fun h10_9 O10_9 => ⟨inferInstance, ?_⟩) XT.stop
      refine XT.done ?_
      refine XK.seq ?_
      refine XK.seq ?_
      refine XK.region rfl ?_
      refine XO.q (Q.fieldAddr rfl) ?_
      refine XO.q (Q.ld rfl rfl) ?_
      refine XO.q (Q.geq rfl rfl) ?_
      refine XO.done ?_
      refine XK.if rfl (fun c2 => ?_) (fun c2 => ?_)
      · have _t2 := True.intro
        have hA := hS.add (a := (n26 : Int)) (p := (n33 : Int)) (by omega) (by omega)
        have hAl := hA.1
        have hAy := hA.2 y.toNat (by omega)
        change (sl.set n26 (sl.getD n26 default + n33)).length = n at hAl
        change (sl.set n26 (sl.getD n26 default + n33)).getD y.toNat default = wS ws y.toNat + (if (n26 : Int) = (y.toNat : Nat) then (n33 : Int) else 0) at hAy
        rw [if_neg (by omega)] at hAy
        have hwy := wS_rng hW y.toNat
        refine XK.drawn [0, 1, 2, 3, 5, 6, 7, 8] [b7] [] (.q 0 (.q 1 (.q 2 (.q 3 (.q 5 (.q 6 (.br 4 true (.q 7 (.q 8 (.br 9 false .done .stop))) .stop))))))) Try.mixed rfl (by kernel_rfl) ?_
        refine XT.q rfl rfl (Q.move rfl) ?_
        refine XT.q rfl rfl (Q.fieldAddr rfl) ?_
        refine XT.q rfl rfl (Q.ld rfl rfl) ?_
        refine XT.ix rfl rfl rfl rfl (by omega) (by omega) fun i56 => ?_
        refine XT.q rfl rfl (Q.fieldAddr rfl) ?_
        refine XT.q rfl rfl (Q.ld rfl rfl) ?_
        refine XT.qs rfl rfl (Q.ldE rfl (by first | assumption | omega) rfl) ⟨inferInstance, ?_⟩ XT.stop
        refine XT.q rfl rfl (Q.add rfl rfl ⟨by omega, by omega⟩) ?_
        refine XT.ix rfl rfl rfl rfl (by omega) (by omega) fun i61 => ?_
        refine XT.stE _ rfl rfl rfl rfl rfl (by assumption) rfl rfl (fun h12_9 O12_9 => ⟨inferInstance, ?_⟩) XT.stop
        refine XT.done ?_
        refine XK.region rfl ?_
        refine XO.q (Q.fieldAddr rfl) ?_
        refine XO.q (Q.ld rfl rfl) ?_
        refine XO.q (Q.ldA [_, _, _] rfl rfl rfl) ?_
        refine XO.lit [_, _, _] [_, _, _] [⟨n26, y, n33⟩] encWall (by rfl) (by rfl) rfl (by rfl) (by exact .c 0 3 rfl rfl rfl (.n _)) (fun _ => rfl) (by rfl) rfl (by infer_instance) rfl fun v65 h65 O65 => ?_
        refine XO.append rfl rfl rfl rfl (by simp only [List.length_cons, List.length_nil]; omega) fun v66 h66 O66 => ?_
        refine XO.q (Q.fieldAddr rfl) ?_
        refine XO.st rfl rfl rfl ?_
        refine XO.done ?_
        refine XK.inBlock ?_
        refine XK.region rfl ?_
        refine XO.q (Q.add rfl rfl ⟨by omega, by omega⟩) ?_
        refine XO.q (Q.move rfl) ?_
        refine XO.done ?_
        exact ih0 (k + 1, j + 1 + 1 + 1, ws ++ [⟨n26, y, n33⟩], v66, h66, _, h12_9) _ _ ⟨by dsimp only; omega, by dsimp only; omega, by dsimp only; rw [List.length_append, hwl]; rfl, hW.snoc ⟨by dsimp only; omega, by dsimp only; omega, by dsimp only; omega, by dsimp only; omega⟩, hS.wall (by omega) (by omega) c2 (by omega) (Ne.symm hy2), O66, O12_9⟩ (by first | omega | (dsimp only; omega)) (.c rfl (.base 97 rfl rfl)) inferInstance
      · have _t2 := True.intro
        refine XK.skip ?_
        refine XK.region rfl ?_
        refine XO.q (Q.fieldAddr rfl) ?_
        refine XO.q (Q.ld rfl rfl) ?_
        refine XO.q (Q.ldA [_, _, _] rfl rfl rfl) ?_
        refine XO.lit [_, _, _] [_, _, _] [⟨n26, y, n33⟩] encWall (by rfl) (by rfl) rfl (by rfl) (by exact .c 0 3 rfl rfl rfl (.n _)) (fun _ => rfl) (by rfl) rfl (by infer_instance) rfl fun v65 h65 O65 => ?_
        refine XO.append rfl rfl rfl rfl (by simp only [List.length_cons, List.length_nil]; omega) fun v66 h66 O66 => ?_
        refine XO.q (Q.fieldAddr rfl) ?_
        refine XO.st rfl rfl rfl ?_
        refine XO.done ?_
        refine XK.inBlock ?_
        refine XK.region rfl ?_
        refine XO.q (Q.add rfl rfl ⟨by omega, by omega⟩) ?_
        refine XO.q (Q.move rfl) ?_
        refine XO.done ?_
        exact ih0 (k + 1, j + 1 + 1 + 1, ws ++ [⟨n26, y, n33⟩], v66, h66, _, h10_9) _ _ ⟨by dsimp only; omega, by dsimp only; omega, by dsimp only; rw [List.length_append, hwl]; rfl, hW.snoc ⟨by dsimp only; omega, by dsimp only; omega, by dsimp only; omega, by dsimp only; omega⟩, hS.wall1 (a := (n26 : Int)) (b := y) (p := (n33 : Int)) (by omega) (by omega) (by omega), O66, O10_9⟩ (by first | omega | (dsimp only; omega)) (.c rfl (.base 88 rfl rfl)) inferInstance
    · intro mt1
      dsimp only [List.cons_append, List.nil_append] at mt1
      refine XK.if rfl (fun c1 => ?_) (fun c1 => ?_)
      · have _t1 := True.intro
        refine XK.region rfl ?_
        refine XO.q (Q.fieldAddr rfl) ?_
        refine XO.st rfl rfl rfl ?_
        refine XO.done ?_
        exact mt1 (-1) _ _ ⟨by omega, by omega, by omega⟩ (.base 1 rfl rfl) inferInstance
      · have _t1 := True.intro
        refine XK.skip ?_
        exact mt1 ((n30 : Int) - 1) _ _ ⟨by omega, by omega, by omega⟩ (.base 0 rfl rfl) inferInstance
  · have _t0 := True.intro
    refine XK.exit rfl ?_
    refine XK.seq ?_
    refine XK.seq ?_
    refine XK.region rfl ?_
    refine XO.q (Q.move rfl) ?_
    refine XO.callB b14 Try.call35 rfl rfl rfl (next7 b14 vl hl l (j) (7) (by omega) (by omega) (by omega)) fun v70 s70 R70 => ?_
    obtain ⟨rfl, n70, rfl, h70⟩ := R70
    dsimp only [List.cons_append, List.nil_append]
    refine XO.q (Q.move rfl) ?_
    refine XO.done ?_
    refine XK.block ?_
    refine XK.while (X := Nat × Nat × List HBranch × Value × PHeap) [8, 9, 71, 72, 73, 74, 75, 76, 77, 78, 79, 80, 81, 82, 83, 84, 85, 86, 87, 88, 89, 90, 91, 92, 93, 94] (fun ⟨i, q, bs, vB, kB⟩ => [(71, some (.int .i64 (i : Nat)))]) (fun ⟨i, q, bs, vB, kB⟩ => [blk b14 [vl, .int .i64 ((q : Nat) : Int)] 99, blk b4 [.slice none 0 0, vW, vB, .slice none 0 0] 29, kB]) (fun ⟨i, q, bs, vB, kB⟩ => i ≤ n70 ∧ q ≤ 30 + i * 4 ∧ bs.length = i ∧ Each BOk bs ∧ OArr vB encBranch 3 38 kB bs) (fun ⟨i, q, bs, vB, kB⟩ => n70 - i) (0, j + 1, [], .slice none 0 0, emp) [blk b14 [vl, .int .i64 ((j + 1 : Nat) : Int)] 99, blk b4 [.slice none 0 0, vW, .slice none 0 0, .slice none 0 0] 29, emp] rfl ⟨by omega, by omega, rfl, Each.nil, nB⟩ (.c rfl (.base 0 rfl rfl)) ?_
    rintro ⟨i, q, bs, vB, kB⟩ ⟨hi, hq, hbl, hB, OB⟩ ih1
    dsimp only [List.cons_append, List.nil_append] at ih1 ⊢
    refine XK.seq ?_
    refine XK.region rfl ?_
    refine XO.q (Q.lss rfl rfl) ?_
    refine XO.done ?_
    refine XK.seq ?_
    refine XK.if rfl (fun c3 => ?_) (fun c3 => ?_)
    · have _t3 := True.intro
      refine XK.skip ?_
      refine XK.seq ?_
      refine XK.block ?_
      refine XK.seq ?_
      refine XK.region rfl ?_
      refine XO.q (Q.move rfl) ?_
      refine XO.q (Q.assign rfl) ?_
      refine XO.done ?_
      refine XK.seq ?_
      refine XK.region rfl ?_
      refine XO.q (Q.move rfl) ?_
      refine XO.callB b14 Try.call35 rfl rfl rfl (next7 b14 vl hl l (q) (101) (by omega) (by omega) (by omega)) fun v75 s75 R75 => ?_
      obtain ⟨rfl, n75, rfl, h75⟩ := R75
      dsimp only [List.cons_append, List.nil_append]
      refine XO.q (Q.move rfl) ?_
      refine XO.callB b14 Try.call35 rfl rfl rfl (next7 b14 vl hl l (q + 1) (30) (by omega) (by omega) (by omega)) fun v77 s77 R77 => ?_
      obtain ⟨rfl, n77, rfl, h77⟩ := R77
      dsimp only [List.cons_append, List.nil_append]
      refine XO.q (Q.move rfl) ?_
      refine XO.callB b14 Try.call35 rfl rfl rfl (next7 b14 vl hl l (q + 1 + 1) (2) (by omega) (by omega) (by omega)) fun v79 s79 R79 => ?_
      obtain ⟨rfl, n79, rfl, h79⟩ := R79
      dsimp only [List.cons_append, List.nil_append]
      have hm77_79 : n77 * n79 ≤ 29 * 1 := Nat.mul_le_mul (by omega) (by omega)
      have em77_79 : (n77 : Int) * (n79 : Int) = ((n77 * n79 : Nat) : Int) := (Int.natCast_mul ..).symm
      refine XO.q (Q.mul rfl rfl ⟨by omega, by omega⟩) ?_
      refine XO.q (Q.build [_, _, _] (.c 0 1 rfl rfl rfl (.c 1 1 rfl rfl rfl (.c 2 1 rfl rfl rfl (.n _))))) ?_
      refine XO.alloc fun b9 => ?_
      refine XO.st rfl rfl rfl ?_
      refine XO.done ?_
      refine XK.seq ?_
      refine XK.seq ?_
      refine XK.region rfl ?_
      refine XO.q (Q.move rfl) ?_
      refine XO.q (Q.gtr rfl rfl) ?_
      refine XO.done ?_
      refine XK.meet (X := Int × Nat) [84, 85, 86, 87] (fun ⟨y, q2⟩ => []) (fun ⟨y, q2⟩ => [blk b14 [vl, .int .i64 ((q2 : Nat) : Int)] 99, blk b9 [.int .i64 (y), .int .i64 (n75 : Nat), .int .i64 ((n77 : Int) * (n79 : Int))] 38]) (fun ⟨y, q2⟩ => (if i = 0 then y = -1 else 0 ≤ y ∧ y < i) ∧ q2 ≤ q + 4) [blk b14 [vl, .int .i64 ((q + 1 + 1 + 1 : Nat) : Int)] 99, blk b9 [.int .i64 (-1), .int .i64 (n75 : Nat), .int .i64 ((n77 : Int) * (n79 : Int))] 38] ?_ ?_
      · rintro ⟨y, q2⟩ ⟨hy, hq2⟩
        dsimp only [List.cons_append, List.nil_append]
        refine XK.region rfl ?_
        refine XO.q (Q.fieldAddr rfl) ?_
        refine XO.q (Q.ld rfl rfl) ?_
        refine XO.q (Q.ldA [_, _, _] rfl rfl rfl) ?_
        refine XO.lit [_, _, _] [_, _, _] [⟨y, n75, (n77 : Int) * (n79 : Int)⟩] encBranch (by rfl) (by rfl) rfl (by rfl) (by exact .c 0 3 rfl rfl rfl (.n _)) (fun _ => rfl) (by rfl) rfl (by infer_instance) rfl fun v91 h91 O91 => ?_
        refine XO.append rfl rfl rfl rfl (by simp only [List.length_cons, List.length_nil]; omega) fun v92 h92 O92 => ?_
        refine XO.q (Q.fieldAddr rfl) ?_
        refine XO.st rfl rfl rfl ?_
        refine XO.done ?_
        refine XK.inBlock ?_
        refine XK.region rfl ?_
        refine XO.q (Q.add rfl rfl ⟨by omega, by omega⟩) ?_
        refine XO.q (Q.move rfl) ?_
        refine XO.done ?_
        exact ih1 (i + 1, q2, bs ++ [⟨y, n75, (n77 : Int) * (n79 : Int)⟩], v92, h92) _ _ ⟨by dsimp only; omega, by dsimp only; omega, by dsimp only; rw [List.length_append, hbl]; rfl, hB.snoc ⟨by dsimp only; rw [hbl]; exact hy, by dsimp only; omega, by dsimp only; omega⟩, O92⟩ (by first | omega | (dsimp only; omega)) (.c rfl (.base 53 rfl rfl)) inferInstance
      · intro mt4
        dsimp only [List.cons_append, List.nil_append] at mt4
        refine XK.if rfl (fun c4 => ?_) (fun c4 => ?_)
        · have _t4 := True.intro
          refine XK.region rfl ?_
          refine XO.q (Q.move rfl) ?_
          refine XO.q (Q.move rfl) ?_
          refine XO.callB b14 Try.call35 rfl rfl rfl (next7 b14 vl hl l (q + 1 + 1 + 1) (i) (by omega) (by omega) (by omega)) fun v86 s86 R86 => ?_
          obtain ⟨rfl, n86, rfl, h86⟩ := R86
          dsimp only [List.cons_append, List.nil_append]
          refine XO.q (Q.fieldAddr rfl) ?_
          refine XO.st rfl rfl rfl ?_
          refine XO.done ?_
          exact mt4 ((n86 : Nat), q + 1 + 1 + 1 + 1) _ _ ⟨by dsimp only; rw [if_neg (by omega)]; omega, by dsimp only; omega⟩ (.base 4 rfl rfl) inferInstance
        · have _t4 := True.intro
          refine XK.skip ?_
          exact mt4 (-1, q + 1 + 1 + 1) _ _ ⟨by dsimp only; rw [if_pos (by omega)], by dsimp only; omega⟩ (.base 0 rfl rfl) inferInstance
    · have _t3 := True.intro
      refine XK.exit rfl ?_
      refine XK.seq ?_
      refine XK.seq ?_
      refine XK.region rfl ?_
      refine XO.q (Q.fieldAddr rfl) ?_
      refine XO.q (Q.ld rfl rfl) ?_
      refine XO.len rfl fun l97 => ?_
      refine XO.q (Q.gtr rfl rfl) ?_
      refine XO.done ?_
      refine XK.meet (X := Nat × List HCooler × Value × PHeap × List Int × PHeap) [10, 99, 100, 101, 102, 103, 104, 105, 106, 107, 108, 109, 110, 111, 112, 113, 114, 115, 116, 117, 118, 119, 120, 121, 122, 123, 124, 125, 126, 127, 128, 129, 130, 131, 132, 133, 134, 135] (fun ⟨u, cs, vC, kC, sl2, kS2⟩ => []) (fun ⟨u, cs, vC, kC, sl2, kS2⟩ => [blk b14 [vl, .int .i64 ((u : Nat) : Int)] 99, blk b4 [.slice none 0 0, vW, vB, vC] 29, kC, kS2]) (fun ⟨u, cs, vC, kC, sl2, kS2⟩ => u ≤ 100 ∧ cs.length ≤ 6 ∧ Each (fun _ => KOk n bs.length) cs ∧ IsAt n sl2 (fun i => wS ws i + cS cs i) ∧ OArr vC encCooler 5 52 kC cs ∧ OArr v19 encI 1 3 kS2 sl2) [blk b14 [vl, .int .i64 ((q : Nat) : Int)] 99, blk b4 [.slice none 0 0, vW, vB, .slice none 0 0] 29, emp, kS] ?_ ?_
      · rintro ⟨u, cs, vC, kC, sl2, kS2⟩ ⟨hu, hcl, hC, hS2, OC, OS2⟩
        dsimp only [List.cons_append, List.nil_append]
        refine XK.seq ?_
        refine XK.seq ?_
        refine XK.region rfl ?_
        refine XO.q (Q.move rfl) ?_
        refine XO.q (Q.move rfl) ?_
        refine XO.done ?_
        refine XK.block ?_
        refine XK.while (X := Nat × Nat × List HRoom × Value × PHeap) [11, 137, 138, 139, 140, 141, 142, 143, 144, 145, 146, 147, 148, 149, 150, 151, 152, 153, 154, 155, 156, 157, 158, 159, 160, 161] (fun ⟨i, e, rs, vR, kR⟩ => [(137, some (.int .i64 (i : Nat)))]) (fun ⟨i, e, rs, vR, kR⟩ => [blk b14 [vl, .int .i64 ((e : Nat) : Int)] 99, blk b4 [vR, vW, vB, vC] 29, kR]) (fun ⟨i, e, rs, vR, kR⟩ => i ≤ n ∧ e ≤ 200 + i * 3 ∧ rs.length = i ∧ Each (ROk ws cs) rs ∧ OArr vR encRoom 2 48 kR rs) (fun ⟨i, e, rs, vR, kR⟩ => n - i) (0, u, [], .slice none 0 0, emp) [blk b14 [vl, .int .i64 ((u : Nat) : Int)] 99, blk b4 [.slice none 0 0, vW, vB, vC] 29, emp] rfl ⟨by omega, by omega, rfl, Each.nil, nR⟩ (.c rfl (.base 0 rfl rfl)) ?_
        rintro ⟨i, e, rs, vR, kR⟩ ⟨hi2, he, hrl, hR, OR⟩ ih2
        dsimp only [List.cons_append, List.nil_append] at ih2 ⊢
        refine XK.seq ?_
        refine XK.region rfl ?_
        refine XO.q (Q.lss rfl rfl) ?_
        refine XO.done ?_
        refine XK.seq ?_
        refine XK.if rfl (fun c6 => ?_) (fun c6 => ?_)
        · have _t6 := True.intro
          have hs2l := hS2.1
          have hs2i := hS2.2 i (by omega)
          change sl2.getD i default = wS ws i + cS cs i at hs2i
          have hwi := wS_rng hW i
          have hci := cS_rng hC i
          refine XK.skip ?_
          refine XK.seq ?_
          refine XK.block ?_
          refine XK.seq ?_
          refine XK.region rfl ?_
          refine XO.q (Q.move rfl) ?_
          refine XO.q (Q.assign rfl) ?_
          refine XO.done ?_
          refine XK.drawn [0, 1, 2, 3, 4, 5, 6, 7, 9, 13, 11, 12, 15, 16, 17, 20] [b4] [kS2] (.q 0 (.q 1 (.q 2 (.q 3 (.q 4 (.q 5 (.q 6 (.q 7 (.q 9 (.q 13 (.br 8 true (.br 10 true (.q 11 (.q 12 (.br 14 true (.q 15 (.q 16 (.q 17 (.br 18 true (.br 19 true (.q 20 (.br 21 false .done .stop)) .stop) .stop)))) .stop))) .stop) .stop))))))))))) Try.mixed rfl (by kernel_rfl) ?_
          refine XT.q rfl rfl (Q.fieldAddr rfl) ?_
          refine XT.q rfl rfl (Q.ld rfl rfl) ?_
          refine XT.q rfl rfl (Q.move rfl) ?_
          refine XT.q rfl rfl (Q.move rfl) ?_
          refine XT.ix rfl rfl rfl rfl (by omega) (by omega) fun i144 => ?_
          refine XT.q rfl rfl (Q.ldE rfl (by first | assumption | omega) rfl) ?_
          refine XT.q rfl rfl (Q.add rfl rfl ⟨by omega, by omega⟩) ?_
          refine XT.q rfl rfl (Q.move rfl) ?_
          refine XT.q rfl rfl (Q.move rfl) ?_
          refine XT.q rfl rfl (Q.move rfl) ?_
          refine XT.callB b14 rfl rfl Try.call35 rfl rfl rfl (next7 b14 vl hl l (e) (256) (by omega) (by omega) (by omega)) (fun v148 s148 R148 => ?_) XT.stop
          obtain ⟨rfl, n148, rfl, h148⟩ := R148
          dsimp only [List.cons_append, List.nil_append]
          refine ⟨inferInstance, ?_⟩
          refine XT.callB b14 rfl rfl Try.call35 rfl rfl rfl (next7 b14 vl hl l (e + 1) (3) (by omega) (by omega) (by omega)) (fun v150 s150 R150 => ?_) XT.stop
          obtain ⟨rfl, n150, rfl, h150⟩ := R150
          dsimp only [List.cons_append, List.nil_append]
          refine ⟨inferInstance, ?_⟩
          have hm148_150 : n148 * n150 ≤ 255 * 2 := Nat.mul_le_mul (by omega) (by omega)
          have em148_150 : (n148 : Int) * (n150 : Int) = ((n148 * n150 : Nat) : Int) := (Int.natCast_mul ..).symm
          refine XT.q rfl rfl (Q.mul rfl rfl ⟨by omega, by omega⟩) ?_
          refine XT.q rfl rfl (Q.add rfl rfl ⟨by omega, by omega⟩) ?_
          refine XT.callB b14 rfl rfl Try.call35 rfl rfl rfl (next7 b14 vl hl l (e + 1 + 1) (256) (by omega) (by omega) (by omega)) (fun v154 s154 R154 => ?_) XT.stop
          obtain ⟨rfl, n154, rfl, h154⟩ := R154
          dsimp only [List.cons_append, List.nil_append]
          refine ⟨inferInstance, ?_⟩
          refine XT.q rfl rfl (Q.mul rfl rfl ⟨by omega, by omega⟩) ?_
          refine XT.q rfl rfl (Q.add rfl rfl ⟨by omega, by omega⟩) ?_
          refine XT.q rfl rfl (Q.build [_, _] (.c 0 1 rfl rfl rfl (.c 1 1 rfl rfl rfl (.n _)))) ?_
          refine XT.lit [_, _] [_, _] [⟨sl2.getD i default + 1 + (n148 : Int) * (n150 : Int), 20000 + 80 * (n154 : Int)⟩] encRoom rfl rfl (by rfl) (by rfl) rfl (by rfl) (by exact .c 0 2 rfl rfl rfl (.n _)) (fun _ => rfl) (by rfl) rfl (by infer_instance) rfl (fun v158 h158 O158 => ⟨inferInstance, ?_⟩) XT.stop
          refine XT.append rfl rfl rfl rfl rfl rfl (by simp only [List.length_cons, List.length_nil]; omega) (fun v159 h159 O159 => ⟨inferInstance, ?_⟩) XT.stop
          refine XT.q rfl rfl (Q.fieldAddr rfl) ?_
          refine XT.st rfl rfl rfl rfl rfl ⟨inferInstance, ?_⟩ XT.stop
          refine XT.done ?_
          refine XK.inBlock ?_
          refine XK.region rfl ?_
          refine XO.q (Q.add rfl rfl ⟨by omega, by omega⟩) ?_
          refine XO.q (Q.move rfl) ?_
          refine XO.done ?_
          exact ih2 (i + 1, e + 1 + 1 + 1, rs ++ [⟨sl2.getD i default + 1 + (n148 : Int) * (n150 : Int), 20000 + 80 * (n154 : Int)⟩], v159, h159) _ _ ⟨by dsimp only; omega, by dsimp only; omega, by dsimp only; rw [List.length_append, hrl]; rfl, hR.snoc ⟨by dsimp only; rw [hrl]; omega, by dsimp only; omega, by dsimp only; omega, by dsimp only; omega, by dsimp only; omega⟩, O159⟩ (by first | omega | (dsimp only; omega)) (.c rfl (.base 53 rfl rfl)) inferInstance
        · have _t6 := True.intro
          refine XK.exit rfl ?_
          refine XK.seq ?_
          refine XK.region rfl ?_
          refine XO.q (Q.ldA [_, _, _, _] rfl rfl rfl) ?_
          refine XO.st rfl rfl rfl ?_
          refine XO.done ?_
          refine XK.rt [kR, kW, kB, kC] Try.func9 Try.results9 (.cell [_, _, _, _] rfl rfl rfl (.n)) ?_
          have hin : i = n := by omega
          subst hin
          exact ⟨⟨rs, ws, bs, cs⟩, vR, vW, vB, vC, kR, kW, kB, kC, rfl, rfl, OR, OW, OB, OC, made_ok (by omega) (by omega) (by omega) (by omega) (by omega) hR (by rw [hrl]; exact hW) hB (by rw [hrl]; exact hC)⟩
      · intro mt5
        dsimp only [List.cons_append, List.nil_append] at mt5
        refine XK.if rfl (fun c5 => ?_) (fun c5 => ?_)
        · have _t5 := True.intro
          refine XK.seq ?_
          refine XK.region rfl ?_
          refine XO.q (Q.move rfl) ?_
          refine XO.callB b14 Try.call35 rfl rfl rfl (next7 b14 vl hl l (q) (7) (by omega) (by omega) (by omega)) fun v100 s100 R100 => ?_
          obtain ⟨rfl, n100, rfl, h100⟩ := R100
          dsimp only [List.cons_append, List.nil_append]
          refine XO.q (Q.move rfl) ?_
          refine XO.done ?_
          refine XK.block ?_
          refine XK.while (X := Nat × Nat × List HCooler × Value × PHeap × List Int × PHeap) [10, 101, 102, 103, 104, 105, 106, 107, 108, 109, 110, 111, 112, 113, 114, 115, 116, 117, 118, 119, 120, 121, 122, 123, 124, 125, 126, 127, 128, 129, 130, 131, 132, 133, 134, 135] (fun ⟨m, u, cs, vC, kC, sl2, kS2⟩ => [(101, some (.int .i64 (m : Nat)))]) (fun ⟨m, u, cs, vC, kC, sl2, kS2⟩ => [blk b14 [vl, .int .i64 ((u : Nat) : Int)] 99, blk b4 [.slice none 0 0, vW, vB, vC] 29, kC, kS2]) (fun ⟨m, u, cs, vC, kC, sl2, kS2⟩ => m ≤ n100 ∧ u ≤ 60 + m * 5 ∧ cs.length = m ∧ Each (fun _ => KOk n bs.length) cs ∧ IsAt n sl2 (fun i => wS ws i + cS cs i) ∧ OArr vC encCooler 5 52 kC cs ∧ OArr v19 encI 1 3 kS2 sl2) (fun ⟨m, u, cs, vC, kC, sl2, kS2⟩ => n100 - m) (0, q + 1, [], .slice none 0 0, emp, sl, kS) [blk b14 [vl, .int .i64 ((q + 1 : Nat) : Int)] 99, blk b4 [.slice none 0 0, vW, vB, .slice none 0 0] 29, emp, kS] rfl ⟨by omega, by omega, rfl, Each.nil, hS.none, nC, OS⟩ (.c rfl (.base 0 rfl rfl)) ?_
          rintro ⟨m, u, cs, vC, kC, sl2, kS2⟩ ⟨hm, hu, hcl, hC, hS2, OC, OS2⟩ ih3
          dsimp only [List.cons_append, List.nil_append] at ih3 ⊢
          refine XK.seq ?_
          refine XK.region rfl ?_
          refine XO.q (Q.lss rfl rfl) ?_
          refine XO.done ?_
          refine XK.seq ?_
          refine XK.if rfl (fun c7 => ?_) (fun c7 => ?_)
          · have _t7 := True.intro
            refine XK.skip ?_
            refine XK.seq ?_
            refine XK.block ?_
            refine XK.seq ?_
            refine XK.meet (X := Nat × Nat × Nat × Nat × Nat × Nat) [10, 103, 104, 105, 106, 107, 108, 109, 110, 111, 112, 113, 114, 115, 116, 117, 118, 119] (fun ⟨b10, x1, x2, x3, x4, x5⟩ => [(10, some (ptr b10 0))]) (fun ⟨b10, x1, x2, x3, x4, x5⟩ => [blk b10 [.int .i64 (x1 : Nat), .int .i64 (x2 : Nat), .int .i64 (x3 : Nat), .int .i64 (x4 : Nat), .int .i64 (10000 + 40 * (x5 : Int))] 52, blk b14 [vl, .int .i64 ((u + 1 + 1 + 1 + 1 + 1 : Nat) : Int)] 99]) (fun ⟨b10, x1, x2, x3, x4, x5⟩ => x1 < n ∧ x2 < bs.length ∧ x3 < 60 ∧ x4 < 200 ∧ x5 < 256) [blk b14 [vl, .int .i64 ((u : Nat) : Int)] 99] ?_ ?_
            · rintro ⟨b10, x1, x2, x3, x4, x5⟩ ⟨hx1, hx2, hx3, hx4, hx5⟩
              dsimp only [List.cons_append, List.nil_append]
              have hs2l := hS2.1
              have hs2i := hS2.2 x1 (by omega)
              change sl2.getD x1 default = wS ws x1 + cS cs x1 at hs2i
              have hwi := wS_rng hW x1
              have hci := cS_rng hC x1
              refine XK.seq ?_
              refine XK.drawn [0, 1, 2, 3, 5, 6, 7, 8] [b10] [] (.q 0 (.q 1 (.q 2 (.q 3 (.q 5 (.q 6 (.br 4 true (.q 7 (.q 8 (.br 9 false .done .stop))) .stop))))))) Try.mixed rfl (by kernel_rfl) ?_
              refine XT.q rfl rfl (Q.move rfl) ?_
              refine XT.q rfl rfl (Q.fieldAddr rfl) ?_
              refine XT.q rfl rfl (Q.ld rfl rfl) ?_
              refine XT.ix rfl rfl rfl rfl (by omega) (by omega) fun i123 => ?_
              refine XT.q rfl rfl (Q.fieldAddr rfl) ?_
              refine XT.q rfl rfl (Q.ld rfl rfl) ?_
              refine XT.qs rfl rfl (Q.ldE rfl (by first | assumption | omega) rfl) ⟨inferInstance, ?_⟩ XT.stop
              refine XT.q rfl rfl (Q.add rfl rfl ⟨by omega, by omega⟩) ?_
              refine XT.ix rfl rfl rfl rfl (by omega) (by omega) fun i128 => ?_
              refine XT.stE _ rfl rfl rfl rfl rfl (by assumption) rfl rfl (fun h27_9 O27_9 => ⟨inferInstance, ?_⟩) XT.stop
              refine XT.done ?_
              refine XK.region rfl ?_
              refine XO.q (Q.fieldAddr rfl) ?_
              refine XO.q (Q.ld rfl rfl) ?_
              refine XO.q (Q.ldA [_, _, _, _, _] rfl rfl rfl) ?_
              refine XO.lit [_, _, _, _, _] [_, _, _, _, _] [⟨x1, x2, x3, x4, 10000 + 40 * (x5 : Int)⟩] encCooler (by rfl) (by rfl) rfl (by rfl) (by exact .c 0 5 rfl rfl rfl (.n _)) (fun _ => rfl) (by rfl) rfl (by infer_instance) rfl fun v132 h132 O132 => ?_
              refine XO.append rfl rfl rfl rfl (by simp only [List.length_cons, List.length_nil]; omega) fun v133 h133 O133 => ?_
              refine XO.q (Q.fieldAddr rfl) ?_
              refine XO.st rfl rfl rfl ?_
              refine XO.done ?_
              refine XK.inBlock ?_
              refine XK.region rfl ?_
              refine XO.q (Q.add rfl rfl ⟨by omega, by omega⟩) ?_
              refine XO.q (Q.move rfl) ?_
              refine XO.done ?_
              exact ih3 (m + 1, u + 1 + 1 + 1 + 1 + 1, cs ++ [⟨x1, x2, x3, x4, 10000 + 40 * (x5 : Int)⟩], v133, h133, _, h27_9) _ _ ⟨by dsimp only; omega, by dsimp only; omega, by dsimp only; rw [List.length_append, hcl]; rfl, hC.snoc ⟨by dsimp only; omega, by dsimp only; omega, by dsimp only; omega, by dsimp only; omega, by dsimp only; omega⟩, hS2.cooler (c := ⟨x1, x2, x3, x4, 10000 + 40 * (x5 : Int)⟩) (by dsimp only; omega) (by dsimp only; omega), O133, O27_9⟩ (by first | omega | (dsimp only; omega)) (.c rfl (.base 74 rfl rfl)) inferInstance
            · intro mtr26
              dsimp only [List.cons_append, List.nil_append] at mtr26
              refine XK.drawn [0, 1, 3, 4, 5, 6, 8, 10, 12, 14, 15, 16] [b4] [] (.q 0 (.q 1 (.q 3 (.q 4 (.q 5 (.q 6 (.q 8 (.q 10 (.q 12 (.br 2 true (.br 7 true (.br 9 true (.br 11 true (.br 13 true (.q 14 (.q 15 (.q 16 (.br 17 true (.br 18 false .done .stop) .stop)))) (.br 17 true (.br 13 true (.q 14 (.q 15 (.q 16 (.br 18 false .done .stop)))) .stop) .stop)) (.br 17 true (.br 11 true (.br 13 true (.q 14 (.q 15 (.q 16 (.br 18 false .done .stop)))) .stop) .stop) .stop)) (.br 17 true (.br 9 true (.br 11 true (.br 13 true (.q 14 (.q 15 (.q 16 (.br 18 false .done .stop)))) .stop) .stop) .stop) .stop)) (.br 17 true (.br 7 true (.br 9 true (.br 11 true (.br 13 true (.q 14 (.q 15 (.q 16 (.br 18 false .done .stop)))) .stop) .stop) .stop) .stop) .stop)) (.br 17 true (.br 2 true (.br 7 true (.br 9 true (.br 11 true (.br 13 true (.q 14 (.q 15 (.q 16 (.br 18 false .done .stop)))) .stop) .stop) .stop) .stop) .stop) .stop))))))))))) Try.mixed rfl (by kernel_rfl) ?_
              refine XT.q rfl rfl (Q.move rfl) ?_
              refine XT.q rfl rfl (Q.move rfl) ?_
              refine XT.q rfl rfl (Q.move rfl) ?_
              refine XT.q rfl rfl (Q.fieldAddr rfl) ?_
              refine XT.q rfl rfl (Q.ld rfl rfl) ?_
              refine XT.q rfl rfl (Q.len rfl) ?_
              refine XT.q rfl rfl (Q.move rfl) ?_
              refine XT.q rfl rfl (Q.move rfl) ?_
              refine XT.q rfl rfl (Q.move rfl) ?_
              refine XT.callB b14 rfl rfl Try.call35 rfl rfl rfl (next7 b14 vl hl l (u) (n) (by omega) (by omega) (by omega)) (fun v105 s105 R105 => ?_) ?_
              · skip
                obtain ⟨rfl, n105, rfl, h105⟩ := R105
                dsimp only [List.cons_append, List.nil_append]
                refine ⟨inferInstance, ?_⟩
                refine XT.callB b14 rfl rfl Try.call35 rfl rfl rfl (next7 b14 vl hl l (u + 1) (bs.length) (by omega) (by omega) (by omega)) (fun v110 s110 R110 => ?_) ?_
                · skip
                  obtain ⟨rfl, n110, rfl, h110⟩ := R110
                  dsimp only [List.cons_append, List.nil_append]
                  refine ⟨inferInstance, ?_⟩
                  refine XT.callB b14 rfl rfl Try.call35 rfl rfl rfl (next7 b14 vl hl l (u + 1 + 1) (60) (by omega) (by omega) (by omega)) (fun v112 s112 R112 => ?_) ?_
                  · skip
                    obtain ⟨rfl, n112, rfl, h112⟩ := R112
                    dsimp only [List.cons_append, List.nil_append]
                    refine ⟨inferInstance, ?_⟩
                    refine XT.callB b14 rfl rfl Try.call35 rfl rfl rfl (next7 b14 vl hl l (u + 1 + 1 + 1) (200) (by omega) (by omega) (by omega)) (fun v114 s114 R114 => ?_) ?_
                    · skip
                      obtain ⟨rfl, n114, rfl, h114⟩ := R114
                      dsimp only [List.cons_append, List.nil_append]
                      refine ⟨inferInstance, ?_⟩
                      refine XT.callB b14 rfl rfl Try.call35 rfl rfl rfl (next7 b14 vl hl l (u + 1 + 1 + 1 + 1) (256) (by omega) (by omega) (by omega)) (fun v116 s116 R116 => ?_) ?_
                      · skip
                        obtain ⟨rfl, n116, rfl, h116⟩ := R116
                        dsimp only [List.cons_append, List.nil_append]
                        refine ⟨inferInstance, ?_⟩
                        refine XT.q rfl rfl (Q.mul rfl rfl ⟨by omega, by omega⟩) ?_
                        refine XT.q rfl rfl (Q.add rfl rfl ⟨by omega, by omega⟩) ?_
                        refine XT.q rfl rfl (Q.build [_, _, _, _, _] (.c 0 1 rfl rfl rfl (.c 1 1 rfl rfl rfl (.c 2 1 rfl rfl rfl (.c 3 1 rfl rfl rfl (.c 4 1 rfl rfl rfl (.n _))))))) ?_
                        refine XT.alloc rfl rfl (fun b10 => ⟨inferInstance, ?_⟩) XT.stop
                        refine XT.st rfl rfl rfl rfl rfl ⟨inferInstance, ?_⟩ XT.stop
                        refine XT.done ?_
                        exact mtr26 ((b10, n105, n110, n112, n114, n116)) _ _ ⟨h105, h110, h112, h114, h116⟩ (.c rfl (.base 18 rfl rfl)) inferInstance
                      · skip
                        refine XT.alloc rfl rfl (fun b10 => ⟨inferInstance, ?_⟩) XT.stop
                        refine XT.callB b14 rfl rfl Try.call35 rfl rfl rfl (next7 b14 vl hl l (u + 1 + 1 + 1 + 1) (256) (by omega) (by omega) (by omega)) (fun v116 s116 R116 => ?_) XT.stop
                        obtain ⟨rfl, n116, rfl, h116⟩ := R116
                        dsimp only [List.cons_append, List.nil_append]
                        refine ⟨inferInstance, ?_⟩
                        refine XT.q rfl rfl (Q.mul rfl rfl ⟨by omega, by omega⟩) ?_
                        refine XT.q rfl rfl (Q.add rfl rfl ⟨by omega, by omega⟩) ?_
                        refine XT.q rfl rfl (Q.build [_, _, _, _, _] (.c 0 1 rfl rfl rfl (.c 1 1 rfl rfl rfl (.c 2 1 rfl rfl rfl (.c 3 1 rfl rfl rfl (.c 4 1 rfl rfl rfl (.n _))))))) ?_
                        refine XT.st rfl rfl rfl rfl rfl ⟨inferInstance, ?_⟩ XT.stop
                        refine XT.done ?_
                        exact mtr26 ((b10, n105, n110, n112, n114, n116)) _ _ ⟨h105, h110, h112, h114, h116⟩ (.c rfl (.base 18 rfl rfl)) inferInstance
                    · skip
                      refine XT.alloc rfl rfl (fun b10 => ⟨inferInstance, ?_⟩) XT.stop
                      refine XT.callB b14 rfl rfl Try.call35 rfl rfl rfl (next7 b14 vl hl l (u + 1 + 1 + 1) (200) (by omega) (by omega) (by omega)) (fun v114 s114 R114 => ?_) XT.stop
                      obtain ⟨rfl, n114, rfl, h114⟩ := R114
                      dsimp only [List.cons_append, List.nil_append]
                      refine ⟨inferInstance, ?_⟩
                      refine XT.callB b14 rfl rfl Try.call35 rfl rfl rfl (next7 b14 vl hl l (u + 1 + 1 + 1 + 1) (256) (by omega) (by omega) (by omega)) (fun v116 s116 R116 => ?_) XT.stop
                      obtain ⟨rfl, n116, rfl, h116⟩ := R116
                      dsimp only [List.cons_append, List.nil_append]
                      refine ⟨inferInstance, ?_⟩
                      refine XT.q rfl rfl (Q.mul rfl rfl ⟨by omega, by omega⟩) ?_
                      refine XT.q rfl rfl (Q.add rfl rfl ⟨by omega, by omega⟩) ?_
                      refine XT.q rfl rfl (Q.build [_, _, _, _, _] (.c 0 1 rfl rfl rfl (.c 1 1 rfl rfl rfl (.c 2 1 rfl rfl rfl (.c 3 1 rfl rfl rfl (.c 4 1 rfl rfl rfl (.n _))))))) ?_
                      refine XT.st rfl rfl rfl rfl rfl ⟨inferInstance, ?_⟩ XT.stop
                      refine XT.done ?_
                      exact mtr26 ((b10, n105, n110, n112, n114, n116)) _ _ ⟨h105, h110, h112, h114, h116⟩ (.c rfl (.base 18 rfl rfl)) inferInstance
                  · skip
                    refine XT.alloc rfl rfl (fun b10 => ⟨inferInstance, ?_⟩) XT.stop
                    refine XT.callB b14 rfl rfl Try.call35 rfl rfl rfl (next7 b14 vl hl l (u + 1 + 1) (60) (by omega) (by omega) (by omega)) (fun v112 s112 R112 => ?_) XT.stop
                    obtain ⟨rfl, n112, rfl, h112⟩ := R112
                    dsimp only [List.cons_append, List.nil_append]
                    refine ⟨inferInstance, ?_⟩
                    refine XT.callB b14 rfl rfl Try.call35 rfl rfl rfl (next7 b14 vl hl l (u + 1 + 1 + 1) (200) (by omega) (by omega) (by omega)) (fun v114 s114 R114 => ?_) XT.stop
                    obtain ⟨rfl, n114, rfl, h114⟩ := R114
                    dsimp only [List.cons_append, List.nil_append]
                    refine ⟨inferInstance, ?_⟩
                    refine XT.callB b14 rfl rfl Try.call35 rfl rfl rfl (next7 b14 vl hl l (u + 1 + 1 + 1 + 1) (256) (by omega) (by omega) (by omega)) (fun v116 s116 R116 => ?_) XT.stop
                    obtain ⟨rfl, n116, rfl, h116⟩ := R116
                    dsimp only [List.cons_append, List.nil_append]
                    refine ⟨inferInstance, ?_⟩
                    refine XT.q rfl rfl (Q.mul rfl rfl ⟨by omega, by omega⟩) ?_
                    refine XT.q rfl rfl (Q.add rfl rfl ⟨by omega, by omega⟩) ?_
                    refine XT.q rfl rfl (Q.build [_, _, _, _, _] (.c 0 1 rfl rfl rfl (.c 1 1 rfl rfl rfl (.c 2 1 rfl rfl rfl (.c 3 1 rfl rfl rfl (.c 4 1 rfl rfl rfl (.n _))))))) ?_
                    refine XT.st rfl rfl rfl rfl rfl ⟨inferInstance, ?_⟩ XT.stop
                    refine XT.done ?_
                    exact mtr26 ((b10, n105, n110, n112, n114, n116)) _ _ ⟨h105, h110, h112, h114, h116⟩ (.c rfl (.base 18 rfl rfl)) inferInstance
                · skip
                  refine XT.alloc rfl rfl (fun b10 => ⟨inferInstance, ?_⟩) XT.stop
                  refine XT.callB b14 rfl rfl Try.call35 rfl rfl rfl (next7 b14 vl hl l (u + 1) (bs.length) (by omega) (by omega) (by omega)) (fun v110 s110 R110 => ?_) XT.stop
                  obtain ⟨rfl, n110, rfl, h110⟩ := R110
                  dsimp only [List.cons_append, List.nil_append]
                  refine ⟨inferInstance, ?_⟩
                  refine XT.callB b14 rfl rfl Try.call35 rfl rfl rfl (next7 b14 vl hl l (u + 1 + 1) (60) (by omega) (by omega) (by omega)) (fun v112 s112 R112 => ?_) XT.stop
                  obtain ⟨rfl, n112, rfl, h112⟩ := R112
                  dsimp only [List.cons_append, List.nil_append]
                  refine ⟨inferInstance, ?_⟩
                  refine XT.callB b14 rfl rfl Try.call35 rfl rfl rfl (next7 b14 vl hl l (u + 1 + 1 + 1) (200) (by omega) (by omega) (by omega)) (fun v114 s114 R114 => ?_) XT.stop
                  obtain ⟨rfl, n114, rfl, h114⟩ := R114
                  dsimp only [List.cons_append, List.nil_append]
                  refine ⟨inferInstance, ?_⟩
                  refine XT.callB b14 rfl rfl Try.call35 rfl rfl rfl (next7 b14 vl hl l (u + 1 + 1 + 1 + 1) (256) (by omega) (by omega) (by omega)) (fun v116 s116 R116 => ?_) XT.stop
                  obtain ⟨rfl, n116, rfl, h116⟩ := R116
                  dsimp only [List.cons_append, List.nil_append]
                  refine ⟨inferInstance, ?_⟩
                  refine XT.q rfl rfl (Q.mul rfl rfl ⟨by omega, by omega⟩) ?_
                  refine XT.q rfl rfl (Q.add rfl rfl ⟨by omega, by omega⟩) ?_
                  refine XT.q rfl rfl (Q.build [_, _, _, _, _] (.c 0 1 rfl rfl rfl (.c 1 1 rfl rfl rfl (.c 2 1 rfl rfl rfl (.c 3 1 rfl rfl rfl (.c 4 1 rfl rfl rfl (.n _))))))) ?_
                  refine XT.st rfl rfl rfl rfl rfl ⟨inferInstance, ?_⟩ XT.stop
                  refine XT.done ?_
                  exact mtr26 ((b10, n105, n110, n112, n114, n116)) _ _ ⟨h105, h110, h112, h114, h116⟩ (.c rfl (.base 18 rfl rfl)) inferInstance
              · skip
                refine XT.alloc rfl rfl (fun b10 => ⟨inferInstance, ?_⟩) XT.stop
                refine XT.callB b14 rfl rfl Try.call35 rfl rfl rfl (next7 b14 vl hl l (u) (n) (by omega) (by omega) (by omega)) (fun v105 s105 R105 => ?_) XT.stop
                obtain ⟨rfl, n105, rfl, h105⟩ := R105
                dsimp only [List.cons_append, List.nil_append]
                refine ⟨inferInstance, ?_⟩
                refine XT.callB b14 rfl rfl Try.call35 rfl rfl rfl (next7 b14 vl hl l (u + 1) (bs.length) (by omega) (by omega) (by omega)) (fun v110 s110 R110 => ?_) XT.stop
                obtain ⟨rfl, n110, rfl, h110⟩ := R110
                dsimp only [List.cons_append, List.nil_append]
                refine ⟨inferInstance, ?_⟩
                refine XT.callB b14 rfl rfl Try.call35 rfl rfl rfl (next7 b14 vl hl l (u + 1 + 1) (60) (by omega) (by omega) (by omega)) (fun v112 s112 R112 => ?_) XT.stop
                obtain ⟨rfl, n112, rfl, h112⟩ := R112
                dsimp only [List.cons_append, List.nil_append]
                refine ⟨inferInstance, ?_⟩
                refine XT.callB b14 rfl rfl Try.call35 rfl rfl rfl (next7 b14 vl hl l (u + 1 + 1 + 1) (200) (by omega) (by omega) (by omega)) (fun v114 s114 R114 => ?_) XT.stop
                obtain ⟨rfl, n114, rfl, h114⟩ := R114
                dsimp only [List.cons_append, List.nil_append]
                refine ⟨inferInstance, ?_⟩
                refine XT.callB b14 rfl rfl Try.call35 rfl rfl rfl (next7 b14 vl hl l (u + 1 + 1 + 1 + 1) (256) (by omega) (by omega) (by omega)) (fun v116 s116 R116 => ?_) XT.stop
                obtain ⟨rfl, n116, rfl, h116⟩ := R116
                dsimp only [List.cons_append, List.nil_append]
                refine ⟨inferInstance, ?_⟩
                refine XT.q rfl rfl (Q.mul rfl rfl ⟨by omega, by omega⟩) ?_
                refine XT.q rfl rfl (Q.add rfl rfl ⟨by omega, by omega⟩) ?_
                refine XT.q rfl rfl (Q.build [_, _, _, _, _] (.c 0 1 rfl rfl rfl (.c 1 1 rfl rfl rfl (.c 2 1 rfl rfl rfl (.c 3 1 rfl rfl rfl (.c 4 1 rfl rfl rfl (.n _))))))) ?_
                refine XT.st rfl rfl rfl rfl rfl ⟨inferInstance, ?_⟩ XT.stop
                refine XT.done ?_
                exact mtr26 ((b10, n105, n110, n112, n114, n116)) _ _ ⟨h105, h110, h112, h114, h116⟩ (.c rfl (.base 18 rfl rfl)) inferInstance
          · have _t7 := True.intro
            refine XK.exit rfl ?_
            exact mt5 (u, cs, vC, kC, sl2, kS2) _ _ ⟨by dsimp only; omega, by dsimp only; omega, hC, hS2, OC, OS2⟩ (.base 41 rfl rfl) inferInstance
        · have _t5 := True.intro
          refine XK.skip ?_
          exact mt5 (q, [], .slice none 0 0, emp, sl, kS) _ _ ⟨by dsimp only; omega, by dsimp only; decide, Each.nil, hS.none, nC, OS⟩ (.base 0 rfl rfl) inferInstance
end Go.X

set_option linter.unusedSimpArgs false
set_option linter.unusedVariables false
set_option maxRecDepth 20000
namespace Go.X
open Go.Proofs
theorem awake7 : Spec Try.prog 12 #[] [] [] (fun v hs => v = .bool true ∧ hs = []) := by
  refine Spec.intro (fn := Try.f12) (N := 69) Try.func12 rfl Try.ntmps12 rfl fun B => ?_
  refine XK.seq ?_
  refine XK.region rfl ?_
  refine XO.q (Q.assign rfl) ?_
  refine XO.done ?_
  refine XK.seq ?_
  refine XK.region rfl ?_
  refine XO.call Try.call25 rfl rfl rfl (example7 100) fun v12 s12 R12 => ?_
  obtain ⟨vr12, vw12, vb12, vc12, vl12, kr12, kw12, kb12, kc12, kl12, rfl, rfl, Or12, Ow12, Ob12, Oc12, Ol12⟩ := R12
  dsimp only [List.cons_append, List.nil_append]
  refine XO.q (Q.move rfl) ?_
  refine XO.q (Q.extract rfl rfl) ?_
  refine XO.q (Q.extract rfl rfl) ?_
  refine XO.alloc fun b1 => ?_
  refine XO.alloc fun b2 => ?_
  refine XO.st rfl rfl rfl ?_
  refine XO.st rfl rfl rfl ?_
  refine XO.done ?_
  refine XK.seq ?_
  refine XK.region rfl ?_
  refine XO.call Try.call25 rfl rfl rfl (example7 50000) fun v16 s16 R16 => ?_
  obtain ⟨vr16, vw16, vb16, vc16, vl16, kr16, kw16, kb16, kc16, kl16, rfl, rfl, Or16, Ow16, Ob16, Oc16, Ol16⟩ := R16
  dsimp only [List.cons_append, List.nil_append]
  refine XO.q (Q.move rfl) ?_
  refine XO.q (Q.extract rfl rfl) ?_
  refine XO.q (Q.extract rfl rfl) ?_
  refine XO.alloc fun b3 => ?_
  refine XO.alloc fun b4 => ?_
  refine XO.st rfl rfl rfl ?_
  refine XO.st rfl rfl rfl ?_
  refine XO.done ?_
  refine XK.seq ?_
  refine XK.region rfl ?_
  refine XO.q (Q.ldA [_, _, _, _] rfl rfl rfl) ?_
  refine XO.lit [_] [_] [22000] encI (by rfl) (by rfl) rfl (by rfl) (by exact .c 0 1 rfl rfl rfl (.n _)) (fun _ => rfl) (by rfl) rfl (by infer_instance) rfl fun v21 h21 O21 => ?_
  refine XO.q (Q.ldA [_, _, _] rfl rfl rfl) ?_
  refine XO.call Try.call16 rfl rfl rfl (Next_spec exHall vr12 vw12 vb12 vc12 kr12 kw12 kb12 kc12 [22000] v21 h21 (exCase 100) vl12 kl12) fun v23 s23 R23 => ?_
  obtain ⟨w23, k23, rfl, rfl, O23⟩ := R23
  dsimp only [List.cons_append, List.nil_append]
  refine XO.q (Q.move rfl) ?_
  refine XO.q (Q.extract rfl rfl) ?_
  refine XO.q (Q.extract rfl rfl) ?_
  refine XO.q (Q.assign rfl) ?_
  refine XO.q (Q.assign rfl) ?_
  refine XO.done ?_
  refine XK.seq ?_
  refine XK.region rfl ?_
  refine XO.q (Q.ldA [_, _, _, _] rfl rfl rfl) ?_
  refine XO.lit [_] [_] [22000] encI (by rfl) (by rfl) rfl (by rfl) (by exact .c 0 1 rfl rfl rfl (.n _)) (fun _ => rfl) (by rfl) rfl (by infer_instance) rfl fun v28 h28 O28 => ?_
  refine XO.q (Q.ldA [_, _, _] rfl rfl rfl) ?_
  refine XO.call Try.call16 rfl rfl rfl (Next_spec exHall vr12 vw12 vb12 vc12 kr12 kw12 kb12 kc12 [22000] v28 h28 (exCase 50000) vl16 kl16) fun v30 s30 R30 => ?_
  obtain ⟨w30, k30, rfl, rfl, O30⟩ := R30
  dsimp only [List.cons_append, List.nil_append]
  refine XO.q (Q.move rfl) ?_
  refine XO.q (Q.extract rfl rfl) ?_
  refine XO.q (Q.extract rfl rfl) ?_
  refine XO.q (Q.assign rfl) ?_
  refine XO.q (Q.assign rfl) ?_
  refine XO.done ?_
  refine XK.seq ?_
  refine XK.region rfl ?_
  refine XO.q (Q.build [_, _, _] (.c 0 1 rfl rfl rfl (.n _))) ?_
  refine XO.q (Q.build [_, _, _] (.c 0 1 rfl rfl rfl (.c 1 1 rfl rfl rfl (.n _)))) ?_
  refine XO.q (Q.build [_, _, _] (.c 0 1 rfl rfl rfl (.c 1 1 rfl rfl rfl (.c 2 1 rfl rfl rfl (.n _))))) ?_
  refine XO.q (Q.build [_, _, _] (.c 0 1 rfl rfl rfl (.c 1 1 rfl rfl rfl (.n _)))) ?_
  refine XO.lit [_, _, _, _, _, _, _, _, _, _, _, _] [_, _, _, _, _, _, _, _, _, _, _, _] [⟨-1, 0, 0⟩, ⟨0, 1, 0⟩, ⟨0, 1, 40⟩, ⟨0, 1, 0⟩] encBranch (by rfl) (by rfl) rfl (by rfl) (by exact .c 0 3 rfl rfl rfl (.c 3 3 rfl rfl rfl (.c 6 3 rfl rfl rfl (.c 9 3 rfl rfl rfl (.n _))))) (fun _ => rfl) (by rfl) rfl (by infer_instance) rfl fun v37 h37 O37 => ?_
  refine XO.q (Q.fieldAddr rfl) ?_
  refine XO.st rfl rfl rfl ?_
  refine XO.done ?_
  refine XK.seq ?_
  refine XK.region rfl ?_
  refine XO.q (Q.ldA [_, _, _, _] rfl rfl rfl) ?_
  refine XO.call Try.call10 rfl rfl rfl (Flows_spec exTree vr12 vw12 v37 vc12 kr12 kw12 h37 kc12 100) fun v41 s41 R41 => ?_
  obtain ⟨w41, k41, rfl, rfl, O41⟩ := R41
  dsimp only [List.cons_append, List.nil_append]
  refine XO.q (Q.move rfl) ?_
  refine XO.q (Q.extract rfl rfl) ?_
  refine XO.q (Q.extract rfl rfl) ?_
  refine XO.q (Q.assign rfl) ?_
  refine XO.q (Q.assign rfl) ?_
  refine XO.done ?_
  refine XK.seq ?_
  refine XK.region rfl ?_
  refine XO.q (Q.move rfl) ?_
  refine XO.q (Q.eql rfl rfl) ?_
  refine XO.q (Q.move rfl) ?_
  refine XO.q (Quiet.guardT rfl rfl fun g47 p47 => Q.move rfl) ?_
  refine XO.q (Quiet.guardT rfl rfl fun g48 p48 => Q.eql (lzv g48 rfl) rfl) ?_
  refine XO.q (Q.and rfl (fun hp => lzv hp rfl)) ?_
  refine XO.q (Q.move rfl) ?_
  refine XO.q (Quiet.guardT rfl rfl fun g51 p51 => Q.move rfl) ?_
  refine XO.q (Quiet.guardT rfl rfl fun g52 p52 => Q.eql (lzv g52 rfl) rfl) ?_
  refine XO.q (Q.and rfl (fun hp => lzv hp rfl)) ?_
  refine XO.q (Q.move rfl) ?_
  refine XO.q (Quiet.guardT rfl rfl fun g55 p55 => Q.move rfl) ?_
  refine XO.litG [_] [_] [22079] encI rfl rfl (by simp [exA, exB, exC]) (by rfl) (by rfl) rfl (by rfl) (by exact .c 0 1 rfl rfl rfl (.n _)) (fun _ => rfl) (by rfl) rfl (by infer_instance) rfl fun v56 h56 O56 => ?_
  refine XO.gcallT rfl rfl Try.call39 rfl (fun g57 => .c (lzv g57 rfl) (.c rfl .n)) rfl (fun g57 p57 => equalI _ _ _ _ _ _) ?_
  refine XO.q (Q.and rfl (fun hp => lzv hp rfl)) ?_
  refine XO.q (Q.move rfl) ?_
  refine XO.q (Quiet.guardT rfl rfl fun g60 p60 => Q.move rfl) ?_
  refine XO.litG [_] [_] [21880] encI rfl rfl (by simp [exA, exB, exC]) (by rfl) (by rfl) rfl (by rfl) (by exact .c 0 1 rfl rfl rfl (.n _)) (fun _ => rfl) (by rfl) rfl (by infer_instance) rfl fun v61 h61 O61 => ?_
  refine XO.gcallT rfl rfl Try.call39 rfl (fun g62 => .c (lzv g62 rfl) (.c rfl .n)) rfl (fun g62 p62 => equalI _ _ _ _ _ _) ?_
  refine XO.q (Q.and rfl (fun hp => lzv hp rfl)) ?_
  refine XO.q (Q.move rfl) ?_
  refine XO.q (Quiet.guardT rfl rfl fun g65 p65 => Q.move rfl) ?_
  refine XO.litG [_, _, _, _] [_, _, _, _] [100, 33, 0, 33] encI rfl rfl (by simp [exA, exB, exC]) (by rfl) (by rfl) rfl (by rfl) (by exact .c 0 1 rfl rfl rfl (.c 1 1 rfl rfl rfl (.c 2 1 rfl rfl rfl (.c 3 1 rfl rfl rfl (.n _))))) (fun _ => rfl) (by rfl) rfl (by infer_instance) rfl fun v66 h66 O66 => ?_
  refine XO.gcallT rfl rfl Try.call39 rfl (fun g67 => .c (lzv g67 rfl) (.c rfl .n)) rfl (fun g67 p67 => equalI _ _ _ _ _ _) ?_
  refine XO.q (Q.and rfl (fun hp => lzv hp rfl)) ?_
  refine XO.q (Q.assign rfl) ?_
  refine XO.done ?_
  refine XK.rt [] Try.func12 Try.results12 (.t rfl .n) ?_
  exact ⟨by simp [exA, exB, exC], rfl⟩
end Go.X

set_option linter.unusedSimpArgs false
set_option linter.unusedVariables false
set_option maxRecDepth 20000
namespace Go.X
open Go.Proofs
def encCV (x : Value × HCase) : List Value := [x.1, .int .i64 x.2.out, .int .i64 x.2.pump]
instance : Inhabited (Value × HCase) := ⟨(.slice none 0 0, default)⟩
theorem below_spec7 (va vb : Value) (ha hb : PHeap) (a b : List Int) [ia : Arr va encI 1 ha a] [ib : Arr vb encI 1 hb b] (hl : a.length ≤ b.length) : Spec Try.prog 48 #[va, vb] [] [ha, hb] (fun v hs => v = .bool (lbelow a b) ∧ hs = []) := by
  refine Spec.intro (fn := Try.f48) (N := 21) Try.func48 rfl Try.ntmps48 rfl fun B => ?_
  refine XK.seq ?_
  refine XK.region rfl ?_
  refine XO.q (Q.assign rfl) ?_
  refine XO.done ?_
  refine XK.seq ?_
  refine XK.seq ?_
  refine XK.region rfl ?_
  refine XO.q (Q.move rfl) ?_
  refine XO.len rfl fun l7 => ?_
  refine XO.q (Q.move rfl) ?_
  refine XO.done ?_
  refine XK.block ?_
  refine XK.while (X := Nat) [4, 5, 8, 9, 10, 11, 12, 13, 14, 15, 16, 17, 18, 19, 20] (fun i => [(8, some (.int .i64 (i : Nat)))]) (fun i => []) (fun i => i ≤ a.length ∧ allTo (fun i => decide (a.getD i 0 ≤ b.getD i 0)) i = true) (fun i => a.length - i) (0) [] rfl ⟨by omega, rfl⟩ (.c rfl (.base 0 rfl rfl)) ?_
  rintro i ⟨hi, ht⟩ ih0
  dsimp only [List.cons_append, List.nil_append] at ih0 ⊢
  refine XK.seq ?_
  refine XK.region rfl ?_
  refine XO.q (Q.lss rfl rfl) ?_
  refine XO.done ?_
  refine XK.seq ?_
  refine XK.if rfl (fun c0 => ?_) (fun c0 => ?_)
  · have _t0 := True.intro
    refine XK.skip ?_
    refine XK.seq ?_
    refine XK.block ?_
    refine XK.seq ?_
    refine XK.region rfl ?_
    refine XO.q (Q.move rfl) ?_
    refine XO.q (Q.assign rfl) ?_
    refine XO.done ?_
    refine XK.seq ?_
    refine XK.drawn [0, 1, 2, 3, 4, 5, 6, 7, 8] [] [] (.q 0 (.q 1 (.q 2 (.q 3 (.q 4 (.q 5 (.q 6 (.q 7 (.q 8 .done))))))))) Try.mixed rfl (by kernel_rfl) ?_
    refine XT.q rfl rfl (Q.move rfl) ?_
    refine XT.q rfl rfl (Q.move rfl) ?_
    refine XT.ix rfl rfl rfl rfl (by omega) (by omega) fun i13 => ?_
    refine XT.q rfl rfl (Q.ldE rfl (by first | assumption | omega) rfl) ?_
    refine XT.q rfl rfl (Q.move rfl) ?_
    refine XT.q rfl rfl (Q.move rfl) ?_
    refine XT.ix rfl rfl rfl rfl (by omega) (by omega) fun i17 => ?_
    refine XT.q rfl rfl (Q.ldE rfl (by first | assumption | omega) rfl) ?_
    refine XT.q rfl rfl (Q.gtr rfl rfl) ?_
    refine XT.done ?_
    refine XK.if rfl (fun c1 => ?_) (fun c1 => ?_)
    · have _t1 := True.intro
      refine XK.seq ?_
      refine XK.region rfl ?_
      refine XO.q (Q.assign rfl) ?_
      refine XO.done ?_
      refine XK.rt [] Try.func48 Try.results48 (.t rfl .n) ?_
      exact ⟨by rw [lbelow, allTo_false (s := i) (by omega) (by rw [decide_eq_false_iff_not]; change b.getD i 0 < a.getD i 0 at c1; omega)], rfl⟩
    · have _t1 := True.intro
      refine XK.skip ?_
      refine XK.inBlock ?_
      refine XK.region rfl ?_
      refine XO.q (Q.add rfl rfl ⟨by omega, by omega⟩) ?_
      refine XO.q (Q.move rfl) ?_
      refine XO.done ?_
      exact ih0 (i + 1) _ _ ⟨by omega, by rw [allTo_succ, ht, Bool.true_and, decide_eq_true_eq]; change ¬ (b.getD i 0 < a.getD i 0) at c1; omega⟩ (by first | omega | (dsimp only; omega)) (.c rfl (.base 30 rfl rfl)) inferInstance
  · have _t0 := True.intro
    refine XK.exit rfl ?_
    refine XK.seq ?_
    refine XK.region rfl ?_
    refine XO.q (Q.assign rfl) ?_
    refine XO.done ?_
    refine XK.rt [] Try.func48 Try.results48 (.t rfl .n) ?_
    have hn : i = a.length := by omega
    rw [hn] at ht
    exact ⟨by rw [lbelow, ht], rfl⟩
theorem between_spec (a c d : HCase) (va vc vd : Value) (ha hc hd : PHeap) [ia : Arr va encI 1 ha a.load] [ic : Arr vc encI 1 hc c.load] [id : Arr vd encI 1 hd d.load] (h1 : c.load.length ≤ a.load.length) (h2 : c.load.length ≤ d.load.length) :
    Spec Try.prog 70 #[.agg #[va, .int .i64 a.out, .int .i64 a.pump], .agg #[vc, .int .i64 c.out, .int .i64 c.pump], .agg #[vd, .int .i64 d.out, .int .i64 d.pump]] [] [ha, hc, hd] (fun v hs => v = .bool (betweenP a c d) ∧ hs = []) := by
  refine Spec.intro (fn := Try.f70) (N := 60) Try.func70 rfl Try.ntmps70 rfl fun B => ?_
  refine XK.seq ?_
  refine XK.region rfl ?_
  refine XO.box rfl fun b3 => ?_
  refine XO.box rfl fun b4 => ?_
  refine XO.box rfl fun b5 => ?_
  refine XO.q (Q.assign rfl) ?_
  refine XO.done ?_
  refine XK.seq ?_
  refine XK.seq ?_
  refine XK.region rfl ?_
  refine XO.q (Q.fieldAddr rfl) ?_
  refine XO.q (Q.ld rfl rfl) ?_
  refine XO.len rfl fun l11 => ?_
  refine XO.q (Q.move rfl) ?_
  refine XO.done ?_
  refine XK.block ?_
  refine XK.while (X := Nat) [6, 7, 8, 12, 13, 14, 15, 16, 17, 18, 19, 20, 21, 22, 23, 24, 25, 26, 27, 28, 29, 30, 31, 32, 33] (fun i => [(12, some (.int .i64 (i : Nat)))]) (fun i => []) (fun i => i ≤ c.load.length ∧ allTo (fun i => decide (a.load.getD i 0 ≤ c.load.getD i 0) && decide (c.load.getD i 0 ≤ d.load.getD i 0)) i = true) (fun i => c.load.length - i) (0) [] rfl ⟨by omega, rfl⟩ (.c rfl (.base 0 rfl rfl)) ?_
  rintro i ⟨hi, ht⟩ ih0
  dsimp only [List.cons_append, List.nil_append] at ih0 ⊢
  refine XK.seq ?_
  refine XK.region rfl ?_
  refine XO.q (Q.lss rfl rfl) ?_
  refine XO.done ?_
  refine XK.seq ?_
  refine XK.if rfl (fun c0 => ?_) (fun c0 => ?_)
  · have _t0 := True.intro
    refine XK.skip ?_
    refine XK.seq ?_
    refine XK.block ?_
    refine XK.seq ?_
    refine XK.region rfl ?_
    refine XO.q (Q.move rfl) ?_
    refine XO.ix rfl rfl (by omega) (by omega) fun i15 => ?_
    refine XO.q (Q.ldE rfl (by first | assumption | omega) rfl) ?_
    refine XO.q (Q.assign rfl) ?_
    refine XO.q (Q.assign rfl) ?_
    refine XO.done ?_
    refine XK.seq ?_
    refine XK.region rfl ?_
    refine XO.q (Q.move rfl) ?_
    refine XO.q (Q.fieldAddr rfl) ?_
    refine XO.q (Q.ld rfl rfl) ?_
    refine XO.q (Q.move rfl) ?_
    refine XO.ix rfl rfl (by omega) (by omega) fun i21 => ?_
    refine XO.q (Q.ldE rfl (by first | assumption | omega) rfl) ?_
    refine XO.q (Q.lss rfl rfl) ?_
    refine XO.q (Q.move rfl) ?_
    refine XO.q (Quiet.guardF rfl rfl fun g25 p25 => Q.move rfl) ?_
    refine XO.q (Quiet.guardF rfl rfl fun g26 p26 => Q.fieldAddr rfl) ?_
    refine XO.q (Quiet.guardF rfl rfl fun g27 p27 => Q.ld (lzv g27 rfl) rfl) ?_
    refine XO.q (Quiet.guardF rfl rfl fun g28 p28 => Q.move rfl) ?_
    refine XO.q (Quiet.guardF rfl rfl fun g29 p29 => Q.ix (lzv g29 rfl) (lzv g29 rfl) (by omega) (by omega)) ?_
    refine XO.q (Quiet.guardF rfl rfl fun g30 p30 => Q.ldE (lzv g30 rfl) (by first | assumption | omega) rfl) ?_
    refine XO.q (Quiet.guardF rfl rfl fun g31 p31 => Q.gtr (lzv g31 rfl) (lzv g31 rfl)) ?_
    refine XO.q (Q.or rfl (fun hp => lzv hp rfl)) ?_
    refine XO.done ?_
    refine XK.if rfl (fun c1 => ?_) (fun c1 => ?_)
    · have _t1 := True.intro
      refine XK.seq ?_
      refine XK.region rfl ?_
      refine XO.q (Q.assign rfl) ?_
      refine XO.done ?_
      refine XK.rt [] Try.func70 Try.results70 (.t rfl .n) ?_
      exact ⟨by rw [between_spec1 (i := i) (by omega) c1], rfl⟩
    · have _t1 := True.intro
      refine XK.skip ?_
      refine XK.inBlock ?_
      refine XK.region rfl ?_
      refine XO.q (Q.add rfl rfl ⟨by omega, by omega⟩) ?_
      refine XO.q (Q.move rfl) ?_
      refine XO.done ?_
      exact ih0 (i + 1) _ _ ⟨by omega, by rw [allTo_succ, ht, Bool.true_and, Bool.and_eq_true, decide_eq_true_eq, decide_eq_true_eq]; change ¬ (c.load.getD i 0 < a.load.getD i 0 ∨ d.load.getD i 0 < c.load.getD i 0) at c1; omega⟩ (by first | omega | (dsimp only; omega)) (.c rfl (.base 50 rfl rfl)) inferInstance
  · have _t0 := True.intro
    refine XK.exit rfl ?_
    refine XK.seq ?_
    refine XK.region rfl ?_
    refine XO.q (Q.fieldAddr rfl) ?_
    refine XO.q (Q.ld rfl rfl) ?_
    refine XO.q (Q.fieldAddr rfl) ?_
    refine XO.q (Q.ld rfl rfl) ?_
    refine XO.q (Q.geq rfl rfl) ?_
    refine XO.q (Q.move rfl) ?_
    refine XO.q (Quiet.guardT rfl rfl fun g40 p40 => Q.fieldAddr rfl) ?_
    refine XO.q (Quiet.guardT rfl rfl fun g41 p41 => Q.ld (lzv g41 rfl) rfl) ?_
    refine XO.q (Quiet.guardT rfl rfl fun g42 p42 => Q.fieldAddr rfl) ?_
    refine XO.q (Quiet.guardT rfl rfl fun g43 p43 => Q.ld (lzv g43 rfl) rfl) ?_
    refine XO.q (Quiet.guardT rfl rfl fun g44 p44 => Q.leq (lzv g44 rfl) (lzv g44 rfl)) ?_
    refine XO.q (Q.and rfl (fun hp => lzv hp rfl)) ?_
    refine XO.q (Q.move rfl) ?_
    refine XO.q (Quiet.guardT rfl rfl fun g47 p47 => Q.fieldAddr rfl) ?_
    refine XO.q (Quiet.guardT rfl rfl fun g48 p48 => Q.ld (lzv g48 rfl) rfl) ?_
    refine XO.q (Quiet.guardT rfl rfl fun g49 p49 => Q.fieldAddr rfl) ?_
    refine XO.q (Quiet.guardT rfl rfl fun g50 p50 => Q.ld (lzv g50 rfl) rfl) ?_
    refine XO.q (Quiet.guardT rfl rfl fun g51 p51 => Q.leq (lzv g51 rfl) (lzv g51 rfl)) ?_
    refine XO.q (Q.and rfl (fun hp => lzv hp rfl)) ?_
    refine XO.q (Q.move rfl) ?_
    refine XO.q (Quiet.guardT rfl rfl fun g54 p54 => Q.fieldAddr rfl) ?_
    refine XO.q (Quiet.guardT rfl rfl fun g55 p55 => Q.ld (lzv g55 rfl) rfl) ?_
    refine XO.q (Quiet.guardT rfl rfl fun g56 p56 => Q.fieldAddr rfl) ?_
    refine XO.q (Quiet.guardT rfl rfl fun g57 p57 => Q.ld (lzv g57 rfl) rfl) ?_
    refine XO.q (Quiet.guardT rfl rfl fun g58 p58 => Q.geq (lzv g58 rfl) (lzv g58 rfl)) ?_
    refine XO.q (Q.and rfl (fun hp => lzv hp rfl)) ?_
    refine XO.q (Q.assign rfl) ?_
    refine XO.done ?_
    refine XK.rt [] Try.func70 Try.results70 (.t rfl .n) ?_
    have hn : i = c.load.length := by omega
    rw [hn] at ht
    exact ⟨by rw [betweenP, ht, Bool.true_and], rfl⟩
theorem Classed_spec (h : Hall) (vr vw vb vc : Value) (hr hw hb hc : PHeap) [ir : Arr vr encRoom 2 hr h.rooms] [iw : Arr vw encWall 3 hw h.walls] [ib : Arr vb encBranch 3 hb h.branches] [ic : Arr vc encCooler 5 hc h.coolers] (a d : HCase) (va vd : Value) (ha hd : PHeap) [ia : Arr va encI 1 ha a.load] [id : Arr vd encI 1 hd d.load] (l : List (Value × HCase)) (vl : Value) (hl hL : PHeap) [il : Arr vl encCV 3 hl l] (hll : l.length ≤ 20000) (aL : ∀ i, i < l.length → Arr (l.getD i default).1 encI 1 hL (l.getD i default).2.load) :
    Spec Try.prog 69 #[.agg #[vr, vw, vb, vc], .agg #[va, .int .i64 a.out, .int .i64 a.pump, vd, .int .i64 d.out, .int .i64 d.pump], vl] [] [hr, hw, hb, hc, ha, hd, hl, hL] (fun v hs => v = .int .i64 (classedG h a d (l.map Prod.snd)) ∧ hs = []) := by
  refine Spec.intro (fn := Try.f69) (N := 52) Try.func69 rfl Try.ntmps69 rfl fun B => ?_
  refine XK.seq ?_
  refine XK.region rfl ?_
  refine XO.box rfl fun b3 => ?_
  refine XO.box rfl fun b4 => ?_
  refine XO.q (Q.assign rfl) ?_
  refine XO.done ?_
  refine XK.seq ?_
  refine XK.seq ?_
  refine XK.region rfl ?_
  refine XO.q (Q.ldA [_, _, _, _] rfl rfl rfl) ?_
  refine XO.call Try.call36 rfl rfl rfl (Check_spec h vr vw vb vc hr hw hb hc) fun v13 s13 R13 => ?_
  obtain ⟨rfl, rfl⟩ := R13
  dsimp only [List.cons_append, List.nil_append]
  refine XO.q (Q.assign rfl) ?_
  refine XO.done ?_
  refine XK.seq ?_
  refine XK.region rfl ?_
  refine XO.q (Q.move rfl) ?_
  refine XO.q (Q.neq rfl rfl) ?_
  refine XO.done ?_
  refine XK.if rfl (fun c0 => ?_) (fun c0 => ?_)
  · have _t0 := True.intro
    refine XK.seq ?_
    refine XK.region rfl ?_
    refine XO.q (Q.move rfl) ?_
    refine XO.q (Q.assign rfl) ?_
    refine XO.done ?_
    refine XK.rt [] Try.func69 Try.results69 (.t rfl .n) ?_
    exact ⟨by rw [classedG_errs, if_pos c0], rfl⟩
  · have _t0 := True.intro
    refine XK.skip ?_
    refine XK.seq ?_
    refine XK.drawn [0, 1, 2, 4, 5, 6, 9] [b3, b4] [] (.q 0 (.q 1 (.q 2 (.q 4 (.q 5 (.q 6 (.br 3 true (.br 7 true (.br 8 true (.q 9 .done) .stop) .stop) .stop))))))) Try.mixed rfl (by kernel_rfl) ?_
    refine XT.q rfl rfl (Q.ldA [_, _, _, _] rfl rfl rfl) ?_
    refine XT.q rfl rfl (Q.fieldAddr rfl) ?_
    refine XT.q rfl rfl (Q.ldA [_, _, _] rfl rfl rfl) ?_
    refine XT.q rfl rfl (Q.ldA [_, _, _, _] rfl rfl rfl) ?_
    refine XT.q rfl rfl (Q.fieldAddr rfl) ?_
    refine XT.q rfl rfl (Q.ldA [_, _, _] rfl rfl rfl) ?_
    refine XT.call rfl rfl Try.call42 rfl rfl rfl (cased_spec h vr vw vb vc hr va ha a) (fun v20 s20 R20 => ?_) XT.stop
    obtain ⟨rfl, rfl⟩ := R20
    dsimp only [List.cons_append, List.nil_append]
    refine ⟨inferInstance, ?_⟩
    refine XT.call rfl rfl Try.call42 rfl rfl rfl (cased_spec h vr vw vb vc hr vd hd d) (fun v24 s24 R24 => ?_) XT.stop
    obtain ⟨rfl, rfl⟩ := R24
    dsimp only [List.cons_append, List.nil_append]
    refine ⟨inferInstance, ?_⟩
    refine XT.lit [_, _] [_, _] [casedP h a, casedP h d] encI rfl rfl (by rfl) (by rfl) rfl (by rfl) (by exact .c 0 1 rfl rfl rfl (.c 1 1 rfl rfl rfl (.n _))) (fun _ => rfl) (by rfl) rfl (by infer_instance) rfl (fun v25 h25 O25 => ⟨inferInstance, ?_⟩) XT.stop
    refine XT.q rfl rfl (Q.assign rfl) ?_
    refine XT.done ?_
    refine XK.seq ?_
    refine XK.seq ?_
    refine XK.region rfl ?_
    refine XO.q (Q.move rfl) ?_
    refine XO.len rfl fun l27 => ?_
    refine XO.q (Q.move rfl) ?_
    refine XO.done ?_
    refine XK.block ?_
    refine XK.while (X := Nat × Value × PHeap) [8, 10, 28, 29, 30, 31, 32, 33, 34, 35, 36, 37, 38] (fun ⟨i, v8, k8⟩ => [(28, some (.int .i64 (i : Nat))), (8, some (v8))]) (fun ⟨i, v8, k8⟩ => [k8]) (fun ⟨i, v8, k8⟩ => i ≤ l.length ∧ OArr v8 encI 1 32 k8 (errsL h a d ((List.range i).map (fun j => (l.getD j default).2)))) (fun ⟨i, v8, k8⟩ => l.length - i) (0, v25, h25) [h25] rfl ⟨by omega, O25⟩ (.c rfl (.c rfl (.base 0 rfl rfl))) ?_
    rintro ⟨i, v8, k8⟩ ⟨hi, O8⟩ ih0
    dsimp only [List.cons_append, List.nil_append] at ih0 ⊢
    refine XK.seq ?_
    refine XK.region rfl ?_
    refine XO.q (Q.lss rfl rfl) ?_
    refine XO.done ?_
    refine XK.seq ?_
    refine XK.if rfl (fun c1 => ?_) (fun c1 => ?_)
    · have _t1 := True.intro
      have il0 := aL i (by omega)
      refine XK.skip ?_
      refine XK.seq ?_
      refine XK.block ?_
      refine XK.seq ?_
      refine XK.region rfl ?_
      refine XO.ix rfl rfl (by omega) (by omega) fun i30 => ?_
      refine XO.q (Q.ldEA [_, _, _] rfl (by first | assumption | omega) rfl rfl) ?_
      refine XO.alloc fun b10 => ?_
      refine XO.st rfl rfl rfl ?_
      refine XO.done ?_
      refine XK.region rfl ?_
      refine XO.q (Q.move rfl) ?_
      refine XO.q (Q.ldA [_, _, _, _] rfl rfl rfl) ?_
      refine XO.q (Q.ldA [_, _, _] rfl rfl rfl) ?_
      refine XO.call Try.call42 rfl rfl rfl (cased_spec h vr vw vb vc hr (l.getD i default).1 hL (l.getD i default).2) fun v35 s35 R35 => ?_
      obtain ⟨rfl, rfl⟩ := R35
      dsimp only [List.cons_append, List.nil_append]
      refine XO.lit [_] [_] [_] encI (by rfl) (by rfl) rfl (by rfl) (by exact .c 0 1 rfl rfl rfl (.n _)) (fun _ => rfl) (by rfl) rfl (by infer_instance) rfl fun v36 h36 O36 => ?_
      refine XO.append rfl rfl rfl rfl (by simp only [errsL_len, List.length_map, List.length_range, List.length_cons, List.length_nil]; omega) fun v37 h37 O37 => ?_
      refine XO.q (Q.assign rfl) ?_
      refine XO.done ?_
      refine XK.inBlock ?_
      refine XK.region rfl ?_
      refine XO.q (Q.add rfl rfl ⟨by omega, by omega⟩) ?_
      refine XO.q (Q.move rfl) ?_
      refine XO.done ?_
      exact ih0 (i + 1, v37, h37) _ _ ⟨by dsimp only; omega, by dsimp only; rw [range_snoc, errsL_snoc]; exact O37⟩ (by first | omega | (dsimp only; omega)) (.c rfl (.c rfl (.base 28 rfl rfl))) inferInstance
    · have _t1 := True.intro
      have hn : i = l.length := by omega
      subst hn
      rw [range_getD l (fun x => x.2)] at O8
      refine XK.exit rfl ?_
      refine XK.seq ?_
      refine XK.seq ?_
      refine XK.region rfl ?_
      refine XO.q (Q.move rfl) ?_
      refine XO.call Try.call40 rfl rfl rfl (both_spec v8 k8 (errsL h a d (l.map Prod.snd))) fun v40 s40 R40 => ?_
      obtain ⟨rfl, rfl⟩ := R40
      dsimp only [List.cons_append, List.nil_append]
      refine XO.q (Q.assign rfl) ?_
      refine XO.done ?_
      refine XK.seq ?_
      refine XK.region rfl ?_
      refine XO.q (Q.move rfl) ?_
      refine XO.q (Q.neq rfl rfl) ?_
      refine XO.done ?_
      refine XK.if rfl (fun c2 => ?_) (fun c2 => ?_)
      · have _t2 := True.intro
        refine XK.seq ?_
        refine XK.region rfl ?_
        refine XO.q (Q.move rfl) ?_
        refine XO.q (Q.assign rfl) ?_
        refine XO.done ?_
        refine XK.rt [] Try.func69 Try.results69 (.t rfl .n) ?_
        exact ⟨by rw [classedG_errs, if_neg c0, if_pos c2], rfl⟩
      · have _t2 := True.intro
        have c2 := Decidable.of_not_not c2
        have oka : COk h a := both_cased c2 (by simp [errsL])
        have okd : COk h d := both_cased c2 (by simp [errsL])
        refine XK.skip ?_
        refine XK.seq ?_
        refine XK.seq ?_
        refine XK.region rfl ?_
        refine XO.q (Q.fieldAddr rfl) ?_
        refine XO.q (Q.ldA [_, _, _] rfl rfl rfl) ?_
        refine XO.q (Q.fieldAddr rfl) ?_
        refine XO.q (Q.ldA [_, _, _] rfl rfl rfl) ?_
        refine XO.q (Q.fieldAddr rfl) ?_
        refine XO.q (Q.ldA [_, _, _] rfl rfl rfl) ?_
        refine XO.call Try.call70 rfl rfl rfl (between_spec a a d va va vd ha ha hd (Nat.le_refl _) (by rw [oka.len, okd.len]; exact Nat.le_refl _)) fun v50 s50 R50 => ?_
        obtain ⟨rfl, rfl⟩ := R50
        dsimp only [List.cons_append, List.nil_append]
        refine XO.q (Q.not rfl) ?_
        refine XO.done ?_
        refine XK.if rfl (fun c3 => ?_) (fun c3 => ?_)
        · have _t3 := True.intro
          refine XK.seq ?_
          refine XK.region rfl ?_
          refine XO.q (Q.assign rfl) ?_
          refine XO.done ?_
          refine XK.rt [] Try.func69 Try.results69 (.t rfl .n) ?_
          exact ⟨by rw [classedG_errs, if_neg c0, if_neg (by rw [c2]; decide), if_neg c3], rfl⟩
        · have _t3 := True.intro
          refine XK.skip ?_
          refine XK.seq ?_
          refine XK.region rfl ?_
          refine XO.q (Q.assign rfl) ?_
          refine XO.done ?_
          refine XK.rt [] Try.func69 Try.results69 (.t rfl .n) ?_
          exact ⟨by rw [classedG_errs, if_neg c0, if_neg (by rw [c2]; decide), if_pos (Decidable.of_not_not c3)], rfl⟩
end Go.X

set_option linter.unusedSimpArgs false
set_option linter.unusedVariables false
set_option maxRecDepth 20000
namespace Go.X
open Go.Proofs
theorem boxed_spec (h : Hall) (vr vw vb vc : Value) (hr hw hb hc : PHeap) [ir : Arr vr encRoom 2 hr h.rooms] [iw : Arr vw encWall 3 hw h.walls] [ib : Arr vb encBranch 3 hb h.branches] [ic : Arr vc encCooler 5 hc h.coolers] (a d : HCase) (va vd : Value) (ha hd : PHeap) [ia : Arr va encI 1 ha a.load] [id : Arr vd encI 1 hd d.load] (lo hi : List Int) (vlo vhi : Value) (hlo hhi : PHeap) [ilo : Arr vlo encI 1 hlo lo] [ihi : Arr vhi encI 1 hhi hi] : Spec Try.prog 47 #[.agg #[vr, vw, vb, vc], vlo, vhi, .agg #[va, .int .i64 a.out, .int .i64 a.pump, vd, .int .i64 d.out, .int .i64 d.pump]] [] [hr, hw, hb, hc, ha, hd, hlo, hhi] (fun v hs => v = .int .i64 (boxedG h lo hi a d) ∧ hs = []) := by
  refine Spec.intro (fn := Try.f47) (N := 32) Try.func47 rfl Try.ntmps47 rfl fun B => ?_
  refine XK.seq ?_
  refine XK.region rfl ?_
  refine XO.box rfl fun b4 => ?_
  refine XO.box rfl fun b7 => ?_
  refine XO.q (Q.assign rfl) ?_
  refine XO.done ?_
  refine XK.seq ?_
  refine XK.seq ?_
  refine XK.region rfl ?_
  refine XO.q (Q.ldA [_, _, _, _] rfl rfl rfl) ?_
  refine XO.q (Q.ldA [_, _, _, _, _, _] rfl rfl rfl) ?_
  refine XO.call Try.call69 rfl rfl rfl (Classed_spec h vr vw vb vc hr hw hb hc a d va vd ha hd [] (.slice none 0 0) hr hr (il := Arr.nil (fun _ => rfl)) (by simp) (fun i hi => absurd hi (Nat.not_lt_zero i))) fun v13 s13 R13 => ?_
  obtain ⟨rfl, rfl⟩ := R13
  dsimp only [List.cons_append, List.nil_append]
  rw [List.map_nil]
  refine XO.q (Q.assign rfl) ?_
  refine XO.done ?_
  refine XK.seq ?_
  refine XK.region rfl ?_
  refine XO.q (Q.move rfl) ?_
  refine XO.q (Q.neq rfl rfl) ?_
  refine XO.done ?_
  refine XK.if rfl (fun c0 => ?_) (fun c0 => ?_)
  · have _t0 := True.intro
    refine XK.seq ?_
    refine XK.region rfl ?_
    refine XO.q (Q.move rfl) ?_
    refine XO.q (Q.assign rfl) ?_
    refine XO.done ?_
    refine XK.rt [] Try.func47 Try.results47 (.t rfl .n) ?_
    exact ⟨by rw [boxedG, if_pos c0], rfl⟩
  · have _t0 := True.intro
    refine XK.skip ?_
    refine XK.seq ?_
    refine XK.seq ?_
    refine XK.drawn [0, 1, 3, 4, 8] [b4] [] (.q 0 (.q 1 (.q 3 (.q 4 (.br 2 true (.br 5 true (.br 6 true (.br 7 true (.q 8 .done) .stop) .stop) .stop) .stop))))) Try.mixed rfl (by kernel_rfl) ?_
    refine XT.q rfl rfl (Q.ldA [_, _, _, _] rfl rfl rfl) ?_
    refine XT.q rfl rfl (Q.move rfl) ?_
    refine XT.q rfl rfl (Q.ldA [_, _, _, _] rfl rfl rfl) ?_
    refine XT.q rfl rfl (Q.move rfl) ?_
    refine XT.call rfl rfl Try.call41 rfl rfl rfl (warm_spec h vr vw vb vc hr vlo hlo lo) (fun v19 s19 R19 => ?_) XT.stop
    obtain ⟨rfl, rfl⟩ := R19
    dsimp only [List.cons_append, List.nil_append]
    refine ⟨inferInstance, ?_⟩
    refine XT.call rfl rfl Try.call41 rfl rfl rfl (warm_spec h vr vw vb vc hr vhi hhi hi) (fun v22 s22 R22 => ?_) XT.stop
    obtain ⟨rfl, rfl⟩ := R22
    dsimp only [List.cons_append, List.nil_append]
    refine ⟨inferInstance, ?_⟩
    refine XT.lit [_, _] [_, _] [warmP h lo, warmP h hi] encI rfl rfl (by rfl) (by rfl) rfl (by rfl) (by exact .c 0 1 rfl rfl rfl (.c 1 1 rfl rfl rfl (.n _))) (fun _ => rfl) (by rfl) rfl (by infer_instance) rfl (fun v23 h23 O23 => ⟨inferInstance, ?_⟩) XT.stop
    refine XT.call rfl rfl Try.call40 rfl rfl rfl (both_spec v23 h23 [warmP h lo, warmP h hi]) (fun v24 s24 R24 => ?_) XT.stop
    obtain ⟨rfl, rfl⟩ := R24
    dsimp only [List.cons_append, List.nil_append]
    refine ⟨inferInstance, ?_⟩
    refine XT.q rfl rfl (Q.assign rfl) ?_
    refine XT.done ?_
    refine XK.seq ?_
    refine XK.region rfl ?_
    refine XO.q (Q.move rfl) ?_
    refine XO.q (Q.neq rfl rfl) ?_
    refine XO.done ?_
    refine XK.if rfl (fun c1 => ?_) (fun c1 => ?_)
    · have _t1 := True.intro
      refine XK.seq ?_
      refine XK.region rfl ?_
      refine XO.q (Q.move rfl) ?_
      refine XO.q (Q.assign rfl) ?_
      refine XO.done ?_
      refine XK.rt [] Try.func47 Try.results47 (.t rfl .n) ?_
      exact ⟨by rw [boxedG, if_neg c0, if_pos c1], rfl⟩
    · have _t1 := True.intro
      have oklo : TOk h lo := both_warm (Decidable.of_not_not c1) (by simp)
      have okhi : TOk h hi := both_warm (Decidable.of_not_not c1) (by simp)
      refine XK.skip ?_
      refine XK.seq ?_
      refine XK.seq ?_
      refine XK.region rfl ?_
      refine XO.q (Q.move rfl) ?_
      refine XO.q (Q.move rfl) ?_
      refine XO.call Try.call48 rfl rfl rfl (below_spec7 vlo vhi hlo hhi lo hi (by rw [oklo.len, okhi.len]; exact Nat.le_refl _)) fun v30 s30 R30 => ?_
      obtain ⟨rfl, rfl⟩ := R30
      dsimp only [List.cons_append, List.nil_append]
      refine XO.q (Q.not rfl) ?_
      refine XO.done ?_
      refine XK.if rfl (fun c2 => ?_) (fun c2 => ?_)
      · have _t2 := True.intro
        refine XK.seq ?_
        refine XK.region rfl ?_
        refine XO.q (Q.assign rfl) ?_
        refine XO.done ?_
        refine XK.rt [] Try.func47 Try.results47 (.t rfl .n) ?_
        exact ⟨by rw [boxedG, if_neg c0, if_neg c1, if_neg c2], rfl⟩
      · have _t2 := True.intro
        refine XK.skip ?_
        refine XK.seq ?_
        refine XK.region rfl ?_
        refine XO.q (Q.assign rfl) ?_
        refine XO.done ?_
        refine XK.rt [] Try.func47 Try.results47 (.t rfl .n) ?_
        exact ⟨by rw [boxedG, if_neg c0, if_neg c1, if_pos (Decidable.of_not_not c2)], rfl⟩
theorem Held_spec (h : Hall) (vr vw vb vc : Value) (hr hw hb hc : PHeap) [ir : Arr vr encRoom 2 hr h.rooms] [iw : Arr vw encWall 3 hw h.walls] [ib : Arr vb encBranch 3 hb h.branches] [ic : Arr vc encCooler 5 hc h.coolers] (a d : HCase) (va vd : Value) (ha hd : PHeap) [ia : Arr va encI 1 ha a.load] [id : Arr vd encI 1 hd d.load] (lo hi : List Int) (vlo vhi : Value) (hlo hhi : PHeap) [ilo : Arr vlo encI 1 hlo lo] [ihi : Arr vhi encI 1 hhi hi] : Spec Try.prog 22 #[.agg #[vr, vw, vb, vc], vlo, vhi, .agg #[va, .int .i64 a.out, .int .i64 a.pump, vd, .int .i64 d.out, .int .i64 d.pump]] [] [hr, hw, hb, hc, ha, hd, hlo, hhi] (fun v hs => v = .tuple #[.bool (heldG h lo hi a d).1, .int .i64 (heldG h lo hi a d).2] ∧ hs = []) := by
  refine Spec.intro (fn := Try.f22) (N := 35) Try.func22 rfl Try.ntmps22 rfl fun B => ?_
  refine XK.seq ?_
  refine XK.region rfl ?_
  refine XO.box rfl fun b4 => ?_
  refine XO.box rfl fun b7 => ?_
  refine XO.q (Q.assign rfl) ?_
  refine XO.q (Q.assign rfl) ?_
  refine XO.done ?_
  refine XK.seq ?_
  refine XK.seq ?_
  refine XK.region rfl ?_
  refine XO.q (Q.ldA [_, _, _, _] rfl rfl rfl) ?_
  refine XO.q (Q.move rfl) ?_
  refine XO.q (Q.move rfl) ?_
  refine XO.q (Q.ldA [_, _, _, _, _, _] rfl rfl rfl) ?_
  refine XO.call Try.call47 rfl rfl rfl (boxed_spec h vr vw vb vc hr hw hb hc a d va vd ha hd lo hi vlo vhi hlo hhi) fun v15 s15 R15 => ?_
  obtain ⟨rfl, rfl⟩ := R15
  dsimp only [List.cons_append, List.nil_append]
  refine XO.q (Q.assign rfl) ?_
  refine XO.done ?_
  refine XK.seq ?_
  refine XK.region rfl ?_
  refine XO.q (Q.move rfl) ?_
  refine XO.q (Q.neq rfl rfl) ?_
  refine XO.done ?_
  refine XK.if rfl (fun c0 => ?_) (fun c0 => ?_)
  · have _t0 := True.intro
    refine XK.seq ?_
    refine XK.region rfl ?_
    refine XO.q (Q.move rfl) ?_
    refine XO.q (Q.assign rfl) ?_
    refine XO.q (Q.assign rfl) ?_
    refine XO.done ?_
    refine XK.rt [] Try.func22 Try.results22 (.t rfl (.t rfl .n)) ?_
    exact ⟨by rw [heldG, if_pos c0], rfl⟩
  · have _t0 := True.intro
    obtain ⟨ok0, oka, okd, oklo, okhi, _, _⟩ := boxed_ok (Decidable.of_not_not c0)
    refine XK.skip ?_
    refine XK.seq ?_
    refine XK.region rfl ?_
    refine XO.q (Q.move rfl) ?_
    refine XO.q (Q.ldA [_, _, _, _] rfl rfl rfl) ?_
    refine XO.q (Q.move rfl) ?_
    refine XO.q (Q.fieldAddr rfl) ?_
    refine XO.q (Q.ldA [_, _, _] rfl rfl rfl) ?_
    refine XO.call Try.call43 rfl rfl rfl (next_spec7 h vr vw vb vc hr hw hb hc (hcheck_ok ok0) lo vlo hlo oklo a oka va ha) fun v24 s24 R24 => ?_
    obtain ⟨k24, rfl, O24⟩ := R24
    dsimp only [List.cons_append, List.nil_append]
    refine XO.call Try.call48 rfl rfl rfl (below_spec7 vlo v24 hlo k24 lo (nextL h lo a) (by rw [oklo.len, nextL_len]; exact Nat.le_refl _)) fun v25 s25 R25 => ?_
    obtain ⟨rfl, rfl⟩ := R25
    dsimp only [List.cons_append, List.nil_append]
    rcases hb25 : lbelow lo (nextL h lo a) with _ | _
    · have _tb := True.intro
      refine XO.q (Q.move rfl) ?_
      refine XO.q (Quiet.off rfl rfl (by decide)) ?_
      refine XO.q (Quiet.off rfl rfl (by decide)) ?_
      refine XO.q (Quiet.off rfl rfl (by decide)) ?_
      refine XO.q (Quiet.off rfl rfl (by decide)) ?_
      refine XO.q (Quiet.off rfl rfl (by decide)) ?_
      refine XO.q (Quiet.off rfl rfl (by decide)) ?_
      refine XO.q (Quiet.off rfl rfl (by decide)) ?_
      refine XO.q (Q.and (b := false) (b2 := false) rfl (fun hp => by cases hp)) ?_
      refine XO.q (Q.assign rfl) ?_
      refine XO.q (Q.assign rfl) ?_
      refine XO.done ?_
      refine XK.rt [] Try.func22 Try.results22 (.t rfl (.t rfl .n)) ?_
      exact ⟨by rw [heldG, if_neg c0, hb25, Bool.false_and]; rfl, rfl⟩
    · have _tb := True.intro
      refine XO.q (Q.move rfl) ?_
      refine XO.q (Quiet.guardT rfl rfl fun g27 p27 => Q.ldA [_, _, _, _] rfl rfl rfl) ?_
      refine XO.q (Quiet.guardT rfl rfl fun g28 p28 => Q.move rfl) ?_
      refine XO.q (Quiet.guardT rfl rfl fun g29 p29 => Q.fieldAddr rfl) ?_
      refine XO.q (Quiet.guardT rfl rfl fun g30 p30 => Q.ldA [_, _, _] (lzv rfl rfl) rfl rfl) ?_
      refine XO.callS rfl rfl rfl Try.call43 rfl (.c (lzv rfl rfl) (.c (lzv rfl rfl) (.c (lzv rfl rfl) .n))) rfl (next_spec7 h vr vw vb vc hr hw hb hc (hcheck_ok ok0) hi vhi hhi okhi d okd vd hd) fun v31 s31 R31 => ?_
      obtain ⟨k31, rfl, O31⟩ := R31
      dsimp only [List.cons_append, List.nil_append]
      refine XO.q (Quiet.guardT rfl rfl fun g32 p32 => Q.move rfl) ?_
      refine XO.callS rfl rfl rfl Try.call48 rfl (.c rfl (.c (lzv rfl rfl) .n)) rfl (below_spec7 v31 vhi k31 hhi (nextL h hi d) hi (by rw [okhi.len, nextL_len]; exact Nat.le_refl _)) fun v33 s33 R33 => ?_
      obtain ⟨rfl, rfl⟩ := R33
      dsimp only [List.cons_append, List.nil_append]
      refine XO.q (Q.and rfl (fun _ => rfl)) ?_
      refine XO.q (Q.assign rfl) ?_
      refine XO.q (Q.assign rfl) ?_
      refine XO.done ?_
      refine XK.rt [] Try.func22 Try.results22 (.t rfl (.t rfl .n)) ?_
      exact ⟨by rw [heldG, if_neg c0, hb25], rfl⟩
theorem always1 (b : Nat) (c : HCase) (vl : Value) [il : One vl] (x : Value) : Spec Try.prog 83 #[x, ptr b 0] [] [blk b [vl, .int .i64 c.out, .int .i64 c.pump] 43] (fun v hs => v = .agg #[vl, .int .i64 c.out, .int .i64 c.pump] ∧ hs = []) := by
  refine Spec.intro (fn := Try.f83) (N := 5) Try.func83 rfl Try.ntmps83 rfl fun B => ?_
  refine XK.seq ?_
  refine XK.region rfl ?_
  refine XO.alloc fun b3 => ?_
  refine XO.done ?_
  refine XK.seq ?_
  refine XK.region rfl ?_
  refine XO.q (Q.ldA [_, _, _] rfl rfl rfl) ?_
  refine XO.st rfl rfl rfl ?_
  refine XO.done ?_
  refine XK.rt [] Try.func83 Try.results83 (.cell [_, _, _] rfl rfl rfl (.n)) ?_
  exact ⟨rfl, rfl⟩
/-- The function that gives a second's case. -/
def OfC (y : Value) (n : Nat) (c : Nat → HCase) (vl : Nat → Value) (Ho : List PHeap) : Prop := ∀ i, i < n → VSpec Try.prog y [.int .i64 (i : Nat)] [] Ho (fun v hs => v = .agg #[vl i, .int .i64 (c i).out, .int .i64 (c i).pump] ∧ hs = [])
theorem OfC.two {y : Value} {n : Nat} {c : Nat → HCase} {vl : Nat → Value} {a : PHeap} (h : OfC y n c vl [a]) : OfC y n c vl [a, a] := fun i hi o r w hs hr => h i hi o r w hs (fun x hx => hr x (by rcases List.mem_cons.1 hx with rfl | hx; exact List.mem_cons_self; cases hx))
theorem always_spec (c : HCase) (vl : Value) [il : One vl] : Spec Try.prog 46 #[.agg #[vl, .int .i64 c.out, .int .i64 c.pump]] [] [] (fun v hs => ∃ b, hs = [blk b [vl, .int .i64 c.out, .int .i64 c.pump] 43] ∧ One v ∧ ∀ n, OfC v n (fun _ => c) (fun _ => vl) [blk b [vl, .int .i64 c.out, .int .i64 c.pump] 43]) := by
  refine Spec.intro (fn := Try.f46) (N := 4) Try.func46 rfl Try.ntmps46 rfl fun B => ?_
  refine XK.seq ?_
  refine XK.region rfl ?_
  refine XO.box rfl fun b1 => ?_
  refine XO.q (Q.assign rfl) ?_
  refine XO.done ?_
  refine XK.seq ?_
  refine XK.region rfl ?_
  refine XO.q (Q.func (fun _ he => rfl) (fun _ he => evs_rel he rfl)) ?_
  refine XO.q (Q.assign rfl) ?_
  refine XO.done ?_
  refine XK.rt [blk b1 [vl, .int .i64 c.out, .int .i64 c.pump] 43] Try.func46 Try.results46 (.t rfl .n) ?_
  exact ⟨b1, rfl, inferInstance, fun n i hi => VSpec.fn (fst := []) (cap := [ptr b1 0]) Try.call83 rfl (always1 b1 c vl _)⟩
end Go.X

set_option linter.unusedSimpArgs false
set_option linter.unusedVariables false
set_option maxRecDepth 20000
namespace Go.X
open Go.Proofs
theorem iter_ok2 {h : Hall} (ok : HOk h) {c : Nat → HCase} {t : List Int} (tk : TOk h t) {n : Nat} (ck : ∀ i, i < n → COk h (c i)) : ∀ i, i ≤ n → TOk h (iterT h c t i)
  | 0, _ => tk
  | i + 1, hi => next_ok ok (iter_ok2 ok tk ck i (by omega)) (ck i (by omega))
/-- What seconds yields: the temperatures after each second. -/
def SecY (h : Hall) (c : Nat → HCase) (t : List Int) (i : Nat) (K : PHeap) (vs : List Value) : Prop := ∃ sl, vs = [.int .i64 ((i : Int) + 1), sl] ∧ Arr sl encI 1 K (iterT h c t (i + 1))
theorem seconds1 (h : Hall) (vr vw vb vc : Value) (hr hw hb hc : PHeap) [ir : Arr vr encRoom 2 hr h.rooms] [iw : Arr vw encWall 3 hw h.walls] [ib : Arr vb encBranch 3 hb h.branches] [ic : Arr vc encCooler 5 hc h.coolers] (ok : HOk h) (c : Nat → HCase) (n : Nat) (hn : n ≤ 20000) (t : List Int) (vt : Value) (ht : PHeap) [it : Arr vt encI 1 ht t] (tk : TOk h t) (ck : ∀ i, i < n → COk h (c i)) (vl : Nat → Value) (hL : PHeap) (aL : ∀ i, i < n → Arr (vl i) encI 1 hL (c i).load) (y : Value) [iy : One y] (hy hz : PHeap) (of : OfC y n c vl [hy, hz]) (bn bh bt bo : Nat) (f : Value) (Hr : List PHeap) (Qc : Nat → PHeap → PHeap → Prop) (Xc : PHeap → PHeap → Prop)
    (mono : ∀ i K K' q, leH K K' → Qc i K q → Qc i K' q)
    (round : ∀ i, i < n → ∀ K vs q, SecY h c t i K vs → Qc i K q → VSpec Try.prog f vs [q] (K :: Hr) (fun v hs => ∃ b q', v = .bool b ∧ hs = [q'] ∧ (b = true → Qc (i + 1) K q') ∧ (b = false → Xc K q')))
    (q : PHeap) (hQ : Qc 0 emp q) : Spec Try.prog 82 #[f, ptr bn 0, ptr bh 0, ptr bt 0, ptr bo 0] (q :: [blk bn [.int .i64 (n : Nat)] 3, blk bh [vr, vw, vb, vc] 29, blk bt [vt] 31, blk bo [y] 115]) ([hr, hw, hb, hc, ht, hy, hz, hL] ++ Hr) (fun _ hs => ∃ q' K, hs = [q', K] ∧ (Qc n K q' ∨ Xc K q')) := by
  refine Spec.intro (fn := Try.f82) (N := 24) Try.func82 rfl Try.ntmps82 rfl fun B => ?_
  dsimp only [List.cons_append, List.nil_append]
  refine XK.seq ?_
  refine XK.region rfl ?_
  refine XO.q (Q.ld rfl rfl) ?_
  refine XO.q (Q.move rfl) ?_
  refine XO.done ?_
  refine XK.block ?_
  refine XK.while (X := Nat × Value × PHeap × PHeap × PHeap) [6, 8, 9, 10, 11, 12, 13, 14, 15, 16, 17, 18, 19, 20, 21, 22, 23] (fun ⟨i, v, kt, K, q1⟩ => [(8, some (.int .i64 (i : Nat)))]) (fun ⟨i, v, kt, K, q1⟩ => [q1, blk bn [.int .i64 (n : Nat)] 3, blk bh [vr, vw, vb, vc] 29, blk bt [v] 31, blk bo [y] 115, K]) (fun ⟨i, v, kt, K, q1⟩ => i ≤ n ∧ Arr v encI 1 kt (iterT h c t i) ∧ Either kt ht K ∧ Qc i K q1) (fun ⟨i, v, kt, K, q1⟩ => n - i) (0, vt, ht, emp, q) [q, blk bn [.int .i64 (n : Nat)] 3, blk bh [vr, vw, vb, vc] 29, blk bt [vt] 31, blk bo [y] 115, emp] rfl ⟨by omega, it, ⟨.inl rfl⟩, hQ⟩ (.c rfl (.base 0 rfl rfl)) ?_
  rintro ⟨i, v, kt, K, q1⟩ ⟨hi, aT, eT, hq⟩ ih0
  dsimp only [List.cons_append, List.nil_append] at ih0 ⊢
  refine XK.seq ?_
  refine XK.region rfl ?_
  refine XO.q (Q.lss rfl rfl) ?_
  refine XO.done ?_
  refine XK.seq ?_
  refine XK.if rfl (fun c0 => ?_) (fun c0 => ?_)
  · have _t0 := True.intro
    refine XK.skip ?_
    refine XK.seq ?_
    refine XK.block ?_
    refine XK.seq ?_
    refine XK.region rfl ?_
    refine XO.q (Q.move rfl) ?_
    refine XO.q (Q.assign rfl) ?_
    refine XO.done ?_
    refine XK.seq ?_
    refine XK.drawn [0, 1, 2, 3] [bh, bt, bo] [] (.q 0 (.q 1 (.q 2 (.q 3 (.br 4 true (.br 5 true (.br 6 false .done .stop) .stop) .stop))))) Try.mixed rfl (by kernel_rfl) ?_
    refine XT.q rfl rfl (Q.ldA [_, _, _, _] rfl rfl rfl) ?_
    refine XT.q rfl rfl (Q.ld rfl rfl) ?_
    refine XT.q rfl rfl (Q.ld rfl rfl) ?_
    refine XT.q rfl rfl (Q.move rfl) ?_
    haveI aLi := aL i (by omega)
    refine XT.vcall rfl rfl rfl rfl (of i (by omega)) (fun v15 s15 R15 => ?_) XT.stop
    obtain ⟨rfl, rfl⟩ := R15
    dsimp only [List.cons_append, List.nil_append]
    refine ⟨inferInstance, ?_⟩
    refine XT.call rfl rfl Try.call43 rfl rfl rfl (next_spec7 h vr vw vb vc hr hw hb hc ok (iterT h c t i) v kt (iter_ok2 ok tk ck i (by omega)) (c i) (ck i (by omega)) (vl i) hL) (fun v16 s16 R16 => ?_) XT.stop
    obtain ⟨k16, rfl, O16⟩ := R16
    dsimp only [List.cons_append, List.nil_append]
    refine ⟨inferInstance, ?_⟩
    refine XT.st rfl rfl rfl rfl rfl ⟨inferInstance, ?_⟩ XT.stop
    refine XT.done ?_
    refine XK.seq ?_
    refine XK.region rfl ?_
    refine XO.cat K k16 fun leK le16 => ?_
    have A16 : Arr v16 encI 1 (cat K k16) (iterT h c t (i + 1)) := Arr.le_heap (OArr.arr (s := O16)) le16
    clear O16
    refine XO.q (Q.move rfl) ?_
    refine XO.q (Q.move rfl) ?_
    refine XO.q (Q.add rfl rfl ⟨by omega, by omega⟩) ?_
    refine XO.q (Q.ld rfl rfl) ?_
    refine XO.vcall rfl rfl (round i (by omega) (cat K k16) _ q1 ⟨v16, rfl, A16⟩ (mono i K (cat K k16) q1 leK hq)) fun v21 s21 R21 => ?_
    obtain ⟨bb, q2, rfl, rfl, hT, hF⟩ := R21
    dsimp only [List.cons_append, List.nil_append]
    refine XO.q (Q.not rfl) ?_
    refine XO.done ?_
    refine XK.if rfl (fun c1 => ?_) (fun c1 => ?_)
    · have _t1 := True.intro
      refine XK.rt [q2, cat K k16] Try.func82 Try.results82 (.n) ?_
      exact ⟨q2, cat K k16, rfl, .inr (hF (by simpa using c1))⟩
    · have _t1 := True.intro
      refine XK.skip ?_
      refine XK.inBlock ?_
      refine XK.region rfl ?_
      refine XO.q (Q.add rfl rfl ⟨by omega, by omega⟩) ?_
      refine XO.q (Q.move rfl) ?_
      refine XO.done ?_
      exact ih0 (i + 1, v16, cat K k16, cat K k16, q2) _ _ ⟨by dsimp only; omega, A16, ⟨.inr rfl⟩, hT (by simpa using c1)⟩ (by first | omega | (dsimp only; omega)) (.c rfl (.base 35 rfl rfl)) inferInstance
  · have _t0 := True.intro
    refine XK.exit rfl ?_
    refine XK.fn [q1, K] Try.func82 Try.results82 (.n) ?_
    have hin : i = n := by omega
    subst hin
    exact ⟨q1, K, rfl, .inl hq⟩
theorem seconds_spec (h : Hall) (vr vw vb vc : Value) (hr hw hb hc : PHeap) [ir : Arr vr encRoom 2 hr h.rooms] [iw : Arr vw encWall 3 hw h.walls] [ib : Arr vb encBranch 3 hb h.branches] [ic : Arr vc encCooler 5 hc h.coolers] (ok : HOk h) (c : Nat → HCase) (n : Nat) (hn : n ≤ 20000) (t : List Int) (vt : Value) (ht : PHeap) [it : Arr vt encI 1 ht t] (tk : TOk h t) (ck : ∀ i, i < n → COk h (c i)) (vl : Nat → Value) (hL : PHeap) (aL : ∀ i, i < n → Arr (vl i) encI 1 hL (c i).load) (y : Value) [iy : One y] (hy hz : PHeap) (of : OfC y n c vl [hy, hz]) : Spec Try.prog 45 #[.agg #[vr, vw, vb, vc], vt, .int .i64 (n : Nat), y] [] [] (fun v hs => ∃ k1 k2 k3 k4, hs = [k1, k2, k3, k4] ∧ ItK Try.prog v n (SecY h c t) [k1, k2, k3, k4] [hr, hw, hb, hc, ht, hy, hz, hL]) := by
  refine Spec.intro (fn := Try.f45) (N := 10) Try.func45 rfl Try.ntmps45 rfl fun B => ?_
  refine XK.seq ?_
  refine XK.region rfl ?_
  refine XO.box rfl fun b4 => ?_
  refine XO.box rfl fun b5 => ?_
  refine XO.box rfl fun b6 => ?_
  refine XO.box rfl fun b7 => ?_
  refine XO.q (Q.assign rfl) ?_
  refine XO.done ?_
  refine XK.seq ?_
  refine XK.region rfl ?_
  refine XO.q (Q.func (fun _ he => rfl) (fun _ he => evs_rel he rfl)) ?_
  refine XO.q (Q.assign rfl) ?_
  refine XO.done ?_
  refine XK.rt [blk b6 [.int .i64 (n : Nat)] 3, blk b4 [vr, vw, vb, vc] 29, blk b5 [vt] 31, blk b7 [y] 115] Try.func45 Try.results45 (.t rfl .n) ?_
  exact ⟨_, _, _, _, rfl, fun f Hr Q X mono round q hQ => VSpec.fn (fst := []) (cap := [ptr b6 0, ptr b4 0, ptr b5 0, ptr b7 0]) Try.call82 rfl (seconds1 h vr vw vb vc hr hw hb hc ok c n hn t vt ht tk ck vl hL aL y hy hz of b6 b4 b5 b7 f Hr Q X mono round q hQ)⟩
end Go.X

set_option linter.unusedSimpArgs false
set_option linter.unusedVariables false
set_option maxRecDepth 20000
namespace Go.X
open Go.Proofs
/-- A slice that lies in one of two heaps. -/
def ArrE (v : Value) (xs : List Int) (a b : PHeap) : Prop := Arr v encI 1 a xs ∨ Arr v encI 1 b xs
theorem ArrE.open {v : Value} {xs : List Int} {a b : PHeap} (h : ArrE v xs a b) : ∃ k, Arr v encI 1 k xs ∧ Either k a b := h.elim (fun h => ⟨a, h, ⟨.inl rfl⟩⟩) (fun h => ⟨b, h, ⟨.inr rfl⟩⟩)
theorem ArrE.mono {v : Value} {xs : List Int} {a b b' : PHeap} (hl : leH b b') (h : ArrE v xs a b) : ArrE v xs a b' := orMap h id (fun h => Arr.le_heap h hl)
theorem inP_le {n m : Int} (h : inP n m = true) : 0 ≤ n ∧ n ≤ m := by unfold inP at h; simpa using h
theorem Settle_spec (h : Hall) (vr vw vb vc : Value) (hr hw hb hc : PHeap) [ir : Arr vr encRoom 2 hr h.rooms] [iw : Arr vw encWall 3 hw h.walls] [ib : Arr vb encBranch 3 hb h.branches] [ic : Arr vc encCooler 5 hc h.coolers] (t : List Int) (vt : Value) (ht : PHeap) [it : Arr vt encI 1 ht t] (c : HCase) (vl : Value) (hl : PHeap) [il : Arr vl encI 1 hl c.load] (m : Int) : Spec Try.prog 21 #[.agg #[vr, vw, vb, vc], vt, .agg #[vl, .int .i64 c.out, .int .i64 c.pump], .int .i64 m] [] [hr, hw, hb, hc, ht, hl]
    (fun v hs => ∃ v1 k1, v = .tuple #[v1, .int .i64 (settleG h t c m).2.1, .int .i64 (settleG h t c m).2.2] ∧ hs = [k1] ∧ Arr v1 encI 1 k1 (settleG h t c m).1) := by
  refine Spec.intro (fn := Try.f21) (N := 51) Try.func21 rfl Try.ntmps21 rfl fun B => ?_
  refine XK.seq ?_
  refine XK.region rfl ?_
  refine XO.box rfl fun b4 => ?_
  refine XO.box rfl fun b6 => ?_
  refine XO.alloc fun b8 => ?_
  refine XO.alloc fun b9 => ?_
  refine XO.alloc fun b10 => ?_
  refine XO.done ?_
  refine XK.seq ?_
  refine XK.seq ?_
  refine XK.region rfl ?_
  refine XO.q (Q.ldA [_, _, _, _] rfl rfl rfl) ?_
  refine XO.call Try.call36 rfl rfl rfl (Check_spec h vr vw vb vc hr hw hb hc) fun v17 s17 R17 => ?_
  obtain ⟨rfl, rfl⟩ := R17
  dsimp only [List.cons_append, List.nil_append]
  refine XO.q (Q.assign rfl) ?_
  refine XO.done ?_
  refine XK.seq ?_
  refine XK.region rfl ?_
  refine XO.q (Q.move rfl) ?_
  refine XO.q (Q.neq rfl rfl) ?_
  refine XO.done ?_
  refine XK.if rfl (fun c0 => ?_) (fun c0 => ?_)
  · have _t0 := True.intro
    refine XK.seq ?_
    refine XK.region rfl ?_
    refine XO.q (Q.move rfl) ?_
    refine XO.st rfl rfl rfl ?_
    refine XO.st rfl rfl rfl ?_
    refine XO.st rfl rfl rfl ?_
    refine XO.done ?_
    refine XK.rt [emp] Try.func21 Try.results21 (.cell1 rfl rfl (.cell1 rfl rfl (.cell1 rfl rfl (.n)))) ?_
    have hw0 : settleG h t c m = ([], 0, hcheck h) := by rw [settleG, if_pos c0]
    rw [hw0]
    exact ⟨.slice none 0 0, emp, rfl, rfl, Arr.nil (fun _ => rfl)⟩
  · have _t0 := True.intro
    refine XK.skip ?_
    refine XK.seq ?_
    refine XK.seq ?_
    refine XK.drawn [0, 1, 3, 4, 8] [b4, b6] [] (.q 0 (.q 1 (.q 3 (.q 4 (.br 2 true (.br 5 true (.br 6 true (.br 7 true (.q 8 .done) .stop) .stop) .stop) .stop))))) Try.mixed rfl (by kernel_rfl) ?_
    refine XT.q rfl rfl (Q.ldA [_, _, _, _] rfl rfl rfl) ?_
    refine XT.q rfl rfl (Q.move rfl) ?_
    refine XT.q rfl rfl (Q.ldA [_, _, _, _] rfl rfl rfl) ?_
    refine XT.q rfl rfl (Q.ldA [_, _, _] rfl rfl rfl) ?_
    refine XT.call rfl rfl Try.call41 rfl rfl rfl (warm_spec h vr vw vb vc hr vt ht t) (fun v23 s23 R23 => ?_) XT.stop
    obtain ⟨rfl, rfl⟩ := R23
    dsimp only [List.cons_append, List.nil_append]
    refine ⟨inferInstance, ?_⟩
    refine XT.call rfl rfl Try.call42 rfl rfl rfl (cased_spec h vr vw vb vc hr vl hl c) (fun v26 s26 R26 => ?_) XT.stop
    obtain ⟨rfl, rfl⟩ := R26
    dsimp only [List.cons_append, List.nil_append]
    refine ⟨inferInstance, ?_⟩
    refine XT.lit [_, _] [_, _] [warmP h t, casedP h c] encI rfl rfl (by rfl) (by rfl) rfl (by rfl) (by exact .c 0 1 rfl rfl rfl (.c 1 1 rfl rfl rfl (.n _))) (fun _ => rfl) (by rfl) rfl (by infer_instance) rfl (fun v27 h27 O27 => ⟨inferInstance, ?_⟩) XT.stop
    refine XT.call rfl rfl Try.call40 rfl rfl rfl (both_spec v27 h27 [warmP h t, casedP h c]) (fun v28 s28 R28 => ?_) XT.stop
    obtain ⟨rfl, rfl⟩ := R28
    dsimp only [List.cons_append, List.nil_append]
    refine ⟨inferInstance, ?_⟩
    refine XT.q rfl rfl (Q.assign rfl) ?_
    refine XT.done ?_
    refine XK.seq ?_
    refine XK.region rfl ?_
    refine XO.q (Q.move rfl) ?_
    refine XO.q (Q.neq rfl rfl) ?_
    refine XO.done ?_
    refine XK.if rfl (fun c1 => ?_) (fun c1 => ?_)
    · have _t1 := True.intro
      refine XK.seq ?_
      refine XK.region rfl ?_
      refine XO.q (Q.move rfl) ?_
      refine XO.st rfl rfl rfl ?_
      refine XO.st rfl rfl rfl ?_
      refine XO.st rfl rfl rfl ?_
      refine XO.done ?_
      refine XK.rt [emp] Try.func21 Try.results21 (.cell1 rfl rfl (.cell1 rfl rfl (.cell1 rfl rfl (.n)))) ?_
      have hw0 : settleG h t c m = ([], 0, bothP [warmP h t, casedP h c]) := by rw [settleG, if_neg c0, if_pos c1]
      rw [hw0]
      exact ⟨.slice none 0 0, emp, rfl, rfl, Arr.nil (fun _ => rfl)⟩
    · have _t1 := True.intro
      have ok0 := Decidable.of_not_not c0
      obtain ⟨okt, okc⟩ := both_ok (Decidable.of_not_not c1)
      refine XK.skip ?_
      refine XK.seq ?_
      refine XK.seq ?_
      refine XK.region rfl ?_
      refine XO.q (Q.move rfl) ?_
      refine XO.call Try.call37 rfl rfl rfl (in_spec _ _) fun v33 s33 R33 => ?_
      obtain ⟨rfl, rfl⟩ := R33
      dsimp only [List.cons_append, List.nil_append]
      refine XO.q (Q.not rfl) ?_
      refine XO.done ?_
      refine XK.if rfl (fun c2 => ?_) (fun c2 => ?_)
      · have _t2 := True.intro
        refine XK.seq ?_
        refine XK.region rfl ?_
        refine XO.st rfl rfl rfl ?_
        refine XO.st rfl rfl rfl ?_
        refine XO.st rfl rfl rfl ?_
        refine XO.done ?_
        refine XK.rt [emp] Try.func21 Try.results21 (.cell1 rfl rfl (.cell1 rfl rfl (.cell1 rfl rfl (.n)))) ?_
        have hw0 : settleG h t c m = ([], 0, 2) := by rw [settleG, if_neg c0, if_neg c1, if_pos c2]
        rw [hw0]
        exact ⟨.slice none 0 0, emp, rfl, rfl, Arr.nil (fun _ => rfl)⟩
      · have _t2 := True.intro
        obtain ⟨hm0, hm1⟩ := inP_le (Decidable.of_not_not c2)
        obtain ⟨N, eN⟩ : ∃ N : Nat, m = N := ⟨m.toNat, by omega⟩
        subst eN
        refine XK.skip ?_
        refine XK.seq ?_
        refine XK.region rfl ?_
        refine XO.q (Q.move rfl) ?_
        refine XO.alloc fun b13 => ?_
        refine XO.st rfl rfl rfl ?_
        refine XO.done ?_
        refine XK.seq ?_
        refine XK.seq ?_
        refine XK.drawn [0, 1, 2, 3] [b4, b6] [] (.q 0 (.q 1 (.q 2 (.q 3 (.br 4 true (.br 5 true .done .stop) .stop))))) Try.mixed rfl (by kernel_rfl) ?_
        refine XT.q rfl rfl (Q.ldA [_, _, _, _] rfl rfl rfl) ?_
        refine XT.q rfl rfl (Q.move rfl) ?_
        refine XT.q rfl rfl (Q.move rfl) ?_
        refine XT.q rfl rfl (Q.ldA [_, _, _] rfl rfl rfl) ?_
        refine XT.call rfl rfl Try.call46 rfl rfl rfl (always_spec c vl) (fun v40 s40 R40 => ?_) XT.stop
        obtain ⟨bC, rfl, oneF, ofC⟩ := R40
        dsimp only [List.cons_append, List.nil_append]
        refine ⟨inferInstance, ?_⟩
        refine XT.call rfl rfl Try.call45 rfl rfl rfl (seconds_spec h vr vw vb vc hr hw hb hc (hcheck_ok ok0) (fun _ => c) N (by omega) t vt ht okt (fun _ _ => okc) (fun _ => vl) hl (fun _ _ => il) v40 (blk bC [vl, .int .i64 c.out, .int .i64 c.pump] 43) (blk bC [vl, .int .i64 c.out, .int .i64 c.pump] 43) (ofC N).two) (fun v41 s41 R41 => ?_) XT.stop
        obtain ⟨k1, k2, k3, k4, rfl, hit⟩ := R41
        dsimp only [List.cons_append, List.nil_append]
        refine ⟨inferInstance, ?_⟩
        refine XT.done ?_
        refine XK.block ?_
        refine XK.rangeK (X := Value × Value × Value × Value) (ps := [42, 43]) (fun ⟨vlast, v8, v9, v10⟩ => [blk b8 [v8] 31, blk b9 [v9] 3, blk b10 [v10] 32, blk b13 [vlast] 31]) (fun i ⟨vlast, v8, v9, v10⟩ K0 => ArrE vlast (iterT h (fun _ => c) t i) ht K0 ∧ settleL h c N 0 t = settleL h c (N - i) i (iterT h (fun _ => c) t i)) (fun j0 ⟨vlast, v8, v9, v10⟩ K0 => j0 = Code.ret ∧ ∃ m1 : Int, v9 = .int .i64 m1 ∧ v10 = .int .i64 0 ∧ Arr v8 encI 1 K0 (settleL h c N 0 t).1 ∧ m1 = (settleL h c N 0 t).2.1 ∧ (settleL h c N 0 t).2.2 = 0) (vt, .slice none 0 0, .int .i64 0, .int .i64 0) [blk b8 [.slice none 0 0] 31, blk b9 [.int .i64 0] 3, blk b10 [.int .i64 0] 32, blk b13 [vt] 31] rfl (hit) rfl (fun i x K K' hle hI => ⟨hI.1.mono hle, hI.2⟩) (⟨.inl it, rfl⟩) rfl (fun i K vs hY => by obtain ⟨sl, rfl, _⟩ := hY; rfl) ?_ ?_ ?_
        · rintro l rec B' i ⟨vlast, v8, v9, v10⟩ K0 vs hi ⟨v43, rfl, a43⟩ ⟨aLast, hset⟩
          dsimp only [List.cons_append, List.nil_append]
          obtain ⟨kl, iLast, eLast⟩ := aLast.open
          refine XK.seq ?_
          refine XK.region rfl ?_
          refine XO.q (Q.assign rfl) ?_
          refine XO.done ?_
          refine XK.region rfl ?_
          refine XO.q (Q.assign rfl) ?_
          refine XO.done ?_
          refine XK.beginRound ?_
          refine XK.block ?_
          refine XK.seq ?_
          refine XK.seq ?_
          refine XK.region rfl ?_
          refine XO.q (Q.move rfl) ?_
          refine XO.q (Q.ld rfl rfl) ?_
          refine XO.call Try.call39 rfl rfl rfl (equalI v43 vlast K0 kl (iterT h (fun _ => c) t (i + 1)) (iterT h (fun _ => c) t i)) fun v46 s46 R46 => ?_
          obtain ⟨rfl, rfl⟩ := R46
          dsimp only [List.cons_append, List.nil_append]
          refine XO.done ?_
          refine XK.if rfl (fun c3 => ?_) (fun c3 => ?_)
          · have _t3 := True.intro
            refine XK.seq ?_
            refine XK.region rfl ?_
            refine XO.q (Q.move rfl) ?_
            refine XO.q (Q.move rfl) ?_
            refine XO.q (Q.sub rfl rfl ⟨by omega, by omega⟩) ?_
            refine XO.st rfl rfl rfl ?_
            refine XO.st rfl rfl rfl ?_
            refine XO.st rfl rfl rfl ?_
            refine XO.done ?_
            have hst : settleL h c N 0 t = (iterT h (fun _ => c) t (i + 1), ((i : Nat) : Int), 0) := by rw [hset, show N - i = (N - (i + 1)) + 1 by omega, settleL, if_pos (show nextL h (iterT h (fun _ => c) t i) c = iterT h (fun _ => c) t i from c3)]; rfl
            exact XK.leave (j := some .ret) [blk b8 [v43] 31, blk b9 [.int .i64 ((i : Int) + 1 - 1)] 3, blk b10 [.int .i64 0] 32, blk b13 [vlast] 31] trivial ⟨(vlast, v43, .int .i64 ((i : Int) + 1 - 1), .int .i64 0), ⟨rfl, ⟨_, rfl, rfl, by rw [hst]; exact a43, by rw [hst]; dsimp only; omega, by rw [hst]⟩⟩, rfl⟩
          · have _t3 := True.intro
            refine XK.skip ?_
            refine XK.region rfl ?_
            refine XO.q (Q.move rfl) ?_
            refine XO.st rfl rfl rfl ?_
            refine XO.done ?_
            refine XK.inBlock ?_
            exact XK.leave (j := none) [blk b8 [v8] 31, blk b9 [v9] 3, blk b10 [v10] 32, blk b13 [v43] 31] trivial ⟨(v43, v8, v9, v10), ⟨.inr a43, by rw [hset, show N - i = (N - (i + 1)) + 1 by omega, settleL, if_neg (show ¬ nextL h (iterT h (fun _ => c) t i) c = iterT h (fun _ => c) t i from c3)]; rfl⟩, rfl⟩
        · rintro ⟨vlast, v8, v9, v10⟩ K0 ⟨aLast, hset⟩
          dsimp only [List.cons_append, List.nil_append]
          refine XK.inBlock ?_
          refine XK.seq ?_
          refine XK.region rfl ?_
          refine XO.st rfl rfl rfl ?_
          refine XO.st rfl rfl rfl ?_
          refine XO.st rfl rfl rfl ?_
          refine XO.done ?_
          refine XK.rt [emp] Try.func21 Try.results21 (.cell1 rfl rfl (.cell1 rfl rfl (.cell1 rfl rfl (.n)))) ?_
          have hw0 : settleG h t c N = ([], 0, 60) := by rw [settleG, if_neg c0, if_neg c1, if_neg c2, Int.toNat_natCast, hset, Nat.sub_self]; rfl
          rw [hw0]
          exact ⟨.slice none 0 0, emp, rfl, rfl, Arr.nil (fun _ => rfl)⟩
        · rintro _ ⟨vlast, v8, v9, v10⟩ K0 ⟨rfl, ⟨m1, rfl, rfl, a8, e1, e2⟩⟩
          dsimp only [List.cons_append, List.nil_append]
          refine XK.rt [K0] Try.func21 Try.results21 (.cell1 rfl rfl (.cell1 rfl rfl (.cell1 rfl rfl (.n)))) ?_
          have hw0 : settleG h t c N = settleL h c N 0 t := by rw [settleG, if_neg c0, if_neg c1, if_neg c2, Int.toNat_natCast]
          rw [hw0, e2, ← e1]
          exact ⟨_, K0, rfl, rfl, a8⟩
end Go.X

set_option linter.unusedSimpArgs false
set_option linter.unusedVariables false
set_option maxRecDepth 20000
namespace Go.X
open Go.Proofs
theorem mid1 (b bd j : Nat) (hj : j ≤ 1000) (vp : Value) (hp : PHeap) (p : List UInt8) [sp : Arr vp encU8 1 hp p] (x y : Int) (hxy : x ≤ y) (hx : -1000000 ≤ x) (hy : y ≤ 1000000) :
    Spec Try.prog 49 #[.int .i64 x, .int .i64 y, ptr bd 0] [blk b [vp, .int .i64 ((j : Nat) : Int)] 99] [hp, blk bd [ptr b 0] 97] (fun v hs => ∃ m : Int, v = .int .i64 m ∧ hs = [blk b [vp, .int .i64 ((j + 1 : Nat) : Int)] 99] ∧ x ≤ m ∧ m ≤ y) := by
  refine Spec.intro (fn := Try.f49) (N := 15) Try.func49 rfl Try.ntmps49 rfl fun B => ?_
  refine XK.seq ?_
  refine XK.region rfl ?_
  refine XO.q (Q.assign rfl) ?_
  refine XO.done ?_
  refine XK.seq ?_
  refine XK.region rfl ?_
  refine XO.q (Q.move rfl) ?_
  refine XO.q (Q.move rfl) ?_
  refine XO.q (Q.move rfl) ?_
  refine XO.q (Q.sub rfl rfl ⟨by omega, by omega⟩) ?_
  refine XO.q (Q.ld rfl rfl) ?_
  refine XO.callB b Try.call35 rfl rfl rfl (next7 b vp hp p (j) (256) (by omega) (by omega) (by omega)) fun v11 s11 R11 => ?_
  obtain ⟨rfl, n11, rfl, h11⟩ := R11
  dsimp only [List.cons_append, List.nil_append]
  obtain ⟨m1, m2, m3, m4⟩ := mid_rng hxy h11
  refine XO.q (Q.mul rfl rfl ⟨by omega, by omega⟩) ?_
  refine XO.q (Q.quo rfl rfl (by omega) (by omega) (by omega)) ?_
  refine XO.q (Q.add rfl rfl ⟨by omega, by omega⟩) ?_
  refine XO.q (Q.assign rfl) ?_
  refine XO.done ?_
  refine XK.rt [blk b [vp, .int .i64 ((j + 1 : Nat) : Int)] 99] Try.func49 Try.results49 (.t rfl .n) ?_
  exact ⟨_, rfl, rfl, m3, m4⟩
theorem inside_spec (m : Nat) (hm : m ≤ 8) (a d : HCase) (va vd : Value) (ha hd : PHeap) [ia : Arr va encI 1 ha a.load] [id : Arr vd encI 1 hd d.load] (qa : CasedOk m a) (qd : CasedOk m d) (ad : LeC a d) (vp : Value) (hp : PHeap) (p : List UInt8) [sp : Arr vp encU8 1 hp p] : Spec Try.prog 24 #[.agg #[va, .int .i64 a.out, .int .i64 a.pump, vd, .int .i64 d.out, .int .i64 d.pump], vp] [] [ha, hd, hp]
    (fun v hs => ∃ (c : HCase) (v1 : Value) (k : PHeap), v = .agg #[v1, .int .i64 c.out, .int .i64 c.pump] ∧ hs = [k] ∧ OArr v1 encI 1 3 k c.load ∧ c.load.length = a.load.length ∧ LeC a c ∧ LeC c d) := by
  have hnil : OArr (.slice none 0 0) encI 1 3 emp ([] : List Int) := OArr.nil (fun _ => rfl)
  have q1 := qa.2.1
  have q2 := qd.2.1
  have q3 := qa.2.2
  have q4 := qd.2.2
  have q5 := ad.out
  have q6 := ad.pump
  have q7 := qa.1.1
  have q8 := qd.1.1
  refine Spec.intro (fn := Try.f24) (N := 58) Try.func24 rfl Try.ntmps24 rfl fun B => ?_
  refine XK.seq ?_
  refine XK.region rfl ?_
  refine XO.box rfl fun b2 => ?_
  refine XO.alloc fun b4 => ?_
  refine XO.done ?_
  refine XK.seq ?_
  refine XK.region rfl ?_
  refine XO.q (Q.move rfl) ?_
  refine XO.q (Q.build [_, _] (.c 0 1 rfl rfl rfl (.n _))) ?_
  refine XO.box rfl fun b11 => ?_
  refine XO.alloc fun b5 => ?_
  refine XO.st rfl rfl rfl ?_
  refine XO.done ?_
  refine XK.seq ?_
  refine XK.region rfl ?_
  refine XO.q (Q.func (fun _ he => rfl) (fun _ he => evs_rel he rfl)) ?_
  refine XO.q (Q.assign rfl) ?_
  refine XO.done ?_
  refine XK.seq ?_
  refine XK.meet (X := Nat × Int × Int) [7, 13, 14, 15, 16, 17, 18, 19, 20, 21, 22, 23, 24, 25, 26, 27, 28, 29] (fun ⟨b7, m20, m28⟩ => [(7, some (ptr b7 0))]) (fun ⟨b7, m20, m28⟩ => [blk b7 [.slice none 0 0, .int .i64 m20, .int .i64 m28] 43, blk b11 [vp, .int .i64 ((0 + 1 + 1 : Nat) : Int)] 99]) (fun ⟨b7, m20, m28⟩ => (a.out ≤ m20 ∧ m20 ≤ d.out) ∧ d.pump ≤ m28 ∧ m28 ≤ a.pump) [blk b11 [vp, .int .i64 ((0 : Nat) : Int)] 99] ?_ ?_
  · rintro ⟨b7, m20, m28⟩ ⟨⟨l20, u20⟩, l28, u28⟩
    dsimp only [List.cons_append, List.nil_append]
    refine XK.seq ?_
    refine XK.seq ?_
    refine XK.region rfl ?_
    refine XO.q (Q.fieldAddr rfl) ?_
    refine XO.q (Q.fieldAddr rfl) ?_
    refine XO.q (Q.ld rfl rfl) ?_
    refine XO.len rfl fun l33 => ?_
    refine XO.q (Q.move rfl) ?_
    refine XO.done ?_
    refine XK.block ?_
    refine XK.while (X := Nat × Value × PHeap × List Int) [8, 34, 35, 36, 37, 38, 39, 40, 41, 42, 43, 44, 45, 46, 47, 48, 49, 50, 51, 52, 53, 54, 55, 56] (fun ⟨i, v, k, t⟩ => [(34, some (.int .i64 (i : Nat)))]) (fun ⟨i, v, k, t⟩ => [blk b7 [v, .int .i64 m20, .int .i64 m28] 43, blk b11 [vp, .int .i64 ((i + 1 + 1 : Nat) : Int)] 99, k]) (fun ⟨i, v, k, t⟩ => i ≤ a.load.length ∧ t.length = i ∧ OArr v encI 1 3 k t ∧ ∀ j, j < i → a.load.getD j 0 ≤ t.getD j 0 ∧ t.getD j 0 ≤ d.load.getD j 0) (fun ⟨i, v, k, t⟩ => a.load.length - i) (0, .slice none 0 0, emp, []) [blk b7 [.slice none 0 0, .int .i64 m20, .int .i64 m28] 43, blk b11 [vp, .int .i64 ((0 + 1 + 1 : Nat) : Int)] 99, emp] rfl ⟨by omega, rfl, hnil, fun j hj => by omega⟩ (.c rfl (.base 0 rfl rfl)) ?_
    rintro ⟨i, v, k, t⟩ ⟨hi, htl, OT, hT⟩ ih0
    dsimp only [List.cons_append, List.nil_append] at ih0 ⊢
    refine XK.seq ?_
    refine XK.region rfl ?_
    refine XO.q (Q.lss rfl rfl) ?_
    refine XO.done ?_
    refine XK.seq ?_
    refine XK.if rfl (fun c0 => ?_) (fun c0 => ?_)
    · have _t0 := True.intro
      have r1 := qa.1.2 i (by omega)
      have r2 := qd.1.2 i (by omega)
      have r3 := ad.load i (by omega)
      change 0 ≤ a.load.getD i default ∧ a.load.getD i default ≤ _ at r1
      change 0 ≤ d.load.getD i default ∧ d.load.getD i default ≤ _ at r2
      change a.load.getD i default ≤ d.load.getD i default at r3
      refine XK.skip ?_
      refine XK.seq ?_
      refine XK.block ?_
      refine XK.seq ?_
      refine XK.region rfl ?_
      refine XO.q (Q.move rfl) ?_
      refine XO.q (Q.assign rfl) ?_
      refine XO.done ?_
      refine XK.drawn [0, 1, 2, 3, 4, 5, 6, 7, 8, 9, 10, 11, 12, 13, 14, 18] [b7, b2] [] (.q 0 (.q 1 (.q 2 (.q 3 (.q 4 (.q 5 (.q 6 (.q 7 (.q 8 (.q 9 (.q 10 (.q 11 (.q 12 (.q 13 (.q 14 (.br 15 true (.br 16 true (.br 17 true (.q 18 (.br 19 false .done .stop)) .stop) .stop) .stop)))))))))))))))) Try.mixed rfl (by kernel_rfl) ?_
      refine XT.q rfl rfl (Q.fieldAddr rfl) ?_
      refine XT.q rfl rfl (Q.ld rfl rfl) ?_
      refine XT.q rfl rfl (Q.move rfl) ?_
      refine XT.q rfl rfl (Q.fieldAddr rfl) ?_
      refine XT.q rfl rfl (Q.fieldAddr rfl) ?_
      refine XT.q rfl rfl (Q.ld rfl rfl) ?_
      refine XT.q rfl rfl (Q.move rfl) ?_
      refine XT.ix rfl rfl rfl rfl (by omega) (by omega) fun i44 => ?_
      refine XT.q rfl rfl (Q.ldE rfl (by first | assumption | omega) rfl) ?_
      refine XT.q rfl rfl (Q.fieldAddr rfl) ?_
      refine XT.q rfl rfl (Q.fieldAddr rfl) ?_
      refine XT.q rfl rfl (Q.ld rfl rfl) ?_
      refine XT.q rfl rfl (Q.move rfl) ?_
      refine XT.ix rfl rfl rfl rfl (by omega) (by omega) fun i50 => ?_
      refine XT.q rfl rfl (Q.ldE rfl (by first | assumption | omega) rfl) ?_
      refine XT.vcall rfl rfl rfl rfl (VSpec.fn (fst := []) (cap := [ptr b5 0]) Try.call49 rfl (mid1 b11 b5 (i + 1 + 1) (by omega) vp hp p (a.load.getD i default) (d.load.getD i default) (by omega) (by omega) (by omega))) (fun v52 s52 R52 => ?_) XT.stop
      obtain ⟨m52, rfl, rfl, l52, u52⟩ := R52
      dsimp only [List.cons_append, List.nil_append]
      refine ⟨inferInstance, ?_⟩
      refine XT.lit [_] [_] [_] encI rfl rfl (by rfl) (by rfl) rfl (by rfl) (by exact .c 0 1 rfl rfl rfl (.n _)) (fun _ => rfl) (by rfl) rfl (by infer_instance) rfl (fun v53 h53 O53 => ⟨inferInstance, ?_⟩) XT.stop
      refine XT.append rfl rfl rfl rfl rfl rfl (by simp only [List.length_cons, List.length_nil]; omega) (fun v54 h54 O54 => ⟨inferInstance, ?_⟩) XT.stop
      refine XT.q rfl rfl (Q.fieldAddr rfl) ?_
      refine XT.st rfl rfl rfl rfl rfl ⟨inferInstance, ?_⟩ XT.stop
      refine XT.done ?_
      refine XK.inBlock ?_
      refine XK.region rfl ?_
      refine XO.q (Q.add rfl rfl ⟨by omega, by omega⟩) ?_
      refine XO.q (Q.move rfl) ?_
      refine XO.done ?_
      exact ih0 (i + 1, v54, h54, _) _ _ ⟨by dsimp only; omega, by dsimp only; rw [List.length_append, htl]; rfl, O54, fun j hj => by
          dsimp only
          rw [snoc_getD, htl]
          by_cases hji : j < i
          · rw [if_pos hji]; exact hT j hji
          · rw [if_neg hji, if_pos (by omega), show j = i by omega]; exact ⟨l52, u52⟩⟩ (by first | omega | (dsimp only; omega)) (.c rfl (.base 49 rfl rfl)) inferInstance
    · have _t0 := True.intro
      refine XK.exit rfl ?_
      refine XK.seq ?_
      refine XK.region rfl ?_
      refine XO.q (Q.ldA [_, _, _] rfl rfl rfl) ?_
      refine XO.st rfl rfl rfl ?_
      refine XO.done ?_
      refine XK.rt [k] Try.func24 Try.results24 (.cell [_, _, _] rfl rfl rfl (.n)) ?_
      have hin : i = a.load.length := by omega
      subst hin
      exact ⟨⟨t, m20, m28⟩, v, k, rfl, rfl, OT, htl, ⟨fun j hj => (hT j hj).1, l20, u28⟩, ⟨fun j hj => (hT j (by dsimp only at hj; omega)).2, u20, l28⟩⟩
  · intro mtr3
    dsimp only [List.cons_append, List.nil_append] at mtr3
    refine XK.drawn [0, 1, 2, 3, 4, 5, 6, 8, 9, 10, 11, 12, 13, 14, 16] [b2] [] (.q 0 (.q 1 (.q 2 (.q 3 (.q 4 (.q 5 (.q 6 (.q 8 (.q 9 (.q 10 (.q 11 (.q 12 (.q 13 (.q 14 (.br 7 true (.br 15 true (.q 16 (.br 17 true (.br 18 false .done .stop) .stop)) (.br 17 true (.br 15 true (.q 16 (.br 18 false .done .stop)) .stop) .stop)) (.br 17 true (.br 7 true (.br 15 true (.q 16 (.br 18 false .done .stop)) .stop) .stop) .stop)))))))))))))))) Try.mixed rfl (by kernel_rfl) ?_
    refine XT.q rfl rfl (Q.move rfl) ?_
    refine XT.q rfl rfl (Q.fieldAddr rfl) ?_
    refine XT.q rfl rfl (Q.fieldAddr rfl) ?_
    refine XT.q rfl rfl (Q.ld rfl rfl) ?_
    refine XT.q rfl rfl (Q.fieldAddr rfl) ?_
    refine XT.q rfl rfl (Q.fieldAddr rfl) ?_
    refine XT.q rfl rfl (Q.ld rfl rfl) ?_
    refine XT.q rfl rfl (Q.move rfl) ?_
    refine XT.q rfl rfl (Q.fieldAddr rfl) ?_
    refine XT.q rfl rfl (Q.fieldAddr rfl) ?_
    refine XT.q rfl rfl (Q.ld rfl rfl) ?_
    refine XT.q rfl rfl (Q.fieldAddr rfl) ?_
    refine XT.q rfl rfl (Q.fieldAddr rfl) ?_
    refine XT.q rfl rfl (Q.ld rfl rfl) ?_
    refine XT.vcall rfl rfl rfl rfl (VSpec.fn (fst := []) (cap := [ptr b5 0]) Try.call49 rfl (mid1 b11 b5 (0) (by omega) vp hp p (a.out) (d.out) (by omega) (by omega) (by omega))) (fun v20 s20 R20 => ?_) ?_
    · skip
      obtain ⟨m20, rfl, rfl, l20, u20⟩ := R20
      dsimp only [List.cons_append, List.nil_append]
      refine ⟨inferInstance, ?_⟩
      refine XT.vcall rfl rfl rfl rfl (VSpec.fn (fst := []) (cap := [ptr b5 0]) Try.call49 rfl (mid1 b11 b5 (0 + 1) (by omega) vp hp p (d.pump) (a.pump) (by omega) (by omega) (by omega))) (fun v28 s28 R28 => ?_) ?_
      · skip
        obtain ⟨m28, rfl, rfl, l28, u28⟩ := R28
        dsimp only [List.cons_append, List.nil_append]
        refine ⟨inferInstance, ?_⟩
        refine XT.q rfl rfl (Q.build [_, _, _] (.c 1 1 rfl rfl rfl (.c 2 1 rfl rfl rfl (.n _)))) ?_
        refine XT.alloc rfl rfl (fun b7 => ⟨inferInstance, ?_⟩) XT.stop
        refine XT.st rfl rfl rfl rfl rfl ⟨inferInstance, ?_⟩ XT.stop
        refine XT.done ?_
        exact mtr3 ((b7, m20, m28)) _ _ ⟨⟨l20, u20⟩, l28, u28⟩ (.c rfl (.base 18 rfl rfl)) inferInstance
      · skip
        refine XT.alloc rfl rfl (fun b7 => ⟨inferInstance, ?_⟩) XT.stop
        refine XT.vcall rfl rfl rfl rfl (VSpec.fn (fst := []) (cap := [ptr b5 0]) Try.call49 rfl (mid1 b11 b5 (0 + 1) (by omega) vp hp p (d.pump) (a.pump) (by omega) (by omega) (by omega))) (fun v28 s28 R28 => ?_) XT.stop
        obtain ⟨m28, rfl, rfl, l28, u28⟩ := R28
        dsimp only [List.cons_append, List.nil_append]
        refine ⟨inferInstance, ?_⟩
        refine XT.q rfl rfl (Q.build [_, _, _] (.c 1 1 rfl rfl rfl (.c 2 1 rfl rfl rfl (.n _)))) ?_
        refine XT.st rfl rfl rfl rfl rfl ⟨inferInstance, ?_⟩ XT.stop
        refine XT.done ?_
        exact mtr3 ((b7, m20, m28)) _ _ ⟨⟨l20, u20⟩, l28, u28⟩ (.c rfl (.base 18 rfl rfl)) inferInstance
    · skip
      refine XT.alloc rfl rfl (fun b7 => ⟨inferInstance, ?_⟩) XT.stop
      refine XT.vcall rfl rfl rfl rfl (VSpec.fn (fst := []) (cap := [ptr b5 0]) Try.call49 rfl (mid1 b11 b5 (0) (by omega) vp hp p (a.out) (d.out) (by omega) (by omega) (by omega))) (fun v20 s20 R20 => ?_) XT.stop
      obtain ⟨m20, rfl, rfl, l20, u20⟩ := R20
      dsimp only [List.cons_append, List.nil_append]
      refine ⟨inferInstance, ?_⟩
      refine XT.vcall rfl rfl rfl rfl (VSpec.fn (fst := []) (cap := [ptr b5 0]) Try.call49 rfl (mid1 b11 b5 (0 + 1) (by omega) vp hp p (d.pump) (a.pump) (by omega) (by omega) (by omega))) (fun v28 s28 R28 => ?_) XT.stop
      obtain ⟨m28, rfl, rfl, l28, u28⟩ := R28
      dsimp only [List.cons_append, List.nil_append]
      refine ⟨inferInstance, ?_⟩
      refine XT.q rfl rfl (Q.build [_, _, _] (.c 1 1 rfl rfl rfl (.c 2 1 rfl rfl rfl (.n _)))) ?_
      refine XT.st rfl rfl rfl rfl rfl ⟨inferInstance, ?_⟩ XT.stop
      refine XT.done ?_
      exact mtr3 ((b7, m20, m28)) _ _ ⟨⟨l20, u20⟩, l28, u28⟩ (.c rfl (.base 18 rfl rfl)) inferInstance
end Go.X

set_option linter.unusedSimpArgs false
set_option linter.unusedVariables false
set_option maxRecDepth 20000
namespace Go.X
open Go.Proofs
theorem hot_spec (h : Hall) (vr vw vb vc : Value) (hr hw hb hc : PHeap) [ir : Arr vr encRoom 2 hr h.rooms] [iw : Arr vw encWall 3 hw h.walls] [ib : Arr vb encBranch 3 hb h.branches] [ic : Arr vc encCooler 5 hc h.coolers] (t : List Int) (vt : Value) (ht : PHeap) [it : Arr vt encI 1 ht t] (tl : h.rooms.length ≤ t.length) : Spec Try.prog 71 #[.agg #[vr, vw, vb, vc], vt] [] [hr, ht] (fun v hs => v = .int .i64 (hotP h t) ∧ hs = []) := by
  refine Spec.intro (fn := Try.f71) (N := 24) Try.func71 rfl Try.ntmps71 rfl fun B => ?_
  refine XK.seq ?_
  refine XK.region rfl ?_
  refine XO.box rfl fun b2 => ?_
  refine XO.q (Q.assign rfl) ?_
  refine XO.done ?_
  refine XK.seq ?_
  refine XK.seq ?_
  refine XK.region rfl ?_
  refine XO.q (Q.fieldAddr rfl) ?_
  refine XO.q (Q.ld rfl rfl) ?_
  refine XO.len rfl fun l9 => ?_
  refine XO.q (Q.move rfl) ?_
  refine XO.done ?_
  refine XK.block ?_
  refine XK.while (X := Nat) [4, 5, 6, 10, 11, 12, 13, 14, 15, 16, 17, 18, 19, 20, 21, 22, 23] (fun i => [(10, some (.int .i64 (i : Nat)))]) (fun i => []) (fun i => i ≤ h.rooms.length ∧ ∀ j, j < i → hotAt h t j = false) (fun i => h.rooms.length - i) (0) [] rfl ⟨by omega, fun j hj => by omega⟩ (.c rfl (.base 0 rfl rfl)) ?_
  rintro i ⟨hi, hc⟩ ih0
  dsimp only [List.cons_append, List.nil_append] at ih0 ⊢
  refine XK.seq ?_
  refine XK.region rfl ?_
  refine XO.q (Q.lss rfl rfl) ?_
  refine XO.done ?_
  refine XK.seq ?_
  refine XK.if rfl (fun c0 => ?_) (fun c0 => ?_)
  · have _t0 := True.intro
    refine XK.skip ?_
    refine XK.seq ?_
    refine XK.block ?_
    refine XK.seq ?_
    refine XK.region rfl ?_
    refine XO.q (Q.move rfl) ?_
    refine XO.ix rfl rfl (by omega) (by omega) fun i13 => ?_
    refine XO.q (Q.ldEA [_, _] rfl (by first | assumption | omega) rfl rfl) ?_
    refine XO.alloc fun b6 => ?_
    refine XO.q (Q.assign rfl) ?_
    refine XO.st rfl rfl rfl ?_
    refine XO.done ?_
    refine XK.seq ?_
    refine XK.drawn [0, 1, 2, 3, 4, 5, 6] [b6] [] (.q 0 (.q 1 (.q 2 (.q 3 (.q 4 (.q 5 (.q 6 .done))))))) Try.mixed rfl (by kernel_rfl) ?_
    refine XT.q rfl rfl (Q.move rfl) ?_
    refine XT.q rfl rfl (Q.move rfl) ?_
    refine XT.ix rfl rfl rfl rfl (by omega) (by omega) fun i17 => ?_
    refine XT.q rfl rfl (Q.ldE rfl (by first | assumption | omega) rfl) ?_
    refine XT.q rfl rfl (Q.fieldAddr rfl) ?_
    refine XT.q rfl rfl (Q.ld rfl rfl) ?_
    refine XT.q rfl rfl (Q.gtr rfl rfl) ?_
    refine XT.done ?_
    refine XK.if rfl (fun c1 => ?_) (fun c1 => ?_)
    · have _t1 := True.intro
      refine XK.seq ?_
      refine XK.region rfl ?_
      refine XO.q (Q.move rfl) ?_
      refine XO.q (Q.assign rfl) ?_
      refine XO.done ?_
      refine XK.rt [] Try.func71 Try.results71 (.t rfl .n) ?_
      exact ⟨by rw [hotP, firstTo_at (i := i) (by omega) (by rw [hotAt, decide_eq_true_eq]; exact c1) hc], rfl⟩
    · have _t1 := True.intro
      refine XK.skip ?_
      refine XK.inBlock ?_
      refine XK.region rfl ?_
      refine XO.q (Q.add rfl rfl ⟨by omega, by omega⟩) ?_
      refine XO.q (Q.move rfl) ?_
      refine XO.done ?_
      exact ih0 (i + 1) _ _ ⟨by omega, fun j hj => by
          by_cases hji : j < i
          · exact hc j hji
          · rw [show j = i by omega, hotAt, decide_eq_false_iff_not]; exact c1⟩ (by first | omega | (dsimp only; omega)) (.c rfl (.base 33 rfl rfl)) inferInstance
  · have _t0 := True.intro
    refine XK.exit rfl ?_
    refine XK.seq ?_
    refine XK.region rfl ?_
    refine XO.q (Q.assign rfl) ?_
    refine XO.done ?_
    refine XK.rt [] Try.func71 Try.results71 (.t rfl .n) ?_
    have hin : i = h.rooms.length := by omega
    subst hin
    exact ⟨by rw [hotP, firstTo_none hc], rfl⟩
theorem aL_one {v : Value} {c : HCase} {k : PHeap} (a : Arr v encI 1 k c.load) : ∀ i, i < ([(v, c)] : List (Value × HCase)).length → Arr (([(v, c)] : List (Value × HCase)).getD i default).1 encI 1 k (([(v, c)] : List (Value × HCase)).getD i default).2.load := fun i hi => by
  match i, hi with
  | 0, _ => exact a
theorem one_of {v : Value} (h : one v = true) : One v := ⟨(by cases v <;> first | rfl | (cases h)), h⟩
theorem Belongs_spec (h : Hall) (vr vw vb vc : Value) (hr hw hb hc : PHeap) [ir : Arr vr encRoom 2 hr h.rooms] [iw : Arr vw encWall 3 hw h.walls] [ib : Arr vb encBranch 3 hb h.branches] [ic : Arr vc encCooler 5 hc h.coolers] (a d : HCase) (va vd : Value) (ha hd : PHeap) [ia : Arr va encI 1 ha a.load] [id : Arr vd encI 1 hd d.load] (c : HCase) (vc_ : Value) (hcc : PHeap) [icc : Arr vc_ encI 1 hcc c.load] : Spec Try.prog 31 #[.agg #[vr, vw, vb, vc], .agg #[va, .int .i64 a.out, .int .i64 a.pump, vd, .int .i64 d.out, .int .i64 d.pump], .agg #[vc_, .int .i64 c.out, .int .i64 c.pump]] [] [hr, hw, hb, hc, ha, hd, hcc] (fun v hs => v = .tuple #[.bool (belongsG h a d c).1, .int .i64 (belongsG h a d c).2] ∧ hs = []) := by
  refine Spec.intro (fn := Try.f31) (N := 23) Try.func31 rfl Try.ntmps31 rfl fun B => ?_
  refine XK.seq ?_
  refine XK.region rfl ?_
  refine XO.box rfl fun b3 => ?_
  refine XO.box rfl fun b4 => ?_
  refine XO.box rfl fun b5 => ?_
  refine XO.q (Q.assign rfl) ?_
  refine XO.q (Q.assign rfl) ?_
  refine XO.done ?_
  refine XK.seq ?_
  refine XK.seq ?_
  refine XK.region rfl ?_
  refine XO.q (Q.ldA [_, _, _, _] rfl rfl rfl) ?_
  refine XO.q (Q.ldA [_, _, _, _, _, _] rfl rfl rfl) ?_
  refine XO.q (Q.ldA [_, _, _] rfl rfl rfl) ?_
  refine XO.lit [_, _, _] [_, _, _] [(vc_, c)] encCV (by rfl) (by rfl) rfl (by rfl) (by exact .c 0 3 rfl rfl rfl (.n _)) (fun _ => rfl) (by rfl) rfl (by infer_instance) rfl fun v12 h12 O12 => ?_
  refine XO.call Try.call69 rfl rfl rfl (Classed_spec h vr vw vb vc hr hw hb hc a d va vd ha hd [(vc_, c)] v12 h12 hcc (by simp) (aL_one icc)) fun v13 s13 R13 => ?_
  obtain ⟨rfl, rfl⟩ := R13
  dsimp only [List.cons_append, List.nil_append]
  rw [show ([(vc_, c)] : List (Value × HCase)).map Prod.snd = [c] from rfl]
  refine XO.q (Q.assign rfl) ?_
  refine XO.done ?_
  refine XK.seq ?_
  refine XK.region rfl ?_
  refine XO.q (Q.move rfl) ?_
  refine XO.q (Q.neq rfl rfl) ?_
  refine XO.done ?_
  refine XK.if rfl (fun c0 => ?_) (fun c0 => ?_)
  · have _t0 := True.intro
    refine XK.seq ?_
    refine XK.region rfl ?_
    refine XO.q (Q.move rfl) ?_
    refine XO.q (Q.assign rfl) ?_
    refine XO.q (Q.assign rfl) ?_
    refine XO.done ?_
    refine XK.rt [] Try.func31 Try.results31 (.t rfl (.t rfl .n)) ?_
    exact ⟨by rw [belongsG, if_pos c0], rfl⟩
  · have _t0 := True.intro
    obtain ⟨_, oka, okd, okl, _⟩ := classed_ok (Decidable.of_not_not c0)
    have okc : COk h c := okl c (by simp)
    refine XK.skip ?_
    refine XK.seq ?_
    refine XK.region rfl ?_
    refine XO.q (Q.fieldAddr rfl) ?_
    refine XO.q (Q.ldA [_, _, _] rfl rfl rfl) ?_
    refine XO.q (Q.ldA [_, _, _] rfl rfl rfl) ?_
    refine XO.q (Q.fieldAddr rfl) ?_
    refine XO.q (Q.ldA [_, _, _] rfl rfl rfl) ?_
    refine XO.call Try.call70 rfl rfl rfl (between_spec a c d va vc_ vd ha hcc hd (by rw [okc.len, oka.len]; exact Nat.le_refl _) (by rw [okc.len, okd.len]; exact Nat.le_refl _)) fun v22 s22 R22 => ?_
    obtain ⟨rfl, rfl⟩ := R22
    dsimp only [List.cons_append, List.nil_append]
    refine XO.q (Q.assign rfl) ?_
    refine XO.q (Q.assign rfl) ?_
    refine XO.done ?_
    refine XK.rt [] Try.func31 Try.results31 (.t rfl (.t rfl .n)) ?_
    exact ⟨by rw [belongsG, if_neg c0], rfl⟩
/-- Slices in one heap, a row each. -/
def Rows (us : List Value) (K : PHeap) (rows : List (List Int)) : Prop := us.length = rows.length ∧ ∀ i, i < us.length → Arr (us.getD i default) encI 1 K (rows.getD i default)
def RowsTo (us : List Value) (K : PHeap) (h : Hall) (c : Nat → HCase) (t : List Int) (n : Nat) : Prop := us.length = n ∧ ∀ i, i < n → Arr (us.getD i default) encI 1 K (iterT h c t (i + 1))
theorem RowsTo.rows {us : List Value} {K : PHeap} {h : Hall} {c : Nat → HCase} {t : List Int} {n : Nat} (r : RowsTo us K h c t n) : Rows us K (rowsL h c t n) := ⟨r.1.trans (rows_len ..).symm, fun i hi => by
  rw [rows_at (by have := r.1; omega)]
  exact r.2 i (by have := r.1; omega)⟩
theorem RowsTo.mono {us : List Value} {K K' : PHeap} {h : Hall} {c : Nat → HCase} {t : List Int} {n : Nat} (hl : leH K K') (r : RowsTo us K h c t n) : RowsTo us K' h c t n := ⟨r.1, fun i hi => Arr.le_heap (r.2 i hi) hl⟩
theorem getD_snoc {α : Type} [Inhabited α] (l : List α) (x : α) (i : Nat) : (l ++ [x]).getD i default = if i < l.length then l.getD i default else if i = l.length then x else default := by
  rw [List.getD_eq_getElem?_getD, List.getElem?_append]
  split
  · rw [List.getD_eq_getElem?_getD]
  · split
    · rename_i h1 h2; subst h2; simp
    · rename_i h1 h2
      rw [List.getElem?_eq_none (by simp; omega)]; rfl
theorem RowsTo.snoc {us : List Value} {K : PHeap} {h : Hall} {c : Nat → HCase} {t : List Int} {n : Nat} {u : Value} (r : RowsTo us K h c t n) (a : Arr u encI 1 K (iterT h c t (n + 1))) : RowsTo (us ++ [u]) K h c t (n + 1) := ⟨by rw [List.length_append, r.1]; rfl, fun i hi => by
  rw [getD_snoc]
  have := r.1
  by_cases hc : i < us.length
  · rw [if_pos hc]; exact r.2 i (by omega)
  · rw [if_neg hc, if_pos (by omega), show i = n by omega]; exact a⟩
theorem RowsTo.nil {K : PHeap} {h : Hall} {c : Nat → HCase} {t : List Int} : RowsTo [] K h c t 0 := ⟨rfl, fun i hi => by omega⟩
theorem map_snd_getD (l : List (Value × HCase)) : (fun i => (l.map Prod.snd).getD i default) = fun i => (l.getD i default).2 := by
  funext i
  rw [List.getD_eq_getElem?_getD, List.getElem?_map, List.getD_eq_getElem?_getD]
  cases l[i]? <;> rfl
theorem run1 (b : Nat) (l : List (Value × HCase)) (vl : Value) (hl : PHeap) [il : Arr vl encCV 3 hl l] (i : Nat) (hi : i < l.length) : Spec Try.prog 68 #[.int .i64 (i : Nat), ptr b 0] [] [blk b [vl] 80, hl]
    (fun v hs => v = .agg #[(l.getD i default).1, .int .i64 (l.getD i default).2.out, .int .i64 (l.getD i default).2.pump] ∧ hs = []) := by
  refine Spec.intro (fn := Try.f68) (N := 8) Try.func68 rfl Try.ntmps68 rfl fun B => ?_
  refine XK.seq ?_
  refine XK.region rfl ?_
  refine XO.alloc fun b3 => ?_
  refine XO.done ?_
  refine XK.seq ?_
  refine XK.region rfl ?_
  refine XO.q (Q.ld rfl rfl) ?_
  refine XO.q (Q.move rfl) ?_
  refine XO.ix rfl rfl (by omega) (by omega) fun i6 => ?_
  refine XO.q (Q.ldEA [_, _, _] rfl (by first | assumption | omega) rfl rfl) ?_
  haveI : One (l.getD i default).1 := one_of (il.pf.2.1.2 _ (getD_mem hi) _ List.mem_cons_self)
  refine XO.st rfl rfl rfl ?_
  refine XO.done ?_
  refine XK.rt [] Try.func68 Try.results68 (.cell [_, _, _] rfl rfl rfl (.n)) ?_
  exact ⟨rfl, rfl⟩
def errsR (h : Hall) (t : List Int) (l : List HCase) : List Int := warmP h t :: l.map (casedP h)
theorem errsR_snoc {h : Hall} {t : List Int} {l : List HCase} {x : HCase} : errsR h t (l ++ [x]) = errsR h t l ++ [casedP h x] := by simp [errsR]
theorem errsR_len {h : Hall} {t : List Int} {l : List HCase} : (errsR h t l).length = l.length + 1 := by simp [errsR]
theorem runG_errs (h : Hall) (t : List Int) (l : List HCase) : runG h t l = if hcheck h ≠ 0 then ([], hcheck h) else if 20000 < l.length then ([], 2) else if bothP (errsR h t l) ≠ 0 then ([], bothP (errsR h t l)) else (rowsL h (fun i => l.getD i default) t l.length, 0) := rfl
theorem Run_spec (h : Hall) (vr vw vb vc : Value) (hr hw hb hc : PHeap) [ir : Arr vr encRoom 2 hr h.rooms] [iw : Arr vw encWall 3 hw h.walls] [ib : Arr vb encBranch 3 hb h.branches] [ic : Arr vc encCooler 5 hc h.coolers] (t : List Int) (vt : Value) (ht : PHeap) [it : Arr vt encI 1 ht t] (l : List (Value × HCase)) (vl : Value) (hl hL : PHeap) [il : Arr vl encCV 3 hl l] (aL : ∀ i, i < l.length → Arr (l.getD i default).1 encI 1 hL (l.getD i default).2.load) :
    Spec Try.prog 30 #[.agg #[vr, vw, vb, vc], vt, vl] [] [hr, hw, hb, hc, ht, hl, hL] (fun v hs => ∃ v1 k1 K us, v = .tuple #[v1, .int .i64 (runG h t (l.map Prod.snd)).2] ∧ hs = [k1, K] ∧ OArr v1 encV 1 31 k1 us ∧ Rows us K (runG h t (l.map Prod.snd)).1) := by
  have hnil : OArr (.slice none 0 0) encV 1 31 emp ([] : List Value) := OArr.nil (fun _ => rfl)
  have hml : (l.map Prod.snd).length = l.length := List.length_map ..
  refine Spec.intro (fn := Try.f30) (N := 59) Try.func30 rfl Try.ntmps30 rfl fun B => ?_
  refine XK.seq ?_
  refine XK.region rfl ?_
  refine XO.box rfl fun b3 => ?_
  refine XO.box rfl fun b5 => ?_
  refine XO.q (Q.assign rfl) ?_
  refine XO.q (Q.assign rfl) ?_
  refine XO.done ?_
  refine XK.seq ?_
  refine XK.seq ?_
  refine XK.region rfl ?_
  refine XO.q (Q.ldA [_, _, _, _] rfl rfl rfl) ?_
  refine XO.call Try.call36 rfl rfl rfl (Check_spec h vr vw vb vc hr hw hb hc) fun v17 s17 R17 => ?_
  obtain ⟨rfl, rfl⟩ := R17
  dsimp only [List.cons_append, List.nil_append]
  refine XO.q (Q.assign rfl) ?_
  refine XO.done ?_
  refine XK.seq ?_
  refine XK.region rfl ?_
  refine XO.q (Q.move rfl) ?_
  refine XO.q (Q.neq rfl rfl) ?_
  refine XO.done ?_
  refine XK.if rfl (fun c0 => ?_) (fun c0 => ?_)
  · have _t0 := True.intro
    refine XK.seq ?_
    refine XK.region rfl ?_
    refine XO.q (Q.move rfl) ?_
    refine XO.q (Q.assign rfl) ?_
    refine XO.q (Q.assign rfl) ?_
    refine XO.done ?_
    refine XK.rt [emp, emp] Try.func30 Try.results30 (.t rfl (.t rfl .n)) ?_
    have hw0 : runG h t (l.map Prod.snd) = ([], hcheck h) := by rw [runG_errs, if_pos c0]
    rw [hw0]
    exact ⟨.slice none 0 0, emp, emp, [], rfl, rfl, OArr.nil (fun _ => rfl), rfl, fun i hi => absurd hi (Nat.not_lt_zero i)⟩
  · have _t0 := True.intro
    refine XK.skip ?_
    refine XK.seq ?_
    refine XK.seq ?_
    refine XK.region rfl ?_
    refine XO.q (Q.ld rfl rfl) ?_
    refine XO.len rfl fun l22 => ?_
    refine XO.q (Q.gtr rfl rfl) ?_
    refine XO.done ?_
    refine XK.if rfl (fun c1 => ?_) (fun c1 => ?_)
    · have _t1 := True.intro
      refine XK.seq ?_
      refine XK.region rfl ?_
      refine XO.q (Q.assign rfl) ?_
      refine XO.q (Q.assign rfl) ?_
      refine XO.done ?_
      refine XK.rt [emp, emp] Try.func30 Try.results30 (.t rfl (.t rfl .n)) ?_
      have hw0 : runG h t (l.map Prod.snd) = ([], 2) := by rw [runG_errs, if_neg c0, if_pos (by omega)]
      rw [hw0]
      exact ⟨.slice none 0 0, emp, emp, [], rfl, rfl, OArr.nil (fun _ => rfl), rfl, fun i hi => absurd hi (Nat.not_lt_zero i)⟩
    · have _t1 := True.intro
      refine XK.skip ?_
      refine XK.seq ?_
      refine XK.region rfl ?_
      refine XO.q (Q.ldA [_, _, _, _] rfl rfl rfl) ?_
      refine XO.q (Q.move rfl) ?_
      refine XO.call Try.call41 rfl rfl rfl (warm_spec h vr vw vb vc hr vt ht t) fun v26 s26 R26 => ?_
      obtain ⟨rfl, rfl⟩ := R26
      dsimp only [List.cons_append, List.nil_append]
      refine XO.lit [_] [_] [warmP h t] encI (by rfl) (by rfl) rfl (by rfl) (by exact .c 0 1 rfl rfl rfl (.n _)) (fun _ => rfl) (by rfl) rfl (by infer_instance) rfl fun v27 h27 O27 => ?_
      refine XO.q (Q.assign rfl) ?_
      refine XO.done ?_
      refine XK.seq ?_
      refine XK.seq ?_
      refine XK.region rfl ?_
      refine XO.q (Q.ld rfl rfl) ?_
      refine XO.len rfl fun l29 => ?_
      refine XO.q (Q.move rfl) ?_
      refine XO.done ?_
      refine XK.block ?_
      refine XK.while (X := Nat × Value × PHeap) [9, 11, 30, 31, 32, 33, 34, 35, 36, 37, 38, 39, 40] (fun ⟨i, v9, k9⟩ => [(30, some (.int .i64 (i : Nat))), (9, some (v9))]) (fun ⟨i, v9, k9⟩ => [k9]) (fun ⟨i, v9, k9⟩ => i ≤ l.length ∧ OArr v9 encI 1 32 k9 (errsR h t ((List.range i).map (fun j => (l.getD j default).2)))) (fun ⟨i, v9, k9⟩ => l.length - i) (0, v27, h27) [h27] rfl ⟨by omega, O27⟩ (.c rfl (.c rfl (.base 0 rfl rfl))) ?_
      rintro ⟨i, v9, k9⟩ ⟨hi, O9⟩ ih0
      dsimp only [List.cons_append, List.nil_append] at ih0 ⊢
      refine XK.seq ?_
      refine XK.region rfl ?_
      refine XO.q (Q.lss rfl rfl) ?_
      refine XO.done ?_
      refine XK.seq ?_
      refine XK.if rfl (fun c2 => ?_) (fun c2 => ?_)
      · have _t2 := True.intro
        have ai := aL i (by omega)
        refine XK.skip ?_
        refine XK.seq ?_
        refine XK.block ?_
        refine XK.seq ?_
        refine XK.region rfl ?_
        refine XO.ix rfl rfl (by omega) (by omega) fun i32 => ?_
        refine XO.q (Q.ldEA [_, _, _] rfl (by first | assumption | omega) rfl rfl) ?_
        refine XO.alloc fun b11 => ?_
        refine XO.st rfl rfl rfl ?_
        refine XO.done ?_
        refine XK.region rfl ?_
        refine XO.q (Q.move rfl) ?_
        refine XO.q (Q.ldA [_, _, _, _] rfl rfl rfl) ?_
        refine XO.q (Q.ldA [_, _, _] rfl rfl rfl) ?_
        refine XO.call Try.call42 rfl rfl rfl (cased_spec h vr vw vb vc hr (l.getD i default).1 hL (l.getD i default).2) fun v37 s37 R37 => ?_
        obtain ⟨rfl, rfl⟩ := R37
        dsimp only [List.cons_append, List.nil_append]
        refine XO.lit [_] [_] [_] encI (by rfl) (by rfl) rfl (by rfl) (by exact .c 0 1 rfl rfl rfl (.n _)) (fun _ => rfl) (by rfl) rfl (by infer_instance) rfl fun v38 h38 O38 => ?_
        refine XO.append rfl rfl rfl rfl (by simp only [errsR_len, List.length_map, List.length_range, List.length_cons, List.length_nil]; omega) fun v39 h39 O39 => ?_
        refine XO.q (Q.assign rfl) ?_
        refine XO.done ?_
        refine XK.inBlock ?_
        refine XK.region rfl ?_
        refine XO.q (Q.add rfl rfl ⟨by omega, by omega⟩) ?_
        refine XO.q (Q.move rfl) ?_
        refine XO.done ?_
        exact ih0 (i + 1, v39, h39) _ _ ⟨by dsimp only; omega, by dsimp only; rw [range_snoc, errsR_snoc]; exact O39⟩ (by first | omega | (dsimp only; omega)) (.c rfl (.c rfl (.base 28 rfl rfl))) inferInstance
      · have _t2 := True.intro
        have hn : i = l.length := by omega
        subst hn
        rw [range_getD l (fun x => x.2)] at O9
        refine XK.exit rfl ?_
        refine XK.seq ?_
        refine XK.seq ?_
        refine XK.region rfl ?_
        refine XO.q (Q.move rfl) ?_
        refine XO.call Try.call40 rfl rfl rfl (both_spec v9 k9 (errsR h t (l.map Prod.snd))) fun v42 s42 R42 => ?_
        obtain ⟨rfl, rfl⟩ := R42
        dsimp only [List.cons_append, List.nil_append]
        refine XO.q (Q.assign rfl) ?_
        refine XO.done ?_
        refine XK.seq ?_
        refine XK.region rfl ?_
        refine XO.q (Q.move rfl) ?_
        refine XO.q (Q.neq rfl rfl) ?_
        refine XO.done ?_
        refine XK.if rfl (fun c3 => ?_) (fun c3 => ?_)
        · have _t3 := True.intro
          refine XK.seq ?_
          refine XK.region rfl ?_
          refine XO.q (Q.move rfl) ?_
          refine XO.q (Q.assign rfl) ?_
          refine XO.q (Q.assign rfl) ?_
          refine XO.done ?_
          refine XK.rt [emp, emp] Try.func30 Try.results30 (.t rfl (.t rfl .n)) ?_
          have hw0 : runG h t (l.map Prod.snd) = ([], bothP (errsR h t (l.map Prod.snd))) := by rw [runG_errs, if_neg c0, if_neg (by omega), if_pos c3]
          rw [hw0]
          exact ⟨.slice none 0 0, emp, emp, [], rfl, rfl, OArr.nil (fun _ => rfl), rfl, fun i hi => absurd hi (Nat.not_lt_zero i)⟩
        · have _t3 := True.intro
          have ok0 := Decidable.of_not_not c0
          have c3 := Decidable.of_not_not c3
          have okt : TOk h t := both_warm c3 (by simp [errsR])
          have okc : ∀ i, i < l.length → COk h (l.getD i default).2 := fun i hi => both_cased c3 (List.mem_cons_of_mem _ (List.mem_map.2 ⟨_, List.mem_map.2 ⟨_, getD_mem hi, rfl⟩, rfl⟩))
          refine XK.skip ?_
          refine XK.seq ?_
          refine XK.region rfl ?_
          refine XO.alloc fun b13 => ?_
          refine XO.done ?_
          refine XK.seq ?_
          refine XK.seq ?_
          refine XK.region rfl ?_
          refine XO.q (Q.ldA [_, _, _, _] rfl rfl rfl) ?_
          refine XO.q (Q.move rfl) ?_
          refine XO.q (Q.ld rfl rfl) ?_
          refine XO.len rfl fun l49 => ?_
          refine XO.q (Q.func (fun _ he => rfl) (fun _ he => evs_rel he rfl)) ?_
          refine XO.call Try.call45 rfl rfl rfl (seconds_spec h vr vw vb vc hr hw hb hc (hcheck_ok ok0) (fun i => (l.getD i default).2) l.length (by omega) t vt ht okt okc (fun i => (l.getD i default).1) hL aL (.func (.func 68) #[] #[ptr b5 0]) (blk b5 [vl] 80) hl (fun i hi => VSpec.fn (fst := []) (cap := [ptr b5 0]) Try.call68 rfl (run1 b5 l vl hl i hi))) fun v51 s51 R51 => ?_
          obtain ⟨k1, k2, k3, k4, rfl, hit⟩ := R51
          dsimp only [List.cons_append, List.nil_append]
          refine XO.done ?_
          refine XK.block ?_
          refine XK.rangeK (X := Value × PHeap × List Value) (ps := [52, 53]) (fun ⟨vo, ko, us⟩ => [blk b13 [vo] 86, ko]) (fun i ⟨vo, ko, us⟩ K0 => OArr vo encV 1 31 ko us ∧ RowsTo us K0 h (fun i => (l.getD i default).2) t i) (fun j0 ⟨vo, ko, us⟩ K0 => False) (.slice none 0 0, emp, []) [blk b13 [.slice none 0 0] 86, emp] rfl (hit) rfl (fun i x K K' hle hI => ⟨hI.1, hI.2.mono hle⟩) (⟨hnil, RowsTo.nil⟩) rfl (fun i K vs hY => by obtain ⟨sl, rfl, _⟩ := hY; rfl) ?_ ?_ (fun _ _ _ hJ => hJ.elim)
          · rintro l rec B' i ⟨vo, ko, us⟩ K0 vs hi ⟨v53, rfl, a53⟩ ⟨OO, rT⟩
            dsimp only [List.cons_append, List.nil_append]
            have hul := rT.1
            refine XK.region rfl ?_
            refine XO.q (Q.assign rfl) ?_
            refine XO.done ?_
            refine XK.beginRound ?_
            refine XK.block ?_
            refine XK.region rfl ?_
            refine XO.q (Q.ld rfl rfl) ?_
            refine XO.q (Q.move rfl) ?_
            refine XO.lit [_] [_] [v53] encV (by rfl) (by rfl) rfl (by rfl) (by exact .c 0 1 rfl rfl rfl (.n _)) (fun _ => rfl) (by rfl) rfl (by infer_instance) rfl fun v56 h56 O56 => ?_
            refine XO.append rfl rfl rfl rfl (by simp only [List.length_cons, List.length_nil]; omega) fun v57 h57 O57 => ?_
            refine XO.st rfl rfl rfl ?_
            refine XO.done ?_
            refine XK.inBlock ?_
            exact XK.leave (j := none) [blk b13 [v57] 86, h57] trivial ⟨(v57, h57, us ++ [v53]), ⟨O57, rT.snoc a53⟩, rfl⟩
          · rintro ⟨vo, ko, us⟩ K0 ⟨OO, rT⟩
            dsimp only [List.cons_append, List.nil_append]
            refine XK.inBlock ?_
            refine XK.seq ?_
            refine XK.region rfl ?_
            refine XO.q (Q.ld rfl rfl) ?_
            refine XO.q (Q.assign rfl) ?_
            refine XO.q (Q.assign rfl) ?_
            refine XO.done ?_
            refine XK.rt [ko, K0] Try.func30 Try.results30 (.t rfl (.t rfl .n)) ?_
            have hw0 : runG h t (l.map Prod.snd) = (rowsL h (fun i => (l.getD i default).2) t l.length, 0) := by rw [runG_errs, if_neg c0, if_neg (by omega), if_neg (by rw [c3]; decide), map_snd_getD, hml]
            rw [hw0]
            exact ⟨vo, ko, K0, us, rfl, rfl, OO, rT.rows⟩
end Go.X

set_option linter.unusedSimpArgs false
set_option linter.unusedVariables false
set_option maxRecDepth 20000
namespace Go.X
open Go.Proofs
theorem Bounds_spec (h : Hall) (vr vw vb vc : Value) (hr hw hb hc : PHeap) [ir : Arr vr encRoom 2 hr h.rooms] [iw : Arr vw encWall 3 hw h.walls] [ib : Arr vb encBranch 3 hb h.branches] [ic : Arr vc encCooler 5 hc h.coolers] (a d : HCase) (va vd : Value) (ha hd : PHeap) [ia : Arr va encI 1 ha a.load] [id : Arr vd encI 1 hd d.load] (lo hi : List Int) (vlo vhi : Value) (hlo hhi : PHeap) [ilo : Arr vlo encI 1 hlo lo] [ihi : Arr vhi encI 1 hhi hi] (m : Int) : Spec Try.prog 32 #[.agg #[vr, vw, vb, vc], vlo, vhi, .agg #[va, .int .i64 a.out, .int .i64 a.pump, vd, .int .i64 d.out, .int .i64 d.pump], .int .i64 m] [] [hr, hw, hb, hc, ha, hd, hlo, hhi]
    (fun v hs => ∃ v1 v2 k1 k2 K1 K2 us ws, v = .tuple #[v1, v2, .int .i64 (boundsG h lo hi a d m).2.2] ∧ hs = [k1, k2, K1, K2] ∧ OArr v1 encV 1 31 k1 us ∧ OArr v2 encV 1 31 k2 ws ∧ Rows us K1 (boundsG h lo hi a d m).1 ∧ Rows ws K2 (boundsG h lo hi a d m).2.1) := by
  have hnil : OArr (.slice none 0 0) encV 1 31 emp ([] : List Value) := OArr.nil (fun _ => rfl)
  refine Spec.intro (fn := Try.f32) (N := 59) Try.func32 rfl Try.ntmps32 rfl fun B => ?_
  refine XK.seq ?_
  refine XK.region rfl ?_
  refine XO.box rfl fun b5 => ?_
  refine XO.box rfl fun b8 => ?_
  refine XO.q (Q.assign rfl) ?_
  refine XO.q (Q.assign rfl) ?_
  refine XO.q (Q.assign rfl) ?_
  refine XO.done ?_
  refine XK.seq ?_
  refine XK.seq ?_
  refine XK.region rfl ?_
  refine XO.q (Q.ldA [_, _, _, _] rfl rfl rfl) ?_
  refine XO.q (Q.move rfl) ?_
  refine XO.q (Q.move rfl) ?_
  refine XO.q (Q.ldA [_, _, _, _, _, _] rfl rfl rfl) ?_
  refine XO.call Try.call47 rfl rfl rfl (boxed_spec h vr vw vb vc hr hw hb hc a d va vd ha hd lo hi vlo vhi hlo hhi) fun v24 s24 R24 => ?_
  obtain ⟨rfl, rfl⟩ := R24
  dsimp only [List.cons_append, List.nil_append]
  refine XO.q (Q.assign rfl) ?_
  refine XO.done ?_
  refine XK.seq ?_
  refine XK.region rfl ?_
  refine XO.q (Q.move rfl) ?_
  refine XO.q (Q.neq rfl rfl) ?_
  refine XO.done ?_
  refine XK.if rfl (fun c0 => ?_) (fun c0 => ?_)
  · have _t0 := True.intro
    refine XK.seq ?_
    refine XK.region rfl ?_
    refine XO.q (Q.move rfl) ?_
    refine XO.q (Q.assign rfl) ?_
    refine XO.q (Q.assign rfl) ?_
    refine XO.q (Q.assign rfl) ?_
    refine XO.done ?_
    refine XK.rt [emp, emp, emp, emp] Try.func32 Try.results32 (.t rfl (.t rfl (.t rfl .n))) ?_
    have hw0 : boundsG h lo hi a d m = ([], [], boxedG h lo hi a d) := by rw [boundsG, if_pos c0]
    rw [hw0]
    exact ⟨.slice none 0 0, .slice none 0 0, emp, emp, emp, emp, [], [], rfl, rfl, OArr.nil (fun _ => rfl), OArr.nil (fun _ => rfl), ⟨rfl, fun i hi => absurd hi (Nat.not_lt_zero i)⟩, rfl, fun i hi => absurd hi (Nat.not_lt_zero i)⟩
  · have _t0 := True.intro
    obtain ⟨ok0, oka, okd, oklo, okhi, _, _⟩ := boxed_ok (Decidable.of_not_not c0)
    refine XK.skip ?_
    refine XK.seq ?_
    refine XK.seq ?_
    refine XK.region rfl ?_
    refine XO.q (Q.move rfl) ?_
    refine XO.call Try.call37 rfl rfl rfl (in_spec _ _) fun v29 s29 R29 => ?_
    obtain ⟨rfl, rfl⟩ := R29
    dsimp only [List.cons_append, List.nil_append]
    refine XO.q (Q.not rfl) ?_
    refine XO.done ?_
    refine XK.if rfl (fun c1 => ?_) (fun c1 => ?_)
    · have _t1 := True.intro
      refine XK.seq ?_
      refine XK.region rfl ?_
      refine XO.q (Q.assign rfl) ?_
      refine XO.q (Q.assign rfl) ?_
      refine XO.q (Q.assign rfl) ?_
      refine XO.done ?_
      refine XK.rt [emp, emp, emp, emp] Try.func32 Try.results32 (.t rfl (.t rfl (.t rfl .n))) ?_
      have hw0 : boundsG h lo hi a d m = ([], [], 2) := by rw [boundsG, if_neg c0, if_pos c1]
      rw [hw0]
      exact ⟨.slice none 0 0, .slice none 0 0, emp, emp, emp, emp, [], [], rfl, rfl, OArr.nil (fun _ => rfl), OArr.nil (fun _ => rfl), ⟨rfl, fun i hi => absurd hi (Nat.not_lt_zero i)⟩, rfl, fun i hi => absurd hi (Nat.not_lt_zero i)⟩
    · have _t1 := True.intro
      obtain ⟨hm0, hm1⟩ := inP_le (Decidable.of_not_not c1)
      obtain ⟨N, eN⟩ : ∃ N : Nat, m = N := ⟨m.toNat, by omega⟩
      subst eN
      refine XK.skip ?_
      refine XK.seq ?_
      refine XK.region rfl ?_
      refine XO.alloc fun b14 => ?_
      refine XO.alloc fun b15 => ?_
      refine XO.done ?_
      refine XK.seq ?_
      refine XK.seq ?_
      refine XK.drawn [0, 1, 2, 3, 4] [b5, b8] [] (.q 0 (.q 1 (.q 2 (.q 3 (.q 4 (.br 5 true (.br 6 true .done .stop) .stop)))))) Try.mixed rfl (by kernel_rfl) ?_
      refine XT.q rfl rfl (Q.ldA [_, _, _, _] rfl rfl rfl) ?_
      refine XT.q rfl rfl (Q.move rfl) ?_
      refine XT.q rfl rfl (Q.move rfl) ?_
      refine XT.q rfl rfl (Q.fieldAddr rfl) ?_
      refine XT.q rfl rfl (Q.ldA [_, _, _] rfl rfl rfl) ?_
      refine XT.call rfl rfl Try.call46 rfl rfl rfl (always_spec a va) (fun v36 s36 R36 => ?_) XT.stop
      obtain ⟨bC36, rfl, oneF36, ofC36⟩ := R36
      dsimp only [List.cons_append, List.nil_append]
      refine ⟨inferInstance, ?_⟩
      refine XT.call rfl rfl Try.call45 rfl rfl rfl (seconds_spec h vr vw vb vc hr hw hb hc (hcheck_ok ok0) (fun _ => a) N (by omega) lo vlo hlo oklo (fun _ _ => oka) (fun _ => va) ha (fun _ _ => inferInstance) v36 (blk bC36 [va, .int .i64 a.out, .int .i64 a.pump] 43) (blk bC36 [va, .int .i64 a.out, .int .i64 a.pump] 43) (ofC36 N).two) (fun v37 s37 R37 => ?_) XT.stop
      obtain ⟨k371, k372, k373, k374, rfl, hit37⟩ := R37
      dsimp only [List.cons_append, List.nil_append]
      refine ⟨inferInstance, ?_⟩
      refine XT.done ?_
      refine XK.block ?_
      refine XK.rangeK (X := Value × PHeap × List Value) (ps := [38, 39]) (fun ⟨vo, ko, us⟩ => [blk b14 [vo] 86, ko]) (fun i ⟨vo, ko, us⟩ K0 => OArr vo encV 1 31 ko us ∧ RowsTo us K0 h (fun _ => a) lo i) (fun j0 ⟨vo, ko, us⟩ K0 => False) (.slice none 0 0, emp, []) [blk b14 [.slice none 0 0] 86, emp] rfl (hit37) rfl (fun i x K K' hle hI => ⟨hI.1, hI.2.mono hle⟩) (⟨hnil, RowsTo.nil⟩) rfl (fun i K vs hY => by obtain ⟨sl, rfl, _⟩ := hY; rfl) ?_ ?_ (fun _ _ _ hJ => hJ.elim)
      · rintro l rec B' i ⟨vo, ko, us⟩ K0 vs hi ⟨v39, rfl, av39⟩ ⟨OO0, rT0⟩
        dsimp only [List.cons_append, List.nil_append]
        have hul := rT0.1
        refine XK.region rfl ?_
        refine XO.q (Q.assign rfl) ?_
        refine XO.done ?_
        refine XK.beginRound ?_
        refine XK.block ?_
        refine XK.region rfl ?_
        refine XO.q (Q.ld rfl rfl) ?_
        refine XO.q (Q.move rfl) ?_
        refine XO.lit [_] [_] [v39] encV (by rfl) (by rfl) rfl (by rfl) (by exact .c 0 1 rfl rfl rfl (.n _)) (fun _ => rfl) (by rfl) rfl (by infer_instance) rfl fun v42 h42 O42 => ?_
        refine XO.append rfl rfl rfl rfl (by simp only [List.length_cons, List.length_nil]; omega) fun v43 h43 O43 => ?_
        refine XO.st rfl rfl rfl ?_
        refine XO.done ?_
        refine XK.inBlock ?_
        exact XK.leave (j := none) [blk b14 [v43] 86, h43] trivial ⟨(v43, h43, us ++ [v39]), ⟨O43, rT0.snoc av39⟩, rfl⟩
      · rintro ⟨vo, ko, us⟩ K0 ⟨OO0, rT0⟩
        dsimp only [List.cons_append, List.nil_append]
        refine XK.inBlock ?_
        refine XK.seq ?_
        refine XK.seq ?_
        refine XK.drawn [0, 1, 2, 3, 4] [b5, b8] [] (.q 0 (.q 1 (.q 2 (.q 3 (.q 4 (.br 5 true (.br 6 true .done .stop) .stop)))))) Try.mixed rfl (by kernel_rfl) ?_
        refine XT.q rfl rfl (Q.ldA [_, _, _, _] rfl rfl rfl) ?_
        refine XT.q rfl rfl (Q.move rfl) ?_
        refine XT.q rfl rfl (Q.move rfl) ?_
        refine XT.q rfl rfl (Q.fieldAddr rfl) ?_
        refine XT.q rfl rfl (Q.ldA [_, _, _] rfl rfl rfl) ?_
        refine XT.call rfl rfl Try.call46 rfl rfl rfl (always_spec d vd) (fun v49 s49 R49 => ?_) XT.stop
        obtain ⟨bC49, rfl, oneF49, ofC49⟩ := R49
        dsimp only [List.cons_append, List.nil_append]
        refine ⟨inferInstance, ?_⟩
        refine XT.call rfl rfl Try.call45 rfl rfl rfl (seconds_spec h vr vw vb vc hr hw hb hc (hcheck_ok ok0) (fun _ => d) N (by omega) hi vhi hhi okhi (fun _ _ => okd) (fun _ => vd) hd (fun _ _ => inferInstance) v49 (blk bC49 [vd, .int .i64 d.out, .int .i64 d.pump] 43) (blk bC49 [vd, .int .i64 d.out, .int .i64 d.pump] 43) (ofC49 N).two) (fun v50 s50 R50 => ?_) XT.stop
        obtain ⟨k501, k502, k503, k504, rfl, hit50⟩ := R50
        dsimp only [List.cons_append, List.nil_append]
        refine ⟨inferInstance, ?_⟩
        refine XT.done ?_
        refine XK.block ?_
        refine XK.rangeK (X := Value × PHeap × List Value) (ps := [51, 52]) (fun ⟨wo, jo, ws⟩ => [blk b15 [wo] 86, jo]) (fun i ⟨wo, jo, ws⟩ K1 => OArr wo encV 1 31 jo ws ∧ RowsTo ws K1 h (fun _ => d) hi i) (fun j1 ⟨wo, jo, ws⟩ K1 => False) (.slice none 0 0, emp, []) [blk b15 [.slice none 0 0] 86, emp] rfl (hit50) rfl (fun i x K K' hle hI => ⟨hI.1, hI.2.mono hle⟩) (⟨hnil, RowsTo.nil⟩) rfl (fun i K vs hY => by obtain ⟨sl, rfl, _⟩ := hY; rfl) ?_ ?_ (fun _ _ _ hJ => hJ.elim)
        · rintro l rec B' i ⟨wo, jo, ws⟩ K1 vs hi ⟨v52, rfl, av52⟩ ⟨OO1, rT1⟩
          dsimp only [List.cons_append, List.nil_append]
          have hul := rT1.1
          refine XK.region rfl ?_
          refine XO.q (Q.assign rfl) ?_
          refine XO.done ?_
          refine XK.beginRound ?_
          refine XK.block ?_
          refine XK.region rfl ?_
          refine XO.q (Q.ld rfl rfl) ?_
          refine XO.q (Q.move rfl) ?_
          refine XO.lit [_] [_] [v52] encV (by rfl) (by rfl) rfl (by rfl) (by exact .c 0 1 rfl rfl rfl (.n _)) (fun _ => rfl) (by rfl) rfl (by infer_instance) rfl fun v55 h55 O55 => ?_
          refine XO.append rfl rfl rfl rfl (by simp only [List.length_cons, List.length_nil]; omega) fun v56 h56 O56 => ?_
          refine XO.st rfl rfl rfl ?_
          refine XO.done ?_
          refine XK.inBlock ?_
          exact XK.leave (j := none) [blk b15 [v56] 86, h56] trivial ⟨(v56, h56, ws ++ [v52]), ⟨O56, rT1.snoc av52⟩, rfl⟩
        · rintro ⟨wo, jo, ws⟩ K1 ⟨OO1, rT1⟩
          dsimp only [List.cons_append, List.nil_append]
          refine XK.inBlock ?_
          refine XK.seq ?_
          refine XK.drawn [0, 1, 2, 3, 4] [b14, b15] [] (.q 0 (.q 1 (.q 2 (.q 3 (.q 4 .done))))) Try.mixed rfl (by kernel_rfl) ?_
          refine XT.q rfl rfl (Q.ld rfl rfl) ?_
          refine XT.q rfl rfl (Q.ld rfl rfl) ?_
          refine XT.q rfl rfl (Q.assign rfl) ?_
          refine XT.q rfl rfl (Q.assign rfl) ?_
          refine XT.q rfl rfl (Q.assign rfl) ?_
          refine XT.done ?_
          refine XK.rt [ko, jo, K0, K1] Try.func32 Try.results32 (.t rfl (.t rfl (.t rfl .n))) ?_
          have hw0 : boundsG h lo hi a d N = (rowsL h (fun _ => a) lo N, rowsL h (fun _ => d) hi N, 0) := by rw [boundsG, if_neg c0, if_neg c1, Int.toNat_natCast]
          rw [hw0]
          exact ⟨vo, wo, ko, jo, K0, K1, us, ws, rfl, rfl, OO0, OO1, rT0.rows, rT1.rows⟩
theorem Ride_spec (h : Hall) (vr vw vb vc : Value) (hr hw hb hc : PHeap) [ir : Arr vr encRoom 2 hr h.rooms] [iw : Arr vw encWall 3 hw h.walls] [ib : Arr vb encBranch 3 hb h.branches] [ic : Arr vc encCooler 5 hc h.coolers] (t : List Int) (vt : Value) (ht : PHeap) [it : Arr vt encI 1 ht t] (a d : HCase) (va vd : Value) (ha hd : PHeap) [ia : Arr va encI 1 ha a.load] [id : Arr vd encI 1 hd d.load] (m : Int) : Spec Try.prog 33 #[.agg #[vr, vw, vb, vc], vt, .agg #[va, .int .i64 a.out, .int .i64 a.pump, vd, .int .i64 d.out, .int .i64 d.pump], .int .i64 m] [] [hr, hw, hb, hc, ht, ha, hd]
    (fun v hs => v = .tuple #[.int .i64 (rideG h t a d m).1, .int .i64 (rideG h t a d m).2.1, .int .i64 (rideG h t a d m).2.2] ∧ hs = []) := by
  refine Spec.intro (fn := Try.f33) (N := 56) Try.func33 rfl Try.ntmps33 rfl fun B => ?_
  refine XK.seq ?_
  refine XK.region rfl ?_
  refine XO.box rfl fun b4 => ?_
  refine XO.box rfl fun b6 => ?_
  refine XO.alloc fun b8 => ?_
  refine XO.alloc fun b9 => ?_
  refine XO.alloc fun b10 => ?_
  refine XO.done ?_
  refine XK.seq ?_
  refine XK.seq ?_
  refine XK.region rfl ?_
  refine XO.q (Q.ldA [_, _, _, _] rfl rfl rfl) ?_
  refine XO.q (Q.ldA [_, _, _, _, _, _] rfl rfl rfl) ?_
  refine XO.call Try.call69 rfl rfl rfl (Classed_spec h vr vw vb vc hr hw hb hc a d va vd ha hd [] (.slice none 0 0) hr hr (il := Arr.nil (fun _ => rfl)) (by simp) (fun i hi => absurd hi (Nat.not_lt_zero i))) fun v19 s19 R19 => ?_
  obtain ⟨rfl, rfl⟩ := R19
  dsimp only [List.cons_append, List.nil_append]
  rw [List.map_nil]
  refine XO.q (Q.assign rfl) ?_
  refine XO.done ?_
  refine XK.seq ?_
  refine XK.region rfl ?_
  refine XO.q (Q.move rfl) ?_
  refine XO.q (Q.neq rfl rfl) ?_
  refine XO.done ?_
  refine XK.if rfl (fun c0 => ?_) (fun c0 => ?_)
  · have _t0 := True.intro
    refine XK.seq ?_
    refine XK.region rfl ?_
    refine XO.q (Q.move rfl) ?_
    refine XO.st rfl rfl rfl ?_
    refine XO.st rfl rfl rfl ?_
    refine XO.st rfl rfl rfl ?_
    refine XO.done ?_
    refine XK.rt [] Try.func33 Try.results33 (.cell1 rfl rfl (.cell1 rfl rfl (.cell1 rfl rfl (.n)))) ?_
    exact ⟨by rw [rideG, if_pos c0], rfl⟩
  · have _t0 := True.intro
    refine XK.skip ?_
    refine XK.seq ?_
    refine XK.seq ?_
    refine XK.region rfl ?_
    refine XO.q (Q.ldA [_, _, _, _] rfl rfl rfl) ?_
    refine XO.q (Q.move rfl) ?_
    refine XO.call Try.call41 rfl rfl rfl (warm_spec h vr vw vb vc hr vt ht t) fun v25 s25 R25 => ?_
    obtain ⟨rfl, rfl⟩ := R25
    dsimp only [List.cons_append, List.nil_append]
    refine XO.q (Q.assign rfl) ?_
    refine XO.done ?_
    refine XK.seq ?_
    refine XK.region rfl ?_
    refine XO.q (Q.move rfl) ?_
    refine XO.q (Q.neq rfl rfl) ?_
    refine XO.done ?_
    refine XK.if rfl (fun c1 => ?_) (fun c1 => ?_)
    · have _t1 := True.intro
      refine XK.seq ?_
      refine XK.region rfl ?_
      refine XO.q (Q.move rfl) ?_
      refine XO.st rfl rfl rfl ?_
      refine XO.st rfl rfl rfl ?_
      refine XO.st rfl rfl rfl ?_
      refine XO.done ?_
      refine XK.rt [] Try.func33 Try.results33 (.cell1 rfl rfl (.cell1 rfl rfl (.cell1 rfl rfl (.n)))) ?_
      exact ⟨by rw [rideG, if_neg c0, if_pos c1], rfl⟩
    · have _t1 := True.intro
      obtain ⟨ok0, oka, okd, _, _⟩ := classed_ok (Decidable.of_not_not c0)
      have okt : TOk h t := warm_ok (Decidable.of_not_not c1)
      refine XK.skip ?_
      refine XK.seq ?_
      refine XK.seq ?_
      refine XK.region rfl ?_
      refine XO.q (Q.move rfl) ?_
      refine XO.call Try.call37 rfl rfl rfl (in_spec _ _) fun v30 s30 R30 => ?_
      obtain ⟨rfl, rfl⟩ := R30
      dsimp only [List.cons_append, List.nil_append]
      refine XO.q (Q.not rfl) ?_
      refine XO.done ?_
      refine XK.if rfl (fun c2 => ?_) (fun c2 => ?_)
      · have _t2 := True.intro
        refine XK.seq ?_
        refine XK.region rfl ?_
        refine XO.st rfl rfl rfl ?_
        refine XO.st rfl rfl rfl ?_
        refine XO.st rfl rfl rfl ?_
        refine XO.done ?_
        refine XK.rt [] Try.func33 Try.results33 (.cell1 rfl rfl (.cell1 rfl rfl (.cell1 rfl rfl (.n)))) ?_
        exact ⟨by rw [rideG, if_neg c0, if_neg c1, if_pos c2], rfl⟩
      · have _t2 := True.intro
        obtain ⟨hm0, hm1⟩ := inP_le (Decidable.of_not_not c2)
        obtain ⟨N, eN⟩ : ∃ N : Nat, m = N := ⟨m.toNat, by omega⟩
        subst eN
        have hw0 : rideG h t a d N = ((rideL h d N 0 t).1, (rideL h d N 0 t).2, 0) := by rw [rideG, if_neg c0, if_neg c1, if_neg c2, Int.toNat_natCast]
        rw [hw0]
        dsimp only
        refine XK.skip ?_
        refine XK.seq ?_
        refine XK.seq ?_
        refine XK.region rfl ?_
        refine XO.q (Q.ldA [_, _, _, _] rfl rfl rfl) ?_
        refine XO.q (Q.move rfl) ?_
        refine XO.call Try.call71 rfl rfl rfl (hot_spec h vr vw vb vc hr hw hb hc t vt ht (by rw [okt.len]; exact Nat.le_refl _)) fun v34 s34 R34 => ?_
        obtain ⟨rfl, rfl⟩ := R34
        dsimp only [List.cons_append, List.nil_append]
        refine XO.q (Q.assign rfl) ?_
        refine XO.done ?_
        refine XK.seq ?_
        refine XK.region rfl ?_
        refine XO.q (Q.move rfl) ?_
        refine XO.q (Q.geq rfl rfl) ?_
        refine XO.done ?_
        refine XK.if rfl (fun c3 => ?_) (fun c3 => ?_)
        · have _t3 := True.intro
          refine XK.seq ?_
          refine XK.region rfl ?_
          refine XO.q (Q.move rfl) ?_
          refine XO.st rfl rfl rfl ?_
          refine XO.st rfl rfl rfl ?_
          refine XO.st rfl rfl rfl ?_
          refine XO.done ?_
          refine XK.rt [] Try.func33 Try.results33 (.cell1 rfl rfl (.cell1 rfl rfl (.cell1 rfl rfl (.n)))) ?_
          exact ⟨by rw [rideL_hot c3]; rfl, rfl⟩
        · have _t3 := True.intro
          refine XK.skip ?_
          refine XK.seq ?_
          refine XK.seq ?_
          refine XK.drawn [0, 1, 2, 3, 4] [b4, b6] [] (.q 0 (.q 1 (.q 2 (.q 3 (.q 4 (.br 5 true (.br 6 true .done .stop) .stop)))))) Try.mixed rfl (by kernel_rfl) ?_
          refine XT.q rfl rfl (Q.ldA [_, _, _, _] rfl rfl rfl) ?_
          refine XT.q rfl rfl (Q.move rfl) ?_
          refine XT.q rfl rfl (Q.move rfl) ?_
          refine XT.q rfl rfl (Q.fieldAddr rfl) ?_
          refine XT.q rfl rfl (Q.ldA [_, _, _] rfl rfl rfl) ?_
          refine XT.call rfl rfl Try.call46 rfl rfl rfl (always_spec d vd) (fun v43 s43 R43 => ?_) XT.stop
          obtain ⟨bC43, rfl, oneF43, ofC43⟩ := R43
          dsimp only [List.cons_append, List.nil_append]
          refine ⟨inferInstance, ?_⟩
          refine XT.call rfl rfl Try.call45 rfl rfl rfl (seconds_spec h vr vw vb vc hr hw hb hc (hcheck_ok ok0) (fun _ => d) N (by omega) t vt ht okt (fun _ _ => okd) (fun _ => vd) hd (fun _ _ => inferInstance) v43 (blk bC43 [vd, .int .i64 d.out, .int .i64 d.pump] 43) (blk bC43 [vd, .int .i64 d.out, .int .i64 d.pump] 43) (ofC43 N).two) (fun v44 s44 R44 => ?_) XT.stop
          obtain ⟨k441, k442, k443, k444, rfl, hit44⟩ := R44
          dsimp only [List.cons_append, List.nil_append]
          refine ⟨inferInstance, ?_⟩
          refine XT.done ?_
          refine XK.block ?_
          refine XK.rangeK (X := Value × Value × Value) (ps := [45, 46]) (fun ⟨v8, v9, v10⟩ => [blk b8 [v8] 3, blk b9 [v9] 3, blk b10 [v10] 32]) (fun i ⟨v8, v9, v10⟩ K0 => rideL h d N 0 t = rideL h d (N - i) i (iterT h (fun _ => d) t i) ∧ ¬ 0 ≤ hotP h (iterT h (fun _ => d) t i)) (fun j0 ⟨v8, v9, v10⟩ K0 => j0 = Code.ret ∧ v8 = .int .i64 (rideL h d N 0 t).1 ∧ v9 = .int .i64 (rideL h d N 0 t).2 ∧ v10 = .int .i64 0) (.int .i64 0, .int .i64 0, .int .i64 0) [blk b8 [.int .i64 0] 3, blk b9 [.int .i64 0] 3, blk b10 [.int .i64 0] 32] rfl (hit44) rfl (fun i x K K' hle hI => hI) (⟨rfl, c3⟩) rfl (fun i K vs hY => by obtain ⟨sl, rfl, _⟩ := hY; rfl) ?_ ?_ ?_
          · rintro l rec B' i ⟨v8, v9, v10⟩ K0 vs hi ⟨v46, rfl, a46⟩ ⟨hrd, hnh⟩
            dsimp only [List.cons_append, List.nil_append]
            have hst : rideL h d N 0 t = rideL h d (N - (i + 1)) (i + 1) (iterT h (fun _ => d) t (i + 1)) := by rw [hrd, show N - i = (N - (i + 1)) + 1 by omega, rideL_go hnh]; rfl
            refine XK.seq ?_
            refine XK.region rfl ?_
            refine XO.q (Q.assign rfl) ?_
            refine XO.done ?_
            refine XK.region rfl ?_
            refine XO.q (Q.assign rfl) ?_
            refine XO.done ?_
            refine XK.beginRound ?_
            refine XK.block ?_
            refine XK.seq ?_
            refine XK.region rfl ?_
            refine XO.q (Q.ldA [_, _, _, _] rfl rfl rfl) ?_
            refine XO.q (Q.move rfl) ?_
            refine XO.call Try.call71 rfl rfl rfl (hot_spec h vr vw vb vc hr hw hb hc (iterT h (fun _ => d) t (i + 1)) v46 K0 (by rw [iter_len okt.len]; exact Nat.le_refl _)) fun v49 s49 R49 => ?_
            obtain ⟨rfl, rfl⟩ := R49
            dsimp only [List.cons_append, List.nil_append]
            refine XO.q (Q.assign rfl) ?_
            refine XO.done ?_
            refine XK.seq ?_
            refine XK.region rfl ?_
            refine XO.q (Q.move rfl) ?_
            refine XO.q (Q.geq rfl rfl) ?_
            refine XO.done ?_
            refine XK.if rfl (fun c4 => ?_) (fun c4 => ?_)
            · have _t4 := True.intro
              refine XK.seq ?_
              refine XK.region rfl ?_
              refine XO.q (Q.move rfl) ?_
              refine XO.q (Q.move rfl) ?_
              refine XO.st rfl rfl rfl ?_
              refine XO.st rfl rfl rfl ?_
              refine XO.st rfl rfl rfl ?_
              refine XO.done ?_
              have hh : rideL h d N 0 t = (((i + 1 : Nat) : Int), hotP h (iterT h (fun _ => d) t (i + 1))) := by rw [hst, rideL_hot c4]
              exact XK.leave (j := some .ret) [blk b8 [.int .i64 ((i : Int) + 1)] 3, blk b9 [.int .i64 (hotP h (iterT h (fun _ => d) t (i + 1)))] 3, blk b10 [.int .i64 0] 32] trivial ⟨(.int .i64 ((i : Int) + 1), .int .i64 (hotP h (iterT h (fun _ => d) t (i + 1))), .int .i64 0), ⟨rfl, ⟨by rw [hh]; rfl, by rw [hh], rfl⟩⟩, rfl⟩
            · have _t4 := True.intro
              refine XK.skip ?_
              refine XK.inBlock ?_
              exact XK.leave (j := none) [blk b8 [v8] 3, blk b9 [v9] 3, blk b10 [v10] 32] trivial ⟨(v8, v9, v10), ⟨hst, c4⟩, rfl⟩
          · rintro ⟨v8, v9, v10⟩ K0 ⟨hrd, hnh⟩
            dsimp only [List.cons_append, List.nil_append]
            refine XK.inBlock ?_
            refine XK.seq ?_
            refine XK.region rfl ?_
            refine XO.q (Q.move rfl) ?_
            refine XO.q (Q.add rfl rfl ⟨by omega, by omega⟩) ?_
            refine XO.st rfl rfl rfl ?_
            refine XO.st rfl rfl rfl ?_
            refine XO.st rfl rfl rfl ?_
            refine XO.done ?_
            refine XK.rt [] Try.func33 Try.results33 (.cell1 rfl rfl (.cell1 rfl rfl (.cell1 rfl rfl (.n)))) ?_
            exact ⟨by rw [hrd, Nat.sub_self, rideL_end hnh], rfl⟩
          · rintro _ ⟨v8, v9, v10⟩ K0 ⟨rfl, ⟨rfl, rfl, rfl⟩⟩
            dsimp only [List.cons_append, List.nil_append]
            refine XK.rt [] Try.func33 Try.results33 (.cell1 rfl rfl (.cell1 rfl rfl (.cell1 rfl rfl (.n)))) ?_
            exact ⟨rfl, rfl⟩
theorem mul64_one (n : Nat) (h : n ≤ 4294967295) : Spec Try.prog 101 #[.int .u64 1, .int .u64 (n : Nat)] [] [] (fun v hs => v = .tuple #[.int .u64 0, .int .u64 (n : Nat)] ∧ hs = []) := by
  have h1 : (1 : Int) % 4294967296 = 1 := by decide
  have h2 : (1 : Int) / 4294967296 = 0 := by decide
  have h3 : (n : Int) % 4294967296 = n := by omega
  have h4 : (n : Int) / 4294967296 = 0 := by omega
  have h5 : (0 : Int) % 4294967296 = 0 := by decide
  have h6 : (0 : Int) / 4294967296 = 0 := by decide
  refine Spec.intro (fn := Try.f101) (N := 51) Try.func101 rfl Try.ntmps101 rfl fun B => ?_
  refine XK.seq ?_
  refine XK.region rfl ?_
  refine XO.q (Q.assign rfl) ?_
  refine XO.q (Q.assign rfl) ?_
  refine XO.done ?_
  refine XK.seq ?_
  refine XK.region rfl ?_
  refine XO.q (Q.move rfl) ?_
  refine XO.q (Q.mask32 rfl rfl (by omega)) ?_
  rw [h1]
  refine XO.q (Q.assign rfl) ?_
  refine XO.done ?_
  refine XK.seq ?_
  refine XK.region rfl ?_
  refine XO.q (Q.move rfl) ?_
  refine XO.q (Q.shr32 rfl rfl) ?_
  rw [h2]
  refine XO.q (Q.assign rfl) ?_
  refine XO.done ?_
  refine XK.seq ?_
  refine XK.region rfl ?_
  refine XO.q (Q.move rfl) ?_
  refine XO.q (Q.mask32 rfl rfl (by omega)) ?_
  rw [h3]
  refine XO.q (Q.assign rfl) ?_
  refine XO.done ?_
  refine XK.seq ?_
  refine XK.region rfl ?_
  refine XO.q (Q.move rfl) ?_
  refine XO.q (Q.shr32 rfl rfl) ?_
  rw [h4]
  refine XO.q (Q.assign rfl) ?_
  refine XO.done ?_
  refine XK.seq ?_
  refine XK.region rfl ?_
  refine XO.q (Q.move rfl) ?_
  refine XO.q (Q.move rfl) ?_
  refine XO.q (Q.mulU rfl rfl (by omega)) ?_
  rw [Int.one_mul]
  refine XO.q (Q.assign rfl) ?_
  refine XO.done ?_
  refine XK.seq ?_
  refine XK.region rfl ?_
  refine XO.q (Q.move rfl) ?_
  refine XO.q (Q.move rfl) ?_
  refine XO.q (Q.mulU rfl rfl (by omega)) ?_
  rw [Int.zero_mul]
  refine XO.q (Q.move rfl) ?_
  refine XO.q (Q.shr32 rfl rfl) ?_
  rw [h4]
  refine XO.q (Q.addU rfl rfl (by omega)) ?_
  rw [Int.add_zero]
  refine XO.q (Q.assign rfl) ?_
  refine XO.done ?_
  refine XK.seq ?_
  refine XK.region rfl ?_
  refine XO.q (Q.move rfl) ?_
  refine XO.q (Q.mask32 rfl rfl (by omega)) ?_
  rw [h5]
  refine XO.q (Q.assign rfl) ?_
  refine XO.done ?_
  refine XK.seq ?_
  refine XK.region rfl ?_
  refine XO.q (Q.move rfl) ?_
  refine XO.q (Q.shr32 rfl rfl) ?_
  rw [h6]
  refine XO.q (Q.assign rfl) ?_
  refine XO.done ?_
  refine XK.seq ?_
  refine XK.region rfl ?_
  refine XO.q (Q.move rfl) ?_
  refine XO.q (Q.move rfl) ?_
  refine XO.q (Q.move rfl) ?_
  refine XO.q (Q.mulU rfl rfl (by omega)) ?_
  rw [Int.mul_zero]
  refine XO.q (Q.addU rfl rfl (by omega)) ?_
  rw [Int.add_zero]
  refine XO.q (Q.assign rfl) ?_
  refine XO.done ?_
  refine XK.seq ?_
  refine XK.region rfl ?_
  refine XO.q (Q.move rfl) ?_
  refine XO.q (Q.move rfl) ?_
  refine XO.q (Q.mulU rfl rfl (by omega)) ?_
  rw [Int.mul_zero]
  refine XO.q (Q.move rfl) ?_
  refine XO.q (Q.addU rfl rfl (by omega)) ?_
  rw [Int.add_zero]
  refine XO.q (Q.move rfl) ?_
  refine XO.q (Q.shr32 rfl rfl) ?_
  rw [h6]
  refine XO.q (Q.addU rfl rfl (by omega)) ?_
  rw [Int.add_zero]
  refine XO.q (Q.assign rfl) ?_
  refine XO.done ?_
  refine XK.seq ?_
  refine XK.region rfl ?_
  refine XO.q (Q.move rfl) ?_
  refine XO.q (Q.move rfl) ?_
  refine XO.q (Q.mulU rfl rfl (by omega)) ?_
  rw [Int.one_mul]
  refine XO.q (Q.assign rfl) ?_
  refine XO.done ?_
  refine XK.rt [] Try.func101 Try.results101 (.t rfl (.t rfl .n)) ?_
  exact ⟨rfl, rfl⟩
theorem mul_one' (n : Nat) (h : n ≤ 4294967295) : Spec Try.prog 72 #[.int .u64 1, .int .u64 (n : Nat)] [] [] (fun v hs => v = .tuple #[.int .u64 0, .int .u64 (n : Nat)] ∧ hs = []) := by
  refine Spec.intro (fn := Try.f72) (N := 30) Try.func72 rfl Try.ntmps72 rfl fun B => ?_
  refine XK.seq ?_
  refine XK.region rfl ?_
  refine XO.q (Q.assign rfl) ?_
  refine XO.q (Q.assign rfl) ?_
  refine XO.done ?_
  refine XK.seq ?_
  refine XK.if rfl (fun c0 => ?_) (fun c0 => ?_)
  · have _t0 := True.intro
    exact c0.elim
  · have _t0 := True.intro
    refine XK.skip ?_
    refine XK.seq ?_
    refine XK.region rfl ?_
    refine XO.q (Q.move rfl) ?_
    refine XO.q (Q.move rfl) ?_
    refine XO.call Try.call101 rfl rfl rfl (mul64_one n h) fun v25 s25 R25 => ?_
    obtain ⟨rfl, rfl⟩ := R25
    dsimp only [List.cons_append, List.nil_append]
    refine XO.q (Q.move rfl) ?_
    refine XO.q (Q.extract rfl rfl) ?_
    refine XO.q (Q.extract rfl rfl) ?_
    refine XO.q (Q.assign rfl) ?_
    refine XO.q (Q.assign rfl) ?_
    refine XO.done ?_
    refine XK.seq ?_
    refine XK.region rfl ?_
    refine XO.q (Q.move rfl) ?_
    refine XO.q (Q.move rfl) ?_
    refine XO.q (Q.assign rfl) ?_
    refine XO.q (Q.assign rfl) ?_
    refine XO.done ?_
    refine XK.rt [] Try.func72 Try.results72 (.t rfl (.t rfl .n)) ?_
    exact ⟨rfl, rfl⟩
theorem repeatC (v : Value) (h : PHeap) (x : Value × HCase) [s : Arr v encCV 3 h [x]] (n : Nat) (hn : n ≤ 4294967295) : Spec Try.prog 34 #[v, .int .i64 (n : Nat)] [] [h] (fun v' hs => ∃ h', hs = [h'] ∧ OArr v' encCV 3 43 h' (List.replicate n x)) := by
  have hw1 : IntKind.u64.wrap ((([x] : List (Value × HCase)).length : Nat) : Int) = 1 := rfl
  have hw2 : IntKind.u64.wrap ((n : Nat) : Int) = n := wrapu64 (by omega)
  have hw3 : IntKind.i64.wrap ((n : Nat) : Int) = n := wrap64_of ⟨by omega, by omega⟩
  have hl1 : ([x] : List (Value × HCase)).length = 1 := rfl
  refine Spec.intro (fn := Try.f34) (N := 48) Try.func34 rfl Try.ntmps34 rfl fun B => ?_
  refine XK.seq ?_
  refine XK.region rfl ?_
  refine XO.q (Q.assign rfl) ?_
  refine XO.done ?_
  refine XK.seq ?_
  refine XK.seq ?_
  refine XK.region rfl ?_
  refine XO.q (Q.move rfl) ?_
  refine XO.q (Q.lss rfl rfl) ?_
  refine XO.done ?_
  refine XK.if rfl (fun c0 => ?_) (fun c0 => ?_)
  · have _t0 := True.intro
    exact absurd c0 (by omega)
  · have _t0 := True.intro
    refine XK.skip ?_
    refine XK.seq ?_
    refine XK.region rfl ?_
    refine XO.q (Q.move rfl) ?_
    refine XO.len rfl fun l14 => ?_
    refine XO.q (Q.conv rfl) ?_
    rw [hw1]
    refine XO.q (Q.move rfl) ?_
    refine XO.q (Q.conv rfl) ?_
    rw [hw2]
    refine XO.call Try.call72 rfl rfl rfl (mul_one' n hn) fun v18 s18 R18 => ?_
    obtain ⟨rfl, rfl⟩ := R18
    dsimp only [List.cons_append, List.nil_append]
    refine XO.q (Q.move rfl) ?_
    refine XO.q (Q.extract rfl rfl) ?_
    refine XO.q (Q.extract rfl rfl) ?_
    refine XO.q (Q.assign rfl) ?_
    refine XO.q (Q.assign rfl) ?_
    refine XO.done ?_
    refine XK.seq ?_
    refine XK.seq ?_
    refine XK.region rfl ?_
    refine XO.q (Q.move rfl) ?_
    refine XO.q (Q.gtr rfl rfl) ?_
    refine XO.q (Q.move rfl) ?_
    refine XO.q (Quiet.guardF rfl rfl fun g24 p24 => Q.move rfl) ?_
    refine XO.q (Quiet.guardF rfl rfl fun g25 p25 => Q.gtr (lzv g25 rfl) rfl) ?_
    refine XO.q (Q.or rfl (fun hp => lzv hp rfl)) ?_
    refine XO.done ?_
    refine XK.if rfl (fun c1 => ?_) (fun c1 => ?_)
    · have _t1 := True.intro
      exact absurd c1 (by omega)
    · have _t1 := True.intro
      refine XK.skip ?_
      refine XK.seq ?_
      refine XK.region rfl ?_
      refine XO.q (Q.move rfl) ?_
      refine XO.q (Q.conv rfl) ?_
      rw [hw3]
      refine XO.make encCV ((Value.slice none 0 0, (⟨[], 0, 0⟩ : HCase))) rfl rfl rfl (by omega) (by omega) (fun _ => rfl) rfl rfl rfl (by dsimp only [encCV]; infer_instance) fun v30 h30 O30 => ?_
      refine XO.q (Q.assign rfl) ?_
      refine XO.done ?_
      refine XK.seq ?_
      refine XK.region rfl ?_
      refine XO.q (Q.move rfl) ?_
      refine XO.q (Q.move rfl) ?_
      refine XO.copy rfl (tailv_zero (s := O30)).symm rfl (by omega) fun h33 O33 => ?_
      rw [show min ([x] : List (Value × HCase)).length ((List.replicate n (Value.slice none 0 0, (⟨[], 0, 0⟩ : HCase))).length - 0) = min 1 n by simp]
      refine XO.q (Q.assign rfl) ?_
      refine XO.done ?_
      refine XK.seq ?_
      refine XK.block ?_
      refine XK.while (X := Nat × PHeap) [8, 34, 35, 36, 37, 38, 39, 40, 41, 42, 43, 44, 45, 46] (fun ⟨m, hM⟩ => [(8, some (.int .i64 (m : Nat)))]) (fun ⟨m, hM⟩ => [hM]) (fun ⟨m, hM⟩ => m ≤ n ∧ (0 < n → 0 < m) ∧ OArr v30 encCV 3 43 hM (List.replicate m x ++ List.replicate (n - m) (Value.slice none 0 0, (⟨[], 0, 0⟩ : HCase)))) (fun ⟨m, hM⟩ => n - m) (min 1 n, h33) [h33] rfl ⟨by omega, by omega, by have := O33; rw [repeat_first] at this; exact this⟩ (.c rfl (.base 0 rfl rfl)) ?_
      rintro ⟨m, hM⟩ ⟨hm, hm0, OM⟩ ih0
      dsimp only [List.cons_append, List.nil_append] at ih0 ⊢
      have hlm : (List.replicate m x ++ List.replicate (n - m) (Value.slice none 0 0, (⟨[], 0, 0⟩ : HCase))).length = n := by rw [List.length_append, List.length_replicate, List.length_replicate]; omega
      have hmm : min (((List.replicate m x ++ List.replicate (n - m) (Value.slice none 0 0, (⟨[], 0, 0⟩ : HCase))).drop 0).take (m - 0)).length ((List.replicate m x ++ List.replicate (n - m) (Value.slice none 0 0, (⟨[], 0, 0⟩ : HCase))).length - m) = min m (n - m) := by
        rw [hlm, List.drop_zero, List.length_take, hlm]; omega
      refine XK.seq ?_
      refine XK.seq ?_
      refine XK.region rfl ?_
      refine XO.q (Q.move rfl) ?_
      refine XO.q (Q.move rfl) ?_
      refine XO.len rfl fun l36 => ?_
      refine XO.q (Q.lss rfl rfl) ?_
      refine XO.done ?_
      refine XK.if rfl (fun c2 => ?_) (fun c2 => ?_)
      · have _t2 := True.intro
        refine XK.skip ?_
        refine XK.block ?_
        refine XK.drawn [0, 1, 2, 3, 4, 5, 6, 8, 9] [] [] (.q 0 (.q 1 (.q 2 (.q 3 (.q 4 (.q 5 (.q 6 (.br 7 true (.q 8 (.q 9 .done)) .stop)))))))) Try.mixed rfl (by kernel_rfl) ?_
        refine XT.q rfl rfl (Q.move rfl) ?_
        refine XT.q rfl rfl (Q.move rfl) ?_
        refine XT.q rfl rfl (Q.move rfl) ?_
        refine XT.q rfl rfl (Q.tail (i := m) rfl (.s rfl (by omega)) (by omega)) ?_
        refine XT.q rfl rfl (Q.move rfl) ?_
        refine XT.q rfl rfl (Q.move rfl) ?_
        refine XT.q rfl rfl (Q.cut (i := 0) (j := m) rfl .n (.s rfl (by omega)) (by omega) (by omega)) ?_
        have A44 := Arr.cut (v := v30) (i := 0) (j := m) inferInstance (by omega) (by omega)
        refine XT.copy rfl rfl rfl rfl rfl (by omega) (fun h45 O45 => ⟨inferInstance, ?_⟩) XT.stop
        rw [hmm]
        refine XT.q rfl rfl (Q.add rfl rfl ⟨by omega, by omega⟩) ?_
        rw [show ((m : Int) + ((min m (n - m) : Nat) : Int)) = ((m + min m (n - m) : Nat) : Int) from rfl]
        refine XT.q rfl rfl (Q.assign rfl) ?_
        refine XT.done ?_
        refine XK.inBlock ?_
        exact ih0 (m + min m (n - m), h45) _ _ ⟨by omega, by omega, by have := O45; rw [repeat_step x _ hm] at this; exact this⟩ (by first | omega | (dsimp only; omega)) (.c rfl (.base 29 rfl rfl)) inferInstance
      · have _t2 := True.intro
        refine XK.exit rfl ?_
        refine XK.seq ?_
        refine XK.region rfl ?_
        refine XO.q (Q.move rfl) ?_
        refine XO.q (Q.assign rfl) ?_
        refine XO.done ?_
        refine XK.rt [hM] Try.func34 Try.results34 (.t rfl .n) ?_
        have hmn : m = n := by omega
        subst hmn
        exact ⟨hM, rfl, by simpa using OM⟩
end Go.X
