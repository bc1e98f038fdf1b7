/- A part of the proof: a small program logic, plain laws and contracts of functions, each proved by a walk through its operations. No condition but those that stand in each theorem. -/
import Derived.Test.YtocdijoiaongbaaA4
set_option linter.unusedSimpArgs false
set_option linter.unusedVariables false
set_option maxRecDepth 20000
namespace Go.X
open Go.Proofs
def encRow4 (x : PRow) : List Value := [.int .i64 x.a, .int .i64 x.b, .int .i64 x.c, .int .i64 x.d]
set_option maxHeartbeats 4000000 in
theorem Spare_spec (l : List (Value × PJob)) (vl : Value) (hl K : PHeap) [jl : Arr vl encPJ 6 hl l] (aL : JobsK l K) (rs : List PRack) (vr : Value) (hr : PHeap) [jr : Arr vr encRack 5 hr rs] (m : PRat) (w : List Int) (vw : Value) (hw : PHeap) [jw : Arr vw encI 1 hw w] : Spec Try.prog 16 #[.agg #[vl, vr, .int .i64 m.n, .int .i64 m.d], vw] [] [hl, K, hr, hw] (fun v hs => ∃ vo ko, v = .tuple #[vo, .int .i64 (spareG (⟨(l.map Prod.snd), rs, m⟩ : PTask) w).2] ∧ hs = [ko] ∧ OArr vo encRow4 4 63 ko (spareG (⟨(l.map Prod.snd), rs, m⟩ : PTask) w).1) := by
  have nR : OArr (.slice none 0 0) encRow4 4 63 emp ([] : List PRow) := OArr.nil (fun _ => rfl)
  have lm : (l.map Prod.snd).length = l.length := List.length_map ..
  refine Spec.intro (fn := Try.f16) (N := 87) Try.func16 rfl Try.ntmps16 rfl fun B => ?_
  refine XK.seq ?_
  refine XK.region rfl ?_
  refine XO.box rfl fun b2 => ?_
  refine XO.q (Q.assign rfl) ?_
  refine XO.q (Q.assign rfl) ?_
  refine XO.done ?_
  refine XK.seq ?_
  refine XK.seq ?_
  refine XK.region rfl ?_
  refine XO.q (Q.ldA [_, _, _, _] rfl rfl rfl) ?_
  refine XO.q (Q.move rfl) ?_
  refine XO.call Try.call39 rfl rfl rfl (formed_spec l vl hl K aL rs vr hr m w vw hw) fun v17 s17 R17 => ?_
  obtain ⟨rfl, rfl⟩ := R17
  dsimp only [List.cons_append, List.nil_append]
  refine XO.q (Q.assign rfl) ?_
  refine XO.done ?_
  refine XK.seq ?_
  refine XK.region rfl ?_
  refine XO.q (Q.move rfl) ?_
  refine XO.q (Q.neq rfl rfl) ?_
  refine XO.done ?_
  refine XK.if rfl (fun c0 => ?_) (fun c0 => ?_)
  · have _t0 := True.intro
    refine XK.seq ?_
    refine XK.region rfl ?_
    refine XO.q (Q.move rfl) ?_
    refine XO.q (Q.assign rfl) ?_
    refine XO.q (Q.assign rfl) ?_
    refine XO.done ?_
    refine XK.rt [emp] Try.func16 Try.results16 (.t rfl (.t rfl .n)) ?_
    have hz : spareG (⟨(l.map Prod.snd), rs, m⟩ : PTask) w = ([], formedG (⟨(l.map Prod.snd), rs, m⟩ : PTask) w) := by rw [spareG, if_pos c0]
    rw [hz]
    exact ⟨.slice none 0 0, emp, rfl, rfl, nR⟩
  · have _t0 := True.intro
    have fk := formed_iff (Decidable.of_not_not c0)
    have few := fk.1.few
    have rk5 := fk.1.rk5
    have hwl : w.length = l.length := by have := fk.2.2.1; dsimp only at this; omega
    dsimp only at few rk5
    refine XK.skip ?_
    refine XK.seq ?_
    refine XK.seq ?_
    refine XK.region rfl ?_
    refine XO.q (Q.ldA [_, _, _, _] rfl rfl rfl) ?_
    refine XO.q (Q.move rfl) ?_
    refine XO.call Try.call40 rfl rfl rfl (allowed_spec l vl hl K aL rs vr hr m w vw hw fk.1 fk.2.1 fk.2.2.2) fun v23 s23 R23 => ?_
    obtain ⟨rfl, rfl⟩ := R23
    dsimp only [List.cons_append, List.nil_append]
    refine XO.q (Q.not rfl) ?_
    refine XO.done ?_
    refine XK.if rfl (fun c1 => ?_) (fun c1 => ?_)
    · have _t1 := True.intro
      refine XK.seq ?_
      refine XK.region rfl ?_
      refine XO.q (Q.assign rfl) ?_
      refine XO.q (Q.assign rfl) ?_
      refine XO.done ?_
      refine XK.rt [emp] Try.func16 Try.results16 (.t rfl (.t rfl .n)) ?_
      have hz : spareG (⟨(l.map Prod.snd), rs, m⟩ : PTask) w = ([], 90) := by rw [spareG, if_neg c0, if_pos c1]
      rw [hz]
      exact ⟨.slice none 0 0, emp, rfl, rfl, nR⟩
    · have _t1 := True.intro
      refine XK.skip ?_
      refine XK.seq ?_
      refine XK.region rfl ?_
      refine XO.q (Q.assign rfl) ?_
      refine XO.done ?_
      refine XK.seq ?_
      refine XK.seq ?_
      refine XK.region rfl ?_
      refine XO.q (Q.fieldAddr rfl) ?_
      refine XO.q (Q.ld rfl rfl) ?_
      refine XO.len rfl fun l27 => ?_
      refine XO.q (Q.move rfl) ?_
      refine XO.done ?_
      refine XK.block ?_
      refine XK.while (X := Nat × Value × PHeap) [7, 8, 9, 10, 12, 13, 14, 28, 29, 30, 31, 32, 33, 34, 35, 36, 37, 38, 39, 40, 41, 42, 43, 44, 45, 46, 47, 48, 49, 50, 51, 52, 53, 54, 55, 56, 57, 58, 59, 60, 61, 62, 63, 64, 65, 66, 67, 68, 69, 70, 71, 72, 73, 74, 75, 76, 77, 78, 79, 80, 81, 82, 83, 84, 85] (fun ⟨i, vo, ko⟩ => [(28, some (.int .i64 (i : Nat))), (7, some (vo))]) (fun ⟨i, vo, ko⟩ => [ko]) (fun ⟨i, vo, ko⟩ => i ≤ rs.length ∧ OArr vo encRow4 4 63 ko (rowsTo (⟨(l.map Prod.snd), rs, m⟩ : PTask) w i)) (fun ⟨i, vo, ko⟩ => rs.length - i) (0, .slice none 0 0, emp) [emp] rfl ⟨by omega, nR⟩ (.c rfl (.c rfl (.base 0 rfl rfl))) ?_
      rintro ⟨i, vo, ko⟩ ⟨hi, OV⟩ ih0
      dsimp only [List.cons_append, List.nil_append] at ih0 ⊢
      refine XK.seq ?_
      refine XK.region rfl ?_
      refine XO.q (Q.lss rfl rfl) ?_
      refine XO.done ?_
      refine XK.seq ?_
      refine XK.if rfl (fun c2 => ?_) (fun c2 => ?_)
      · have _t2 := True.intro
        have rr := fk.1.rack i (by dsimp only; omega)
        dsimp only at rr
        unfold rackR at rr
        rw [Bool.and_eq_true, Bool.and_eq_true] at rr
        have q3 := pin_three.1 rr.1.1
        have q1 := pin_one.1 rr.1.2
        refine XK.skip ?_
        refine XK.seq ?_
        refine XK.block ?_
        refine XK.seq ?_
        refine XK.region rfl ?_
        refine XO.q (Q.move rfl) ?_
        refine XO.ix rfl rfl (by omega) (by omega) fun i31 => ?_
        refine XO.q (Q.ldEA [_, _, _, _, _] rfl (by first | assumption | omega) rfl rfl) ?_
        refine XO.alloc fun b9 => ?_
        refine XO.q (Q.assign rfl) ?_
        refine XO.st rfl rfl rfl ?_
        refine XO.done ?_
        refine XK.seq ?_
        refine XK.region rfl ?_
        refine XO.q (Q.fieldAddr rfl) ?_
        refine XO.q (Q.ixA rfl rfl (by omega) (by omega)) ?_
        refine XO.q (Q.ld rfl rfl) ?_
        refine XO.q (Q.fieldAddr rfl) ?_
        refine XO.q (Q.ixA rfl rfl (by omega) (by omega)) ?_
        refine XO.q (Q.ld rfl rfl) ?_
        refine XO.q (Q.fieldAddr rfl) ?_
        refine XO.q (Q.ixA rfl rfl (by omega) (by omega)) ?_
        refine XO.q (Q.ld rfl rfl) ?_
        refine XO.q (Q.fieldAddr rfl) ?_
        refine XO.q (Q.ld rfl rfl) ?_
        refine XO.q (Q.build [_, _, _, _] (.c 0 1 rfl rfl rfl (.c 1 1 rfl rfl rfl (.c 2 1 rfl rfl rfl (.c 3 1 rfl rfl rfl (.n _)))))) ?_
        refine XO.alloc fun b10 => ?_
        refine XO.st rfl rfl rfl ?_
        refine XO.done ?_
        refine XK.seq ?_
        refine XK.seq ?_
        refine XK.region rfl ?_
        refine XO.q (Q.ldA [_, _, _, _] rfl rfl rfl) ?_
        refine XO.q (Q.move rfl) ?_
        refine XO.q (Q.move rfl) ?_
        refine XO.call Try.call42 rfl rfl rfl (in_spec l vl hl K aL rs vr hr m w vw hw (i : Nat) (by omega) (by omega)) fun v48 s48 R48 => ?_
        obtain ⟨k48, rfl, O48⟩ := R48
        dsimp only [List.cons_append, List.nil_append]
        have em : ((inTo l w (i : Nat) w.length).map Prod.snd) = inL (⟨(l.map Prod.snd), rs, m⟩ : PTask) w i := in_mem _
        have il : ((inTo l w (i : Nat) w.length).map Prod.snd).length = (inTo l w (i : Nat) w.length).length := List.length_map ..
        have lok := fk.2.2.2 i (by dsimp only; omega)
        rw [← em] at lok
        have kk := aL.inTo (w := w) (r := (i : Nat)) (n := w.length) (by omega)
        refine XO.len rfl fun l49 => ?_
        refine XO.q (Q.move rfl) ?_
        refine XO.done ?_
        refine XK.block ?_
        refine XK.while (X := Nat × Int × Int × Int × Int) [12, 13, 14, 50, 51, 52, 53, 54, 55, 56, 57, 58, 59, 60, 61, 62, 63, 64, 65, 66, 67, 68, 69, 70, 71, 72, 73, 74, 75, 76, 77, 78, 79, 80] (fun ⟨j, xa, xb, xc, xd⟩ => [(50, some (.int .i64 (j : Nat)))]) (fun ⟨j, xa, xb, xc, xd⟩ => [blk b10 [.int .i64 xa, .int .i64 xb, .int .i64 xc, .int .i64 xd] 63]) (fun ⟨j, xa, xb, xc, xd⟩ => j ≤ (inTo l w (i : Nat) w.length).length ∧ xa = (rs.getD i default).r0 - needK ((inTo l w (i : Nat) w.length).map Prod.snd) 0 j ∧ xb = (rs.getD i default).r1 - needK ((inTo l w (i : Nat) w.length).map Prod.snd) 1 j ∧ xc = (rs.getD i default).r2 - needK ((inTo l w (i : Nat) w.length).map Prod.snd) 2 j ∧ xd = (rs.getD i default).cap - topK ((inTo l w (i : Nat) w.length).map Prod.snd) j) (fun ⟨j, xa, xb, xc, xd⟩ => (inTo l w (i : Nat) w.length).length - j) (0, (rs.getD i default).r0, (rs.getD i default).r1, (rs.getD i default).r2, (rs.getD i default).cap) [blk b10 [.int .i64 (rs.getD i default).r0, .int .i64 (rs.getD i default).r1, .int .i64 (rs.getD i default).r2, .int .i64 (rs.getD i default).cap] 63] rfl ⟨by omega, by simp [needK], by simp [needK], by simp [needK], by simp [topK]⟩ (.c rfl (.base 0 rfl rfl)) ?_
        rintro ⟨j, xa, xb, xc, xd⟩ ⟨hj_, ea, eb, ec, ed⟩ ih1
        dsimp only [List.cons_append, List.nil_append] at ih1 ⊢
        refine XK.seq ?_
        refine XK.region rfl ?_
        refine XO.q (Q.lss rfl rfl) ?_
        refine XO.done ?_
        refine XK.seq ?_
        refine XK.if rfl (fun c3 => ?_) (fun c3 => ?_)
        · have _t3 := True.intro
          have ji := map_snd_atP (inTo l w (i : Nat) w.length) j
          have ai := kk j (by omega)
          have jok := lok.job j (by omega)
          rw [ji] at jok
          have nr := pin_three.1 jok.need
          have na := need_succ (l := ((inTo l w (i : Nat) w.length).map Prod.snd)) (i := j) (by omega)
          rw [ji] at na
          have nb := need_rng lok j (by omega)
          have lf := lok.few
          have tb := topK_rng lok.job j (by omega)
          have tj := topJ_rng jok
          have nt : topK ((inTo l w (i : Nat) w.length).map Prod.snd) (j + 1) = topK ((inTo l w (i : Nat) w.length).map Prod.snd) j + topJ ((inTo l w (i : Nat) w.length).getD j default).2 := by rw [topK, ji]
          obtain ⟨na0, na1, na2⟩ := na
          have dw := jok.few
          unfold topJ at tj nt
          refine XK.skip ?_
          refine XK.seq ?_
          refine XK.block ?_
          refine XK.seq ?_
          refine XK.region rfl ?_
          refine XO.ix rfl rfl (by omega) (by omega) fun i52 => ?_
          refine XO.q (Q.ldEA [_, _, _, _, _, _] rfl (by first | assumption | omega) rfl rfl) ?_
          refine XO.alloc fun b12 => ?_
          refine XO.st rfl rfl rfl ?_
          refine XO.done ?_
          refine XK.seq ?_
          refine XK.seq ?_
          refine XK.region rfl ?_
          refine XO.q (Q.fieldAddr rfl) ?_
          refine XO.q (Q.ldA [_, _, _] rfl rfl rfl) ?_
          refine XO.q (Q.move rfl) ?_
          (try rw [show ((0 : Int) + 1) = 1 from rfl])
          (try rw [show ((1 : Int) + 1) = 2 from rfl])
          (try rw [show ((2 : Int) + 1) = 3 from rfl])
          refine XO.done ?_
          refine XK.block ?_
          refine XK.loop' ?_
          refine XK.seq ?_
          refine XK.region rfl ?_
          refine XO.q (Q.lss rfl rfl) ?_
          refine XO.done ?_
          refine XK.seq ?_
          refine XK.if rfl (fun c4 => ?_) (fun c4 => ?_)
          · have _t4 := True.intro
            refine XK.skip ?_
            refine XK.seq ?_
            refine XK.block ?_
            refine XK.seq ?_
            refine XK.region rfl ?_
            refine XO.q (Q.move rfl) ?_
            refine XO.q (Q.index rfl rfl (by decide) (Nat.le_of_ble_eq_true rfl)) ?_
            refine XO.q (Q.assign rfl) ?_
            refine XO.q (Q.assign rfl) ?_
            refine XO.done ?_
            refine XK.region rfl ?_
            refine XO.q (Q.move rfl) ?_
            refine XO.q (Q.ixA rfl rfl (by omega) (by omega)) ?_
            (try rw [show (0 + Int.toNat 0 * 1 : Nat) = 0 from rfl])
            (try rw [show (0 + Int.toNat 1 * 1 : Nat) = 1 from rfl])
            (try rw [show (0 + Int.toNat 2 * 1 : Nat) = 2 from rfl])
            refine XO.q (Q.ld rfl rfl) ?_
            refine XO.q (Q.move rfl) ?_
            refine XO.q (Q.sub rfl rfl ⟨by omega, by omega⟩) ?_
            refine XO.q (Q.ixA rfl rfl (by omega) (by omega)) ?_
            (try rw [show (0 + Int.toNat 0 * 1 : Nat) = 0 from rfl])
            (try rw [show (0 + Int.toNat 1 * 1 : Nat) = 1 from rfl])
            (try rw [show (0 + Int.toNat 2 * 1 : Nat) = 2 from rfl])
            refine XO.st rfl rfl rfl ?_
            refine XO.done ?_
            refine XK.inBlock ?_
            refine XK.region rfl ?_
            refine XO.q (Q.add rfl rfl ⟨by omega, by omega⟩) ?_
            (try rw [show ((0 : Int) + 1) = 1 from rfl])
            (try rw [show ((1 : Int) + 1) = 2 from rfl])
            (try rw [show ((2 : Int) + 1) = 3 from rfl])
            refine XO.q (Q.move rfl) ?_
            (try rw [show ((0 : Int) + 1) = 1 from rfl])
            (try rw [show ((1 : Int) + 1) = 2 from rfl])
            (try rw [show ((2 : Int) + 1) = 3 from rfl])
            refine XO.done ?_
            refine XK.inLoop' ?_
            refine XK.seq ?_
            refine XK.region rfl ?_
            refine XO.q (Q.lss rfl rfl) ?_
            refine XO.done ?_
            refine XK.seq ?_
            refine XK.if rfl (fun c5 => ?_) (fun c5 => ?_)
            · have _t5 := True.intro
              refine XK.skip ?_
              refine XK.seq ?_
              refine XK.block ?_
              refine XK.seq ?_
              refine XK.region rfl ?_
              refine XO.q (Q.move rfl) ?_
              refine XO.q (Q.index rfl rfl (by decide) (Nat.le_of_ble_eq_true rfl)) ?_
              refine XO.q (Q.assign rfl) ?_
              refine XO.q (Q.assign rfl) ?_
              refine XO.done ?_
              refine XK.region rfl ?_
              refine XO.q (Q.move rfl) ?_
              refine XO.q (Q.ixA rfl rfl (by omega) (by omega)) ?_
              (try rw [show (0 + Int.toNat 0 * 1 : Nat) = 0 from rfl])
              (try rw [show (0 + Int.toNat 1 * 1 : Nat) = 1 from rfl])
              (try rw [show (0 + Int.toNat 2 * 1 : Nat) = 2 from rfl])
              refine XO.q (Q.ld rfl rfl) ?_
              refine XO.q (Q.move rfl) ?_
              refine XO.q (Q.sub rfl rfl ⟨by omega, by omega⟩) ?_
              refine XO.q (Q.ixA rfl rfl (by omega) (by omega)) ?_
              (try rw [show (0 + Int.toNat 0 * 1 : Nat) = 0 from rfl])
              (try rw [show (0 + Int.toNat 1 * 1 : Nat) = 1 from rfl])
              (try rw [show (0 + Int.toNat 2 * 1 : Nat) = 2 from rfl])
              refine XO.st rfl rfl rfl ?_
              refine XO.done ?_
              refine XK.inBlock ?_
              refine XK.region rfl ?_
              refine XO.q (Q.add rfl rfl ⟨by omega, by omega⟩) ?_
              (try rw [show ((0 : Int) + 1) = 1 from rfl])
              (try rw [show ((1 : Int) + 1) = 2 from rfl])
              (try rw [show ((2 : Int) + 1) = 3 from rfl])
              refine XO.q (Q.move rfl) ?_
              (try rw [show ((0 : Int) + 1) = 1 from rfl])
              (try rw [show ((1 : Int) + 1) = 2 from rfl])
              (try rw [show ((2 : Int) + 1) = 3 from rfl])
              refine XO.done ?_
              refine XK.inLoop' ?_
              refine XK.seq ?_
              refine XK.region rfl ?_
              refine XO.q (Q.lss rfl rfl) ?_
              refine XO.done ?_
              refine XK.seq ?_
              refine XK.if rfl (fun c6 => ?_) (fun c6 => ?_)
              · have _t6 := True.intro
                refine XK.skip ?_
                refine XK.seq ?_
                refine XK.block ?_
                refine XK.seq ?_
                refine XK.region rfl ?_
                refine XO.q (Q.move rfl) ?_
                refine XO.q (Q.index rfl rfl (by decide) (Nat.le_of_ble_eq_true rfl)) ?_
                refine XO.q (Q.assign rfl) ?_
                refine XO.q (Q.assign rfl) ?_
                refine XO.done ?_
                refine XK.region rfl ?_
                refine XO.q (Q.move rfl) ?_
                refine XO.q (Q.ixA rfl rfl (by omega) (by omega)) ?_
                (try rw [show (0 + Int.toNat 0 * 1 : Nat) = 0 from rfl])
                (try rw [show (0 + Int.toNat 1 * 1 : Nat) = 1 from rfl])
                (try rw [show (0 + Int.toNat 2 * 1 : Nat) = 2 from rfl])
                refine XO.q (Q.ld rfl rfl) ?_
                refine XO.q (Q.move rfl) ?_
                refine XO.q (Q.sub rfl rfl ⟨by omega, by omega⟩) ?_
                refine XO.q (Q.ixA rfl rfl (by omega) (by omega)) ?_
                (try rw [show (0 + Int.toNat 0 * 1 : Nat) = 0 from rfl])
                (try rw [show (0 + Int.toNat 1 * 1 : Nat) = 1 from rfl])
                (try rw [show (0 + Int.toNat 2 * 1 : Nat) = 2 from rfl])
                refine XO.st rfl rfl rfl ?_
                refine XO.done ?_
                refine XK.inBlock ?_
                refine XK.region rfl ?_
                refine XO.q (Q.add rfl rfl ⟨by omega, by omega⟩) ?_
                (try rw [show ((0 : Int) + 1) = 1 from rfl])
                (try rw [show ((1 : Int) + 1) = 2 from rfl])
                (try rw [show ((2 : Int) + 1) = 3 from rfl])
                refine XO.q (Q.move rfl) ?_
                (try rw [show ((0 : Int) + 1) = 1 from rfl])
                (try rw [show ((1 : Int) + 1) = 2 from rfl])
                (try rw [show ((2 : Int) + 1) = 3 from rfl])
                refine XO.done ?_
                refine XK.inLoop' ?_
                refine XK.seq ?_
                refine XK.region rfl ?_
                refine XO.q (Q.lss rfl rfl) ?_
                refine XO.done ?_
                refine XK.seq ?_
                refine XK.if rfl (fun c7 => ?_) (fun c7 => ?_)
                · have _t7 := True.intro
                  exact absurd c7 (by first | decide | simp)
                · have _t7 := True.intro
                  refine XK.exit rfl ?_
                  refine XK.drawn [0, 1, 2, 3, 4, 5, 6, 7, 8, 9, 10, 11, 12] [b10, b12] [] (.q 0 (.q 1 (.q 2 (.q 3 (.q 4 (.q 5 (.q 6 (.q 7 (.q 8 (.q 9 (.q 10 (.q 11 (.q 12 (.br 13 false .done .stop)))))))))))))) Try.mixed rfl (by kernel_rfl) ?_
                  refine XT.q rfl rfl (Q.ixA rfl rfl (by omega) (by omega)) ?_
                  (try rw [show (0 + Int.toNat 3 * 1 : Nat) = 3 from rfl])
                  refine XT.q rfl rfl (Q.ld rfl rfl) ?_
                  refine XT.q rfl rfl (Q.fieldAddr rfl) ?_
                  refine XT.q rfl rfl (Q.ld rfl rfl) ?_
                  refine XT.q rfl rfl (Q.fieldAddr rfl) ?_
                  refine XT.q rfl rfl (Q.ld rfl rfl) ?_
                  refine XT.q rfl rfl (Q.len rfl) ?_
                  refine XT.q rfl rfl (Q.sub rfl rfl ⟨by omega, by omega⟩) ?_
                  refine XT.ix rfl rfl rfl rfl (by omega) (by omega) fun i75 => ?_
                  refine XT.q rfl rfl (Q.fieldQ rfl (by first | assumption | omega)) ?_
                  refine XT.q rfl rfl (Q.ldE rfl (by first | assumption | omega) rfl) ?_
                  rw [show ((((inTo l w (i : Nat) w.length).getD j default).2.draws.length : Int) - 1).toNat = ((inTo l w (i : Nat) w.length).getD j default).2.draws.length - 1 by omega]
                  refine XT.q rfl rfl (Q.sub rfl rfl ⟨by omega, by omega⟩) ?_
                  refine XT.q rfl rfl (Q.ixA rfl rfl (by omega) (by omega)) ?_
                  (try rw [show (0 + Int.toNat 3 * 1 : Nat) = 3 from rfl])
                  refine XT.st rfl rfl rfl rfl rfl ⟨inferInstance, ?_⟩ XT.stop
                  refine XT.done ?_
                  refine XK.inBlock ?_
                  refine XK.region rfl ?_
                  refine XO.q (Q.add rfl rfl ⟨by omega, by omega⟩) ?_
                  refine XO.q (Q.move rfl) ?_
                  refine XO.done ?_
                  exact ih1 (j + 1, xa - ((inTo l w (i : Nat) w.length).getD j default).2.n0, xb - ((inTo l w (i : Nat) w.length).getD j default).2.n1, xc - ((inTo l w (i : Nat) w.length).getD j default).2.n2, xd - (((inTo l w (i : Nat) w.length).getD j default).2.draws.getD (((inTo l w (i : Nat) w.length).getD j default).2.draws.length - 1) default).power) _ _ ⟨by dsimp only; omega, by dsimp only; omega, by dsimp only; omega, by dsimp only; omega, by dsimp only; omega⟩ (by first | omega | (dsimp only; omega)) (.c rfl (.base 97 rfl rfl)) inferInstance
              · have _t6 := True.intro
                exact absurd (by first | decide | simp) c6
            · have _t5 := True.intro
              exact absurd (by first | decide | simp) c5
          · have _t4 := True.intro
            exact absurd (by first | decide | simp) c4
        · have _t3 := True.intro
          have hj : j = ((inTo l w (i : Nat) w.length).map Prod.snd).length := by omega
          subst hj
          subst ea eb ec ed
          refine XK.exit rfl ?_
          refine XK.region rfl ?_
          refine XO.q (Q.move rfl) ?_
          refine XO.q (Q.ldA [_, _, _, _] rfl rfl rfl) ?_
          refine XO.lit [_, _, _, _] [_, _, _, _] [leftR (rs.getD i default) ((inTo l w (i : Nat) w.length).map Prod.snd) ((inTo l w (i : Nat) w.length).map Prod.snd).length] encRow4 (by rfl) (by rfl) rfl (by rfl) (by exact .c 0 4 rfl rfl rfl (.n _)) (fun _ => rfl) (by rfl) rfl (by infer_instance) rfl fun v83 h83 O83 => ?_
          refine XO.append rfl rfl rfl rfl (by have := rowsTo_len (⟨l.map Prod.snd, rs, m⟩ : PTask) w i; simp only [List.length_cons, List.length_nil]; omega) fun v84 h84 O84 => ?_
          refine XO.q (Q.assign rfl) ?_
          refine XO.done ?_
          refine XK.inBlock ?_
          refine XK.region rfl ?_
          refine XO.q (Q.add rfl rfl ⟨by omega, by omega⟩) ?_
          refine XO.q (Q.move rfl) ?_
          refine XO.done ?_
          exact ih0 (i + 1, v84, h84) _ _ ⟨by dsimp only; omega, by dsimp only; rw [rowsTo, rowG, ← em]; exact O84⟩ (by first | omega | (dsimp only; omega)) (.c rfl (.c rfl (.base 135 rfl rfl))) inferInstance
      · have _t2 := True.intro
        have hin : i = rs.length := by omega
        subst hin
        refine XK.exit rfl ?_
        refine XK.seq ?_
        refine XK.region rfl ?_
        refine XO.q (Q.move rfl) ?_
        refine XO.q (Q.assign rfl) ?_
        refine XO.q (Q.assign rfl) ?_
        refine XO.done ?_
        refine XK.rt [ko] Try.func16 Try.results16 (.t rfl (.t rfl .n)) ?_
        have hz : spareG (⟨(l.map Prod.snd), rs, m⟩ : PTask) w = (rowsTo (⟨(l.map Prod.snd), rs, m⟩ : PTask) w rs.length, 0) := by rw [spareG, if_neg c0, if_neg c1]
        rw [hz]
        exact ⟨vo, ko, rfl, rfl, OV⟩
end Go.X

set_option linter.unusedSimpArgs false
set_option linter.unusedVariables false
set_option maxRecDepth 20000
namespace Go.X
open Go.Proofs
theorem cloneRk (v : Value) (h : PHeap) (xs : List PRack) [s : Arr v encRack 5 h xs] (hl : xs.length ≤ 68719476736) :
    Spec Try.prog 18 #[v] [] [h] (fun v' hs => ∃ h', hs = [h'] ∧ OArr v' encRack 5 62 h' xs) := by
  refine Spec.intro (fn := Try.f18) (N := 8) Try.func18 rfl Try.ntmps18 rfl fun B => ?_
  refine XK.seq ?_
  refine XK.region rfl ?_
  refine XO.q (Q.assign rfl) ?_
  refine XO.done ?_
  refine XK.seq ?_
  refine XK.seq ?_
  refine XK.region rfl ?_
  refine XO.q (Q.move rfl) ?_
  refine XO.eqNil rfl fun z4 hz4 => ?_
  refine XO.done ?_
  refine XK.if rfl (fun c0 => ?_) (fun c0 => ?_)
  · have _t0 := True.intro
    refine XK.seq ?_
    refine XK.region rfl ?_
    refine XO.q (Q.assign rfl) ?_
    refine XO.done ?_
    refine XK.rt [emp] Try.func18 Try.results18 (.t rfl .n) ?_
    exact ⟨emp, rfl, by rw [(hz4 c0).1]; exact OArr.nil (fun _ => rfl)⟩
  · have _t0 := True.intro
    refine XK.skip ?_
    refine XK.seq ?_
    refine XK.region rfl ?_
    refine XO.lit [] [] [] encRack (by rfl) (by rfl) rfl (by rfl) (by exact .n _) (fun _ => rfl) (by rfl) rfl (by infer_instance) rfl fun v5 h5 O5 => ?_
    refine XO.q (Q.move rfl) ?_
    refine XO.append rfl rfl rfl rfl (by first | omega | (simp; omega)) fun v7 h7 O7 => ?_
    refine XO.q (Q.assign rfl) ?_
    refine XO.done ?_
    refine XK.rt [h7] Try.func18 Try.results18 (.t rfl .n) ?_
    exact ⟨h7, rfl, O7⟩
set_option maxHeartbeats 4000000 in
theorem PlaceLess_spec (v0 : Value) (h0 : PHeap) (x0 : List UInt8) [i0 : Arr v0 encU8 1 h0 x0] (n1 : Nat) (hn1 : n1 < 256) : Spec Try.prog 5 #[v0, .int .u8 (n1 : Nat)] [] [h0] (fun v hs => v = .bool true ∧ hs = []) := by
  refine Spec.intro (fn := Try.f5) (N := 177) Try.func5 rfl Try.ntmps5 rfl fun B => ?_
  refine XK.seq ?_
  refine XK.region rfl ?_
  refine XO.q (Q.assign rfl) ?_
  refine XO.done ?_
  refine XK.seq ?_
  refine XK.region rfl ?_
  refine XO.q (Q.move rfl) ?_
  refine XO.call Try.call8 rfl rfl rfl (made09 v0 h0 x0) fun v21 s21 R21 => ?_
  obtain ⟨l, vl, kl, K, rs, vr, kr, m, rfl, rfl, OL, JL, OR, mk⟩ := R21
  dsimp only [List.cons_append, List.nil_append]
  have rd := mk.ready
  have lm : (l.map Prod.snd).length = l.length := List.length_map ..
  have few := mk.few
  have rk := mk.rk
  dsimp only at few rk
  rw [lm] at few
  refine XO.alloc fun b5 => ?_
  refine XO.st rfl rfl rfl ?_
  refine XO.done ?_
  refine XK.seq ?_
  refine XK.region rfl ?_
  refine XO.q (Q.ldA [_, _, _, _] rfl rfl rfl) ?_
  refine XO.call Try.call12 rfl rfl rfl (Best_spec l vl kl K JL rs vr kr m) fun v24 s24 R24 => ?_
  obtain ⟨vW, vP, kW, kP, bw, s, p, rfl, rfl, OW, OP, hb, _⟩ := R24
  dsimp only [List.cons_append, List.nil_append]
  have hb := hb rd
  rw [rd]
  have bl := best_law rd
  rw [← hb] at bl
  dsimp only at bl
  obtain ⟨⟨bf, ba, bwor⟩, bl2, bl3⟩ := bl
  obtain ⟨_, wok, bwl, _⟩ := formed_iff bf
  dsimp only at bwl
  rw [lm] at bwl
  refine XO.q (Q.move rfl) ?_
  refine XO.q (Q.extract rfl rfl) ?_
  refine XO.q (Q.extract rfl rfl) ?_
  refine XO.alloc fun b6 => ?_
  refine XO.st rfl rfl rfl ?_
  refine XO.q (Q.assign rfl) ?_
  refine XO.done ?_
  refine XK.seq ?_
  refine XK.seq ?_
  refine XK.region rfl ?_
  refine XO.q (Q.move rfl) ?_
  refine XO.q (Q.neq rfl rfl) ?_
  refine XO.done ?_
  refine XK.if rfl (fun c0 => ?_) (fun c0 => ?_)
  · have _t0 := True.intro
    simp at c0
  · have _t0 := True.intro
    refine XK.skip ?_
    refine XK.seq ?_
    refine XK.region rfl ?_
    refine XO.q (Q.ldA [_, _, _, _] rfl rfl rfl) ?_
    refine XO.q (Q.fieldAddr rfl) ?_
    refine XO.q (Q.ld rfl rfl) ?_
    refine XO.call Try.call16 rfl rfl rfl (Spare_spec l vl kl K JL rs vr kr m bw vW kW) fun v33 s33 R33 => ?_
    obtain ⟨vo, ko, rfl, rfl, OS⟩ := R33
    dsimp only [List.cons_append, List.nil_append]
    have sg : spareG (⟨(l.map Prod.snd), rs, m⟩ : PTask) bw = (rowsTo (⟨(l.map Prod.snd), rs, m⟩ : PTask) bw rs.length, 0) := by rw [spareG, if_neg (by rw [bf]; decide), if_neg (fun h => h ba)]
    rw [sg] at OS
    rw [sg]
    dsimp only at OS ⊢
    have rtl := rowsTo_len (⟨(l.map Prod.snd), rs, m⟩ : PTask) bw rs.length
    refine XO.q (Q.move rfl) ?_
    refine XO.q (Q.extract rfl rfl) ?_
    refine XO.q (Q.extract rfl rfl) ?_
    refine XO.q (Q.assign rfl) ?_
    refine XO.q (Q.assign rfl) ?_
    refine XO.done ?_
    refine XK.seq ?_
    refine XK.seq ?_
    refine XK.region rfl ?_
    refine XO.q (Q.move rfl) ?_
    refine XO.q (Q.neq rfl rfl) ?_
    refine XO.q (Q.move rfl) ?_
    refine XO.q (Quiet.guardF rfl rfl fun g39 p39 => Q.move rfl) ?_
    refine XO.q (Quiet.guardF rfl rfl fun g40 p40 => Q.len (lzv rfl rfl)) ?_
    refine XO.q (Quiet.guardF rfl rfl fun g41 p41 => Q.fieldAddr rfl) ?_
    refine XO.q (Quiet.guardF rfl rfl fun g42 p42 => Q.ld (lzv rfl rfl) rfl) ?_
    refine XO.q (Quiet.guardF rfl rfl fun g43 p43 => Q.len (lzv rfl rfl)) ?_
    refine XO.q (Quiet.guardF rfl rfl fun g44 p44 => Q.neq (lzv rfl rfl) (lzv rfl rfl)) ?_
    rw [decide_eq_false (show ¬ ((rowsTo (⟨(l.map Prod.snd), rs, m⟩ : PTask) bw rs.length).length : Int) ≠ (rs.length : Int) by omega)]
    refine XO.q (Q.or rfl (fun hp => lzv hp rfl)) ?_
    refine XO.done ?_
    refine XK.if rfl (fun c1 => ?_) (fun c1 => ?_)
    · have _t1 := True.intro
      exfalso
      simp at c1
    · have _t1 := True.intro
      refine XK.skip ?_
      refine XK.seq ?_
      refine XK.seq ?_
      refine XK.region rfl ?_
      refine XO.q (Q.fieldAddr rfl) ?_
      refine XO.q (Q.ld rfl rfl) ?_
      refine XO.len rfl fun l48 => ?_
      refine XO.q (Q.move rfl) ?_
      refine XO.done ?_
      refine XK.block ?_
      refine XK.while (X := Nat × List PRow × PHeap) [4, 9, 10, 11, 12, 13, 14, 49, 50, 51, 52, 53, 54, 55, 56, 57, 58, 59, 60, 61, 62, 63, 64, 65, 66, 67, 68, 69, 70, 71, 72, 73, 74, 75, 76, 77, 78, 79, 80, 81, 82, 83, 84, 85, 86, 87, 88, 89, 90, 91, 92, 93, 94, 95, 96, 97, 98, 99, 100, 101, 102, 103, 104, 105, 106, 107, 108, 109, 110, 111, 112, 113, 114, 115, 116, 117, 118, 119, 120, 121] (fun ⟨i, L, kS⟩ => [(49, some (.int .i64 (i : Nat)))]) (fun ⟨i, L, kS⟩ => [kS]) (fun ⟨i, L, kS⟩ => i ≤ rs.length ∧ L.length = rs.length ∧ (∀ r, i ≤ r → r < rs.length → L.getD r default = rowG (⟨(l.map Prod.snd), rs, m⟩ : PTask) bw r) ∧ OArr vo encRow4 4 63 kS L) (fun ⟨i, L, kS⟩ => rs.length - i) (0, _, ko) [ko] rfl ⟨by omega, rtl, fun r _ hr => rowsTo_at _ _ _ r hr, OS⟩ (.c rfl (.base 0 rfl rfl)) ?_
      rintro ⟨i, L, kS⟩ ⟨hi, hL, hR, OL4⟩ ih0
      dsimp only [List.cons_append, List.nil_append] at ih0 ⊢
      refine XK.seq ?_
      refine XK.region rfl ?_
      refine XO.q (Q.lss rfl rfl) ?_
      refine XO.done ?_
      refine XK.seq ?_
      refine XK.if rfl (fun c2 => ?_) (fun c2 => ?_)
      · have _t2 := True.intro
        refine XK.skip ?_
        refine XK.seq ?_
        refine XK.block ?_
        refine XK.seq ?_
        refine XK.region rfl ?_
        refine XO.q (Q.move rfl) ?_
        refine XO.ix rfl rfl (by omega) (by omega) fun i52 => ?_
        refine XO.q (Q.ldEA [_, _, _, _, _] rfl (by first | assumption | omega) rfl rfl) ?_
        refine XO.alloc fun b10 => ?_
        refine XO.q (Q.assign rfl) ?_
        refine XO.st rfl rfl rfl ?_
        refine XO.done ?_
        refine XK.seq ?_
        refine XK.seq ?_
        refine XK.region rfl ?_
        refine XO.q (Q.fieldAddr rfl) ?_
        refine XO.q (Q.ld rfl rfl) ?_
        refine XO.len rfl fun l56 => ?_
        refine XO.q (Q.move rfl) ?_
        refine XO.done ?_
        refine XK.block ?_
        refine XK.while (X := Nat × List PRow × PHeap) [11, 12, 13, 14, 57, 58, 59, 60, 61, 62, 63, 64, 65, 66, 67, 68, 69, 70, 71, 72, 73, 74, 75, 76, 77, 78, 79, 80, 81, 82, 83, 84, 85, 86, 87, 88, 89, 90, 91, 92, 93, 94, 95, 96, 97, 98, 99, 100, 101, 102, 103] (fun ⟨n, M, kM⟩ => [(57, some (.int .i64 (n : Nat)))]) (fun ⟨n, M, kM⟩ => [kM]) (fun ⟨n, M, kM⟩ => n ≤ l.length ∧ M.length = rs.length ∧ M.getD i default = addR (⟨(l.map Prod.snd), rs, m⟩ : PTask) bw i n ∧ (∀ r, i < r → r < rs.length → M.getD r default = rowG (⟨(l.map Prod.snd), rs, m⟩ : PTask) bw r) ∧ OArr vo encRow4 4 63 kM M) (fun ⟨n, M, kM⟩ => l.length - n) (0, L, kS) [kS] rfl ⟨by omega, hL, by rw [addR_zero]; exact hR i (Nat.le_refl _) (by omega), fun r h1 h2 => hR r (by omega) h2, OL4⟩ (.c rfl (.base 0 rfl rfl)) ?_
        rintro ⟨n, M, kM⟩ ⟨hn_, hM, gM, gR, OM⟩ ih1
        dsimp only [List.cons_append, List.nil_append] at ih1 ⊢
        refine XK.seq ?_
        refine XK.region rfl ?_
        refine XO.q (Q.lss rfl rfl) ?_
        refine XO.done ?_
        refine XK.seq ?_
        refine XK.if rfl (fun c3 => ?_) (fun c3 => ?_)
        · have _t3 := True.intro
          have ai := JL n (by omega)
          have ji := map_snd_atP l n
          have jok := (mk.job n (by dsimp only; omega)).ok
          dsimp only at jok
          rw [ji] at jok
          have nr := pin_three.1 jok.need
          have dw := jok.few
          have tj := topJ_rng jok
          unfold topJ at tj
          have ar := addR_rng mk.ok mk.lok (w := bw) (by dsimp only; omega) (r := i) (n := n) (by dsimp only; omega) (by omega)
          rw [← gM] at ar
          refine XK.skip ?_
          refine XK.seq ?_
          refine XK.block ?_
          refine XK.seq ?_
          refine XK.region rfl ?_
          refine XO.q (Q.move rfl) ?_
          refine XO.ix rfl rfl (by omega) (by omega) fun i60 => ?_
          refine XO.q (Q.ldEA [_, _, _, _, _, _] rfl (by first | assumption | omega) rfl rfl) ?_
          refine XO.alloc fun b12 => ?_
          refine XO.q (Q.assign rfl) ?_
          refine XO.st rfl rfl rfl ?_
          refine XO.done ?_
          refine XK.seq ?_
          refine XK.seq ?_
          refine XK.region rfl ?_
          refine XO.q (Q.fieldAddr rfl) ?_
          refine XO.q (Q.ld rfl rfl) ?_
          refine XO.q (Q.move rfl) ?_
          refine XO.ix rfl rfl (by omega) (by omega) fun i65 => ?_
          refine XO.q (Q.ldE rfl (by first | assumption | omega) rfl) ?_
          refine XO.q (Q.move rfl) ?_
          refine XO.q (Q.neq rfl rfl) ?_
          refine XO.done ?_
          refine XK.if rfl (fun c4 => ?_) (fun c4 => ?_)
          · have _t4 := True.intro
            have ao := addR_out (t := (⟨(l.map Prod.snd), rs, m⟩ : PTask)) (w := bw) (r := i) (n := n) (by simpa using c4)
            refine XK.exit rfl ?_
            refine XK.region rfl ?_
            refine XO.q (Q.add rfl rfl ⟨by omega, by omega⟩) ?_
            refine XO.q (Q.move rfl) ?_
            refine XO.done ?_
            exact ih1 (n + 1, M, kM) _ _ ⟨by dsimp only; omega, hM, by dsimp only; rw [ao]; exact gM, gR, OM⟩ (by first | omega | (dsimp only; omega)) (.c rfl (.base 67 rfl rfl)) inferInstance
          · have _t4 := True.intro
            have c4b : bw.getD n default = (i : Int) := by simpa using c4
            have ao := addR_in (t := (⟨(l.map Prod.snd), rs, m⟩ : PTask)) (w := bw) (r := i) (n := n) c4b
            dsimp only at ao
            rw [ji] at ao
            unfold topJ at ao
            rw [← gM] at ao
            refine XK.skip ?_
            refine XK.seq ?_
            refine XK.seq ?_
            refine XK.region rfl ?_
            refine XO.q (Q.fieldAddr rfl) ?_
            refine XO.q (Q.ldA [_, _, _] rfl rfl rfl) ?_
            refine XO.q (Q.move rfl) ?_
            refine XO.done ?_
            refine XK.block ?_
            refine XK.loop' ?_
            refine XK.seq ?_
            refine XK.region rfl ?_
            refine XO.q (Q.lss rfl rfl) ?_
            refine XO.done ?_
            refine XK.seq ?_
            refine XK.if rfl (fun c5 => ?_) (fun c5 => ?_)
            · have _t5 := True.intro
              refine XK.skip ?_
              refine XK.seq ?_
              refine XK.block ?_
              refine XK.seq ?_
              refine XK.region rfl ?_
              refine XO.q (Q.move rfl) ?_
              refine XO.q (Q.index rfl rfl (by decide) (Nat.le_of_ble_eq_true rfl)) ?_
              refine XO.q (Q.assign rfl) ?_
              refine XO.q (Q.assign rfl) ?_
              refine XO.done ?_
              refine XK.drawn [0, 1, 2, 3, 4, 6, 8, 7, 9] [] [] (.q 0 (.q 1 (.q 2 (.q 3 (.q 4 (.q 6 (.q 8 (.br 5 true (.q 7 (.q 9 (.br 10 true .done .stop))) .stop)))))))) Try.mixed rfl (by kernel_rfl) ?_
              refine XT.q rfl rfl (Q.move rfl) ?_
              refine XT.q rfl rfl (Q.move rfl) ?_
              refine XT.q rfl rfl (Q.move rfl) ?_
              refine XT.ix rfl rfl rfl rfl (by omega) (by omega) fun i78 => ?_
              refine XT.q rfl rfl (Q.ixE rfl (by first | assumption | omega) rfl (by omega) (by omega)) ?_
              refine XT.q rfl rfl (Q.move rfl) ?_
              refine XT.ix rfl rfl rfl rfl (by omega) (by omega) fun i83 => ?_
              refine XT.qs rfl rfl (Q.ldE rfl (by first | assumption | omega) rfl) ⟨inferInstance, ?_⟩ XT.stop
              refine XT.q rfl rfl (Q.add rfl rfl ⟨by omega, by omega⟩) ?_
              refine XT.q rfl rfl (Q.ixE rfl (by first | assumption | omega) rfl (by omega) (by omega)) ?_
              refine XT.stE ⟨(M.getD i default).a + (l.getD n default).2.n0, (M.getD i default).b, (M.getD i default).c, (M.getD i default).d⟩ rfl rfl rfl rfl rfl (by assumption) rfl rfl (fun h18_10 O18_10 => ⟨inferInstance, ?_⟩) XT.stop
              obtain ⟨M1, eM1, hmM1, gmM1, rmM1⟩ := set_row (L := M) (i := i) (x := ⟨(M.getD i default).a + (l.getD n default).2.n0, (M.getD i default).b, (M.getD i default).c, (M.getD i default).d⟩) (by omega)
              rw [← eM1] at O18_10
              have gqM1 : M1.getD i default = ⟨(M.getD i default).a + (l.getD n default).2.n0, (M.getD i default).b, (M.getD i default).c, (M.getD i default).d⟩ := gmM1
              clear eM1
              have paM1 : (M1.getD i default).a = (M.getD i default).a + (l.getD n default).2.n0 := by rw [gqM1]
              have pbM1 : (M1.getD i default).b = (M.getD i default).b := by rw [gqM1]
              have pcM1 : (M1.getD i default).c = (M.getD i default).c := by rw [gqM1]
              have pdM1 : (M1.getD i default).d = (M.getD i default).d := by rw [gqM1]
              refine XT.done ?_
              refine XK.inBlock ?_
              refine XK.region rfl ?_
              refine XO.q (Q.add rfl rfl ⟨by omega, by omega⟩) ?_
              refine XO.q (Q.move rfl) ?_
              refine XO.done ?_
              refine XK.inLoop' ?_
              refine XK.seq ?_
              refine XK.region rfl ?_
              refine XO.q (Q.lss rfl rfl) ?_
              refine XO.done ?_
              refine XK.seq ?_
              refine XK.if rfl (fun c6 => ?_) (fun c6 => ?_)
              · have _t6 := True.intro
                refine XK.skip ?_
                refine XK.seq ?_
                refine XK.block ?_
                refine XK.seq ?_
                refine XK.region rfl ?_
                refine XO.q (Q.move rfl) ?_
                refine XO.q (Q.index rfl rfl (by decide) (Nat.le_of_ble_eq_true rfl)) ?_
                refine XO.q (Q.assign rfl) ?_
                refine XO.q (Q.assign rfl) ?_
                refine XO.done ?_
                refine XK.drawn [0, 1, 2, 3, 4, 6, 8, 7, 9] [] [] (.q 0 (.q 1 (.q 2 (.q 3 (.q 4 (.q 6 (.q 8 (.br 5 true (.q 7 (.q 9 (.br 10 true .done .stop))) .stop)))))))) Try.mixed rfl (by kernel_rfl) ?_
                refine XT.q rfl rfl (Q.move rfl) ?_
                refine XT.q rfl rfl (Q.move rfl) ?_
                refine XT.q rfl rfl (Q.move rfl) ?_
                refine XT.ix rfl rfl rfl rfl (by omega) (by omega) fun i78 => ?_
                refine XT.q rfl rfl (Q.ixE rfl (by first | assumption | omega) rfl (by omega) (by omega)) ?_
                refine XT.q rfl rfl (Q.move rfl) ?_
                refine XT.ix rfl rfl rfl rfl (by omega) (by omega) fun i83 => ?_
                refine XT.qs rfl rfl (Q.ldE rfl (by first | assumption | omega) rfl) ⟨inferInstance, ?_⟩ XT.stop
                refine XT.q rfl rfl (Q.add rfl rfl ⟨by omega, by omega⟩) ?_
                refine XT.q rfl rfl (Q.ixE rfl (by first | assumption | omega) rfl (by omega) (by omega)) ?_
                refine XT.stE ⟨(M1.getD i default).a, (M1.getD i default).b + (l.getD n default).2.n1, (M1.getD i default).c, (M1.getD i default).d⟩ rfl rfl rfl rfl rfl (by assumption) rfl rfl (fun h18_10 O18_10 => ⟨inferInstance, ?_⟩) XT.stop
                obtain ⟨M2, eM2, hmM2, gmM2, rmM2⟩ := set_row (L := M1) (i := i) (x := ⟨(M1.getD i default).a, (M1.getD i default).b + (l.getD n default).2.n1, (M1.getD i default).c, (M1.getD i default).d⟩) (by omega)
                rw [← eM2] at O18_10
                have gqM2 : M2.getD i default = ⟨(M1.getD i default).a, (M1.getD i default).b + (l.getD n default).2.n1, (M1.getD i default).c, (M1.getD i default).d⟩ := gmM2
                clear eM2
                have paM2 : (M2.getD i default).a = (M1.getD i default).a := by rw [gqM2]
                have pbM2 : (M2.getD i default).b = (M1.getD i default).b + (l.getD n default).2.n1 := by rw [gqM2]
                have pcM2 : (M2.getD i default).c = (M1.getD i default).c := by rw [gqM2]
                have pdM2 : (M2.getD i default).d = (M1.getD i default).d := by rw [gqM2]
                refine XT.done ?_
                refine XK.inBlock ?_
                refine XK.region rfl ?_
                refine XO.q (Q.add rfl rfl ⟨by omega, by omega⟩) ?_
                refine XO.q (Q.move rfl) ?_
                refine XO.done ?_
                refine XK.inLoop' ?_
                refine XK.seq ?_
                refine XK.region rfl ?_
                refine XO.q (Q.lss rfl rfl) ?_
                refine XO.done ?_
                refine XK.seq ?_
                refine XK.if rfl (fun c7 => ?_) (fun c7 => ?_)
                · have _t7 := True.intro
                  refine XK.skip ?_
                  refine XK.seq ?_
                  refine XK.block ?_
                  refine XK.seq ?_
                  refine XK.region rfl ?_
                  refine XO.q (Q.move rfl) ?_
                  refine XO.q (Q.index rfl rfl (by decide) (Nat.le_of_ble_eq_true rfl)) ?_
                  refine XO.q (Q.assign rfl) ?_
                  refine XO.q (Q.assign rfl) ?_
                  refine XO.done ?_
                  refine XK.drawn [0, 1, 2, 3, 4, 6, 8, 7, 9] [] [] (.q 0 (.q 1 (.q 2 (.q 3 (.q 4 (.q 6 (.q 8 (.br 5 true (.q 7 (.q 9 (.br 10 true .done .stop))) .stop)))))))) Try.mixed rfl (by kernel_rfl) ?_
                  refine XT.q rfl rfl (Q.move rfl) ?_
                  refine XT.q rfl rfl (Q.move rfl) ?_
                  refine XT.q rfl rfl (Q.move rfl) ?_
                  refine XT.ix rfl rfl rfl rfl (by omega) (by omega) fun i78 => ?_
                  refine XT.q rfl rfl (Q.ixE rfl (by first | assumption | omega) rfl (by omega) (by omega)) ?_
                  refine XT.q rfl rfl (Q.move rfl) ?_
                  refine XT.ix rfl rfl rfl rfl (by omega) (by omega) fun i83 => ?_
                  refine XT.qs rfl rfl (Q.ldE rfl (by first | assumption | omega) rfl) ⟨inferInstance, ?_⟩ XT.stop
                  refine XT.q rfl rfl (Q.add rfl rfl ⟨by omega, by omega⟩) ?_
                  refine XT.q rfl rfl (Q.ixE rfl (by first | assumption | omega) rfl (by omega) (by omega)) ?_
                  refine XT.stE ⟨(M2.getD i default).a, (M2.getD i default).b, (M2.getD i default).c + (l.getD n default).2.n2, (M2.getD i default).d⟩ rfl rfl rfl rfl rfl (by assumption) rfl rfl (fun h18_10 O18_10 => ⟨inferInstance, ?_⟩) XT.stop
                  obtain ⟨M3, eM3, hmM3, gmM3, rmM3⟩ := set_row (L := M2) (i := i) (x := ⟨(M2.getD i default).a, (M2.getD i default).b, (M2.getD i default).c + (l.getD n default).2.n2, (M2.getD i default).d⟩) (by omega)
                  rw [← eM3] at O18_10
                  have gqM3 : M3.getD i default = ⟨(M2.getD i default).a, (M2.getD i default).b, (M2.getD i default).c + (l.getD n default).2.n2, (M2.getD i default).d⟩ := gmM3
                  clear eM3
                  have paM3 : (M3.getD i default).a = (M2.getD i default).a := by rw [gqM3]
                  have pbM3 : (M3.getD i default).b = (M2.getD i default).b := by rw [gqM3]
                  have pcM3 : (M3.getD i default).c = (M2.getD i default).c + (l.getD n default).2.n2 := by rw [gqM3]
                  have pdM3 : (M3.getD i default).d = (M2.getD i default).d := by rw [gqM3]
                  refine XT.done ?_
                  refine XK.inBlock ?_
                  refine XK.region rfl ?_
                  refine XO.q (Q.add rfl rfl ⟨by omega, by omega⟩) ?_
                  refine XO.q (Q.move rfl) ?_
                  refine XO.done ?_
                  refine XK.inLoop' ?_
                  refine XK.seq ?_
                  refine XK.region rfl ?_
                  refine XO.q (Q.lss rfl rfl) ?_
                  refine XO.done ?_
                  refine XK.seq ?_
                  refine XK.if rfl (fun c8 => ?_) (fun c8 => ?_)
                  · have _t8 := True.intro
                    exact absurd c8 (by first | decide | simp)
                  · have _t8 := True.intro
                    refine XK.exit rfl ?_
                    refine XK.drawn [0, 1, 2, 3, 5, 6, 7, 8, 9, 10, 11, 12, 13, 15, 14, 16] [b12] [K] (.q 0 (.q 1 (.q 2 (.q 3 (.q 5 (.q 6 (.q 7 (.q 8 (.q 9 (.q 10 (.q 11 (.q 12 (.q 13 (.q 15 (.br 4 true (.q 14 (.q 16 (.br 17 true .done .stop))) .stop))))))))))))))) Try.mixed rfl (by kernel_rfl) ?_
                    refine XT.q rfl rfl (Q.move rfl) ?_
                    refine XT.q rfl rfl (Q.move rfl) ?_
                    refine XT.ix rfl rfl rfl rfl (by omega) (by omega) fun i88 => ?_
                    refine XT.q rfl rfl (Q.ixE rfl (by first | assumption | omega) rfl (by omega) (by omega)) ?_
                    refine XT.q rfl rfl (Q.fieldAddr rfl) ?_
                    refine XT.q rfl rfl (Q.ld rfl rfl) ?_
                    refine XT.q rfl rfl (Q.fieldAddr rfl) ?_
                    refine XT.q rfl rfl (Q.ld rfl rfl) ?_
                    refine XT.q rfl rfl (Q.len rfl) ?_
                    refine XT.q rfl rfl (Q.sub rfl rfl ⟨by omega, by omega⟩) ?_
                    refine XT.ix rfl rfl rfl rfl (by omega) (by omega) fun i97 => ?_
                    refine XT.q rfl rfl (Q.fieldQ rfl (by first | assumption | omega)) ?_
                    refine XT.q rfl rfl (Q.ldE rfl (by first | assumption | omega) rfl) ?_
                    rw [show (((l.getD n default).2.draws.length : Int) - 1).toNat = (l.getD n default).2.draws.length - 1 by omega]
                    refine XT.ix rfl rfl rfl rfl (by omega) (by omega) fun i101 => ?_
                    refine XT.qs rfl rfl (Q.ldE rfl (by first | assumption | omega) rfl) ⟨inferInstance, ?_⟩ XT.stop
                    refine XT.q rfl rfl (Q.add rfl rfl ⟨by omega, by omega⟩) ?_
                    refine XT.q rfl rfl (Q.ixE rfl (by first | assumption | omega) rfl (by omega) (by omega)) ?_
                    refine XT.stE ⟨(M3.getD i default).a, (M3.getD i default).b, (M3.getD i default).c, (M3.getD i default).d + ((l.getD n default).2.draws.getD ((l.getD n default).2.draws.length - 1) default).power⟩ rfl rfl rfl rfl rfl (by assumption) rfl rfl (fun h20_17 O20_17 => ⟨inferInstance, ?_⟩) XT.stop
                    obtain ⟨M4, eM4, hmM4, gmM4, rmM4⟩ := set_row (L := M3) (i := i) (x := ⟨(M3.getD i default).a, (M3.getD i default).b, (M3.getD i default).c, (M3.getD i default).d + ((l.getD n default).2.draws.getD ((l.getD n default).2.draws.length - 1) default).power⟩) (by omega)
                    rw [← eM4] at O20_17
                    clear eM4
                    refine XT.done ?_
                    refine XK.inBlock ?_
                    refine XK.region rfl ?_
                    refine XO.q (Q.add rfl rfl ⟨by omega, by omega⟩) ?_
                    refine XO.q (Q.move rfl) ?_
                    refine XO.done ?_
                    exact ih1 (n + 1, M4, h20_17) _ _ ⟨by dsimp only; omega, by dsimp only; omega, by dsimp only; rw [ao, gmM4, gqM3, gqM2, gqM1], fun r h1 h2 => by dsimp only; rw [rmM4 r h1, rmM3 r h1, rmM2 r h1, rmM1 r h1]; exact gR r h1 h2, O20_17⟩ (by first | omega | (dsimp only; omega)) (.c rfl (.base 139 rfl rfl)) inferInstance
                · have _t7 := True.intro
                  exact absurd (by first | decide | simp) c7
              · have _t6 := True.intro
                exact absurd (by first | decide | simp) c6
            · have _t5 := True.intro
              exact absurd (by first | decide | simp) c5
        · have _t3 := True.intro
          have hnl : n = bw.length := by omega
          subst hnl
          rw [addR_all] at gM
          have gA : M.getD i default = ⟨(rs.getD i default).r0, (rs.getD i default).r1, (rs.getD i default).r2, (rs.getD i default).cap⟩ := gM
          refine XK.exit rfl ?_
          refine XK.seq ?_
          refine XK.drawn [0, 1, 2, 3, 4, 5, 6, 7, 8, 9, 10, 11, 12, 13, 14, 15, 16] [b10] [kM] (.q 0 (.q 1 (.q 2 (.q 3 (.q 4 (.q 5 (.q 6 (.q 7 (.q 8 (.q 9 (.q 10 (.q 11 (.q 12 (.q 13 (.q 14 (.q 15 (.q 16 .done))))))))))))))))) Try.mixed rfl (by kernel_rfl) ?_
          refine XT.q rfl rfl (Q.move rfl) ?_
          refine XT.q rfl rfl (Q.move rfl) ?_
          refine XT.ix rfl rfl rfl rfl (by omega) (by omega) fun i106 => ?_
          refine XT.q rfl rfl (Q.ldEA [_, _, _, _] rfl (by first | assumption | omega) rfl rfl) ?_
          refine XT.q rfl rfl (Q.fieldAddr rfl) ?_
          refine XT.q rfl rfl (Q.ixA rfl rfl (by omega) (by omega)) ?_
          (try rw [show (0 + Int.toNat 0 * 1 : Nat) = 0 from rfl])
          (try rw [show (0 + Int.toNat 1 * 1 : Nat) = 1 from rfl])
          (try rw [show (0 + Int.toNat 2 * 1 : Nat) = 2 from rfl])
          refine XT.q rfl rfl (Q.ld rfl rfl) ?_
          refine XT.q rfl rfl (Q.fieldAddr rfl) ?_
          refine XT.q rfl rfl (Q.ixA rfl rfl (by omega) (by omega)) ?_
          (try rw [show (0 + Int.toNat 0 * 1 : Nat) = 0 from rfl])
          (try rw [show (0 + Int.toNat 1 * 1 : Nat) = 1 from rfl])
          (try rw [show (0 + Int.toNat 2 * 1 : Nat) = 2 from rfl])
          refine XT.q rfl rfl (Q.ld rfl rfl) ?_
          refine XT.q rfl rfl (Q.fieldAddr rfl) ?_
          refine XT.q rfl rfl (Q.ixA rfl rfl (by omega) (by omega)) ?_
          (try rw [show (0 + Int.toNat 0 * 1 : Nat) = 0 from rfl])
          (try rw [show (0 + Int.toNat 1 * 1 : Nat) = 1 from rfl])
          (try rw [show (0 + Int.toNat 2 * 1 : Nat) = 2 from rfl])
          refine XT.q rfl rfl (Q.ld rfl rfl) ?_
          refine XT.q rfl rfl (Q.fieldAddr rfl) ?_
          refine XT.q rfl rfl (Q.ld rfl rfl) ?_
          refine XT.q rfl rfl (Q.build [_, _, _, _] (.c 0 1 rfl rfl rfl (.c 1 1 rfl rfl rfl (.c 2 1 rfl rfl rfl (.c 3 1 rfl rfl rfl (.n _)))))) ?_
          refine XT.q rfl rfl (Q.neqQ rfl rfl (by rw [gA]) (by rw [gA]) (by rw [gA]) (by rw [gA]) inferInstance inferInstance inferInstance inferInstance (by kernel_rfl)) ?_
          refine XT.done ?_
          refine XK.if rfl (fun c9 => ?_) (fun c9 => ?_)
          · have _t9 := True.intro
            simp at c9
          · have _t9 := True.intro
            refine XK.skip ?_
            refine XK.inBlock ?_
            refine XK.region rfl ?_
            refine XO.q (Q.add rfl rfl ⟨by omega, by omega⟩) ?_
            refine XO.q (Q.move rfl) ?_
            refine XO.done ?_
            exact ih0 (i + 1, M, kM) _ _ ⟨by dsimp only; omega, hM, fun r h1 h2 => gR r (by dsimp only at h1; omega) h2, OM⟩ (by first | omega | (dsimp only; omega)) (.c rfl (.base 163 rfl rfl)) inferInstance
      · have _t2 := True.intro
        have hin : i = rs.length := by omega
        refine XK.exit rfl ?_
        refine XK.seq ?_
        refine XK.seq ?_
        refine XK.region rfl ?_
        refine XO.q (Q.fieldAddr rfl) ?_
        refine XO.q (Q.ld rfl rfl) ?_
        refine XO.len rfl fun l124 => ?_
        refine XO.q (Q.gtr rfl rfl) ?_
        refine XO.done ?_
        refine XK.if rfl (fun c10 => ?_) (fun c10 => ?_)
        · have _t10 := True.intro
          refine XK.seq ?_
          refine XK.region rfl ?_
          refine XO.q (Q.fieldAddr rfl) ?_
          refine XO.q (Q.ld rfl rfl) ?_
          refine XO.call Try.call17 rfl rfl rfl (cloneI vW kW bw (by omega)) fun v128 s128 R128 => ?_
          obtain ⟨k128, rfl, O128⟩ := R128
          dsimp only [List.cons_append, List.nil_append]
          refine XO.q (Q.assign rfl) ?_
          refine XO.done ?_
          refine XK.seq ?_
          refine XK.region rfl ?_
          refine XO.q (Q.move rfl) ?_
          refine XO.q (Q.move rfl) ?_
          refine XO.q (Q.conv rfl) ?_
          rw [wrap64_of ⟨by omega, by omega⟩]
          refine XO.q (Q.move rfl) ?_
          refine XO.len rfl fun l133 => ?_
          refine XO.q (Q.rem rfl rfl (by omega) (by omega)) ?_
          obtain ⟨k, ek⟩ : ∃ k : Nat, (n1 : Int) % (bw.length : Int) = k := ⟨((n1 : Int) % (bw.length : Int)).toNat, by have := Int.emod_nonneg (n1 : Int) (show (bw.length : Int) ≠ 0 by omega); omega⟩
          rw [ek]
          have kl2 : k < bw.length := by have := Int.emod_lt_of_pos (n1 : Int) (show (0 : Int) < bw.length by omega); omega
          refine XO.ix rfl rfl (by omega) (by omega) fun i135 => ?_
          refine XO.stE (-1) rfl rfl rfl (by assumption) rfl rfl fun h27_7 O27_7 => ?_
          refine XO.done ?_
          refine XK.seq ?_
          refine XK.region rfl ?_
          refine XO.q (Q.ldA [_, _, _, _] rfl rfl rfl) ?_
          refine XO.q (Q.move rfl) ?_
          refine XO.call Try.call15 rfl rfl rfl (Allowed_spec l vl kl K JL rs vr kr m (bw.set k (-1)) v128 h27_7) fun v139 s139 R139 => ?_
          obtain ⟨rfl, rfl⟩ := R139
          dsimp only [List.cons_append, List.nil_append]
          obtain ⟨of, oa⟩ := out_allowed mk.ok mk.lok wok (by dsimp only; omega) ba (i := k) (by omega)
          rw [show allowedG (⟨(l.map Prod.snd), rs, m⟩ : PTask) (bw.set k (-1)) = (true, 0) by rw [allowedG, if_neg (by rw [of]; decide), oa]]
          dsimp only
          refine XO.q (Q.move rfl) ?_
          refine XO.q (Q.extract rfl rfl) ?_
          refine XO.q (Q.extract rfl rfl) ?_
          refine XO.q (Q.assign rfl) ?_
          refine XO.q (Q.assign rfl) ?_
          refine XO.done ?_
          refine XK.seq ?_
          refine XK.region rfl ?_
          refine XO.q (Q.move rfl) ?_
          refine XO.q (Q.neq rfl rfl) ?_
          refine XO.q (Q.move rfl) ?_
          refine XO.q (Quiet.guardF rfl rfl fun g145 p145 => Q.move rfl) ?_
          refine XO.q (Quiet.guardF rfl rfl fun g146 p146 => Q.not (lzv rfl rfl)) ?_
          refine XO.q (Q.or rfl (fun hp => lzv hp rfl)) ?_
          refine XO.done ?_
          refine XK.if rfl (fun c11 => ?_) (fun c11 => ?_)
          · have _t11 := True.intro
            simp at c11
          · have _t11 := True.intro
            refine XK.skip ?_
            refine XK.seq ?_
            refine XK.drawn [0, 1, 2, 3, 5, 6, 9, 10, 11] [b5] [] (.q 0 (.q 1 (.q 2 (.q 3 (.q 5 (.q 6 (.q 9 (.q 10 (.br 4 true (.br 7 true (.br 8 true (.q 11 (.br 12 true (.br 13 false .done .stop) .stop)) (.br 12 true (.br 8 true (.q 11 (.br 13 false .done .stop)) .stop) .stop)) (.br 12 true (.br 7 true (.br 8 true (.q 11 (.br 13 false .done .stop)) .stop) .stop) .stop)) (.br 7 true (.br 4 true (.br 8 true (.q 11 (.br 12 true (.br 13 false .done .stop) .stop)) (.br 12 true (.br 8 true (.q 11 (.br 13 false .done .stop)) .stop) .stop)) (.br 12 true (.br 4 true (.br 8 true (.q 11 (.br 13 false .done .stop)) .stop) .stop) .stop)) (.br 12 true (.br 4 true (.br 7 true (.br 8 true (.q 11 (.br 13 false .done .stop)) .stop) .stop) (.br 7 true (.br 4 true (.br 8 true (.q 11 (.br 13 false .done .stop)) .stop) .stop) .stop)) .stop))))))))))) Try.mixed rfl (by kernel_rfl) ?_
            refine XT.q rfl rfl (Q.fieldAddr rfl) ?_
            refine XT.q rfl rfl (Q.ld rfl rfl) ?_
            refine XT.q rfl rfl (Q.fieldAddr rfl) ?_
            refine XT.q rfl rfl (Q.ld rfl rfl) ?_
            refine XT.q rfl rfl (Q.build [_, _, _] (.c 0 1 rfl rfl rfl (.c 1 1 rfl rfl rfl (.c 2 1 rfl rfl rfl (.n _))))) ?_
            refine XT.q rfl rfl (Q.build [_, _, _, _, _] (.c 0 3 rfl rfl rfl (.c 3 1 rfl rfl rfl (.c 4 1 rfl rfl rfl (.n _))))) ?_
            refine XT.q rfl rfl (Q.fieldAddr rfl) ?_
            refine XT.q rfl rfl (Q.ldA [_, _] rfl rfl rfl) ?_
            refine XT.call rfl rfl Try.call18 rfl rfl rfl (cloneRk vr kr rs (by omega)) (fun v152 s152 R152 => ?_) ?_
            · skip
              obtain ⟨k152, rfl, O152⟩ := R152
              dsimp only [List.cons_append, List.nil_append]
              refine ⟨inferInstance, ?_⟩
              refine XT.lit [_, _, _, _, _] [_, _, _, _, _] [(⟨5, 5, 5, 40, 9⟩ : PRack)] encRack rfl rfl (by rfl) (by rfl) rfl (by rfl) (by exact .c 0 5 rfl rfl rfl (.n _)) (fun _ => rfl) (by rfl) rfl (by infer_instance) rfl (fun v155 h155 O155 => ⟨inferInstance, ?_⟩) ?_
              · skip
                refine XT.append rfl rfl rfl rfl rfl rfl (by simp only [List.length_cons, List.length_nil]; omega) (fun v156 h156 O156 => ⟨inferInstance, ?_⟩) ?_
                · skip
                  refine XT.q rfl rfl (Q.build [_, _, _, _] (.c 0 1 rfl rfl rfl (.c 1 1 rfl rfl rfl (.c 2 2 rfl rfl rfl (.n _))))) ?_
                  refine XT.alloc rfl rfl (fun b18 => ⟨inferInstance, ?_⟩) XT.stop
                  refine XT.st rfl rfl rfl rfl rfl ⟨inferInstance, ?_⟩ XT.stop
                  refine XT.done ?_
                  refine XK.seq ?_
                  refine XK.region rfl ?_
                  refine XO.q (Q.ldA [_, _, _, _] rfl rfl rfl) ?_
                  refine XO.call Try.call12 rfl rfl rfl (Best_spec l vl kl K JL (rs ++ [(⟨5, 5, 5, 40, 9⟩ : PRack)]) v156 h156 m) fun v162 s162 R162 => ?_
                  obtain ⟨vW2, vP2, kW2, kP2, bw2, s2, p2, rfl, rfl, OW2, OP2, hb2, _⟩ := R162
                  dsimp only [List.cons_append, List.nil_append]
                  obtain ⟨rd2, more⟩ := more_law (q := (⟨5, 5, 5, 40, 9⟩ : PRack)) rd (by decide) (by omega)
                  have hb2 := hb2 rd2
                  rw [rd2]
                  rw [← hb, ← hb2] at more
                  dsimp only at more
                  refine XO.q (Q.move rfl) ?_
                  refine XO.q (Q.extract rfl rfl) ?_
                  refine XO.q (Q.extract rfl rfl) ?_
                  refine XO.alloc fun b19 => ?_
                  refine XO.st rfl rfl rfl ?_
                  refine XO.q (Q.assign rfl) ?_
                  refine XO.done ?_
                  refine XK.seq ?_
                  refine XK.region rfl ?_
                  refine XO.q (Q.move rfl) ?_
                  refine XO.q (Q.eql rfl rfl) ?_
                  refine XO.q (Q.move rfl) ?_
                  refine XO.q (Quiet.guardT rfl rfl fun g168 p168 => Q.fieldAddr rfl) ?_
                  refine XO.q (Quiet.guardT rfl rfl fun g169 p169 => Q.ld (lzv rfl rfl) rfl) ?_
                  refine XO.q (Quiet.guardT rfl rfl fun g170 p170 => Q.fieldAddr rfl) ?_
                  refine XO.q (Quiet.guardT rfl rfl fun g171 p171 => Q.ld (lzv rfl rfl) rfl) ?_
                  refine XO.q (Quiet.guardT rfl rfl fun g172 p172 => Q.geq (lzv rfl rfl) (lzv rfl rfl)) ?_
                  rw [decide_eq_true (show s2 ≥ s from more)]
                  refine XO.q (Q.and rfl (fun hp => lzv hp rfl)) ?_
                  refine XO.q (Q.move rfl) ?_
                  refine XO.callS rfl rfl rfl Try.call11 rfl (.n) rfl (awake09) fun v175 s175 R175 => ?_
                  obtain ⟨rfl, rfl⟩ := R175
                  dsimp only [List.cons_append, List.nil_append]
                  refine XO.q (Q.and rfl (fun _ => rfl)) ?_
                  refine XO.q (Q.assign rfl) ?_
                  refine XO.done ?_
                  refine XK.rt [] Try.func5 Try.results5 (.t rfl .n) ?_
                  exact ⟨rfl, rfl⟩
                · skip
                  refine XT.alloc rfl rfl (fun b18 => ⟨inferInstance, ?_⟩) XT.stop
                  refine XT.append rfl rfl rfl rfl rfl rfl (by simp only [List.length_cons, List.length_nil]; omega) (fun v156 h156 O156 => ⟨inferInstance, ?_⟩) XT.stop
                  refine XT.q rfl rfl (Q.build [_, _, _, _] (.c 0 1 rfl rfl rfl (.c 1 1 rfl rfl rfl (.c 2 2 rfl rfl rfl (.n _))))) ?_
                  refine XT.st rfl rfl rfl rfl rfl ⟨inferInstance, ?_⟩ XT.stop
                  refine XT.done ?_
                  refine XK.seq ?_
                  refine XK.region rfl ?_
                  refine XO.q (Q.ldA [_, _, _, _] rfl rfl rfl) ?_
                  refine XO.call Try.call12 rfl rfl rfl (Best_spec l vl kl K JL (rs ++ [(⟨5, 5, 5, 40, 9⟩ : PRack)]) v156 h156 m) fun v162 s162 R162 => ?_
                  obtain ⟨vW2, vP2, kW2, kP2, bw2, s2, p2, rfl, rfl, OW2, OP2, hb2, _⟩ := R162
                  dsimp only [List.cons_append, List.nil_append]
                  obtain ⟨rd2, more⟩ := more_law (q := (⟨5, 5, 5, 40, 9⟩ : PRack)) rd (by decide) (by omega)
                  have hb2 := hb2 rd2
                  rw [rd2]
                  rw [← hb, ← hb2] at more
                  dsimp only at more
                  refine XO.q (Q.move rfl) ?_
                  refine XO.q (Q.extract rfl rfl) ?_
                  refine XO.q (Q.extract rfl rfl) ?_
                  refine XO.alloc fun b19 => ?_
                  refine XO.st rfl rfl rfl ?_
                  refine XO.q (Q.assign rfl) ?_
                  refine XO.done ?_
                  refine XK.seq ?_
                  refine XK.region rfl ?_
                  refine XO.q (Q.move rfl) ?_
                  refine XO.q (Q.eql rfl rfl) ?_
                  refine XO.q (Q.move rfl) ?_
                  refine XO.q (Quiet.guardT rfl rfl fun g168 p168 => Q.fieldAddr rfl) ?_
                  refine XO.q (Quiet.guardT rfl rfl fun g169 p169 => Q.ld (lzv rfl rfl) rfl) ?_
                  refine XO.q (Quiet.guardT rfl rfl fun g170 p170 => Q.fieldAddr rfl) ?_
                  refine XO.q (Quiet.guardT rfl rfl fun g171 p171 => Q.ld (lzv rfl rfl) rfl) ?_
                  refine XO.q (Quiet.guardT rfl rfl fun g172 p172 => Q.geq (lzv rfl rfl) (lzv rfl rfl)) ?_
                  rw [decide_eq_true (show s2 ≥ s from more)]
                  refine XO.q (Q.and rfl (fun hp => lzv hp rfl)) ?_
                  refine XO.q (Q.move rfl) ?_
                  refine XO.callS rfl rfl rfl Try.call11 rfl (.n) rfl (awake09) fun v175 s175 R175 => ?_
                  obtain ⟨rfl, rfl⟩ := R175
                  dsimp only [List.cons_append, List.nil_append]
                  refine XO.q (Q.and rfl (fun _ => rfl)) ?_
                  refine XO.q (Q.assign rfl) ?_
                  refine XO.done ?_
                  refine XK.rt [] Try.func5 Try.results5 (.t rfl .n) ?_
                  exact ⟨rfl, rfl⟩
              · skip
                refine XT.alloc rfl rfl (fun b18 => ⟨inferInstance, ?_⟩) XT.stop
                refine XT.lit [_, _, _, _, _] [_, _, _, _, _] [(⟨5, 5, 5, 40, 9⟩ : PRack)] encRack rfl rfl (by rfl) (by rfl) rfl (by rfl) (by exact .c 0 5 rfl rfl rfl (.n _)) (fun _ => rfl) (by rfl) rfl (by infer_instance) rfl (fun v155 h155 O155 => ⟨inferInstance, ?_⟩) XT.stop
                refine XT.append rfl rfl rfl rfl rfl rfl (by simp only [List.length_cons, List.length_nil]; omega) (fun v156 h156 O156 => ⟨inferInstance, ?_⟩) XT.stop
                refine XT.q rfl rfl (Q.build [_, _, _, _] (.c 0 1 rfl rfl rfl (.c 1 1 rfl rfl rfl (.c 2 2 rfl rfl rfl (.n _))))) ?_
                refine XT.st rfl rfl rfl rfl rfl ⟨inferInstance, ?_⟩ XT.stop
                refine XT.done ?_
                refine XK.seq ?_
                refine XK.region rfl ?_
                refine XO.q (Q.ldA [_, _, _, _] rfl rfl rfl) ?_
                refine XO.call Try.call12 rfl rfl rfl (Best_spec l vl kl K JL (rs ++ [(⟨5, 5, 5, 40, 9⟩ : PRack)]) v156 h156 m) fun v162 s162 R162 => ?_
                obtain ⟨vW2, vP2, kW2, kP2, bw2, s2, p2, rfl, rfl, OW2, OP2, hb2, _⟩ := R162
                dsimp only [List.cons_append, List.nil_append]
                obtain ⟨rd2, more⟩ := more_law (q := (⟨5, 5, 5, 40, 9⟩ : PRack)) rd (by decide) (by omega)
                have hb2 := hb2 rd2
                rw [rd2]
                rw [← hb, ← hb2] at more
                dsimp only at more
                refine XO.q (Q.move rfl) ?_
                refine XO.q (Q.extract rfl rfl) ?_
                refine XO.q (Q.extract rfl rfl) ?_
                refine XO.alloc fun b19 => ?_
                refine XO.st rfl rfl rfl ?_
                refine XO.q (Q.assign rfl) ?_
                refine XO.done ?_
                refine XK.seq ?_
                refine XK.region rfl ?_
                refine XO.q (Q.move rfl) ?_
                refine XO.q (Q.eql rfl rfl) ?_
                refine XO.q (Q.move rfl) ?_
                refine XO.q (Quiet.guardT rfl rfl fun g168 p168 => Q.fieldAddr rfl) ?_
                refine XO.q (Quiet.guardT rfl rfl fun g169 p169 => Q.ld (lzv rfl rfl) rfl) ?_
                refine XO.q (Quiet.guardT rfl rfl fun g170 p170 => Q.fieldAddr rfl) ?_
                refine XO.q (Quiet.guardT rfl rfl fun g171 p171 => Q.ld (lzv rfl rfl) rfl) ?_
                refine XO.q (Quiet.guardT rfl rfl fun g172 p172 => Q.geq (lzv rfl rfl) (lzv rfl rfl)) ?_
                rw [decide_eq_true (show s2 ≥ s from more)]
                refine XO.q (Q.and rfl (fun hp => lzv hp rfl)) ?_
                refine XO.q (Q.move rfl) ?_
                refine XO.callS rfl rfl rfl Try.call11 rfl (.n) rfl (awake09) fun v175 s175 R175 => ?_
                obtain ⟨rfl, rfl⟩ := R175
                dsimp only [List.cons_append, List.nil_append]
                refine XO.q (Q.and rfl (fun _ => rfl)) ?_
                refine XO.q (Q.assign rfl) ?_
                refine XO.done ?_
                refine XK.rt [] Try.func5 Try.results5 (.t rfl .n) ?_
                exact ⟨rfl, rfl⟩
            · skip
              refine XT.lit [_, _, _, _, _] [_, _, _, _, _] [(⟨5, 5, 5, 40, 9⟩ : PRack)] encRack rfl rfl (by rfl) (by rfl) rfl (by rfl) (by exact .c 0 5 rfl rfl rfl (.n _)) (fun _ => rfl) (by rfl) rfl (by infer_instance) rfl (fun v155 h155 O155 => ⟨inferInstance, ?_⟩) ?_
              · skip
                refine XT.call rfl rfl Try.call18 rfl rfl rfl (cloneRk vr kr rs (by omega)) (fun v152 s152 R152 => ?_) ?_
                · skip
                  obtain ⟨k152, rfl, O152⟩ := R152
                  dsimp only [List.cons_append, List.nil_append]
                  refine ⟨inferInstance, ?_⟩
                  refine XT.append rfl rfl rfl rfl rfl rfl (by simp only [List.length_cons, List.length_nil]; omega) (fun v156 h156 O156 => ⟨inferInstance, ?_⟩) ?_
                  · skip
                    refine XT.q rfl rfl (Q.build [_, _, _, _] (.c 0 1 rfl rfl rfl (.c 1 1 rfl rfl rfl (.c 2 2 rfl rfl rfl (.n _))))) ?_
                    refine XT.alloc rfl rfl (fun b18 => ⟨inferInstance, ?_⟩) XT.stop
                    refine XT.st rfl rfl rfl rfl rfl ⟨inferInstance, ?_⟩ XT.stop
                    refine XT.done ?_
                    refine XK.seq ?_
                    refine XK.region rfl ?_
                    refine XO.q (Q.ldA [_, _, _, _] rfl rfl rfl) ?_
                    refine XO.call Try.call12 rfl rfl rfl (Best_spec l vl kl K JL (rs ++ [(⟨5, 5, 5, 40, 9⟩ : PRack)]) v156 h156 m) fun v162 s162 R162 => ?_
                    obtain ⟨vW2, vP2, kW2, kP2, bw2, s2, p2, rfl, rfl, OW2, OP2, hb2, _⟩ := R162
                    dsimp only [List.cons_append, List.nil_append]
                    obtain ⟨rd2, more⟩ := more_law (q := (⟨5, 5, 5, 40, 9⟩ : PRack)) rd (by decide) (by omega)
                    have hb2 := hb2 rd2
                    rw [rd2]
                    rw [← hb, ← hb2] at more
                    dsimp only at more
                    refine XO.q (Q.move rfl) ?_
                    refine XO.q (Q.extract rfl rfl) ?_
                    refine XO.q (Q.extract rfl rfl) ?_
                    refine XO.alloc fun b19 => ?_
                    refine XO.st rfl rfl rfl ?_
                    refine XO.q (Q.assign rfl) ?_
                    refine XO.done ?_
                    refine XK.seq ?_
                    refine XK.region rfl ?_
                    refine XO.q (Q.move rfl) ?_
                    refine XO.q (Q.eql rfl rfl) ?_
                    refine XO.q (Q.move rfl) ?_
                    refine XO.q (Quiet.guardT rfl rfl fun g168 p168 => Q.fieldAddr rfl) ?_
                    refine XO.q (Quiet.guardT rfl rfl fun g169 p169 => Q.ld (lzv rfl rfl) rfl) ?_
                    refine XO.q (Quiet.guardT rfl rfl fun g170 p170 => Q.fieldAddr rfl) ?_
                    refine XO.q (Quiet.guardT rfl rfl fun g171 p171 => Q.ld (lzv rfl rfl) rfl) ?_
                    refine XO.q (Quiet.guardT rfl rfl fun g172 p172 => Q.geq (lzv rfl rfl) (lzv rfl rfl)) ?_
                    rw [decide_eq_true (show s2 ≥ s from more)]
                    refine XO.q (Q.and rfl (fun hp => lzv hp rfl)) ?_
                    refine XO.q (Q.move rfl) ?_
                    refine XO.callS rfl rfl rfl Try.call11 rfl (.n) rfl (awake09) fun v175 s175 R175 => ?_
                    obtain ⟨rfl, rfl⟩ := R175
                    dsimp only [List.cons_append, List.nil_append]
                    refine XO.q (Q.and rfl (fun _ => rfl)) ?_
                    refine XO.q (Q.assign rfl) ?_
                    refine XO.done ?_
                    refine XK.rt [] Try.func5 Try.results5 (.t rfl .n) ?_
                    exact ⟨rfl, rfl⟩
                  · skip
                    refine XT.alloc rfl rfl (fun b18 => ⟨inferInstance, ?_⟩) XT.stop
                    refine XT.append rfl rfl rfl rfl rfl rfl (by simp only [List.length_cons, List.length_nil]; omega) (fun v156 h156 O156 => ⟨inferInstance, ?_⟩) XT.stop
                    refine XT.q rfl rfl (Q.build [_, _, _, _] (.c 0 1 rfl rfl rfl (.c 1 1 rfl rfl rfl (.c 2 2 rfl rfl rfl (.n _))))) ?_
                    refine XT.st rfl rfl rfl rfl rfl ⟨inferInstance, ?_⟩ XT.stop
                    refine XT.done ?_
                    refine XK.seq ?_
                    refine XK.region rfl ?_
                    refine XO.q (Q.ldA [_, _, _, _] rfl rfl rfl) ?_
                    refine XO.call Try.call12 rfl rfl rfl (Best_spec l vl kl K JL (rs ++ [(⟨5, 5, 5, 40, 9⟩ : PRack)]) v156 h156 m) fun v162 s162 R162 => ?_
                    obtain ⟨vW2, vP2, kW2, kP2, bw2, s2, p2, rfl, rfl, OW2, OP2, hb2, _⟩ := R162
                    dsimp only [List.cons_append, List.nil_append]
                    obtain ⟨rd2, more⟩ := more_law (q := (⟨5, 5, 5, 40, 9⟩ : PRack)) rd (by decide) (by omega)
                    have hb2 := hb2 rd2
                    rw [rd2]
                    rw [← hb, ← hb2] at more
                    dsimp only at more
                    refine XO.q (Q.move rfl) ?_
                    refine XO.q (Q.extract rfl rfl) ?_
                    refine XO.q (Q.extract rfl rfl) ?_
                    refine XO.alloc fun b19 => ?_
                    refine XO.st rfl rfl rfl ?_
                    refine XO.q (Q.assign rfl) ?_
                    refine XO.done ?_
                    refine XK.seq ?_
                    refine XK.region rfl ?_
                    refine XO.q (Q.move rfl) ?_
                    refine XO.q (Q.eql rfl rfl) ?_
                    refine XO.q (Q.move rfl) ?_
                    refine XO.q (Quiet.guardT rfl rfl fun g168 p168 => Q.fieldAddr rfl) ?_
                    refine XO.q (Quiet.guardT rfl rfl fun g169 p169 => Q.ld (lzv rfl rfl) rfl) ?_
                    refine XO.q (Quiet.guardT rfl rfl fun g170 p170 => Q.fieldAddr rfl) ?_
                    refine XO.q (Quiet.guardT rfl rfl fun g171 p171 => Q.ld (lzv rfl rfl) rfl) ?_
                    refine XO.q (Quiet.guardT rfl rfl fun g172 p172 => Q.geq (lzv rfl rfl) (lzv rfl rfl)) ?_
                    rw [decide_eq_true (show s2 ≥ s from more)]
                    refine XO.q (Q.and rfl (fun hp => lzv hp rfl)) ?_
                    refine XO.q (Q.move rfl) ?_
                    refine XO.callS rfl rfl rfl Try.call11 rfl (.n) rfl (awake09) fun v175 s175 R175 => ?_
                    obtain ⟨rfl, rfl⟩ := R175
                    dsimp only [List.cons_append, List.nil_append]
                    refine XO.q (Q.and rfl (fun _ => rfl)) ?_
                    refine XO.q (Q.assign rfl) ?_
                    refine XO.done ?_
                    refine XK.rt [] Try.func5 Try.results5 (.t rfl .n) ?_
                    exact ⟨rfl, rfl⟩
                · skip
                  refine XT.alloc rfl rfl (fun b18 => ⟨inferInstance, ?_⟩) XT.stop
                  refine XT.call rfl rfl Try.call18 rfl rfl rfl (cloneRk vr kr rs (by omega)) (fun v152 s152 R152 => ?_) XT.stop
                  obtain ⟨k152, rfl, O152⟩ := R152
                  dsimp only [List.cons_append, List.nil_append]
                  refine ⟨inferInstance, ?_⟩
                  refine XT.append rfl rfl rfl rfl rfl rfl (by simp only [List.length_cons, List.length_nil]; omega) (fun v156 h156 O156 => ⟨inferInstance, ?_⟩) XT.stop
                  refine XT.q rfl rfl (Q.build [_, _, _, _] (.c 0 1 rfl rfl rfl (.c 1 1 rfl rfl rfl (.c 2 2 rfl rfl rfl (.n _))))) ?_
                  refine XT.st rfl rfl rfl rfl rfl ⟨inferInstance, ?_⟩ XT.stop
                  refine XT.done ?_
                  refine XK.seq ?_
                  refine XK.region rfl ?_
                  refine XO.q (Q.ldA [_, _, _, _] rfl rfl rfl) ?_
                  refine XO.call Try.call12 rfl rfl rfl (Best_spec l vl kl K JL (rs ++ [(⟨5, 5, 5, 40, 9⟩ : PRack)]) v156 h156 m) fun v162 s162 R162 => ?_
                  obtain ⟨vW2, vP2, kW2, kP2, bw2, s2, p2, rfl, rfl, OW2, OP2, hb2, _⟩ := R162
                  dsimp only [List.cons_append, List.nil_append]
                  obtain ⟨rd2, more⟩ := more_law (q := (⟨5, 5, 5, 40, 9⟩ : PRack)) rd (by decide) (by omega)
                  have hb2 := hb2 rd2
                  rw [rd2]
                  rw [← hb, ← hb2] at more
                  dsimp only at more
                  refine XO.q (Q.move rfl) ?_
                  refine XO.q (Q.extract rfl rfl) ?_
                  refine XO.q (Q.extract rfl rfl) ?_
                  refine XO.alloc fun b19 => ?_
                  refine XO.st rfl rfl rfl ?_
                  refine XO.q (Q.assign rfl) ?_
                  refine XO.done ?_
                  refine XK.seq ?_
                  refine XK.region rfl ?_
                  refine XO.q (Q.move rfl) ?_
                  refine XO.q (Q.eql rfl rfl) ?_
                  refine XO.q (Q.move rfl) ?_
                  refine XO.q (Quiet.guardT rfl rfl fun g168 p168 => Q.fieldAddr rfl) ?_
                  refine XO.q (Quiet.guardT rfl rfl fun g169 p169 => Q.ld (lzv rfl rfl) rfl) ?_
                  refine XO.q (Quiet.guardT rfl rfl fun g170 p170 => Q.fieldAddr rfl) ?_
                  refine XO.q (Quiet.guardT rfl rfl fun g171 p171 => Q.ld (lzv rfl rfl) rfl) ?_
                  refine XO.q (Quiet.guardT rfl rfl fun g172 p172 => Q.geq (lzv rfl rfl) (lzv rfl rfl)) ?_
                  rw [decide_eq_true (show s2 ≥ s from more)]
                  refine XO.q (Q.and rfl (fun hp => lzv hp rfl)) ?_
                  refine XO.q (Q.move rfl) ?_
                  refine XO.callS rfl rfl rfl Try.call11 rfl (.n) rfl (awake09) fun v175 s175 R175 => ?_
                  obtain ⟨rfl, rfl⟩ := R175
                  dsimp only [List.cons_append, List.nil_append]
                  refine XO.q (Q.and rfl (fun _ => rfl)) ?_
                  refine XO.q (Q.assign rfl) ?_
                  refine XO.done ?_
                  refine XK.rt [] Try.func5 Try.results5 (.t rfl .n) ?_
                  exact ⟨rfl, rfl⟩
              · skip
                refine XT.alloc rfl rfl (fun b18 => ⟨inferInstance, ?_⟩) XT.stop
                refine XT.call rfl rfl Try.call18 rfl rfl rfl (cloneRk vr kr rs (by omega)) (fun v152 s152 R152 => ?_) ?_
                · skip
                  obtain ⟨k152, rfl, O152⟩ := R152
                  dsimp only [List.cons_append, List.nil_append]
                  refine ⟨inferInstance, ?_⟩
                  refine XT.lit [_, _, _, _, _] [_, _, _, _, _] [(⟨5, 5, 5, 40, 9⟩ : PRack)] encRack rfl rfl (by rfl) (by rfl) rfl (by rfl) (by exact .c 0 5 rfl rfl rfl (.n _)) (fun _ => rfl) (by rfl) rfl (by infer_instance) rfl (fun v155 h155 O155 => ⟨inferInstance, ?_⟩) XT.stop
                  refine XT.append rfl rfl rfl rfl rfl rfl (by simp only [List.length_cons, List.length_nil]; omega) (fun v156 h156 O156 => ⟨inferInstance, ?_⟩) XT.stop
                  refine XT.q rfl rfl (Q.build [_, _, _, _] (.c 0 1 rfl rfl rfl (.c 1 1 rfl rfl rfl (.c 2 2 rfl rfl rfl (.n _))))) ?_
                  refine XT.st rfl rfl rfl rfl rfl ⟨inferInstance, ?_⟩ XT.stop
                  refine XT.done ?_
                  refine XK.seq ?_
                  refine XK.region rfl ?_
                  refine XO.q (Q.ldA [_, _, _, _] rfl rfl rfl) ?_
                  refine XO.call Try.call12 rfl rfl rfl (Best_spec l vl kl K JL (rs ++ [(⟨5, 5, 5, 40, 9⟩ : PRack)]) v156 h156 m) fun v162 s162 R162 => ?_
                  obtain ⟨vW2, vP2, kW2, kP2, bw2, s2, p2, rfl, rfl, OW2, OP2, hb2, _⟩ := R162
                  dsimp only [List.cons_append, List.nil_append]
                  obtain ⟨rd2, more⟩ := more_law (q := (⟨5, 5, 5, 40, 9⟩ : PRack)) rd (by decide) (by omega)
                  have hb2 := hb2 rd2
                  rw [rd2]
                  rw [← hb, ← hb2] at more
                  dsimp only at more
                  refine XO.q (Q.move rfl) ?_
                  refine XO.q (Q.extract rfl rfl) ?_
                  refine XO.q (Q.extract rfl rfl) ?_
                  refine XO.alloc fun b19 => ?_
                  refine XO.st rfl rfl rfl ?_
                  refine XO.q (Q.assign rfl) ?_
                  refine XO.done ?_
                  refine XK.seq ?_
                  refine XK.region rfl ?_
                  refine XO.q (Q.move rfl) ?_
                  refine XO.q (Q.eql rfl rfl) ?_
                  refine XO.q (Q.move rfl) ?_
                  refine XO.q (Quiet.guardT rfl rfl fun g168 p168 => Q.fieldAddr rfl) ?_
                  refine XO.q (Quiet.guardT rfl rfl fun g169 p169 => Q.ld (lzv rfl rfl) rfl) ?_
                  refine XO.q (Quiet.guardT rfl rfl fun g170 p170 => Q.fieldAddr rfl) ?_
                  refine XO.q (Quiet.guardT rfl rfl fun g171 p171 => Q.ld (lzv rfl rfl) rfl) ?_
                  refine XO.q (Quiet.guardT rfl rfl fun g172 p172 => Q.geq (lzv rfl rfl) (lzv rfl rfl)) ?_
                  rw [decide_eq_true (show s2 ≥ s from more)]
                  refine XO.q (Q.and rfl (fun hp => lzv hp rfl)) ?_
                  refine XO.q (Q.move rfl) ?_
                  refine XO.callS rfl rfl rfl Try.call11 rfl (.n) rfl (awake09) fun v175 s175 R175 => ?_
                  obtain ⟨rfl, rfl⟩ := R175
                  dsimp only [List.cons_append, List.nil_append]
                  refine XO.q (Q.and rfl (fun _ => rfl)) ?_
                  refine XO.q (Q.assign rfl) ?_
                  refine XO.done ?_
                  refine XK.rt [] Try.func5 Try.results5 (.t rfl .n) ?_
                  exact ⟨rfl, rfl⟩
                · skip
                  refine XT.lit [_, _, _, _, _] [_, _, _, _, _] [(⟨5, 5, 5, 40, 9⟩ : PRack)] encRack rfl rfl (by rfl) (by rfl) rfl (by rfl) (by exact .c 0 5 rfl rfl rfl (.n _)) (fun _ => rfl) (by rfl) rfl (by infer_instance) rfl (fun v155 h155 O155 => ⟨inferInstance, ?_⟩) XT.stop
                  refine XT.call rfl rfl Try.call18 rfl rfl rfl (cloneRk vr kr rs (by omega)) (fun v152 s152 R152 => ?_) XT.stop
                  obtain ⟨k152, rfl, O152⟩ := R152
                  dsimp only [List.cons_append, List.nil_append]
                  refine ⟨inferInstance, ?_⟩
                  refine XT.append rfl rfl rfl rfl rfl rfl (by simp only [List.length_cons, List.length_nil]; omega) (fun v156 h156 O156 => ⟨inferInstance, ?_⟩) XT.stop
                  refine XT.q rfl rfl (Q.build [_, _, _, _] (.c 0 1 rfl rfl rfl (.c 1 1 rfl rfl rfl (.c 2 2 rfl rfl rfl (.n _))))) ?_
                  refine XT.st rfl rfl rfl rfl rfl ⟨inferInstance, ?_⟩ XT.stop
                  refine XT.done ?_
                  refine XK.seq ?_
                  refine XK.region rfl ?_
                  refine XO.q (Q.ldA [_, _, _, _] rfl rfl rfl) ?_
                  refine XO.call Try.call12 rfl rfl rfl (Best_spec l vl kl K JL (rs ++ [(⟨5, 5, 5, 40, 9⟩ : PRack)]) v156 h156 m) fun v162 s162 R162 => ?_
                  obtain ⟨vW2, vP2, kW2, kP2, bw2, s2, p2, rfl, rfl, OW2, OP2, hb2, _⟩ := R162
                  dsimp only [List.cons_append, List.nil_append]
                  obtain ⟨rd2, more⟩ := more_law (q := (⟨5, 5, 5, 40, 9⟩ : PRack)) rd (by decide) (by omega)
                  have hb2 := hb2 rd2
                  rw [rd2]
                  rw [← hb, ← hb2] at more
                  dsimp only at more
                  refine XO.q (Q.move rfl) ?_
                  refine XO.q (Q.extract rfl rfl) ?_
                  refine XO.q (Q.extract rfl rfl) ?_
                  refine XO.alloc fun b19 => ?_
                  refine XO.st rfl rfl rfl ?_
                  refine XO.q (Q.assign rfl) ?_
                  refine XO.done ?_
                  refine XK.seq ?_
                  refine XK.region rfl ?_
                  refine XO.q (Q.move rfl) ?_
                  refine XO.q (Q.eql rfl rfl) ?_
                  refine XO.q (Q.move rfl) ?_
                  refine XO.q (Quiet.guardT rfl rfl fun g168 p168 => Q.fieldAddr rfl) ?_
                  refine XO.q (Quiet.guardT rfl rfl fun g169 p169 => Q.ld (lzv rfl rfl) rfl) ?_
                  refine XO.q (Quiet.guardT rfl rfl fun g170 p170 => Q.fieldAddr rfl) ?_
                  refine XO.q (Quiet.guardT rfl rfl fun g171 p171 => Q.ld (lzv rfl rfl) rfl) ?_
                  refine XO.q (Quiet.guardT rfl rfl fun g172 p172 => Q.geq (lzv rfl rfl) (lzv rfl rfl)) ?_
                  rw [decide_eq_true (show s2 ≥ s from more)]
                  refine XO.q (Q.and rfl (fun hp => lzv hp rfl)) ?_
                  refine XO.q (Q.move rfl) ?_
                  refine XO.callS rfl rfl rfl Try.call11 rfl (.n) rfl (awake09) fun v175 s175 R175 => ?_
                  obtain ⟨rfl, rfl⟩ := R175
                  dsimp only [List.cons_append, List.nil_append]
                  refine XO.q (Q.and rfl (fun _ => rfl)) ?_
                  refine XO.q (Q.assign rfl) ?_
                  refine XO.done ?_
                  refine XK.rt [] Try.func5 Try.results5 (.t rfl .n) ?_
                  exact ⟨rfl, rfl⟩
        · have _t10 := True.intro
          refine XK.skip ?_
          refine XK.seq ?_
          refine XK.drawn [0, 1, 2, 3, 5, 6, 9, 10, 11] [b5] [] (.q 0 (.q 1 (.q 2 (.q 3 (.q 5 (.q 6 (.q 9 (.q 10 (.br 4 true (.br 7 true (.br 8 true (.q 11 (.br 12 true (.br 13 false .done .stop) .stop)) (.br 12 true (.br 8 true (.q 11 (.br 13 false .done .stop)) .stop) .stop)) (.br 12 true (.br 7 true (.br 8 true (.q 11 (.br 13 false .done .stop)) .stop) .stop) .stop)) (.br 7 true (.br 4 true (.br 8 true (.q 11 (.br 12 true (.br 13 false .done .stop) .stop)) (.br 12 true (.br 8 true (.q 11 (.br 13 false .done .stop)) .stop) .stop)) (.br 12 true (.br 4 true (.br 8 true (.q 11 (.br 13 false .done .stop)) .stop) .stop) .stop)) (.br 12 true (.br 4 true (.br 7 true (.br 8 true (.q 11 (.br 13 false .done .stop)) .stop) .stop) (.br 7 true (.br 4 true (.br 8 true (.q 11 (.br 13 false .done .stop)) .stop) .stop) .stop)) .stop))))))))))) Try.mixed rfl (by kernel_rfl) ?_
          refine XT.q rfl rfl (Q.fieldAddr rfl) ?_
          refine XT.q rfl rfl (Q.ld rfl rfl) ?_
          refine XT.q rfl rfl (Q.fieldAddr rfl) ?_
          refine XT.q rfl rfl (Q.ld rfl rfl) ?_
          refine XT.q rfl rfl (Q.build [_, _, _] (.c 0 1 rfl rfl rfl (.c 1 1 rfl rfl rfl (.c 2 1 rfl rfl rfl (.n _))))) ?_
          refine XT.q rfl rfl (Q.build [_, _, _, _, _] (.c 0 3 rfl rfl rfl (.c 3 1 rfl rfl rfl (.c 4 1 rfl rfl rfl (.n _))))) ?_
          refine XT.q rfl rfl (Q.fieldAddr rfl) ?_
          refine XT.q rfl rfl (Q.ldA [_, _] rfl rfl rfl) ?_
          refine XT.call rfl rfl Try.call18 rfl rfl rfl (cloneRk vr kr rs (by omega)) (fun v152 s152 R152 => ?_) ?_
          · skip
            obtain ⟨k152, rfl, O152⟩ := R152
            dsimp only [List.cons_append, List.nil_append]
            refine ⟨inferInstance, ?_⟩
            refine XT.lit [_, _, _, _, _] [_, _, _, _, _] [(⟨5, 5, 5, 40, 9⟩ : PRack)] encRack rfl rfl (by rfl) (by rfl) rfl (by rfl) (by exact .c 0 5 rfl rfl rfl (.n _)) (fun _ => rfl) (by rfl) rfl (by infer_instance) rfl (fun v155 h155 O155 => ⟨inferInstance, ?_⟩) ?_
            · skip
              refine XT.append rfl rfl rfl rfl rfl rfl (by simp only [List.length_cons, List.length_nil]; omega) (fun v156 h156 O156 => ⟨inferInstance, ?_⟩) ?_
              · skip
                refine XT.q rfl rfl (Q.build [_, _, _, _] (.c 0 1 rfl rfl rfl (.c 1 1 rfl rfl rfl (.c 2 2 rfl rfl rfl (.n _))))) ?_
                refine XT.alloc rfl rfl (fun b18 => ⟨inferInstance, ?_⟩) XT.stop
                refine XT.st rfl rfl rfl rfl rfl ⟨inferInstance, ?_⟩ XT.stop
                refine XT.done ?_
                refine XK.seq ?_
                refine XK.region rfl ?_
                refine XO.q (Q.ldA [_, _, _, _] rfl rfl rfl) ?_
                refine XO.call Try.call12 rfl rfl rfl (Best_spec l vl kl K JL (rs ++ [(⟨5, 5, 5, 40, 9⟩ : PRack)]) v156 h156 m) fun v162 s162 R162 => ?_
                obtain ⟨vW2, vP2, kW2, kP2, bw2, s2, p2, rfl, rfl, OW2, OP2, hb2, _⟩ := R162
                dsimp only [List.cons_append, List.nil_append]
                obtain ⟨rd2, more⟩ := more_law (q := (⟨5, 5, 5, 40, 9⟩ : PRack)) rd (by decide) (by omega)
                have hb2 := hb2 rd2
                rw [rd2]
                rw [← hb, ← hb2] at more
                dsimp only at more
                refine XO.q (Q.move rfl) ?_
                refine XO.q (Q.extract rfl rfl) ?_
                refine XO.q (Q.extract rfl rfl) ?_
                refine XO.alloc fun b19 => ?_
                refine XO.st rfl rfl rfl ?_
                refine XO.q (Q.assign rfl) ?_
                refine XO.done ?_
                refine XK.seq ?_
                refine XK.region rfl ?_
                refine XO.q (Q.move rfl) ?_
                refine XO.q (Q.eql rfl rfl) ?_
                refine XO.q (Q.move rfl) ?_
                refine XO.q (Quiet.guardT rfl rfl fun g168 p168 => Q.fieldAddr rfl) ?_
                refine XO.q (Quiet.guardT rfl rfl fun g169 p169 => Q.ld (lzv rfl rfl) rfl) ?_
                refine XO.q (Quiet.guardT rfl rfl fun g170 p170 => Q.fieldAddr rfl) ?_
                refine XO.q (Quiet.guardT rfl rfl fun g171 p171 => Q.ld (lzv rfl rfl) rfl) ?_
                refine XO.q (Quiet.guardT rfl rfl fun g172 p172 => Q.geq (lzv rfl rfl) (lzv rfl rfl)) ?_
                rw [decide_eq_true (show s2 ≥ s from more)]
                refine XO.q (Q.and rfl (fun hp => lzv hp rfl)) ?_
                refine XO.q (Q.move rfl) ?_
                refine XO.callS rfl rfl rfl Try.call11 rfl (.n) rfl (awake09) fun v175 s175 R175 => ?_
                obtain ⟨rfl, rfl⟩ := R175
                dsimp only [List.cons_append, List.nil_append]
                refine XO.q (Q.and rfl (fun _ => rfl)) ?_
                refine XO.q (Q.assign rfl) ?_
                refine XO.done ?_
                refine XK.rt [] Try.func5 Try.results5 (.t rfl .n) ?_
                exact ⟨rfl, rfl⟩
              · skip
                refine XT.alloc rfl rfl (fun b18 => ⟨inferInstance, ?_⟩) XT.stop
                refine XT.append rfl rfl rfl rfl rfl rfl (by simp only [List.length_cons, List.length_nil]; omega) (fun v156 h156 O156 => ⟨inferInstance, ?_⟩) XT.stop
                refine XT.q rfl rfl (Q.build [_, _, _, _] (.c 0 1 rfl rfl rfl (.c 1 1 rfl rfl rfl (.c 2 2 rfl rfl rfl (.n _))))) ?_
                refine XT.st rfl rfl rfl rfl rfl ⟨inferInstance, ?_⟩ XT.stop
                refine XT.done ?_
                refine XK.seq ?_
                refine XK.region rfl ?_
                refine XO.q (Q.ldA [_, _, _, _] rfl rfl rfl) ?_
                refine XO.call Try.call12 rfl rfl rfl (Best_spec l vl kl K JL (rs ++ [(⟨5, 5, 5, 40, 9⟩ : PRack)]) v156 h156 m) fun v162 s162 R162 => ?_
                obtain ⟨vW2, vP2, kW2, kP2, bw2, s2, p2, rfl, rfl, OW2, OP2, hb2, _⟩ := R162
                dsimp only [List.cons_append, List.nil_append]
                obtain ⟨rd2, more⟩ := more_law (q := (⟨5, 5, 5, 40, 9⟩ : PRack)) rd (by decide) (by omega)
                have hb2 := hb2 rd2
                rw [rd2]
                rw [← hb, ← hb2] at more
                dsimp only at more
                refine XO.q (Q.move rfl) ?_
                refine XO.q (Q.extract rfl rfl) ?_
                refine XO.q (Q.extract rfl rfl) ?_
                refine XO.alloc fun b19 => ?_
                refine XO.st rfl rfl rfl ?_
                refine XO.q (Q.assign rfl) ?_
                refine XO.done ?_
                refine XK.seq ?_
                refine XK.region rfl ?_
                refine XO.q (Q.move rfl) ?_
                refine XO.q (Q.eql rfl rfl) ?_
                refine XO.q (Q.move rfl) ?_
                refine XO.q (Quiet.guardT rfl rfl fun g168 p168 => Q.fieldAddr rfl) ?_
                refine XO.q (Quiet.guardT rfl rfl fun g169 p169 => Q.ld (lzv rfl rfl) rfl) ?_
                refine XO.q (Quiet.guardT rfl rfl fun g170 p170 => Q.fieldAddr rfl) ?_
                refine XO.q (Quiet.guardT rfl rfl fun g171 p171 => Q.ld (lzv rfl rfl) rfl) ?_
                refine XO.q (Quiet.guardT rfl rfl fun g172 p172 => Q.geq (lzv rfl rfl) (lzv rfl rfl)) ?_
                rw [decide_eq_true (show s2 ≥ s from more)]
                refine XO.q (Q.and rfl (fun hp => lzv hp rfl)) ?_
                refine XO.q (Q.move rfl) ?_
                refine XO.callS rfl rfl rfl Try.call11 rfl (.n) rfl (awake09) fun v175 s175 R175 => ?_
                obtain ⟨rfl, rfl⟩ := R175
                dsimp only [List.cons_append, List.nil_append]
                refine XO.q (Q.and rfl (fun _ => rfl)) ?_
                refine XO.q (Q.assign rfl) ?_
                refine XO.done ?_
                refine XK.rt [] Try.func5 Try.results5 (.t rfl .n) ?_
                exact ⟨rfl, rfl⟩
            · skip
              refine XT.alloc rfl rfl (fun b18 => ⟨inferInstance, ?_⟩) XT.stop
              refine XT.lit [_, _, _, _, _] [_, _, _, _, _] [(⟨5, 5, 5, 40, 9⟩ : PRack)] encRack rfl rfl (by rfl) (by rfl) rfl (by rfl) (by exact .c 0 5 rfl rfl rfl (.n _)) (fun _ => rfl) (by rfl) rfl (by infer_instance) rfl (fun v155 h155 O155 => ⟨inferInstance, ?_⟩) XT.stop
              refine XT.append rfl rfl rfl rfl rfl rfl (by simp only [List.length_cons, List.length_nil]; omega) (fun v156 h156 O156 => ⟨inferInstance, ?_⟩) XT.stop
              refine XT.q rfl rfl (Q.build [_, _, _, _] (.c 0 1 rfl rfl rfl (.c 1 1 rfl rfl rfl (.c 2 2 rfl rfl rfl (.n _))))) ?_
              refine XT.st rfl rfl rfl rfl rfl ⟨inferInstance, ?_⟩ XT.stop
              refine XT.done ?_
              refine XK.seq ?_
              refine XK.region rfl ?_
              refine XO.q (Q.ldA [_, _, _, _] rfl rfl rfl) ?_
              refine XO.call Try.call12 rfl rfl rfl (Best_spec l vl kl K JL (rs ++ [(⟨5, 5, 5, 40, 9⟩ : PRack)]) v156 h156 m) fun v162 s162 R162 => ?_
              obtain ⟨vW2, vP2, kW2, kP2, bw2, s2, p2, rfl, rfl, OW2, OP2, hb2, _⟩ := R162
              dsimp only [List.cons_append, List.nil_append]
              obtain ⟨rd2, more⟩ := more_law (q := (⟨5, 5, 5, 40, 9⟩ : PRack)) rd (by decide) (by omega)
              have hb2 := hb2 rd2
              rw [rd2]
              rw [← hb, ← hb2] at more
              dsimp only at more
              refine XO.q (Q.move rfl) ?_
              refine XO.q (Q.extract rfl rfl) ?_
              refine XO.q (Q.extract rfl rfl) ?_
              refine XO.alloc fun b19 => ?_
              refine XO.st rfl rfl rfl ?_
              refine XO.q (Q.assign rfl) ?_
              refine XO.done ?_
              refine XK.seq ?_
              refine XK.region rfl ?_
              refine XO.q (Q.move rfl) ?_
              refine XO.q (Q.eql rfl rfl) ?_
              refine XO.q (Q.move rfl) ?_
              refine XO.q (Quiet.guardT rfl rfl fun g168 p168 => Q.fieldAddr rfl) ?_
              refine XO.q (Quiet.guardT rfl rfl fun g169 p169 => Q.ld (lzv rfl rfl) rfl) ?_
              refine XO.q (Quiet.guardT rfl rfl fun g170 p170 => Q.fieldAddr rfl) ?_
              refine XO.q (Quiet.guardT rfl rfl fun g171 p171 => Q.ld (lzv rfl rfl) rfl) ?_
              refine XO.q (Quiet.guardT rfl rfl fun g172 p172 => Q.geq (lzv rfl rfl) (lzv rfl rfl)) ?_
              rw [decide_eq_true (show s2 ≥ s from more)]
              refine XO.q (Q.and rfl (fun hp => lzv hp rfl)) ?_
              refine XO.q (Q.move rfl) ?_
              refine XO.callS rfl rfl rfl Try.call11 rfl (.n) rfl (awake09) fun v175 s175 R175 => ?_
              obtain ⟨rfl, rfl⟩ := R175
              dsimp only [List.cons_append, List.nil_append]
              refine XO.q (Q.and rfl (fun _ => rfl)) ?_
              refine XO.q (Q.assign rfl) ?_
              refine XO.done ?_
              refine XK.rt [] Try.func5 Try.results5 (.t rfl .n) ?_
              exact ⟨rfl, rfl⟩
          · skip
            refine XT.lit [_, _, _, _, _] [_, _, _, _, _] [(⟨5, 5, 5, 40, 9⟩ : PRack)] encRack rfl rfl (by rfl) (by rfl) rfl (by rfl) (by exact .c 0 5 rfl rfl rfl (.n _)) (fun _ => rfl) (by rfl) rfl (by infer_instance) rfl (fun v155 h155 O155 => ⟨inferInstance, ?_⟩) ?_
            · skip
              refine XT.call rfl rfl Try.call18 rfl rfl rfl (cloneRk vr kr rs (by omega)) (fun v152 s152 R152 => ?_) ?_
              · skip
                obtain ⟨k152, rfl, O152⟩ := R152
                dsimp only [List.cons_append, List.nil_append]
                refine ⟨inferInstance, ?_⟩
                refine XT.append rfl rfl rfl rfl rfl rfl (by simp only [List.length_cons, List.length_nil]; omega) (fun v156 h156 O156 => ⟨inferInstance, ?_⟩) ?_
                · skip
                  refine XT.q rfl rfl (Q.build [_, _, _, _] (.c 0 1 rfl rfl rfl (.c 1 1 rfl rfl rfl (.c 2 2 rfl rfl rfl (.n _))))) ?_
                  refine XT.alloc rfl rfl (fun b18 => ⟨inferInstance, ?_⟩) XT.stop
                  refine XT.st rfl rfl rfl rfl rfl ⟨inferInstance, ?_⟩ XT.stop
                  refine XT.done ?_
                  refine XK.seq ?_
                  refine XK.region rfl ?_
                  refine XO.q (Q.ldA [_, _, _, _] rfl rfl rfl) ?_
                  refine XO.call Try.call12 rfl rfl rfl (Best_spec l vl kl K JL (rs ++ [(⟨5, 5, 5, 40, 9⟩ : PRack)]) v156 h156 m) fun v162 s162 R162 => ?_
                  obtain ⟨vW2, vP2, kW2, kP2, bw2, s2, p2, rfl, rfl, OW2, OP2, hb2, _⟩ := R162
                  dsimp only [List.cons_append, List.nil_append]
                  obtain ⟨rd2, more⟩ := more_law (q := (⟨5, 5, 5, 40, 9⟩ : PRack)) rd (by decide) (by omega)
                  have hb2 := hb2 rd2
                  rw [rd2]
                  rw [← hb, ← hb2] at more
                  dsimp only at more
                  refine XO.q (Q.move rfl) ?_
                  refine XO.q (Q.extract rfl rfl) ?_
                  refine XO.q (Q.extract rfl rfl) ?_
                  refine XO.alloc fun b19 => ?_
                  refine XO.st rfl rfl rfl ?_
                  refine XO.q (Q.assign rfl) ?_
                  refine XO.done ?_
                  refine XK.seq ?_
                  refine XK.region rfl ?_
                  refine XO.q (Q.move rfl) ?_
                  refine XO.q (Q.eql rfl rfl) ?_
                  refine XO.q (Q.move rfl) ?_
                  refine XO.q (Quiet.guardT rfl rfl fun g168 p168 => Q.fieldAddr rfl) ?_
                  refine XO.q (Quiet.guardT rfl rfl fun g169 p169 => Q.ld (lzv rfl rfl) rfl) ?_
                  refine XO.q (Quiet.guardT rfl rfl fun g170 p170 => Q.fieldAddr rfl) ?_
                  refine XO.q (Quiet.guardT rfl rfl fun g171 p171 => Q.ld (lzv rfl rfl) rfl) ?_
                  refine XO.q (Quiet.guardT rfl rfl fun g172 p172 => Q.geq (lzv rfl rfl) (lzv rfl rfl)) ?_
                  rw [decide_eq_true (show s2 ≥ s from more)]
                  refine XO.q (Q.and rfl (fun hp => lzv hp rfl)) ?_
                  refine XO.q (Q.move rfl) ?_
                  refine XO.callS rfl rfl rfl Try.call11 rfl (.n) rfl (awake09) fun v175 s175 R175 => ?_
                  obtain ⟨rfl, rfl⟩ := R175
                  dsimp only [List.cons_append, List.nil_append]
                  refine XO.q (Q.and rfl (fun _ => rfl)) ?_
                  refine XO.q (Q.assign rfl) ?_
                  refine XO.done ?_
                  refine XK.rt [] Try.func5 Try.results5 (.t rfl .n) ?_
                  exact ⟨rfl, rfl⟩
                · skip
                  refine XT.alloc rfl rfl (fun b18 => ⟨inferInstance, ?_⟩) XT.stop
                  refine XT.append rfl rfl rfl rfl rfl rfl (by simp only [List.length_cons, List.length_nil]; omega) (fun v156 h156 O156 => ⟨inferInstance, ?_⟩) XT.stop
                  refine XT.q rfl rfl (Q.build [_, _, _, _] (.c 0 1 rfl rfl rfl (.c 1 1 rfl rfl rfl (.c 2 2 rfl rfl rfl (.n _))))) ?_
                  refine XT.st rfl rfl rfl rfl rfl ⟨inferInstance, ?_⟩ XT.stop
                  refine XT.done ?_
                  refine XK.seq ?_
                  refine XK.region rfl ?_
                  refine XO.q (Q.ldA [_, _, _, _] rfl rfl rfl) ?_
                  refine XO.call Try.call12 rfl rfl rfl (Best_spec l vl kl K JL (rs ++ [(⟨5, 5, 5, 40, 9⟩ : PRack)]) v156 h156 m) fun v162 s162 R162 => ?_
                  obtain ⟨vW2, vP2, kW2, kP2, bw2, s2, p2, rfl, rfl, OW2, OP2, hb2, _⟩ := R162
                  dsimp only [List.cons_append, List.nil_append]
                  obtain ⟨rd2, more⟩ := more_law (q := (⟨5, 5, 5, 40, 9⟩ : PRack)) rd (by decide) (by omega)
                  have hb2 := hb2 rd2
                  rw [rd2]
                  rw [← hb, ← hb2] at more
                  dsimp only at more
                  refine XO.q (Q.move rfl) ?_
                  refine XO.q (Q.extract rfl rfl) ?_
                  refine XO.q (Q.extract rfl rfl) ?_
                  refine XO.alloc fun b19 => ?_
                  refine XO.st rfl rfl rfl ?_
                  refine XO.q (Q.assign rfl) ?_
                  refine XO.done ?_
                  refine XK.seq ?_
                  refine XK.region rfl ?_
                  refine XO.q (Q.move rfl) ?_
                  refine XO.q (Q.eql rfl rfl) ?_
                  refine XO.q (Q.move rfl) ?_
                  refine XO.q (Quiet.guardT rfl rfl fun g168 p168 => Q.fieldAddr rfl) ?_
                  refine XO.q (Quiet.guardT rfl rfl fun g169 p169 => Q.ld (lzv rfl rfl) rfl) ?_
                  refine XO.q (Quiet.guardT rfl rfl fun g170 p170 => Q.fieldAddr rfl) ?_
                  refine XO.q (Quiet.guardT rfl rfl fun g171 p171 => Q.ld (lzv rfl rfl) rfl) ?_
                  refine XO.q (Quiet.guardT rfl rfl fun g172 p172 => Q.geq (lzv rfl rfl) (lzv rfl rfl)) ?_
                  rw [decide_eq_true (show s2 ≥ s from more)]
                  refine XO.q (Q.and rfl (fun hp => lzv hp rfl)) ?_
                  refine XO.q (Q.move rfl) ?_
                  refine XO.callS rfl rfl rfl Try.call11 rfl (.n) rfl (awake09) fun v175 s175 R175 => ?_
                  obtain ⟨rfl, rfl⟩ := R175
                  dsimp only [List.cons_append, List.nil_append]
                  refine XO.q (Q.and rfl (fun _ => rfl)) ?_
                  refine XO.q (Q.assign rfl) ?_
                  refine XO.done ?_
                  refine XK.rt [] Try.func5 Try.results5 (.t rfl .n) ?_
                  exact ⟨rfl, rfl⟩
              · skip
                refine XT.alloc rfl rfl (fun b18 => ⟨inferInstance, ?_⟩) XT.stop
                refine XT.call rfl rfl Try.call18 rfl rfl rfl (cloneRk vr kr rs (by omega)) (fun v152 s152 R152 => ?_) XT.stop
                obtain ⟨k152, rfl, O152⟩ := R152
                dsimp only [List.cons_append, List.nil_append]
                refine ⟨inferInstance, ?_⟩
                refine XT.append rfl rfl rfl rfl rfl rfl (by simp only [List.length_cons, List.length_nil]; omega) (fun v156 h156 O156 => ⟨inferInstance, ?_⟩) XT.stop
                refine XT.q rfl rfl (Q.build [_, _, _, _] (.c 0 1 rfl rfl rfl (.c 1 1 rfl rfl rfl (.c 2 2 rfl rfl rfl (.n _))))) ?_
                refine XT.st rfl rfl rfl rfl rfl ⟨inferInstance, ?_⟩ XT.stop
                refine XT.done ?_
                refine XK.seq ?_
                refine XK.region rfl ?_
                refine XO.q (Q.ldA [_, _, _, _] rfl rfl rfl) ?_
                refine XO.call Try.call12 rfl rfl rfl (Best_spec l vl kl K JL (rs ++ [(⟨5, 5, 5, 40, 9⟩ : PRack)]) v156 h156 m) fun v162 s162 R162 => ?_
                obtain ⟨vW2, vP2, kW2, kP2, bw2, s2, p2, rfl, rfl, OW2, OP2, hb2, _⟩ := R162
                dsimp only [List.cons_append, List.nil_append]
                obtain ⟨rd2, more⟩ := more_law (q := (⟨5, 5, 5, 40, 9⟩ : PRack)) rd (by decide) (by omega)
                have hb2 := hb2 rd2
                rw [rd2]
                rw [← hb, ← hb2] at more
                dsimp only at more
                refine XO.q (Q.move rfl) ?_
                refine XO.q (Q.extract rfl rfl) ?_
                refine XO.q (Q.extract rfl rfl) ?_
                refine XO.alloc fun b19 => ?_
                refine XO.st rfl rfl rfl ?_
                refine XO.q (Q.assign rfl) ?_
                refine XO.done ?_
                refine XK.seq ?_
                refine XK.region rfl ?_
                refine XO.q (Q.move rfl) ?_
                refine XO.q (Q.eql rfl rfl) ?_
                refine XO.q (Q.move rfl) ?_
                refine XO.q (Quiet.guardT rfl rfl fun g168 p168 => Q.fieldAddr rfl) ?_
                refine XO.q (Quiet.guardT rfl rfl fun g169 p169 => Q.ld (lzv rfl rfl) rfl) ?_
                refine XO.q (Quiet.guardT rfl rfl fun g170 p170 => Q.fieldAddr rfl) ?_
                refine XO.q (Quiet.guardT rfl rfl fun g171 p171 => Q.ld (lzv rfl rfl) rfl) ?_
                refine XO.q (Quiet.guardT rfl rfl fun g172 p172 => Q.geq (lzv rfl rfl) (lzv rfl rfl)) ?_
                rw [decide_eq_true (show s2 ≥ s from more)]
                refine XO.q (Q.and rfl (fun hp => lzv hp rfl)) ?_
                refine XO.q (Q.move rfl) ?_
                refine XO.callS rfl rfl rfl Try.call11 rfl (.n) rfl (awake09) fun v175 s175 R175 => ?_
                obtain ⟨rfl, rfl⟩ := R175
                dsimp only [List.cons_append, List.nil_append]
                refine XO.q (Q.and rfl (fun _ => rfl)) ?_
                refine XO.q (Q.assign rfl) ?_
                refine XO.done ?_
                refine XK.rt [] Try.func5 Try.results5 (.t rfl .n) ?_
                exact ⟨rfl, rfl⟩
            · skip
              refine XT.alloc rfl rfl (fun b18 => ⟨inferInstance, ?_⟩) XT.stop
              refine XT.call rfl rfl Try.call18 rfl rfl rfl (cloneRk vr kr rs (by omega)) (fun v152 s152 R152 => ?_) ?_
              · skip
                obtain ⟨k152, rfl, O152⟩ := R152
                dsimp only [List.cons_append, List.nil_append]
                refine ⟨inferInstance, ?_⟩
                refine XT.lit [_, _, _, _, _] [_, _, _, _, _] [(⟨5, 5, 5, 40, 9⟩ : PRack)] encRack rfl rfl (by rfl) (by rfl) rfl (by rfl) (by exact .c 0 5 rfl rfl rfl (.n _)) (fun _ => rfl) (by rfl) rfl (by infer_instance) rfl (fun v155 h155 O155 => ⟨inferInstance, ?_⟩) XT.stop
                refine XT.append rfl rfl rfl rfl rfl rfl (by simp only [List.length_cons, List.length_nil]; omega) (fun v156 h156 O156 => ⟨inferInstance, ?_⟩) XT.stop
                refine XT.q rfl rfl (Q.build [_, _, _, _] (.c 0 1 rfl rfl rfl (.c 1 1 rfl rfl rfl (.c 2 2 rfl rfl rfl (.n _))))) ?_
                refine XT.st rfl rfl rfl rfl rfl ⟨inferInstance, ?_⟩ XT.stop
                refine XT.done ?_
                refine XK.seq ?_
                refine XK.region rfl ?_
                refine XO.q (Q.ldA [_, _, _, _] rfl rfl rfl) ?_
                refine XO.call Try.call12 rfl rfl rfl (Best_spec l vl kl K JL (rs ++ [(⟨5, 5, 5, 40, 9⟩ : PRack)]) v156 h156 m) fun v162 s162 R162 => ?_
                obtain ⟨vW2, vP2, kW2, kP2, bw2, s2, p2, rfl, rfl, OW2, OP2, hb2, _⟩ := R162
                dsimp only [List.cons_append, List.nil_append]
                obtain ⟨rd2, more⟩ := more_law (q := (⟨5, 5, 5, 40, 9⟩ : PRack)) rd (by decide) (by omega)
                have hb2 := hb2 rd2
                rw [rd2]
                rw [← hb, ← hb2] at more
                dsimp only at more
                refine XO.q (Q.move rfl) ?_
                refine XO.q (Q.extract rfl rfl) ?_
                refine XO.q (Q.extract rfl rfl) ?_
                refine XO.alloc fun b19 => ?_
                refine XO.st rfl rfl rfl ?_
                refine XO.q (Q.assign rfl) ?_
                refine XO.done ?_
                refine XK.seq ?_
                refine XK.region rfl ?_
                refine XO.q (Q.move rfl) ?_
                refine XO.q (Q.eql rfl rfl) ?_
                refine XO.q (Q.move rfl) ?_
                refine XO.q (Quiet.guardT rfl rfl fun g168 p168 => Q.fieldAddr rfl) ?_
                refine XO.q (Quiet.guardT rfl rfl fun g169 p169 => Q.ld (lzv rfl rfl) rfl) ?_
                refine XO.q (Quiet.guardT rfl rfl fun g170 p170 => Q.fieldAddr rfl) ?_
                refine XO.q (Quiet.guardT rfl rfl fun g171 p171 => Q.ld (lzv rfl rfl) rfl) ?_
                refine XO.q (Quiet.guardT rfl rfl fun g172 p172 => Q.geq (lzv rfl rfl) (lzv rfl rfl)) ?_
                rw [decide_eq_true (show s2 ≥ s from more)]
                refine XO.q (Q.and rfl (fun hp => lzv hp rfl)) ?_
                refine XO.q (Q.move rfl) ?_
                refine XO.callS rfl rfl rfl Try.call11 rfl (.n) rfl (awake09) fun v175 s175 R175 => ?_
                obtain ⟨rfl, rfl⟩ := R175
                dsimp only [List.cons_append, List.nil_append]
                refine XO.q (Q.and rfl (fun _ => rfl)) ?_
                refine XO.q (Q.assign rfl) ?_
                refine XO.done ?_
                refine XK.rt [] Try.func5 Try.results5 (.t rfl .n) ?_
                exact ⟨rfl, rfl⟩
              · skip
                refine XT.lit [_, _, _, _, _] [_, _, _, _, _] [(⟨5, 5, 5, 40, 9⟩ : PRack)] encRack rfl rfl (by rfl) (by rfl) rfl (by rfl) (by exact .c 0 5 rfl rfl rfl (.n _)) (fun _ => rfl) (by rfl) rfl (by infer_instance) rfl (fun v155 h155 O155 => ⟨inferInstance, ?_⟩) XT.stop
                refine XT.call rfl rfl Try.call18 rfl rfl rfl (cloneRk vr kr rs (by omega)) (fun v152 s152 R152 => ?_) XT.stop
                obtain ⟨k152, rfl, O152⟩ := R152
                dsimp only [List.cons_append, List.nil_append]
                refine ⟨inferInstance, ?_⟩
                refine XT.append rfl rfl rfl rfl rfl rfl (by simp only [List.length_cons, List.length_nil]; omega) (fun v156 h156 O156 => ⟨inferInstance, ?_⟩) XT.stop
                refine XT.q rfl rfl (Q.build [_, _, _, _] (.c 0 1 rfl rfl rfl (.c 1 1 rfl rfl rfl (.c 2 2 rfl rfl rfl (.n _))))) ?_
                refine XT.st rfl rfl rfl rfl rfl ⟨inferInstance, ?_⟩ XT.stop
                refine XT.done ?_
                refine XK.seq ?_
                refine XK.region rfl ?_
                refine XO.q (Q.ldA [_, _, _, _] rfl rfl rfl) ?_
                refine XO.call Try.call12 rfl rfl rfl (Best_spec l vl kl K JL (rs ++ [(⟨5, 5, 5, 40, 9⟩ : PRack)]) v156 h156 m) fun v162 s162 R162 => ?_
                obtain ⟨vW2, vP2, kW2, kP2, bw2, s2, p2, rfl, rfl, OW2, OP2, hb2, _⟩ := R162
                dsimp only [List.cons_append, List.nil_append]
                obtain ⟨rd2, more⟩ := more_law (q := (⟨5, 5, 5, 40, 9⟩ : PRack)) rd (by decide) (by omega)
                have hb2 := hb2 rd2
                rw [rd2]
                rw [← hb, ← hb2] at more
                dsimp only at more
                refine XO.q (Q.move rfl) ?_
                refine XO.q (Q.extract rfl rfl) ?_
                refine XO.q (Q.extract rfl rfl) ?_
                refine XO.alloc fun b19 => ?_
                refine XO.st rfl rfl rfl ?_
                refine XO.q (Q.assign rfl) ?_
                refine XO.done ?_
                refine XK.seq ?_
                refine XK.region rfl ?_
                refine XO.q (Q.move rfl) ?_
                refine XO.q (Q.eql rfl rfl) ?_
                refine XO.q (Q.move rfl) ?_
                refine XO.q (Quiet.guardT rfl rfl fun g168 p168 => Q.fieldAddr rfl) ?_
                refine XO.q (Quiet.guardT rfl rfl fun g169 p169 => Q.ld (lzv rfl rfl) rfl) ?_
                refine XO.q (Quiet.guardT rfl rfl fun g170 p170 => Q.fieldAddr rfl) ?_
                refine XO.q (Quiet.guardT rfl rfl fun g171 p171 => Q.ld (lzv rfl rfl) rfl) ?_
                refine XO.q (Quiet.guardT rfl rfl fun g172 p172 => Q.geq (lzv rfl rfl) (lzv rfl rfl)) ?_
                rw [decide_eq_true (show s2 ≥ s from more)]
                refine XO.q (Q.and rfl (fun hp => lzv hp rfl)) ?_
                refine XO.q (Q.move rfl) ?_
                refine XO.callS rfl rfl rfl Try.call11 rfl (.n) rfl (awake09) fun v175 s175 R175 => ?_
                obtain ⟨rfl, rfl⟩ := R175
                dsimp only [List.cons_append, List.nil_append]
                refine XO.q (Q.and rfl (fun _ => rfl)) ?_
                refine XO.q (Q.assign rfl) ?_
                refine XO.done ?_
                refine XK.rt [] Try.func5 Try.results5 (.t rfl .n) ?_
                exact ⟨rfl, rfl⟩
end Go.X
