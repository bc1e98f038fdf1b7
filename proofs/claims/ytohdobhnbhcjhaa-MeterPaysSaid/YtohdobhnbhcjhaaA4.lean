/- A part of the proof: a small program logic, plain laws and contracts of functions, each proved by a walk through its operations. No condition but those that stand in each theorem. -/
import Derived.Test.YtohdobhnbhcjhaaA3
set_option linter.unusedSimpArgs false
set_option linter.unusedVariables false
set_option maxRecDepth 20000
namespace Go.X
open Go.Proofs
theorem snoc_all {l : List Int} {x : Int} {p : Int → Prop} (h : ∀ y ∈ l, p y) (hx : p x) : ∀ y ∈ l ++ [x], p y := fun y hy => by
  rcases List.mem_append.1 hy with hy | hy
  · exact h y hy
  · rw [List.mem_singleton] at hy; subst hy; exact hx
set_option maxHeartbeats 1000000 in
set_option synthInstance.maxSize 1000 in
theorem MeterPays_spec (ga : Value) (hha : PHeap) (a : List UInt8) [ia : Arr ga encU8 1 hha a] (gb : Value) (hhb : PHeap) (b : List UInt8) [ib : Arr gb encU8 1 hhb b] (gd : Value) (hhd : PHeap) (d : List UInt8) [id : Arr gd encU8 1 hhd d] (base : Nat) (hbase : base < 65536) (cr : Nat) (hcr : cr < 256) (ou : Nat) (hou : ou < 65536) (mo : Nat) (hmo : mo < 65536) (dy : Nat) (hdy : dy < 256) :
    Spec Try.prog 3 #[ga, gb, gd, .int .u16 (base : Nat), .int .u8 (cr : Nat), .int .u16 (ou : Nat), .int .u16 (mo : Nat), .int .u8 (dy : Nat)] [] [hha, hhb, hhd] (fun v hs => v = .bool true ∧ hs = []) := by
  have nI : OArr (.slice none 0 0) encI 1 3 emp ([] : List Int) := OArr.nil (fun _ => rfl)
  have nT : OArr (.slice none 0 0) encTier 2 33 emp ([] : List MTier) := OArr.nil (fun _ => rfl)
  refine Spec.intro (fn := Try.f3) (N := 279) Try.func3 rfl Try.ntmps3 rfl fun B => ?_
  refine XK.seq ?_
  refine XK.region rfl ?_
  refine XO.q (Q.assign rfl) ?_
  refine XO.done ?_
  refine XK.seq ?_
  refine XK.region rfl ?_
  refine XO.q (Q.move rfl) ?_
  refine XO.q (Q.conv rfl) ?_
  rw [wrap64_of ⟨by omega, by omega⟩]
  refine XO.q (Q.move rfl) ?_
  refine XO.q (Q.conv rfl) ?_
  rw [wrap64_of ⟨by omega, by omega⟩]
  refine XO.q (Q.rem rfl rfl (by omega) (by omega)) ?_
  rw [show ((cr : Int) % 101) = ((cr % 101 : Nat) : Int) from rfl]
  refine XO.q (Q.build [_, _, _, _] (.c 1 1 rfl rfl rfl (.c 3 1 rfl rfl rfl (.n _)))) ?_
  refine XO.alloc fun b17 => ?_
  refine XO.st rfl rfl rfl ?_
  refine XO.done ?_
  refine XK.seq ?_
  refine XK.region rfl ?_
  refine XO.q (Q.move rfl) ?_
  refine XO.q (Q.build [_, _] (.c 0 1 rfl rfl rfl (.n _))) ?_
  refine XO.box rfl fun b40 => ?_
  refine XO.q (Q.assign rfl) ?_
  refine XO.done ?_
  refine XK.seq ?_
  refine XK.seq ?_
  refine XK.region rfl ?_
  refine XO.q (Q.move rfl) ?_
  refine XO.done ?_
  refine XK.block ?_
  refine XK.while (X := Nat × Value × PHeap × List Int) [41, 42, 43, 44, 45, 46, 47, 48, 49, 50] (fun ⟨i, vp, kp, p⟩ => [(41, some (.int .i64 (i : Nat)))]) (fun ⟨i, vp, kp, p⟩ => [blk b40 [ga, .int .i64 ((i : Nat) : Int)] 30, blk b17 [vp, .int .i64 (base : Nat), .slice none 0 0, .int .i64 ((cr % 101 : Nat) : Int)] 27, kp]) (fun ⟨i, vp, kp, p⟩ => i ≤ 24 ∧ p.length = i ∧ (∀ x ∈ p, 0 ≤ x ∧ x ≤ 1000) ∧ OArr vp encI 1 3 kp p) (fun ⟨i, vp, kp, p⟩ => 24 - i) (0, .slice none 0 0, emp, []) [blk b40 [ga, .int .i64 ((0 : Nat) : Int)] 30, blk b17 [.slice none 0 0, .int .i64 (base : Nat), .slice none 0 0, .int .i64 ((cr % 101 : Nat) : Int)] 27, emp] rfl ⟨by omega, rfl, (fun x hx => by cases hx), nI⟩ (.c rfl (.base 0 rfl rfl)) ?_
  rintro ⟨i, vp, kp, p⟩ ⟨hi, hpl, hpr, OP⟩ ih0
  dsimp only [List.cons_append, List.nil_append] at ih0 ⊢
  refine XK.seq ?_
  refine XK.region rfl ?_
  refine XO.q (Q.lss rfl rfl) ?_
  refine XO.done ?_
  refine XK.seq ?_
  refine XK.if rfl (fun c0 => ?_) (fun c0 => ?_)
  · have _t0 := True.intro
    refine XK.skip ?_
    refine XK.seq ?_
    refine XK.block ?_
    refine XK.drawn [0, 1, 2, 6] [b17] [] (.q 0 (.q 1 (.q 2 (.br 3 true (.br 4 true (.br 5 true (.q 6 (.br 7 false .done .stop)) .stop) .stop) .stop)))) Try.mixed rfl (by kernel_rfl) ?_
    refine XT.q rfl rfl (Q.fieldAddr rfl) ?_
    refine XT.q rfl rfl (Q.ld rfl rfl) ?_
    refine XT.q rfl rfl (Q.move rfl) ?_
    refine XT.callB b40 rfl rfl Try.call10 rfl rfl rfl (next11 b40 ga hha a (i) (256) (by omega) (by omega) (by omega)) (fun v46 s46 R46 => ?_) XT.stop
    obtain ⟨rfl, n46, rfl, h46⟩ := R46
    dsimp only [List.cons_append, List.nil_append]
    refine ⟨inferInstance, ?_⟩
    refine XT.lit [_] [_] [_] encI rfl rfl (by rfl) (by rfl) rfl (by rfl) (by exact .c 0 1 rfl rfl rfl (.n _)) (fun _ => rfl) (by rfl) rfl (by infer_instance) rfl (fun v47 h47 O47 => ⟨inferInstance, ?_⟩) XT.stop
    refine XT.append rfl rfl rfl rfl rfl rfl (by first | omega | (simp; omega)) (fun v48 h48 O48 => ⟨inferInstance, ?_⟩) XT.stop
    refine XT.q rfl rfl (Q.fieldAddr rfl) ?_
    refine XT.st rfl rfl rfl rfl rfl ⟨inferInstance, ?_⟩ XT.stop
    refine XT.done ?_
    refine XK.inBlock ?_
    refine XK.region rfl ?_
    refine XO.q (Q.add rfl rfl ⟨by omega, by omega⟩) ?_
    refine XO.q (Q.move rfl) ?_
    refine XO.done ?_
    exact ih0 (i + 1, v48, h48, _) _ _ ⟨by dsimp only; omega, by dsimp only; rw [List.length_append, hpl]; rfl, snoc_all hpr ⟨by omega, by omega⟩, O48⟩ (by first | omega | (dsimp only; omega)) (.c rfl (.base 21 rfl rfl)) inferInstance
  · have _t0 := True.intro
    have hi24 : i = 24 := by omega
    refine XK.exit rfl ?_
    refine XK.seq ?_
    refine XK.region rfl ?_
    refine XO.q (Q.assign rfl) ?_
    refine XO.q (Q.assign rfl) ?_
    refine XO.done ?_
    refine XK.seq ?_
    refine XK.seq ?_
    refine XK.region rfl ?_
    refine XO.q (Q.assign rfl) ?_
    refine XO.done ?_
    refine XK.block ?_
    refine XK.while (X := Nat × Nat × Int × Int × Value × PHeap × List MTier) [19, 20, 21, 51, 52, 53, 54, 55, 56, 57, 58, 59, 60, 61, 62, 63, 64, 65, 66, 67, 68, 69, 70, 71, 72, 73, 74, 75, 76, 77, 78, 79, 80, 81, 82, 83, 84, 85, 86, 87, 88] (fun ⟨i, k, m, q, vt, kt, ts⟩ => [(21, some (.int .i64 (i : Nat))), (19, some (.int .i64 m)), (20, some (.int .i64 q))]) (fun ⟨i, k, m, q, vt, kt, ts⟩ => [blk b17 [vp, .int .i64 (base : Nat), vt, .int .i64 ((cr % 101 : Nat) : Int)] 27, kt]) (fun ⟨i, k, m, q, vt, kt, ts⟩ => i = 2 * k ∧ k ≤ 8 ∧ TSo ts m q k ∧ OArr vt encTier 2 33 kt ts) (fun ⟨i, k, m, q, vt, kt, ts⟩ => 100 - k) (0, 0, 0, 0, .slice none 0 0, emp, []) [blk b17 [vp, .int .i64 (base : Nat), .slice none 0 0, .int .i64 ((cr % 101 : Nat) : Int)] 27, emp] rfl ⟨rfl, by omega, ⟨rfl, by omega, by omega, (fun j hj => by omega), (fun j h0 hj => by omega)⟩, nT⟩ (.c rfl (.c rfl (.c rfl (.base 0 rfl rfl)))) ?_
    rintro ⟨i, k, m, q, vt, kt, ts⟩ ⟨hik, hk8, so, OT⟩ ih1
    dsimp only [List.cons_append, List.nil_append] at ih1 ⊢
    refine XK.seq ?_
    refine XK.seq ?_
    refine XK.region rfl ?_
    refine XO.q (Q.move rfl) ?_
    refine XO.q (Q.add rfl rfl ⟨by omega, by omega⟩) ?_
    rw [show ((i : Int) + 1) = ((i + 1 : Nat) : Int) from rfl]
    refine XO.q (Q.move rfl) ?_
    refine XO.len rfl fun l54 => ?_
    refine XO.q (Q.lss rfl rfl) ?_
    refine XO.q (Q.move rfl) ?_
    refine XO.q (Quiet.guardT rfl rfl fun g57 p57 => Q.move rfl) ?_
    refine XO.q (Quiet.guardT rfl rfl fun g58 p58 => Q.lss (lzv g58 rfl) rfl) ?_
    refine XO.q (Q.and rfl (fun hp => lzv hp rfl)) ?_
    refine XO.done ?_
    refine XK.if rfl (fun c1 => ?_) (fun c1 => ?_)
    · have _t1 := True.intro
      have sm := so.hm
      have sp := so.hp
      have tsl := so.len
      refine XK.skip ?_
      refine XK.seq ?_
      refine XK.block ?_
      refine XK.seq ?_
      refine XK.region rfl ?_
      refine XO.q (Q.move rfl) ?_
      refine XO.q (Q.move rfl) ?_
      refine XO.q (Q.move rfl) ?_
      refine XO.ix rfl rfl (by omega) (by omega) fun i65 => ?_
      refine XO.q (Q.ldE rfl (by first | assumption | omega) rfl) ?_
      have hu1 := (b.getD i default).toNat_lt
      refine XO.q (Q.conv rfl) ?_
      rw [wrap64_of ⟨by omega, by omega⟩]
      refine XO.q (Q.mul rfl rfl ⟨by omega, by omega⟩) ?_
      refine XO.q (Q.add rfl rfl ⟨by omega, by omega⟩) ?_
      refine XO.q (Q.add rfl rfl ⟨by omega, by omega⟩) ?_
      obtain ⟨m2, em2⟩ : ∃ m2, m2 = m + (1 + 20 * (((b.getD i default).toNat : Nat) : Int)) := ⟨_, rfl⟩
      rw [← em2]
      refine XO.q (Q.assign rfl) ?_
      refine XO.done ?_
      refine XK.seq ?_
      refine XK.region rfl ?_
      refine XO.q (Q.move rfl) ?_
      refine XO.q (Q.move rfl) ?_
      refine XO.q (Q.move rfl) ?_
      refine XO.q (Q.add rfl rfl ⟨by omega, by omega⟩) ?_
      rw [show ((i : Int) + 1) = ((i + 1 : Nat) : Int) from rfl]
      refine XO.ix rfl rfl (by omega) (by omega) fun i75 => ?_
      refine XO.q (Q.ldE rfl (by first | assumption | omega) rfl) ?_
      have hu2 := (b.getD (i + 1) default).toNat_lt
      refine XO.q (Q.rem rfl rfl (by omega) (by omega)) ?_
      refine XO.q (Q.conv rfl) ?_
      rw [wrap64_of ⟨by omega, by omega⟩]
      refine XO.q (Q.add rfl rfl ⟨by omega, by omega⟩) ?_
      refine XO.q (Q.min rfl rfl) ?_
      obtain ⟨q2, eq2⟩ : ∃ q2, q2 = min (q + (((b.getD (i + 1) default).toNat : Nat) : Int) % 20) 100 := ⟨_, rfl⟩
      rw [← eq2]
      refine XO.q (Q.assign rfl) ?_
      refine XO.done ?_
      refine XK.region rfl ?_
      refine XO.q (Q.fieldAddr rfl) ?_
      refine XO.q (Q.ld rfl rfl) ?_
      refine XO.q (Q.move rfl) ?_
      refine XO.q (Q.move rfl) ?_
      refine XO.q (Q.build [_, _] (.c 0 1 rfl rfl rfl (.c 1 1 rfl rfl rfl (.n _)))) ?_
      refine XO.lit [_, _] [_, _] [⟨m2, q2⟩] encTier (by rfl) (by rfl) rfl (by rfl) (by exact .c 0 2 rfl rfl rfl (.n _)) (fun _ => rfl) (by rfl) rfl (by infer_instance) rfl fun v86 h86 O86 => ?_
      refine XO.append rfl rfl rfl rfl (by first | omega | (simp; omega)) fun v87 h87 O87 => ?_
      refine XO.q (Q.fieldAddr rfl) ?_
      refine XO.st rfl rfl rfl ?_
      refine XO.done ?_
      refine XK.inBlock ?_
      refine XK.region rfl ?_
      refine XO.q (Q.move rfl) ?_
      refine XO.q (Q.add rfl rfl ⟨by omega, by omega⟩) ?_
      rw [show ((i : Int) + 2) = ((i + 2 : Nat) : Int) from rfl]
      refine XO.q (Q.assign rfl) ?_
      refine XO.done ?_
      exact ih1 (i + 2, k + 1, m2, q2, v87, h87, _) _ _ ⟨by dsimp only; omega, by dsimp only; omega, so.snoc (by omega) (by omega) (by omega) (by omega), O87⟩ (by first | omega | (dsimp only; omega)) (.c rfl (.c rfl (.c rfl (.base 85 rfl rfl)))) inferInstance
    · have _t1 := True.intro
      refine XK.exit rfl ?_
      refine XK.seq ?_
      refine XK.meet (X := MTariff × Value × Value × PHeap × PHeap × Nat) [22, 89, 90, 91, 92] (fun ⟨t, vp, vt, kp, kt, b22⟩ => [(22, some (ptr b22 0))]) (fun ⟨t, vp, vt, kp, kt, b22⟩ => [blk b17 [vp, .int .i64 t.base, vt, .int .i64 t.credit] 27, blk b22 [.slice none 0 0, .int .i64 ((ou % 50001 : Nat) : Int)] 35, kp, kt]) (fun ⟨t, vp, vt, kp, kt, b22⟩ => TOk11 t ∧ OArr vp encI 1 3 kp t.price ∧ OArr vt encTier 2 33 kt t.tiers) [blk b17 [vp, .int .i64 (base : Nat), vt, .int .i64 ((cr % 101 : Nat) : Int)] 27, kp, kt] ?_ ?_
      · rintro ⟨t, vp, vt, kp, kt, b22⟩ ⟨tk, OP, OT⟩
        dsimp only [List.cons_append, List.nil_append]
        have tb := tk.base
        have tc := tk.credit
        refine XK.seq ?_
        refine XK.seq ?_
        refine XK.region rfl ?_
        refine XO.q (Q.move rfl) ?_
        refine XO.q (Q.move rfl) ?_
        refine XO.len rfl fun l95 => ?_
        refine XO.q (Q.min rfl rfl) ?_
        refine XO.cut (i := 0) (j := min d.length 100) rfl .n (.s rfl (by omega)) (by omega) (by omega) fun v97 A97 => ?_
        obtain ⟨cs, ecs⟩ : ∃ cs, cs = (d.drop 0).take (min d.length 100 - 0) := ⟨_, rfl⟩
        rw [← ecs] at A97
        have hcl : cs.length ≤ 100 := by rw [ecs, List.length_take]; omega
        clear ecs
        refine XO.len rfl fun l98 => ?_
        refine XO.q (Q.move rfl) ?_
        refine XO.done ?_
        refine XK.block ?_
        refine XK.while (X := Nat × Value × PHeap × MUse) [24, 99, 100, 101, 102, 103, 104, 105, 106, 107, 108, 109, 110] (fun ⟨i, vu, ku, u⟩ => [(99, some (.int .i64 (i : Nat)))]) (fun ⟨i, vu, ku, u⟩ => [blk b22 [vu, .int .i64 u.out] 35, ku]) (fun ⟨i, vu, ku, u⟩ => i ≤ cs.length ∧ u.values.length = i ∧ (∀ x ∈ u.values, 0 ≤ x ∧ x ≤ 100000) ∧ (0 ≤ u.out ∧ u.out ≤ 50000) ∧ OArr vu encI 1 3 ku u.values) (fun ⟨i, vu, ku, u⟩ => cs.length - i) (0, .slice none 0 0, emp, ⟨[], ((ou % 50001 : Nat) : Int)⟩) [blk b22 [.slice none 0 0, .int .i64 ((ou % 50001 : Nat) : Int)] 35, emp] rfl ⟨by omega, rfl, (fun x hx => by cases hx), by dsimp only; omega, nI⟩ (.c rfl (.base 0 rfl rfl)) ?_
        rintro ⟨i, vu, ku, u⟩ ⟨hi, hul, hur, huo, OU⟩ ih2
        dsimp only [List.cons_append, List.nil_append] at ih2 ⊢
        refine XK.seq ?_
        refine XK.region rfl ?_
        refine XO.q (Q.lss rfl rfl) ?_
        refine XO.done ?_
        refine XK.seq ?_
        refine XK.if rfl (fun c2 => ?_) (fun c2 => ?_)
        · have _t2 := True.intro
          refine XK.skip ?_
          refine XK.seq ?_
          refine XK.block ?_
          refine XK.seq ?_
          refine XK.region rfl ?_
          refine XO.ix rfl rfl (by omega) (by omega) fun i101 => ?_
          refine XO.q (Q.ldE rfl (by first | assumption | omega) rfl) ?_
          refine XO.q (Q.assign rfl) ?_
          refine XO.done ?_
          refine XK.region rfl ?_
          refine XO.q (Q.fieldAddr rfl) ?_
          refine XO.q (Q.ld rfl rfl) ?_
          refine XO.q (Q.move rfl) ?_
          have hu3 := (cs.getD i default).toNat_lt
          refine XO.q (Q.conv rfl) ?_
          rw [wrap64_of ⟨by omega, by omega⟩]
          refine XO.lit [_] [_] [_] encI (by rfl) (by rfl) rfl (by rfl) (by exact .c 0 1 rfl rfl rfl (.n _)) (fun _ => rfl) (by rfl) rfl (by infer_instance) rfl fun v107 h107 O107 => ?_
          refine XO.append rfl rfl rfl rfl (by first | omega | (simp; omega)) fun v108 h108 O108 => ?_
          refine XO.q (Q.fieldAddr rfl) ?_
          refine XO.st rfl rfl rfl ?_
          refine XO.done ?_
          refine XK.inBlock ?_
          refine XK.region rfl ?_
          refine XO.q (Q.add rfl rfl ⟨by omega, by omega⟩) ?_
          refine XO.q (Q.move rfl) ?_
          refine XO.done ?_
          exact ih2 (i + 1, v108, h108, ⟨u.values ++ [_], u.out⟩) _ _ ⟨by dsimp only; omega, by dsimp only; rw [List.length_append, hul]; rfl, snoc_all hur ⟨by omega, by omega⟩, huo, O108⟩ (by first | omega | (dsimp only; omega)) (.c rfl (.base 27 rfl rfl)) inferInstance
        · have _t2 := True.intro
          have uk : UOk11 u := ⟨by omega, hur, huo⟩
          clear ih2
          refine XK.exit rfl ?_
          refine XK.seq ?_
          refine XK.region rfl ?_
          refine XO.q (Q.ldA [_, _, _, _] rfl rfl rfl) ?_
          refine XO.q (Q.ldA [_, _] rfl rfl rfl) ?_
          refine XO.call Try.call11 rfl rfl rfl (Make_spec t vp vt kp kt u vu ku) fun v114 s114 R114 => ?_
          obtain ⟨rfl, rfl⟩ := R114
          dsimp only [List.cons_append, List.nil_append]
          rw [make_fine tk uk]
          dsimp only
          obtain ⟨P1, P2, P3, P4, P5, P6, P7, P8, P9, P10⟩ := pays1 tk uk
          obtain ⟨bl, ebl⟩ : ∃ bl, bl = billL t u := ⟨_, rfl⟩
          rw [← ebl] at P1 P2 P3 P4 P5 P6 P7 P8 P9 P10 ⊢
          refine XO.q (Q.move rfl) ?_
          refine XO.q (Q.extract rfl rfl) ?_
          refine XO.q (Q.extract rfl rfl) ?_
          refine XO.alloc fun b25 => ?_
          refine XO.st rfl rfl rfl ?_
          refine XO.q (Q.assign rfl) ?_
          refine XO.done ?_
          refine XK.seq ?_
          refine XK.seq ?_
          refine XK.region rfl ?_
          refine XO.q (Q.move rfl) ?_
          refine XO.q (Q.neq rfl rfl) ?_
          refine XO.q (Q.move rfl) ?_
          refine XO.q (Quiet.guardF rfl rfl fun g120 p120 => Q.fieldAddr rfl) ?_
          refine XO.q (Quiet.guardF rfl rfl fun g121 p121 => Q.ld (lzv g121 rfl) rfl) ?_
          refine XO.q (Quiet.guardF rfl rfl fun g122 p122 => Q.fieldAddr rfl) ?_
          refine XO.q (Quiet.guardF rfl rfl fun g123 p123 => Q.ld (lzv g123 rfl) rfl) ?_
          refine XO.q (Quiet.guardF rfl rfl fun g124 p124 => Q.add (lzv g124 rfl) (lzv g124 rfl) ⟨by omega, by omega⟩) ?_
          refine XO.q (Quiet.guardF rfl rfl fun g125 p125 => Q.fieldAddr rfl) ?_
          refine XO.q (Quiet.guardF rfl rfl fun g126 p126 => Q.ld (lzv g126 rfl) rfl) ?_
          refine XO.q (Quiet.guardF rfl rfl fun g127 p127 => Q.neq (lzv g127 rfl) (lzv g127 rfl)) ?_
          refine XO.q (Q.or rfl (fun hp => lzv hp rfl)) ?_
          refine XO.q (Q.move rfl) ?_
          refine XO.q (Quiet.guardF rfl rfl fun g130 p130 => Q.fieldAddr rfl) ?_
          refine XO.q (Quiet.guardF rfl rfl fun g131 p131 => Q.ld (lzv g131 rfl) rfl) ?_
          refine XO.q (Quiet.guardF rfl rfl fun g132 p132 => Q.lss (lzv g132 rfl) rfl) ?_
          refine XO.q (Q.or rfl (fun hp => lzv hp rfl)) ?_
          refine XO.q (Q.move rfl) ?_
          refine XO.q (Quiet.guardF rfl rfl fun g135 p135 => Q.fieldAddr rfl) ?_
          refine XO.q (Quiet.guardF rfl rfl fun g136 p136 => Q.ld (lzv g136 rfl) rfl) ?_
          refine XO.q (Quiet.guardF rfl rfl fun g137 p137 => Q.lss (lzv g137 rfl) rfl) ?_
          refine XO.q (Q.or rfl (fun hp => lzv hp rfl)) ?_
          refine XO.q (Q.move rfl) ?_
          refine XO.q (Quiet.guardF rfl rfl fun g140 p140 => Q.fieldAddr rfl) ?_
          refine XO.q (Quiet.guardF rfl rfl fun g141 p141 => Q.ld (lzv g141 rfl) rfl) ?_
          refine XO.q (Quiet.guardF rfl rfl fun g142 p142 => Q.mul rfl (lzv g142 rfl) ⟨by omega, by omega⟩) ?_
          refine XO.q (Quiet.guardF rfl rfl fun g143 p143 => Q.fieldAddr rfl) ?_
          refine XO.q (Quiet.guardF rfl rfl fun g144 p144 => Q.ld (lzv g144 rfl) rfl) ?_
          refine XO.q (Quiet.guardF rfl rfl fun g145 p145 => Q.fieldAddr rfl) ?_
          refine XO.q (Quiet.guardF rfl rfl fun g146 p146 => Q.ld (lzv g146 rfl) rfl) ?_
          refine XO.q (Quiet.guardF rfl rfl fun g147 p147 => Q.mul (lzv g147 rfl) (lzv g147 rfl) ⟨by omega, by omega⟩) ?_
          refine XO.q (Quiet.guardF rfl rfl fun g148 p148 => Q.add (lzv g148 rfl) rfl ⟨by omega, by omega⟩) ?_
          refine XO.q (Quiet.guardF rfl rfl fun g149 p149 => Q.gtr (lzv g149 rfl) (lzv g149 rfl)) ?_
          refine XO.q (Q.or rfl (fun hp => lzv hp rfl)) ?_
          refine XO.done ?_
          refine XK.if rfl (fun c3 => ?_) (fun c3 => ?_)
          · have _t3 := True.intro
            exact absurd c3 (by omega)
          · have _t3 := True.intro
            refine XK.skip ?_
            refine XK.seq ?_
            refine XK.region rfl ?_
            refine XO.q (Q.fieldAddr rfl) ?_
            refine XO.q (Q.ld rfl rfl) ?_
            refine XO.q (Q.fieldAddr rfl) ?_
            refine XO.q (Q.ld rfl rfl) ?_
            refine XO.q (Q.move rfl) ?_
            refine XO.q (Q.conv rfl) ?_
            rw [wrap64_of ⟨by omega, by omega⟩]
            refine XO.q (Q.add rfl rfl ⟨by omega, by omega⟩) ?_
            refine XO.q (Q.min rfl rfl) ?_
            refine XO.q (Q.build [_, _] (.c 0 1 rfl rfl rfl (.c 1 1 rfl rfl rfl (.n _)))) ?_
            refine XO.alloc fun b27 => ?_
            refine XO.st rfl rfl rfl ?_
            refine XO.done ?_
            refine XK.seq ?_
            refine XK.region rfl ?_
            refine XO.q (Q.ldA [_, _, _, _] rfl rfl rfl) ?_
            refine XO.q (Q.ldA [_, _] rfl rfl rfl) ?_
            refine XO.call Try.call11 rfl rfl rfl (Make_spec t vp vt kp kt ⟨u.values, min (u.out + (mo : Int)) 50000⟩ vu ku) fun v163 s163 R163 => ?_
            obtain ⟨rfl, rfl⟩ := R163
            dsimp only [List.cons_append, List.nil_append]
            have wk : UOk11 ⟨u.values, min (u.out + (mo : Int)) 50000⟩ := ⟨uk.len, uk.vals, by have := uk.out; dsimp only; omega⟩
            rw [make_fine tk wk]
            dsimp only
            obtain ⟨R1, R2⟩ := pays2 tk (w := ⟨u.values, min (u.out + (mo : Int)) 50000⟩) uk rfl (by have := uk.out; dsimp only; omega)
            rw [← ebl] at R1 R2
            obtain ⟨bw, ebw⟩ : ∃ bw, bw = billL t ⟨u.values, min (u.out + (mo : Int)) 50000⟩ := ⟨_, rfl⟩
            rw [← ebw] at R1 R2 ⊢
            refine XO.q (Q.move rfl) ?_
            refine XO.q (Q.extract rfl rfl) ?_
            refine XO.q (Q.extract rfl rfl) ?_
            refine XO.alloc fun b28 => ?_
            refine XO.st rfl rfl rfl ?_
            refine XO.q (Q.assign rfl) ?_
            refine XO.done ?_
            refine XK.seq ?_
            refine XK.seq ?_
            refine XK.region rfl ?_
            refine XO.q (Q.move rfl) ?_
            refine XO.q (Q.neq rfl rfl) ?_
            refine XO.q (Q.move rfl) ?_
            refine XO.q (Quiet.guardF rfl rfl fun g169 p169 => Q.fieldAddr rfl) ?_
            refine XO.q (Quiet.guardF rfl rfl fun g170 p170 => Q.ld (lzv g170 rfl) rfl) ?_
            refine XO.q (Quiet.guardF rfl rfl fun g171 p171 => Q.fieldAddr rfl) ?_
            refine XO.q (Quiet.guardF rfl rfl fun g172 p172 => Q.ld (lzv g172 rfl) rfl) ?_
            refine XO.q (Quiet.guardF rfl rfl fun g173 p173 => Q.gtr (lzv g173 rfl) (lzv g173 rfl)) ?_
            refine XO.q (Q.or rfl (fun hp => lzv hp rfl)) ?_
            refine XO.q (Q.move rfl) ?_
            refine XO.q (Quiet.guardF rfl rfl fun g176 p176 => Q.fieldAddr rfl) ?_
            refine XO.q (Quiet.guardF rfl rfl fun g177 p177 => Q.ld (lzv g177 rfl) rfl) ?_
            refine XO.q (Quiet.guardF rfl rfl fun g178 p178 => Q.fieldAddr rfl) ?_
            refine XO.q (Quiet.guardF rfl rfl fun g179 p179 => Q.ld (lzv g179 rfl) rfl) ?_
            refine XO.q (Quiet.guardF rfl rfl fun g180 p180 => Q.neq (lzv g180 rfl) (lzv g180 rfl)) ?_
            refine XO.q (Q.or rfl (fun hp => lzv hp rfl)) ?_
            refine XO.done ?_
            refine XK.if rfl (fun c4 => ?_) (fun c4 => ?_)
            · have _t4 := True.intro
              exact absurd c4 (by omega)
            · have _t4 := True.intro
              refine XK.skip ?_
              refine XK.seq ?_
              refine XK.region rfl ?_
              refine XO.q (Q.move rfl) ?_
              refine XO.q (Q.rem rfl rfl (by omega) (by omega)) ?_
              refine XO.q (Q.conv rfl) ?_
              rw [wrap64_of ⟨by omega, by omega⟩]
              refine XO.q (Q.mul rfl rfl ⟨by omega, by omega⟩) ?_
              refine XO.q (Q.fieldAddr rfl) ?_
              refine XO.q (Q.ld rfl rfl) ?_
              refine XO.len rfl fun l188 => ?_
              refine XO.q (Q.min rfl rfl) ?_
              obtain ⟨n, en⟩ : ∃ n : Nat, n = min (24 * (dy % 5)) u.values.length := ⟨_, rfl⟩
              have hnl : n ≤ u.values.length := by omega
              rw [show min (24 * ((dy : Int) % 5)) (u.values.length : Int) = (n : Int) by omega]
              have C1 : Arr (cutv vu 1 0 n) encI 1 ku (useTake u n).values := Arr.cut (OArr.arr (s := OU)) (by omega) hnl
              have C2 : Arr (cutv vu 1 n u.values.length) encI 1 ku (useDrop u n).values := Arr.cut (OArr.arr (s := OU)) hnl (Nat.le_refl _)
              refine XO.q (Q.assign rfl) ?_
              refine XO.done ?_
              refine XK.seq ?_
              refine XK.meet (X := Nat × Value × PHeap × MBill × MBill) [26, 30, 31, 190, 191, 192, 193, 194, 195, 196, 197, 198, 199, 200, 201, 202, 203, 204, 205, 206] (fun ⟨b31, vA, kA, b1, b2⟩ => [(30, some (vA)), (31, some (ptr b31 0)), (26, some (.int .i64 0))]) (fun ⟨b31, vA, kA, b1, b2⟩ => [blk b31 [.int .i64 (0 + b1.energy + b2.energy), .int .i64 (0 + b1.amount + b2.amount), .int .i64 (0 + b1.credit + b2.credit), .int .i64 (0 + b1.due + b2.due)] 37, kA]) (fun ⟨b31, vA, kA, b1, b2⟩ => Arr vA encBill 4 kA [b1, b2] ∧ b1 = billL t (useTake u n) ∧ b2 = billL t (useDrop u n)) [] ?_ ?_
              · rintro ⟨b31, vA, kA, b1, b2⟩ ⟨aA, eb1, eb2⟩
                dsimp only [List.cons_append, List.nil_append]
                obtain ⟨S1, S2⟩ := pays3 (t := t) (u := u) (n := n) hnl
                rw [← ebl, ← eb1, ← eb2] at S1 S2
                obtain ⟨T1, T2, T3, _, _, _, T7, T8, T9, T10⟩ := pays1 tk (useTake_ok uk n)
                obtain ⟨U1, U2, U3, _, _, _, U7, U8, U9, U10⟩ := pays1 tk (useDrop_ok uk n)
                rw [← eb1] at T1 T2 T3 T7 T8 T9 T10
                rw [← eb2] at U1 U2 U3 U7 U8 U9 U10
                clear eb1 eb2
                have l2 : ([b1, b2] : List MBill).length = 2 := rfl
                refine XK.seq ?_
                refine XK.seq ?_
                refine XK.drawn [0, 1, 2, 3, 4, 5, 6, 7, 8, 9, 10, 11, 12, 13, 14, 15, 16, 17, 18, 19, 20, 21, 22, 23, 24, 25, 26, 27, 28, 29, 30, 31, 32, 33, 34, 35, 36, 37, 38, 39, 40, 41, 42, 43, 44, 45, 46, 47, 48, 49, 50, 51, 52, 53, 54, 55] [b31, b25] [kA] (.q 0 (.q 1 (.q 2 (.q 3 (.q 4 (.q 5 (.q 6 (.q 7 (.q 8 (.q 9 (.q 10 (.q 11 (.q 12 (.q 13 (.q 14 (.q 15 (.q 16 (.q 17 (.q 18 (.q 19 (.q 20 (.q 21 (.q 22 (.q 23 (.q 24 (.q 25 (.q 26 (.q 27 (.q 28 (.q 29 (.q 30 (.q 31 (.q 32 (.q 33 (.q 34 (.q 35 (.q 36 (.q 37 (.q 38 (.q 39 (.q 40 (.q 41 (.q 42 (.q 43 (.q 44 (.q 45 (.q 46 (.q 47 (.q 48 (.q 49 (.q 50 (.q 51 (.q 52 (.q 53 (.q 54 (.q 55 .done)))))))))))))))))))))))))))))))))))))))))))))))))))))))) Try.mixed rfl (by kernel_rfl) ?_
                refine XT.q rfl rfl (Q.move rfl) ?_
                refine XT.q rfl rfl (Q.neq rfl rfl) ?_
                refine XT.q rfl rfl (Q.move rfl) ?_
                refine XT.q rfl rfl (Quiet.guardF rfl rfl fun g210 p210 => Q.move rfl) ?_
                refine XT.q rfl rfl (Quiet.guardF rfl rfl fun g211 p211 => Q.len (lzv g211 rfl)) ?_
                refine XT.q rfl rfl (Quiet.guardF rfl rfl fun g212 p212 => Q.neq (lzv g212 rfl) rfl) ?_
                refine XT.q rfl rfl (Q.or rfl (fun hp => lzv hp rfl)) ?_
                refine XT.q rfl rfl (Q.move rfl) ?_
                refine XT.q rfl rfl (Quiet.guardF rfl rfl fun g215 p215 => Q.fieldAddr rfl) ?_
                refine XT.q rfl rfl (Quiet.guardF rfl rfl fun g216 p216 => Q.ld (lzv g216 rfl) rfl) ?_
                refine XT.q rfl rfl (Quiet.guardF rfl rfl fun g217 p217 => Q.fieldAddr rfl) ?_
                refine XT.q rfl rfl (Quiet.guardF rfl rfl fun g218 p218 => Q.ld (lzv g218 rfl) rfl) ?_
                refine XT.q rfl rfl (Quiet.guardF rfl rfl fun g219 p219 => Q.neq (lzv g219 rfl) (lzv g219 rfl)) ?_
                refine XT.q rfl rfl (Q.or rfl (fun hp => lzv hp rfl)) ?_
                refine XT.q rfl rfl (Q.move rfl) ?_
                refine XT.q rfl rfl (Quiet.guardF rfl rfl fun g222 p222 => Q.fieldAddr rfl) ?_
                refine XT.q rfl rfl (Quiet.guardF rfl rfl fun g223 p223 => Q.ld (lzv g223 rfl) rfl) ?_
                refine XT.q rfl rfl (Quiet.guardF rfl rfl fun g224 p224 => Q.move rfl) ?_
                refine XT.q rfl rfl (Quiet.guardF rfl rfl fun g225 p225 => Q.ix (lzv g225 rfl) rfl (by omega) (by omega)) ?_
                refine XT.q rfl rfl (Quiet.guardF rfl rfl fun g226 p226 => Q.fieldQ (lzv g226 rfl) (by first | assumption | omega)) ?_
                refine XT.q rfl rfl (Quiet.guardF rfl rfl fun g227 p227 => Q.ldE (lzv g227 rfl) (by first | assumption | omega) rfl) ?_
                rw [show ([b1, b2] : List MBill).getD (Int.toNat 0) default = b1 from rfl]
                refine XT.q rfl rfl (Quiet.guardF rfl rfl fun g228 p228 => Q.move rfl) ?_
                refine XT.q rfl rfl (Quiet.guardF rfl rfl fun g229 p229 => Q.ix (lzv g229 rfl) rfl (by omega) (by omega)) ?_
                refine XT.q rfl rfl (Quiet.guardF rfl rfl fun g230 p230 => Q.fieldQ (lzv g230 rfl) (by first | assumption | omega)) ?_
                refine XT.q rfl rfl (Quiet.guardF rfl rfl fun g231 p231 => Q.ldE (lzv g231 rfl) (by first | assumption | omega) rfl) ?_
                rw [show ([b1, b2] : List MBill).getD (Int.toNat 1) default = b2 from rfl]
                refine XT.q rfl rfl (Quiet.guardF rfl rfl fun g232 p232 => Q.add (lzv g232 rfl) (lzv g232 rfl) ⟨by omega, by omega⟩) ?_
                refine XT.q rfl rfl (Quiet.guardF rfl rfl fun g233 p233 => Q.neq (lzv g233 rfl) (lzv g233 rfl)) ?_
                refine XT.q rfl rfl (Q.or rfl (fun hp => lzv hp rfl)) ?_
                refine XT.q rfl rfl (Q.move rfl) ?_
                refine XT.q rfl rfl (Quiet.guardF rfl rfl fun g236 p236 => Q.fieldAddr rfl) ?_
                refine XT.q rfl rfl (Quiet.guardF rfl rfl fun g237 p237 => Q.ld (lzv g237 rfl) rfl) ?_
                refine XT.q rfl rfl (Quiet.guardF rfl rfl fun g238 p238 => Q.move rfl) ?_
                refine XT.q rfl rfl (Quiet.guardF rfl rfl fun g239 p239 => Q.ix (lzv g239 rfl) rfl (by omega) (by omega)) ?_
                refine XT.q rfl rfl (Quiet.guardF rfl rfl fun g240 p240 => Q.fieldQ (lzv g240 rfl) (by first | assumption | omega)) ?_
                refine XT.q rfl rfl (Quiet.guardF rfl rfl fun g241 p241 => Q.ldE (lzv g241 rfl) (by first | assumption | omega) rfl) ?_
                rw [show ([b1, b2] : List MBill).getD (Int.toNat 0) default = b1 from rfl]
                refine XT.q rfl rfl (Quiet.guardF rfl rfl fun g242 p242 => Q.move rfl) ?_
                refine XT.q rfl rfl (Quiet.guardF rfl rfl fun g243 p243 => Q.ix (lzv g243 rfl) rfl (by omega) (by omega)) ?_
                refine XT.q rfl rfl (Quiet.guardF rfl rfl fun g244 p244 => Q.fieldQ (lzv g244 rfl) (by first | assumption | omega)) ?_
                refine XT.q rfl rfl (Quiet.guardF rfl rfl fun g245 p245 => Q.ldE (lzv g245 rfl) (by first | assumption | omega) rfl) ?_
                rw [show ([b1, b2] : List MBill).getD (Int.toNat 1) default = b2 from rfl]
                refine XT.q rfl rfl (Quiet.guardF rfl rfl fun g246 p246 => Q.add (lzv g246 rfl) (lzv g246 rfl) ⟨by omega, by omega⟩) ?_
                refine XT.q rfl rfl (Quiet.guardF rfl rfl fun g247 p247 => Q.neq (lzv g247 rfl) (lzv g247 rfl)) ?_
                refine XT.q rfl rfl (Q.or rfl (fun hp => lzv hp rfl)) ?_
                refine XT.q rfl rfl (Q.move rfl) ?_
                refine XT.q rfl rfl (Quiet.guardF rfl rfl fun g250 p250 => Q.fieldAddr rfl) ?_
                refine XT.q rfl rfl (Quiet.guardF rfl rfl fun g251 p251 => Q.ld (lzv g251 rfl) rfl) ?_
                refine XT.q rfl rfl (Quiet.guardF rfl rfl fun g252 p252 => Q.move rfl) ?_
                refine XT.q rfl rfl (Quiet.guardF rfl rfl fun g253 p253 => Q.ix (lzv g253 rfl) rfl (by omega) (by omega)) ?_
                refine XT.q rfl rfl (Quiet.guardF rfl rfl fun g254 p254 => Q.fieldQ (lzv g254 rfl) (by first | assumption | omega)) ?_
                refine XT.q rfl rfl (Quiet.guardF rfl rfl fun g255 p255 => Q.ldE (lzv g255 rfl) (by first | assumption | omega) rfl) ?_
                rw [show ([b1, b2] : List MBill).getD (Int.toNat 0) default = b1 from rfl]
                refine XT.q rfl rfl (Quiet.guardF rfl rfl fun g256 p256 => Q.move rfl) ?_
                refine XT.q rfl rfl (Quiet.guardF rfl rfl fun g257 p257 => Q.ix (lzv g257 rfl) rfl (by omega) (by omega)) ?_
                refine XT.q rfl rfl (Quiet.guardF rfl rfl fun g258 p258 => Q.fieldQ (lzv g258 rfl) (by first | assumption | omega)) ?_
                refine XT.q rfl rfl (Quiet.guardF rfl rfl fun g259 p259 => Q.ldE (lzv g259 rfl) (by first | assumption | omega) rfl) ?_
                rw [show ([b1, b2] : List MBill).getD (Int.toNat 1) default = b2 from rfl]
                refine XT.q rfl rfl (Quiet.guardF rfl rfl fun g260 p260 => Q.add (lzv g260 rfl) (lzv g260 rfl) ⟨by omega, by omega⟩) ?_
                refine XT.q rfl rfl (Quiet.guardF rfl rfl fun g261 p261 => Q.neq (lzv g261 rfl) (lzv g261 rfl)) ?_
                refine XT.q rfl rfl (Q.or rfl (fun hp => lzv hp rfl)) ?_
                refine XT.done ?_
                refine XK.if rfl (fun c5 => ?_) (fun c5 => ?_)
                · have _t5 := True.intro
                  exact absurd c5 (by omega)
                · have _t5 := True.intro
                  refine XK.skip ?_
                  refine XK.seq ?_
                  refine XK.region rfl ?_
                  refine XO.q (Q.move rfl) ?_
                  refine XO.q (Q.rem rfl rfl (by omega) (by omega)) ?_
                  rw [show ((n : Int) % 24) = ((n % 24 : Nat) : Int) from rfl]
                  refine XO.q (Q.neq rfl rfl) ?_
                  refine XO.q (Q.move rfl) ?_
                  refine XO.q (Quiet.guardF rfl rfl fun g267 p267 => Q.fieldAddr rfl) ?_
                  refine XO.q (Quiet.guardF rfl rfl fun g268 p268 => Q.ld (lzv g268 rfl) rfl) ?_
                  refine XO.q (Quiet.guardF rfl rfl fun g269 p269 => Q.fieldAddr rfl) ?_
                  refine XO.q (Quiet.guardF rfl rfl fun g270 p270 => Q.ld (lzv g270 rfl) rfl) ?_
                  refine XO.q (Quiet.guardF rfl rfl fun g271 p271 => Q.fieldAddr rfl) ?_
                  refine XO.q (Quiet.guardF rfl rfl fun g272 p272 => Q.ld (lzv g272 rfl) rfl) ?_
                  refine XO.q (Quiet.guardF rfl rfl fun g273 p273 => Q.add (lzv g273 rfl) (lzv g273 rfl) ⟨by omega, by omega⟩) ?_
                  refine XO.q (Quiet.guardF rfl rfl fun g274 p274 => Q.eql (lzv g274 rfl) (lzv g274 rfl)) ?_
                  refine XO.q (Q.or rfl (fun hp => lzv hp rfl)) ?_
                  refine XO.q (Q.move rfl) ?_
                  refine XO.gcallT rfl rfl Try.call13 rfl (fun g277 => .n) rfl (fun g277 p277 => awake11) ?_
                  refine XO.q (Q.and rfl (fun hp => lzv hp rfl)) ?_
                  refine XO.q (Q.assign rfl) ?_
                  refine XO.done ?_
                  refine XK.rt [] Try.func3 Try.results3 (.t rfl .n) ?_
                  exact ⟨by
                    by_cases h24 : n % 24 = 0
                    · rw [decide_eq_true (show 0 + b1.amount + b2.amount = bl.amount + t.base by have := S2 h24; omega), Bool.or_true]; rfl
                    · rw [decide_eq_true (show ((n % 24 : Nat) : Int) ≠ 0 by omega)]; rfl, rfl⟩
              · intro mtr28
                dsimp only [List.cons_append, List.nil_append] at mtr28
                refine XK.drawn [0, 1, 2, 3, 4, 5, 6, 7, 8, 9, 10, 13, 14, 15, 16, 18, 20] [b17, b22] [] (.q 0 (.q 1 (.q 2 (.q 3 (.q 4 (.q 5 (.q 6 (.q 7 (.q 8 (.q 9 (.q 10 (.br 11 true (.br 12 true (.q 13 (.q 14 (.q 15 (.q 16 (.br 17 true (.q 18 (.br 19 true (.q 20 .done) .stop)) .stop))))) (.br 17 true (.br 12 true (.q 13 (.q 14 (.q 15 (.q 16 (.q 18 (.br 19 true (.q 20 .done) .stop)))))) .stop) .stop)) (.br 17 true (.br 11 true (.br 12 true (.q 13 (.q 14 (.q 15 (.q 16 (.q 18 (.br 19 true (.q 20 .done) .stop)))))) .stop) .stop) .stop))))))))))))) Try.mixed rfl (by kernel_rfl) ?_
                refine XT.q rfl rfl (Q.ldA [_, _, _, _] rfl rfl rfl) ?_
                refine XT.q rfl rfl (Q.fieldAddr rfl) ?_
                refine XT.q rfl rfl (Q.ld rfl rfl) ?_
                refine XT.q rfl rfl (Q.move rfl) ?_
                refine XT.q rfl rfl (Q.cut (i := 0) (j := n) rfl .n (.s rfl (by omega)) (by omega) (by omega)) ?_
                refine XT.q rfl rfl (Q.build [_, _] (.c 0 1 rfl rfl rfl (.n _))) ?_
                refine XT.q rfl rfl (Q.fieldAddr rfl) ?_
                refine XT.q rfl rfl (Q.ld rfl rfl) ?_
                refine XT.q rfl rfl (Q.move rfl) ?_
                refine XT.q rfl rfl (Q.cut (i := n) (j := u.values.length) rfl (.s rfl (by omega)) .n (by omega) (by omega)) ?_
                refine XT.q rfl rfl (Q.build [_, _] (.c 0 1 rfl rfl rfl (.n _))) ?_
                refine XT.lit [_, _, _, _] [_, _, _, _] [(cutv vu 1 0 n, useTake u n), (cutv vu 1 n u.values.length, useDrop u n)] encUse rfl rfl (by rfl) (by rfl) rfl (by rfl) (by exact .c 0 2 rfl rfl rfl (.c 2 2 rfl rfl rfl (.n _))) (fun _ => rfl) (by rfl) rfl (by infer_instance) rfl (fun v202 h202 O202 => ⟨inferInstance, ?_⟩) ?_
                have aL : ∀ i, i < ([(cutv vu 1 0 n, useTake u n), (cutv vu 1 n u.values.length, useDrop u n)] : List (Value × MUse)).length → Arr (([(cutv vu 1 0 n, useTake u n), (cutv vu 1 n u.values.length, useDrop u n)] : List (Value × MUse)).getD i default).1 encI 1 ku (([(cutv vu 1 0 n, useTake u n), (cutv vu 1 n u.values.length, useDrop u n)] : List (Value × MUse)).getD i default).2.values := fun i hi => by
                    match i, hi with
                    | 0, _ => exact C1
                    | 1, _ => exact C2
                · skip
                  refine XT.call rfl rfl Try.call12 rfl rfl rfl (Total_spec t vp vt kp kt [(cutv vu 1 0 n, useTake u n), (cutv vu 1 n u.values.length, useDrop u n)] v202 h202 ku aL) (fun v203 s203 R203 => ?_) ?_
                  · skip
                    obtain ⟨x203, y203, rfl, rfl, A203⟩ := R203
                    dsimp only [List.cons_append, List.nil_append]
                    refine ⟨inferInstance, ?_⟩
                    rw [show ([(cutv vu 1 0 n, useTake u n), (cutv vu 1 n u.values.length, useDrop u n)] : List (Value × MUse)).map Prod.snd = [useTake u n, useDrop u n] from rfl, total_two tk (useTake_ok uk n) (useDrop_ok uk n)] at A203 ⊢
                    dsimp only at A203 ⊢
                    refine XT.q rfl rfl (Q.move rfl) ?_
                    refine XT.q rfl rfl (Q.extract rfl rfl) ?_
                    refine XT.q rfl rfl (Q.extract rfl rfl) ?_
                    refine XT.q rfl rfl (Q.extract rfl rfl) ?_
                    refine XT.alloc rfl rfl (fun b31 => ⟨inferInstance, ?_⟩) XT.stop
                    refine XT.q rfl rfl (Q.assign rfl) ?_
                    refine XT.st rfl rfl rfl rfl rfl ⟨inferInstance, ?_⟩ XT.stop
                    refine XT.q rfl rfl (Q.assign rfl) ?_
                    refine XT.done ?_
                    exact mtr28 ((b31, x203, y203, billL t (useTake u n), billL t (useDrop u n))) _ _ ⟨A203, rfl, rfl⟩ (.c rfl (.c rfl (.c rfl (.base 20 rfl rfl)))) inferInstance
                  · skip
                    refine XT.alloc rfl rfl (fun b31 => ⟨inferInstance, ?_⟩) XT.stop
                    refine XT.call rfl rfl Try.call12 rfl rfl rfl (Total_spec t vp vt kp kt [(cutv vu 1 0 n, useTake u n), (cutv vu 1 n u.values.length, useDrop u n)] v202 h202 ku aL) (fun v203 s203 R203 => ?_) XT.stop
                    obtain ⟨x203, y203, rfl, rfl, A203⟩ := R203
                    dsimp only [List.cons_append, List.nil_append]
                    refine ⟨inferInstance, ?_⟩
                    rw [show ([(cutv vu 1 0 n, useTake u n), (cutv vu 1 n u.values.length, useDrop u n)] : List (Value × MUse)).map Prod.snd = [useTake u n, useDrop u n] from rfl, total_two tk (useTake_ok uk n) (useDrop_ok uk n)] at A203 ⊢
                    dsimp only at A203 ⊢
                    refine XT.q rfl rfl (Q.move rfl) ?_
                    refine XT.q rfl rfl (Q.extract rfl rfl) ?_
                    refine XT.q rfl rfl (Q.extract rfl rfl) ?_
                    refine XT.q rfl rfl (Q.extract rfl rfl) ?_
                    refine XT.q rfl rfl (Q.assign rfl) ?_
                    refine XT.st rfl rfl rfl rfl rfl ⟨inferInstance, ?_⟩ XT.stop
                    refine XT.q rfl rfl (Q.assign rfl) ?_
                    refine XT.done ?_
                    exact mtr28 ((b31, x203, y203, billL t (useTake u n), billL t (useDrop u n))) _ _ ⟨A203, rfl, rfl⟩ (.c rfl (.c rfl (.c rfl (.base 20 rfl rfl)))) inferInstance
                · skip
                  refine XT.alloc rfl rfl (fun b31 => ⟨inferInstance, ?_⟩) XT.stop
                  refine XT.lit [_, _, _, _] [_, _, _, _] [(cutv vu 1 0 n, useTake u n), (cutv vu 1 n u.values.length, useDrop u n)] encUse rfl rfl (by rfl) (by rfl) rfl (by rfl) (by exact .c 0 2 rfl rfl rfl (.c 2 2 rfl rfl rfl (.n _))) (fun _ => rfl) (by rfl) rfl (by infer_instance) rfl (fun v202 h202 O202 => ⟨inferInstance, ?_⟩) XT.stop
                  have aL : ∀ i, i < ([(cutv vu 1 0 n, useTake u n), (cutv vu 1 n u.values.length, useDrop u n)] : List (Value × MUse)).length → Arr (([(cutv vu 1 0 n, useTake u n), (cutv vu 1 n u.values.length, useDrop u n)] : List (Value × MUse)).getD i default).1 encI 1 ku (([(cutv vu 1 0 n, useTake u n), (cutv vu 1 n u.values.length, useDrop u n)] : List (Value × MUse)).getD i default).2.values := fun i hi => by
                      match i, hi with
                      | 0, _ => exact C1
                      | 1, _ => exact C2
                  refine XT.call rfl rfl Try.call12 rfl rfl rfl (Total_spec t vp vt kp kt [(cutv vu 1 0 n, useTake u n), (cutv vu 1 n u.values.length, useDrop u n)] v202 h202 ku aL) (fun v203 s203 R203 => ?_) XT.stop
                  obtain ⟨x203, y203, rfl, rfl, A203⟩ := R203
                  dsimp only [List.cons_append, List.nil_append]
                  refine ⟨inferInstance, ?_⟩
                  rw [show ([(cutv vu 1 0 n, useTake u n), (cutv vu 1 n u.values.length, useDrop u n)] : List (Value × MUse)).map Prod.snd = [useTake u n, useDrop u n] from rfl, total_two tk (useTake_ok uk n) (useDrop_ok uk n)] at A203 ⊢
                  dsimp only at A203 ⊢
                  refine XT.q rfl rfl (Q.move rfl) ?_
                  refine XT.q rfl rfl (Q.extract rfl rfl) ?_
                  refine XT.q rfl rfl (Q.extract rfl rfl) ?_
                  refine XT.q rfl rfl (Q.extract rfl rfl) ?_
                  refine XT.q rfl rfl (Q.assign rfl) ?_
                  refine XT.st rfl rfl rfl rfl rfl ⟨inferInstance, ?_⟩ XT.stop
                  refine XT.q rfl rfl (Q.assign rfl) ?_
                  refine XT.done ?_
                  exact mtr28 ((b31, x203, y203, billL t (useTake u n), billL t (useDrop u n))) _ _ ⟨A203, rfl, rfl⟩ (.c rfl (.c rfl (.c rfl (.base 20 rfl rfl)))) inferInstance
      · intro mtr14
        dsimp only [List.cons_append, List.nil_append] at mtr14
        refine XK.region rfl ?_
        refine XO.q (Q.move rfl) ?_
        refine XO.q (Q.conv rfl) ?_
        rw [wrap64_of ⟨by omega, by omega⟩]
        refine XO.q (Q.rem rfl rfl (by omega) (by omega)) ?_
        rw [show ((ou : Int) % 50001) = ((ou % 50001 : Nat) : Int) from rfl]
        refine XO.q (Q.build [_, _] (.c 1 1 rfl rfl rfl (.n _))) ?_
        refine XO.alloc fun b22 => ?_
        refine XO.st rfl rfl rfl ?_
        refine XO.done ?_
        exact mtr14 ((⟨p, (base : Nat), ts, ((cr % 101 : Nat) : Int)⟩, vp, vt, kp, kt, b22)) _ _ ⟨so.ok hk8 (by omega) hpr (by omega) (by omega), OP, OT⟩ (.c rfl (.base 5 rfl rfl)) inferInstance
end Go.X
