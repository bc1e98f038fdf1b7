/- A part of the proof: a small program logic, plain laws and contracts of functions, each proved by a walk through its operations. No condition but those that stand in each theorem. -/
import Derived.Test.YtfenlpoaphbfgaaA3
set_option linter.unusedSimpArgs false
set_option linter.unusedVariables false
set_option maxRecDepth 20000
namespace Go.X.Ht
open Go.Proofs
def encRoom (x : HRoom) : List Value := [.int .i64 x.store, .int .i64 x.limit]
def encWall (x : HWall) : List Value := [.int .i64 x.a, .int .i64 x.b, .int .i64 x.pass]
def encBranch (x : HBranch) : List Value := [.int .i64 x.up, .int .i64 x.opn, .int .i64 x.leak]
def encCooler (x : HCooler) : List Value := [.int .i64 x.room, .int .i64 x.br, .int .i64 x.gain, .int .i64 x.carry, .int .i64 x.supply]
theorem okRoom_iff {x : HRoom} : okRoom x = true ↔ ¬ ((x.store < 1 ∨ 1000000 < x.store) ∨ ¬ inP x.limit 1000000 = true) := by
  simp only [okRoom, Bool.and_eq_true, decide_eq_true_eq, not_or, Classical.not_not]
  constructor <;> rintro ⟨⟨a, b⟩, c⟩ <;> exact ⟨⟨by omega, by omega⟩, c⟩
theorem okWall_iff {n : Nat} {x : HWall} : okWall n x = true ↔ ¬ (((¬ ixP x.a n = true ∨ x.b ≠ -1 ∧ ¬ ixP x.b n = true) ∨ x.a = x.b) ∨ ¬ inP x.pass 100000 = true) := by
  simp only [okWall, Bool.and_eq_true, Bool.or_eq_true, decide_eq_true_eq, not_or, Classical.not_not, not_and]
  constructor
  · rintro ⟨⟨⟨a, b⟩, c⟩, d⟩
    exact ⟨⟨⟨a, fun h => b.resolve_left h⟩, c⟩, d⟩
  · rintro ⟨⟨⟨a, b⟩, c⟩, d⟩
    exact ⟨⟨⟨a, if h : x.b = -1 then .inl h else .inr (b h)⟩, c⟩, d⟩
theorem okBranch_iff {i : Nat} {x : HBranch} : okBranch i x = true ↔ ¬ ((((i : Int) = 0 ∧ x.up ≠ -1 ∨ (0 : Int) < i ∧ ¬ ixP x.up i = true) ∨ ¬ inP x.opn 100 = true) ∨ ¬ inP x.leak 100000 = true) := by
  unfold okBranch
  by_cases h : i = 0
  · subst h; simp [and_assoc]
  · have h1 : ¬ (i : Int) = 0 := by omega
    have h2 : (0 : Int) < i := by omega
    have h3 : 0 < i := by omega
    simp [h, h2, h3, and_assoc]
theorem okCooler_iff {n m : Nat} {x : HCooler} : okCooler n m x = true ↔ ¬ ((((¬ ixP x.room n = true ∨ ¬ ixP x.br m = true) ∨ ¬ inP x.gain 100000 = true) ∨ ¬ inP x.carry 1000 = true) ∨ ¬ inP x.supply 1000000 = true) := by
  simp only [okCooler, Bool.and_eq_true, not_or, Classical.not_not]
theorem in_spec (n m : Int) : Spec Try.prog 78 #[.int .i64 n, .int .i64 m] [] [] (fun v hs => v = .bool (inP n m) ∧ hs = []) := by
  refine Spec.intro (fn := Try.f78) (N := 12) Try.func78 rfl Try.ntmps78 rfl fun B => ?_
  refine XK.seq ?_
  refine XK.region rfl ?_
  refine XO.q (Q.assign rfl) ?_
  refine XO.done ?_
  refine XK.seq ?_
  refine XK.region rfl ?_
  refine XO.q (Q.move rfl) ?_
  refine XO.q (Q.geq rfl rfl) ?_
  refine XO.q (Q.move rfl) ?_
  refine XO.q (Quiet.guardT rfl rfl fun g8 p8 => Q.move rfl) ?_
  refine XO.q (Quiet.guardT rfl rfl fun g9 p9 => Q.move rfl) ?_
  refine XO.q (Quiet.guardT rfl rfl fun g10 p10 => Q.leq (lzv g10 rfl) (lzv g10 rfl)) ?_
  refine XO.q (Q.and rfl (fun hp => lzv hp rfl)) ?_
  refine XO.q (Q.assign rfl) ?_
  refine XO.done ?_
  refine XK.rt [] Try.func78 Try.results78 (.t rfl .n) ?_
  exact ⟨rfl, rfl⟩
theorem indexRoom (n : Int) (v : Value) (hh : PHeap) (xs : List HRoom) [s : Arr v encRoom 2 hh xs] : Spec Try.prog 103 #[.int .i64 n, v] [] [hh] (fun v hs => v = .bool (ixP n xs.length) ∧ hs = []) := by
  refine Spec.intro (fn := Try.f103) (N := 13) Try.func103 rfl Try.ntmps103 rfl fun B => ?_
  refine XK.seq ?_
  refine XK.region rfl ?_
  refine XO.q (Q.assign rfl) ?_
  refine XO.done ?_
  refine XK.seq ?_
  refine XK.region rfl ?_
  refine XO.q (Q.move rfl) ?_
  refine XO.q (Q.geq rfl rfl) ?_
  refine XO.q (Q.move rfl) ?_
  refine XO.q (Quiet.guardT rfl rfl fun g8 p8 => Q.move rfl) ?_
  refine XO.q (Quiet.guardT rfl rfl fun g9 p9 => Q.move rfl) ?_
  refine XO.q (Quiet.guardT rfl rfl fun g10 p10 => Q.len (lzv g10 rfl)) ?_
  refine XO.q (Quiet.guardT rfl rfl fun g11 p11 => Q.lss (lzv g11 rfl) (lzv g11 rfl)) ?_
  refine XO.q (Q.and rfl (fun hp => lzv hp rfl)) ?_
  refine XO.q (Q.assign rfl) ?_
  refine XO.done ?_
  refine XK.rt [] Try.func103 Try.results103 (.t rfl .n) ?_
  exact ⟨rfl, rfl⟩
theorem indexBranch (n : Int) (v : Value) (hh : PHeap) (xs : List HBranch) [s : Arr v encBranch 3 hh xs] : Spec Try.prog 104 #[.int .i64 n, v] [] [hh] (fun v hs => v = .bool (ixP n xs.length) ∧ hs = []) := by
  refine Spec.intro (fn := Try.f104) (N := 13) Try.func104 rfl Try.ntmps104 rfl fun B => ?_
  refine XK.seq ?_
  refine XK.region rfl ?_
  refine XO.q (Q.assign rfl) ?_
  refine XO.done ?_
  refine XK.seq ?_
  refine XK.region rfl ?_
  refine XO.q (Q.move rfl) ?_
  refine XO.q (Q.geq rfl rfl) ?_
  refine XO.q (Q.move rfl) ?_
  refine XO.q (Quiet.guardT rfl rfl fun g8 p8 => Q.move rfl) ?_
  refine XO.q (Quiet.guardT rfl rfl fun g9 p9 => Q.move rfl) ?_
  refine XO.q (Quiet.guardT rfl rfl fun g10 p10 => Q.len (lzv g10 rfl)) ?_
  refine XO.q (Quiet.guardT rfl rfl fun g11 p11 => Q.lss (lzv g11 rfl) (lzv g11 rfl)) ?_
  refine XO.q (Q.and rfl (fun hp => lzv hp rfl)) ?_
  refine XO.q (Q.assign rfl) ?_
  refine XO.done ?_
  refine XK.rt [] Try.func104 Try.results104 (.t rfl .n) ?_
  exact ⟨rfl, rfl⟩
theorem indexCut (n : Int) (v : Value) (hh : PHeap) (xs : List HBranch) [s : Arr v encBranch 3 hh xs] (i : Nat) (hi : i ≤ xs.length) : Spec Try.prog 104 #[.int .i64 n, cutv v 3 0 i] [] [hh] (fun v hs => v = .bool (ixP n i) ∧ hs = []) := by
  haveI := Arr.cut s (i := 0) (j := i) (by omega) hi
  have h := indexBranch n (cutv v 3 0 i) hh ((xs.drop 0).take (i - 0))
  rwa [List.drop_zero, Nat.sub_zero, List.length_take, Nat.min_eq_left hi] at h
theorem allowed_spec (h : Hall) (vr vw vb vc : Value) (hr hw hb hc : PHeap) [ir : Arr vr encRoom 2 hr h.rooms] [iw : Arr vw encWall 3 hw h.walls] [ib : Arr vb encBranch 3 hb h.branches] [ic : Arr vc encCooler 5 hc h.coolers] : Spec Try.prog 95 #[.agg #[vr, vw, vb, vc]] [] [hr, hw, hb, hc] (fun v hs => v = .bool (allowedP h) ∧ hs = []) := by
  have lr := ir.le
  have lw := iw.le
  have lb := ib.le
  have lc := ic.le
  refine Spec.intro (fn := Try.f95) (N := 155) Try.func95 rfl Try.ntmps95 rfl fun B => ?_
  refine XK.seq ?_
  refine XK.region rfl ?_
  refine XO.box rfl fun b1 => ?_
  refine XO.q (Q.assign rfl) ?_
  refine XO.done ?_
  refine XK.seq ?_
  refine XK.seq ?_
  refine XK.region rfl ?_
  refine XO.q (Q.fieldAddr rfl) ?_
  refine XO.q (Q.ld rfl rfl) ?_
  refine XO.len rfl fun l13 => ?_
  refine XO.q (Q.move rfl) ?_
  refine XO.done ?_
  refine XK.block ?_
  refine XK.while (X := Nat) [2, 4, 14, 15, 16, 17, 18, 19, 20, 21, 22, 23, 24, 25, 26, 27, 28, 29, 30, 31, 32] (fun i => [(14, some (.int .i64 (i : Nat)))]) (fun i => []) (fun i => i ≤ h.rooms.length ∧ roomsOk h i = true) (fun i => h.rooms.length - i) (0) [] rfl ⟨by omega, rfl⟩ (.c rfl (.base 0 rfl rfl)) ?_
  rintro i ⟨hi, hall⟩ ih0
  dsimp only [List.cons_append, List.nil_append] at ih0 ⊢
  refine XK.seq ?_
  refine XK.region rfl ?_
  refine XO.q (Q.lss rfl rfl) ?_
  refine XO.done ?_
  refine XK.seq ?_
  refine XK.if rfl (fun c0 => ?_) (fun c0 => ?_)
  · have _t0 := True.intro
    refine XK.skip ?_
    refine XK.seq ?_
    refine XK.block ?_
    refine XK.seq ?_
    refine XK.region rfl ?_
    refine XO.ix rfl rfl (by omega) (by omega) fun i16 => ?_
    refine XO.q (Q.ldEA [_, _] rfl (by first | assumption | omega) rfl rfl) ?_
    refine XO.alloc fun b4 => ?_
    refine XO.st rfl rfl rfl ?_
    refine XO.done ?_
    refine XK.seq ?_
    refine XK.region rfl ?_
    refine XO.q (Q.fieldAddr rfl) ?_
    refine XO.q (Q.ld rfl rfl) ?_
    refine XO.q (Q.lss rfl rfl) ?_
    refine XO.q (Q.move rfl) ?_
    refine XO.q (Quiet.guardF rfl rfl fun g22 p22 => Q.fieldAddr rfl) ?_
    refine XO.q (Quiet.guardF rfl rfl fun g23 p23 => Q.ld (lzv g23 rfl) rfl) ?_
    refine XO.q (Quiet.guardF rfl rfl fun g24 p24 => Q.gtr (lzv g24 rfl) rfl) ?_
    refine XO.q (Q.or rfl (fun hp => lzv hp rfl)) ?_
    refine XO.q (Q.move rfl) ?_
    refine XO.q (Quiet.guardF rfl rfl fun g27 p27 => Q.fieldAddr rfl) ?_
    refine XO.q (Quiet.guardF rfl rfl fun g28 p28 => Q.ld (lzv g28 rfl) rfl) ?_
    refine XO.gcallF rfl rfl Try.call78 rfl (fun g29 => .c (lzv g29 rfl) (.c rfl .n)) rfl (fun g29 p29 => in_spec _ _) ?_
    refine XO.q (Quiet.guardF rfl rfl fun g30 p30 => Q.not (lzv g30 rfl)) ?_
    refine XO.q (Q.or rfl (fun hp => lzv hp rfl)) ?_
    refine XO.done ?_
    refine XK.if rfl (fun c1 => ?_) (fun c1 => ?_)
    · have _t1 := True.intro
      refine XK.seq ?_
      refine XK.region rfl ?_
      refine XO.q (Q.assign rfl) ?_
      refine XO.done ?_
      refine XK.rt [] Try.func95 Try.results95 (.t rfl .n) ?_
      have hb : roomsOk h h.rooms.length = false := allTo_false (s := i) (by omega) (by rw [Bool.eq_false_iff]; intro h; exact (okRoom_iff.1 h) c1)
      exact ⟨by simp [allowedP, hb], rfl⟩
    · have _t1 := True.intro
      refine XK.skip ?_
      refine XK.inBlock ?_
      refine XK.region rfl ?_
      refine XO.q (Q.add rfl rfl ⟨by omega, by omega⟩) ?_
      refine XO.q (Q.move rfl) ?_
      refine XO.done ?_
      exact ih0 (i + 1) _ _ ⟨by omega, by rw [roomsOk, allTo_succ]; rw [roomsOk] at hall; rw [hall, Bool.true_and]; exact okRoom_iff.2 c1⟩ (by first | omega | (dsimp only; omega)) (.c rfl (.base 42 rfl rfl)) inferInstance
  · have _t0 := True.intro
    have e1 : roomsOk h h.rooms.length = true := by rw [show h.rooms.length = i by omega]; exact hall
    clear ih0 hall hi c0
    refine XK.exit rfl ?_
    refine XK.seq ?_
    refine XK.seq ?_
    refine XK.region rfl ?_
    refine XO.q (Q.fieldAddr rfl) ?_
    refine XO.q (Q.ld rfl rfl) ?_
    refine XO.len rfl fun l35 => ?_
    refine XO.q (Q.move rfl) ?_
    refine XO.done ?_
    refine XK.block ?_
    refine XK.while (X := Nat) [2, 6, 36, 37, 38, 39, 40, 41, 42, 43, 44, 45, 46, 47, 48, 49, 50, 51, 52, 53, 54, 55, 56, 57, 58, 59, 60, 61, 62, 63, 64, 65, 66, 67, 68, 69, 70, 71, 72] (fun i => [(36, some (.int .i64 (i : Nat)))]) (fun i => []) (fun i => i ≤ h.walls.length ∧ wallsOk h i = true) (fun i => h.walls.length - i) (0) [] rfl ⟨by omega, rfl⟩ (.c rfl (.base 0 rfl rfl)) ?_
    rintro i ⟨hi, hall⟩ ih1
    dsimp only [List.cons_append, List.nil_append] at ih1 ⊢
    refine XK.seq ?_
    refine XK.region rfl ?_
    refine XO.q (Q.lss rfl rfl) ?_
    refine XO.done ?_
    refine XK.seq ?_
    refine XK.if rfl (fun c2 => ?_) (fun c2 => ?_)
    · have _t2 := True.intro
      refine XK.skip ?_
      refine XK.seq ?_
      refine XK.block ?_
      refine XK.seq ?_
      refine XK.region rfl ?_
      refine XO.ix rfl rfl (by omega) (by omega) fun i38 => ?_
      refine XO.q (Q.ldEA [_, _, _] rfl (by first | assumption | omega) rfl rfl) ?_
      refine XO.alloc fun b6 => ?_
      refine XO.st rfl rfl rfl ?_
      refine XO.done ?_
      refine XK.seq ?_
      refine XK.region rfl ?_
      refine XO.q (Q.fieldAddr rfl) ?_
      refine XO.q (Q.ld rfl rfl) ?_
      refine XO.q (Q.fieldAddr rfl) ?_
      refine XO.q (Q.ld rfl rfl) ?_
      refine XO.call Try.call103 rfl rfl rfl (indexRoom _ vr hr h.rooms) fun v44 s44 R44 => ?_
      obtain ⟨rfl, rfl⟩ := R44
      dsimp only [List.cons_append, List.nil_append]
      refine XO.q (Q.not rfl) ?_
      refine XO.q (Q.move rfl) ?_
      refine XO.q (Quiet.guardF rfl rfl fun g47 p47 => Q.fieldAddr rfl) ?_
      refine XO.q (Quiet.guardF rfl rfl fun g48 p48 => Q.ld (lzv g48 rfl) rfl) ?_
      refine XO.q (Quiet.guardF rfl rfl fun g49 p49 => Q.neq (lzv g49 rfl) rfl) ?_
      refine XO.q (Quiet.guardF rfl rfl fun g50 p50 => Q.move (lzv g50 rfl)) ?_
      refine XO.q (Quiet.guard2 rfl rfl fun g51a g51b => have p51a := bpF g51a; have p51b := bpT g51b; Q.fieldAddr rfl) ?_
      refine XO.q (Quiet.guard2 rfl rfl fun g52a g52b => have p52a := bpF g52a; have p52b := bpT g52b; Q.ld (lzv g52b (lzv g52a rfl)) rfl) ?_
      refine XO.q (Quiet.guard2 rfl rfl fun g53a g53b => have p53a := bpF g53a; have p53b := bpT g53b; Q.fieldAddr rfl) ?_
      refine XO.q (Quiet.guard2 rfl rfl fun g54a g54b => have p54a := bpF g54a; have p54b := bpT g54b; Q.ld (lzv g54b (lzv g54a rfl)) rfl) ?_
      refine XO.vg2 rfl rfl (fun g55a g55b => rfl) (fun g55a g55b => .c (lzv g55b (lzv g55a rfl)) (.c (lzv g55b (lzv g55a rfl)) .n)) (fun g55a g55b => have p55a := bpF g55a; have p55b := bpT g55b; VSpec.fn (P := Try.prog) Try.call103 rfl (indexRoom _ vr hr h.rooms)) ?_
      refine XO.q (Quiet.guard2 rfl rfl fun g56a g56b => have p56a := bpF g56a; have p56b := bpT g56b; Q.not (lzv g56b (lzv g56a rfl))) ?_
      refine XO.q (Quiet.guardF rfl rfl fun g57 p57 => Q.and (lzv g57 rfl) (fun hp => (lzv hp (lzv g57 rfl)))) ?_
      refine XO.q (Q.or rfl (fun hp => lzv hp rfl)) ?_
      refine XO.q (Q.move rfl) ?_
      refine XO.q (Quiet.guardF rfl rfl fun g60 p60 => Q.fieldAddr rfl) ?_
      refine XO.q (Quiet.guardF rfl rfl fun g61 p61 => Q.ld (lzv g61 rfl) rfl) ?_
      refine XO.q (Quiet.guardF rfl rfl fun g62 p62 => Q.fieldAddr rfl) ?_
      refine XO.q (Quiet.guardF rfl rfl fun g63 p63 => Q.ld (lzv g63 rfl) rfl) ?_
      refine XO.q (Quiet.guardF rfl rfl fun g64 p64 => Q.eql (lzv g64 rfl) (lzv g64 rfl)) ?_
      refine XO.q (Q.or rfl (fun hp => lzv hp rfl)) ?_
      refine XO.q (Q.move rfl) ?_
      refine XO.q (Quiet.guardF rfl rfl fun g67 p67 => Q.fieldAddr rfl) ?_
      refine XO.q (Quiet.guardF rfl rfl fun g68 p68 => Q.ld (lzv g68 rfl) rfl) ?_
      refine XO.gcallF rfl rfl Try.call78 rfl (fun g69 => .c (lzv g69 rfl) (.c rfl .n)) rfl (fun g69 p69 => in_spec _ _) ?_
      refine XO.q (Quiet.guardF rfl rfl fun g70 p70 => Q.not (lzv g70 rfl)) ?_
      refine XO.q (Q.or rfl (fun hp => lzv hp rfl)) ?_
      refine XO.done ?_
      refine XK.if rfl (fun c3 => ?_) (fun c3 => ?_)
      · have _t3 := True.intro
        refine XK.seq ?_
        refine XK.region rfl ?_
        refine XO.q (Q.assign rfl) ?_
        refine XO.done ?_
        refine XK.rt [] Try.func95 Try.results95 (.t rfl .n) ?_
        have hb : wallsOk h h.walls.length = false := allTo_false (s := i) (by omega) (by rw [Bool.eq_false_iff]; intro h; exact (okWall_iff.1 h) c3)
        exact ⟨by simp [allowedP, hb], rfl⟩
      · have _t3 := True.intro
        refine XK.skip ?_
        refine XK.inBlock ?_
        refine XK.region rfl ?_
        refine XO.q (Q.add rfl rfl ⟨by omega, by omega⟩) ?_
        refine XO.q (Q.move rfl) ?_
        refine XO.done ?_
        exact ih1 (i + 1) _ _ ⟨by omega, by rw [wallsOk, allTo_succ]; rw [wallsOk] at hall; rw [hall, Bool.true_and]; exact okWall_iff.2 c3⟩ (by first | omega | (dsimp only; omega)) (.c rfl (.base 78 rfl rfl)) inferInstance
    · have _t2 := True.intro
      have e2 : wallsOk h h.walls.length = true := by rw [show h.walls.length = i by omega]; exact hall
      clear ih1 hall hi c2
      refine XK.exit rfl ?_
      refine XK.seq ?_
      refine XK.seq ?_
      refine XK.region rfl ?_
      refine XO.q (Q.fieldAddr rfl) ?_
      refine XO.q (Q.ld rfl rfl) ?_
      refine XO.len rfl fun l75 => ?_
      refine XO.q (Q.move rfl) ?_
      refine XO.done ?_
      refine XK.block ?_
      refine XK.while (X := Nat) [2, 7, 8, 76, 77, 78, 79, 80, 81, 82, 83, 84, 85, 86, 87, 88, 89, 90, 91, 92, 93, 94, 95, 96, 97, 98, 99, 100, 101, 102, 103, 104, 105, 106, 107, 108, 109, 110, 111, 112, 113, 114] (fun i => [(76, some (.int .i64 (i : Nat)))]) (fun i => []) (fun i => i ≤ h.branches.length ∧ branchesOk h i = true) (fun i => h.branches.length - i) (0) [] rfl ⟨by omega, rfl⟩ (.c rfl (.base 0 rfl rfl)) ?_
      rintro i ⟨hi, hall⟩ ih2
      dsimp only [List.cons_append, List.nil_append] at ih2 ⊢
      refine XK.seq ?_
      refine XK.region rfl ?_
      refine XO.q (Q.lss rfl rfl) ?_
      refine XO.done ?_
      refine XK.seq ?_
      refine XK.if rfl (fun c4 => ?_) (fun c4 => ?_)
      · have _t4 := True.intro
        refine XK.skip ?_
        refine XK.seq ?_
        refine XK.block ?_
        refine XK.seq ?_
        refine XK.region rfl ?_
        refine XO.q (Q.move rfl) ?_
        refine XO.ix rfl rfl (by omega) (by omega) fun i79 => ?_
        refine XO.q (Q.ldEA [_, _, _] rfl (by first | assumption | omega) rfl rfl) ?_
        refine XO.alloc fun b8 => ?_
        refine XO.q (Q.assign rfl) ?_
        refine XO.st rfl rfl rfl ?_
        refine XO.done ?_
        refine XK.seq ?_
        refine XK.drawn [0, 1, 2, 3, 4, 5, 6, 7, 8, 9, 10, 11, 12, 13, 14, 15, 16, 18, 19, 20, 21, 22, 23, 25, 26, 27, 28, 29, 31, 32] [b8, b1] [] (.q 0 (.q 1 (.q 2 (.q 3 (.q 4 (.q 5 (.q 6 (.q 7 (.q 8 (.q 9 (.q 10 (.q 11 (.q 12 (.q 13 (.q 14 (.q 15 (.q 16 (.br 17 true (.q 18 (.q 19 (.q 20 (.q 21 (.q 22 (.q 23 (.br 24 true (.q 25 (.q 26 (.q 27 (.q 28 (.q 29 (.br 30 true (.q 31 (.q 32 .done)) .stop)))))) .stop))))))) .stop)))))))))))))))))) Try.mixed rfl (by kernel_rfl) ?_
        refine XT.q rfl rfl (Q.move rfl) ?_
        refine XT.q rfl rfl (Q.eql rfl rfl) ?_
        refine XT.q rfl rfl (Q.move rfl) ?_
        refine XT.q rfl rfl (Quiet.guardT rfl rfl fun g84 p84 => Q.fieldAddr rfl) ?_
        refine XT.q rfl rfl (Quiet.guardT rfl rfl fun g85 p85 => Q.ld (lzv g85 rfl) rfl) ?_
        refine XT.q rfl rfl (Quiet.guardT rfl rfl fun g86 p86 => Q.neq (lzv g86 rfl) rfl) ?_
        refine XT.q rfl rfl (Q.and rfl (fun hp => lzv hp rfl)) ?_
        refine XT.q rfl rfl (Q.move rfl) ?_
        refine XT.q rfl rfl (Quiet.guardF rfl rfl fun g89 p89 => Q.move rfl) ?_
        refine XT.q rfl rfl (Quiet.guardF rfl rfl fun g90 p90 => Q.gtr (lzv g90 rfl) rfl) ?_
        refine XT.q rfl rfl (Quiet.guardF rfl rfl fun g91 p91 => Q.move (lzv g91 rfl)) ?_
        refine XT.q rfl rfl (Quiet.guard2 rfl rfl fun g92a g92b => have p92a := bpF g92a; have p92b := bpT g92b; Q.fieldAddr rfl) ?_
        refine XT.q rfl rfl (Quiet.guard2 rfl rfl fun g93a g93b => have p93a := bpF g93a; have p93b := bpT g93b; Q.ld (lzv g93b (lzv g93a rfl)) rfl) ?_
        refine XT.q rfl rfl (Quiet.guard2 rfl rfl fun g94a g94b => have p94a := bpF g94a; have p94b := bpT g94b; Q.fieldAddr rfl) ?_
        refine XT.q rfl rfl (Quiet.guard2 rfl rfl fun g95a g95b => have p95a := bpF g95a; have p95b := bpT g95b; Q.ld (lzv g95b (lzv g95a rfl)) rfl) ?_
        refine XT.q rfl rfl (Quiet.guard2 rfl rfl fun g96a g96b => have p96a := bpF g96a; have p96b := bpT g96b; Q.move rfl) ?_
        refine XT.q rfl rfl (Quiet.guard2 rfl rfl fun g97a g97b => have p97a := bpF g97a; have p97b := bpT g97b; Q.cut (i := 0) (j := i) (lzv g97b (lzv g97a rfl)) .n (.s (lzv g97b (lzv g97a rfl)) (by omega)) (by omega) (by omega)) ?_
        refine XT.vg2 rfl rfl rfl rfl (fun g98a g98b => rfl) (fun g98a g98b => .c (lzv g98b (lzv g98a rfl)) (.c (lzv g98b (lzv g98a rfl)) .n)) (fun g98a g98b => have p98a := bpF g98a; have p98b := bpT g98b; VSpec.fn (P := Try.prog) Try.call104 rfl (indexCut _ vb hb h.branches i (by omega))) ⟨inferInstance, ?_⟩ XT.stop
        refine XT.q rfl rfl (Quiet.guard2 rfl rfl fun g99a g99b => have p99a := bpF g99a; have p99b := bpT g99b; Q.not (lzv g99b (lzv g99a rfl))) ?_
        refine XT.q rfl rfl (Quiet.guardF rfl rfl fun g100 p100 => Q.and (lzv g100 rfl) (fun hp => (lzv hp (lzv g100 rfl)))) ?_
        refine XT.q rfl rfl (Q.or rfl (fun hp => lzv hp rfl)) ?_
        refine XT.q rfl rfl (Q.move rfl) ?_
        refine XT.q rfl rfl (Quiet.guardF rfl rfl fun g103 p103 => Q.fieldAddr rfl) ?_
        refine XT.q rfl rfl (Quiet.guardF rfl rfl fun g104 p104 => Q.ld (lzv g104 rfl) rfl) ?_
        refine XT.gcallF rfl rfl rfl rfl Try.call78 rfl (fun g105 => .c (lzv g105 rfl) (.c rfl .n)) rfl (fun g105 p105 => in_spec _ _) ⟨inferInstance, ?_⟩ XT.stop
        refine XT.q rfl rfl (Quiet.guardF rfl rfl fun g106 p106 => Q.not (lzv g106 rfl)) ?_
        refine XT.q rfl rfl (Q.or rfl (fun hp => lzv hp rfl)) ?_
        refine XT.q rfl rfl (Q.move rfl) ?_
        refine XT.q rfl rfl (Quiet.guardF rfl rfl fun g109 p109 => Q.fieldAddr rfl) ?_
        refine XT.q rfl rfl (Quiet.guardF rfl rfl fun g110 p110 => Q.ld (lzv g110 rfl) rfl) ?_
        refine XT.gcallF rfl rfl rfl rfl Try.call78 rfl (fun g111 => .c (lzv g111 rfl) (.c rfl .n)) rfl (fun g111 p111 => in_spec _ _) ⟨inferInstance, ?_⟩ XT.stop
        refine XT.q rfl rfl (Quiet.guardF rfl rfl fun g112 p112 => Q.not (lzv g112 rfl)) ?_
        refine XT.q rfl rfl (Q.or rfl (fun hp => lzv hp rfl)) ?_
        refine XT.done ?_
        refine XK.if rfl (fun c5 => ?_) (fun c5 => ?_)
        · have _t5 := True.intro
          refine XK.seq ?_
          refine XK.region rfl ?_
          refine XO.q (Q.assign rfl) ?_
          refine XO.done ?_
          refine XK.rt [] Try.func95 Try.results95 (.t rfl .n) ?_
          have hb : branchesOk h h.branches.length = false := allTo_false (s := i) (by omega) (by rw [Bool.eq_false_iff]; intro h; exact (okBranch_iff.1 h) c5)
          exact ⟨by simp [allowedP, hb], rfl⟩
        · have _t5 := True.intro
          refine XK.skip ?_
          refine XK.inBlock ?_
          refine XK.region rfl ?_
          refine XO.q (Q.add rfl rfl ⟨by omega, by omega⟩) ?_
          refine XO.q (Q.move rfl) ?_
          refine XO.done ?_
          exact ih2 (i + 1) _ _ ⟨by omega, by rw [branchesOk, allTo_succ]; rw [branchesOk] at hall; rw [hall, Bool.true_and]; exact okBranch_iff.2 c5⟩ (by first | omega | (dsimp only; omega)) (.c rfl (.base 84 rfl rfl)) inferInstance
      · have _t4 := True.intro
        have e3 : branchesOk h h.branches.length = true := by rw [show h.branches.length = i by omega]; exact hall
        clear ih2 hall hi c4
        refine XK.exit rfl ?_
        refine XK.seq ?_
        refine XK.seq ?_
        refine XK.region rfl ?_
        refine XO.q (Q.fieldAddr rfl) ?_
        refine XO.q (Q.ld rfl rfl) ?_
        refine XO.len rfl fun l117 => ?_
        refine XO.q (Q.move rfl) ?_
        refine XO.done ?_
        refine XK.block ?_
        refine XK.while (X := Nat) [2, 10, 118, 119, 120, 121, 122, 123, 124, 125, 126, 127, 128, 129, 130, 131, 132, 133, 134, 135, 136, 137, 138, 139, 140, 141, 142, 143, 144, 145, 146, 147, 148, 149, 150, 151, 152, 153, 154] (fun i => [(118, some (.int .i64 (i : Nat)))]) (fun i => []) (fun i => i ≤ h.coolers.length ∧ coolersOk h i = true) (fun i => h.coolers.length - i) (0) [] rfl ⟨by omega, rfl⟩ (.c rfl (.base 0 rfl rfl)) ?_
        rintro i ⟨hi, hall⟩ ih3
        dsimp only [List.cons_append, List.nil_append] at ih3 ⊢
        refine XK.seq ?_
        refine XK.region rfl ?_
        refine XO.q (Q.lss rfl rfl) ?_
        refine XO.done ?_
        refine XK.seq ?_
        refine XK.if rfl (fun c6 => ?_) (fun c6 => ?_)
        · have _t6 := True.intro
          refine XK.skip ?_
          refine XK.seq ?_
          refine XK.block ?_
          refine XK.seq ?_
          refine XK.region rfl ?_
          refine XO.ix rfl rfl (by omega) (by omega) fun i120 => ?_
          refine XO.q (Q.ldEA [_, _, _, _, _] rfl (by first | assumption | omega) rfl rfl) ?_
          refine XO.alloc fun b10 => ?_
          refine XO.st rfl rfl rfl ?_
          refine XO.done ?_
          refine XK.seq ?_
          refine XK.region rfl ?_
          refine XO.q (Q.fieldAddr rfl) ?_
          refine XO.q (Q.ld rfl rfl) ?_
          refine XO.q (Q.fieldAddr rfl) ?_
          refine XO.q (Q.ld rfl rfl) ?_
          refine XO.call Try.call103 rfl rfl rfl (indexRoom _ vr hr h.rooms) fun v126 s126 R126 => ?_
          obtain ⟨rfl, rfl⟩ := R126
          dsimp only [List.cons_append, List.nil_append]
          refine XO.q (Q.not rfl) ?_
          refine XO.q (Q.move rfl) ?_
          refine XO.q (Quiet.guardF rfl rfl fun g129 p129 => Q.fieldAddr rfl) ?_
          refine XO.q (Quiet.guardF rfl rfl fun g130 p130 => Q.ld (lzv g130 rfl) rfl) ?_
          refine XO.q (Quiet.guardF rfl rfl fun g131 p131 => Q.fieldAddr rfl) ?_
          refine XO.q (Quiet.guardF rfl rfl fun g132 p132 => Q.ld (lzv g132 rfl) rfl) ?_
          refine XO.gcallF rfl rfl Try.call104 rfl (fun g133 => .c (lzv g133 rfl) (.c (lzv g133 rfl) .n)) rfl (fun g133 p133 => indexBranch _ vb hb h.branches) ?_
          refine XO.q (Quiet.guardF rfl rfl fun g134 p134 => Q.not (lzv g134 rfl)) ?_
          refine XO.q (Q.or rfl (fun hp => lzv hp rfl)) ?_
          refine XO.q (Q.move rfl) ?_
          refine XO.q (Quiet.guardF rfl rfl fun g137 p137 => Q.fieldAddr rfl) ?_
          refine XO.q (Quiet.guardF rfl rfl fun g138 p138 => Q.ld (lzv g138 rfl) rfl) ?_
          refine XO.gcallF rfl rfl Try.call78 rfl (fun g139 => .c (lzv g139 rfl) (.c rfl .n)) rfl (fun g139 p139 => in_spec _ _) ?_
          refine XO.q (Quiet.guardF rfl rfl fun g140 p140 => Q.not (lzv g140 rfl)) ?_
          refine XO.q (Q.or rfl (fun hp => lzv hp rfl)) ?_
          refine XO.q (Q.move rfl) ?_
          refine XO.q (Quiet.guardF rfl rfl fun g143 p143 => Q.fieldAddr rfl) ?_
          refine XO.q (Quiet.guardF rfl rfl fun g144 p144 => Q.ld (lzv g144 rfl) rfl) ?_
          refine XO.gcallF rfl rfl Try.call78 rfl (fun g145 => .c (lzv g145 rfl) (.c rfl .n)) rfl (fun g145 p145 => in_spec _ _) ?_
          refine XO.q (Quiet.guardF rfl rfl fun g146 p146 => Q.not (lzv g146 rfl)) ?_
          refine XO.q (Q.or rfl (fun hp => lzv hp rfl)) ?_
          refine XO.q (Q.move rfl) ?_
          refine XO.q (Quiet.guardF rfl rfl fun g149 p149 => Q.fieldAddr rfl) ?_
          refine XO.q (Quiet.guardF rfl rfl fun g150 p150 => Q.ld (lzv g150 rfl) rfl) ?_
          refine XO.gcallF rfl rfl Try.call78 rfl (fun g151 => .c (lzv g151 rfl) (.c rfl .n)) rfl (fun g151 p151 => in_spec _ _) ?_
          refine XO.q (Quiet.guardF rfl rfl fun g152 p152 => Q.not (lzv g152 rfl)) ?_
          refine XO.q (Q.or rfl (fun hp => lzv hp rfl)) ?_
          refine XO.done ?_
          refine XK.if rfl (fun c7 => ?_) (fun c7 => ?_)
          · have _t7 := True.intro
            refine XK.seq ?_
            refine XK.region rfl ?_
            refine XO.q (Q.assign rfl) ?_
            refine XO.done ?_
            refine XK.rt [] Try.func95 Try.results95 (.t rfl .n) ?_
            have hb : coolersOk h h.coolers.length = false := allTo_false (s := i) (by omega) (by rw [Bool.eq_false_iff]; intro h; exact (okCooler_iff.1 h) c7)
            exact ⟨by simp [allowedP, hb], rfl⟩
          · have _t7 := True.intro
            refine XK.skip ?_
            refine XK.inBlock ?_
            refine XK.region rfl ?_
            refine XO.q (Q.add rfl rfl ⟨by omega, by omega⟩) ?_
            refine XO.q (Q.move rfl) ?_
            refine XO.done ?_
            exact ih3 (i + 1) _ _ ⟨by omega, by rw [coolersOk, allTo_succ]; rw [coolersOk] at hall; rw [hall, Bool.true_and]; exact okCooler_iff.2 c7⟩ (by first | omega | (dsimp only; omega)) (.c rfl (.base 78 rfl rfl)) inferInstance
        · have _t6 := True.intro
          have e4 : coolersOk h h.coolers.length = true := by rw [show h.coolers.length = i by omega]; exact hall
          refine XK.exit rfl ?_
          refine XK.seq ?_
          refine XK.region rfl ?_
          refine XO.q (Q.assign rfl) ?_
          refine XO.done ?_
          refine XK.rt [] Try.func95 Try.results95 (.t rfl .n) ?_
          exact ⟨by rw [allowedP, e1, e2, e3, e4]; rfl, rfl⟩
end Go.X.Ht

set_option linter.unusedSimpArgs false
set_option linter.unusedVariables false
set_option maxRecDepth 20000
namespace Go.X.Ht
open Go.Proofs
theorem hcheck_many {h : Hall} (c : (((((h.rooms.length : Int) < 1 ∨ 8 < (h.rooms.length : Int)) ∨ 16 < (h.walls.length : Int)) ∨ 16 < (h.branches.length : Int)) ∨ 16 < (h.coolers.length : Int))) : hcheck h = 2 := by rw [hcheck, if_pos c]
theorem Check_spec (h : Hall) (vr vw vb vc : Value) (hr hw hb hc : PHeap) [ir : Arr vr encRoom 2 hr h.rooms] [iw : Arr vw encWall 3 hw h.walls] [ib : Arr vb encBranch 3 hb h.branches] [ic : Arr vc encCooler 5 hc h.coolers] : Spec Try.prog 81 #[.agg #[vr, vw, vb, vc]] [] [hr, hw, hb, hc] (fun v hs => v = .int .i64 (hcheck h) ∧ hs = []) := by
  have lr := ir.le
  have lw := iw.le
  have lb := ib.le
  have lc := ic.le
  refine Spec.intro (fn := Try.f81) (N := 92) Try.func81 rfl Try.ntmps81 rfl fun B => ?_
  refine XK.seq ?_
  refine XK.region rfl ?_
  refine XO.box rfl fun b1 => ?_
  refine XO.q (Q.assign rfl) ?_
  refine XO.done ?_
  refine XK.seq ?_
  refine XK.seq ?_
  refine XK.region rfl ?_
  refine XO.q (Q.fieldAddr rfl) ?_
  refine XO.q (Q.ld rfl rfl) ?_
  refine XO.len rfl fun l12 => ?_
  refine XO.q (Q.lss rfl rfl) ?_
  refine XO.q (Q.move rfl) ?_
  refine XO.q (Quiet.guardF rfl rfl fun g15 p15 => Q.fieldAddr rfl) ?_
  refine XO.q (Quiet.guardF rfl rfl fun g16 p16 => Q.ld (lzv g16 rfl) rfl) ?_
  refine XO.q (Quiet.guardF rfl rfl fun g17 p17 => Q.len (lzv g17 rfl)) ?_
  refine XO.q (Quiet.guardF rfl rfl fun g18 p18 => Q.gtr (lzv g18 rfl) rfl) ?_
  refine XO.q (Q.or rfl (fun hp => lzv hp rfl)) ?_
  refine XO.q (Q.move rfl) ?_
  refine XO.q (Quiet.guardF rfl rfl fun g21 p21 => Q.fieldAddr rfl) ?_
  refine XO.q (Quiet.guardF rfl rfl fun g22 p22 => Q.ld (lzv g22 rfl) rfl) ?_
  refine XO.q (Quiet.guardF rfl rfl fun g23 p23 => Q.len (lzv g23 rfl)) ?_
  refine XO.q (Quiet.guardF rfl rfl fun g24 p24 => Q.gtr (lzv g24 rfl) rfl) ?_
  refine XO.q (Q.or rfl (fun hp => lzv hp rfl)) ?_
  refine XO.q (Q.move rfl) ?_
  refine XO.q (Quiet.guardF rfl rfl fun g27 p27 => Q.fieldAddr rfl) ?_
  refine XO.q (Quiet.guardF rfl rfl fun g28 p28 => Q.ld (lzv g28 rfl) rfl) ?_
  refine XO.q (Quiet.guardF rfl rfl fun g29 p29 => Q.len (lzv g29 rfl)) ?_
  refine XO.q (Quiet.guardF rfl rfl fun g30 p30 => Q.gtr (lzv g30 rfl) rfl) ?_
  refine XO.q (Q.or rfl (fun hp => lzv hp rfl)) ?_
  refine XO.q (Q.move rfl) ?_
  refine XO.q (Quiet.guardF rfl rfl fun g33 p33 => Q.fieldAddr rfl) ?_
  refine XO.q (Quiet.guardF rfl rfl fun g34 p34 => Q.ld (lzv g34 rfl) rfl) ?_
  refine XO.q (Quiet.guardF rfl rfl fun g35 p35 => Q.len (lzv g35 rfl)) ?_
  refine XO.q (Quiet.guardF rfl rfl fun g36 p36 => Q.gtr (lzv g36 rfl) rfl) ?_
  refine XO.q (Q.or rfl (fun hp => lzv hp rfl)) ?_
  refine XO.done ?_
  refine XK.if rfl (fun c0 => ?_) (fun c0 => ?_)
  · have _t0 := True.intro
    refine XK.seq ?_
    refine XK.region rfl ?_
    refine XO.q (Q.assign rfl) ?_
    refine XO.done ?_
    refine XK.rt [] Try.func81 Try.results81 (.t rfl .n) ?_
    exact ⟨by rw [hcheck_many c0], rfl⟩
  · have _t0 := True.intro
    refine XK.skip ?_
    refine XK.seq ?_
    refine XK.seq ?_
    refine XK.region rfl ?_
    refine XO.q (Q.ldA [_, _, _, _] rfl rfl rfl) ?_
    refine XO.call Try.call95 rfl rfl rfl (allowed_spec h vr vw vb vc hr hw hb hc) fun v39 s39 R39 => ?_
    obtain ⟨rfl, rfl⟩ := R39
    dsimp only [List.cons_append, List.nil_append]
    refine XO.q (Q.not rfl) ?_
    refine XO.done ?_
    refine XK.if rfl (fun c1 => ?_) (fun c1 => ?_)
    · have _t1 := True.intro
      refine XK.seq ?_
      refine XK.region rfl ?_
      refine XO.q (Q.assign rfl) ?_
      refine XO.done ?_
      refine XK.rt [] Try.func81 Try.results81 (.t rfl .n) ?_
      exact ⟨by rw [hcheck, if_neg c0, if_pos (by simpa using c1)], rfl⟩
    · have _t1 := True.intro
      have ha : allowedP h = true := Classical.byContradiction c1
      refine XK.skip ?_
      refine XK.seq ?_
      refine XK.seq ?_
      refine XK.region rfl ?_
      refine XO.q (Q.fieldAddr rfl) ?_
      refine XO.q (Q.ld rfl rfl) ?_
      refine XO.len rfl fun l43 => ?_
      refine XO.q (Q.move rfl) ?_
      refine XO.done ?_
      refine XK.block ?_
      refine XK.while (X := Nat) [2, 3, 4, 5, 7, 9, 44, 45, 46, 47, 48, 49, 50, 51, 52, 53, 54, 55, 56, 57, 58, 59, 60, 61, 62, 63, 64, 65, 66, 67, 68, 69, 70, 71, 72, 73, 74, 75, 76, 77, 78, 79, 80, 81, 82, 83, 84, 85, 86, 87, 88, 89, 90, 91] (fun i => [(44, some (.int .i64 (i : Nat)))]) (fun i => []) (fun i => i ≤ h.rooms.length ∧ allTo (fun i => decide (slope h i ≤ (h.rooms.getD i default).store)) i = true) (fun i => h.rooms.length - i) (0) [] rfl ⟨by omega, rfl⟩ (.c rfl (.base 0 rfl rfl)) ?_
      rintro i ⟨hi, hall⟩ ih0
      dsimp only [List.cons_append, List.nil_append] at ih0 ⊢
      refine XK.seq ?_
      refine XK.region rfl ?_
      refine XO.q (Q.lss rfl rfl) ?_
      refine XO.done ?_
      refine XK.seq ?_
      refine XK.if rfl (fun c2 => ?_) (fun c2 => ?_)
      · have _t2 := True.intro
        refine XK.skip ?_
        refine XK.seq ?_
        refine XK.block ?_
        refine XK.seq ?_
        refine XK.region rfl ?_
        refine XO.q (Q.move rfl) ?_
        refine XO.ix rfl rfl (by omega) (by omega) fun i47 => ?_
        refine XO.q (Q.ldEA [_, _] rfl (by first | assumption | omega) rfl rfl) ?_
        refine XO.alloc fun b4 => ?_
        refine XO.q (Q.assign rfl) ?_
        refine XO.st rfl rfl rfl ?_
        refine XO.done ?_
        refine XK.seq ?_
        refine XK.region rfl ?_
        refine XO.q (Q.assign rfl) ?_
        refine XO.done ?_
        refine XK.seq ?_
        refine XK.seq ?_
        refine XK.region rfl ?_
        refine XO.q (Q.fieldAddr rfl) ?_
        refine XO.q (Q.ld rfl rfl) ?_
        refine XO.len rfl fun l51 => ?_
        refine XO.q (Q.move rfl) ?_
        refine XO.done ?_
        refine XK.block ?_
        refine XK.while (X := Nat) [5, 7, 52, 53, 54, 55, 56, 57, 58, 59, 60, 61, 62, 63, 64, 65, 66, 67, 68, 69, 70] (fun k => [(52, some (.int .i64 (k : Nat))), (5, some (.int .i64 (sumTo (wslope h i) k)))]) (fun k => []) (fun k => k ≤ h.walls.length) (fun k => h.walls.length - k) (0) [] rfl (by omega) (.c rfl (.c rfl (.base 0 rfl rfl))) ?_
        rintro k hk ih1
        dsimp only [List.cons_append, List.nil_append] at ih1 ⊢
        refine XK.seq ?_
        refine XK.region rfl ?_
        refine XO.q (Q.lss rfl rfl) ?_
        refine XO.done ?_
        refine XK.seq ?_
        refine XK.if rfl (fun c3 => ?_) (fun c3 => ?_)
        · have _t3 := True.intro
          have hws := wsum_rng ha (by omega) i (k := k) (by omega)
          have hwf := (allowed_facts ha).2.1 k (by omega)
          refine XK.skip ?_
          refine XK.seq ?_
          refine XK.block ?_
          refine XK.seq ?_
          refine XK.region rfl ?_
          refine XO.ix rfl rfl (by omega) (by omega) fun i54 => ?_
          refine XO.q (Q.ldEA [_, _, _] rfl (by first | assumption | omega) rfl rfl) ?_
          refine XO.alloc fun b7 => ?_
          refine XO.st rfl rfl rfl ?_
          refine XO.done ?_
          refine XK.seq ?_
          refine XK.region rfl ?_
          refine XO.q (Q.fieldAddr rfl) ?_
          refine XO.q (Q.ld rfl rfl) ?_
          refine XO.q (Q.move rfl) ?_
          refine XO.q (Q.eql rfl rfl) ?_
          refine XO.q (Q.move rfl) ?_
          refine XO.q (Quiet.guardF rfl rfl fun g61 p61 => Q.fieldAddr rfl) ?_
          refine XO.q (Quiet.guardF rfl rfl fun g62 p62 => Q.ld (lzv g62 rfl) rfl) ?_
          refine XO.q (Quiet.guardF rfl rfl fun g63 p63 => Q.move rfl) ?_
          refine XO.q (Quiet.guardF rfl rfl fun g64 p64 => Q.eql (lzv g64 rfl) (lzv g64 rfl)) ?_
          refine XO.q (Q.or rfl (fun hp => lzv hp rfl)) ?_
          refine XO.done ?_
          refine XK.if rfl (fun c4 => ?_) (fun c4 => ?_)
          · have _t4 := True.intro
            refine XK.region rfl ?_
            refine XO.q (Q.move rfl) ?_
            refine XO.q (Q.fieldAddr rfl) ?_
            refine XO.q (Q.ld rfl rfl) ?_
            refine XO.q (Q.add rfl rfl ⟨by omega, by omega⟩) ?_
            refine XO.q (Q.assign rfl) ?_
            refine XO.done ?_
            refine XK.inBlock ?_
            refine XK.region rfl ?_
            refine XO.q (Q.add rfl rfl ⟨by omega, by omega⟩) ?_
            refine XO.q (Q.move rfl) ?_
            refine XO.done ?_
            rw [show sumTo (wslope h i) k + (h.walls.getD k default).pass = sumTo (wslope h i) (k + 1) by rw [sumTo, wslope, if_pos c4]]
            exact ih1 (k + 1) _ _ (by omega) (by first | omega | (dsimp only; omega)) (.c rfl (.c rfl (.base 44 rfl rfl))) inferInstance
          · have _t4 := True.intro
            refine XK.skip ?_
            refine XK.inBlock ?_
            refine XK.region rfl ?_
            refine XO.q (Q.add rfl rfl ⟨by omega, by omega⟩) ?_
            refine XO.q (Q.move rfl) ?_
            refine XO.done ?_
            rw [show sumTo (wslope h i) k = sumTo (wslope h i) (k + 1) by rw [sumTo, wslope, if_neg c4, Int.add_zero]]
            exact ih1 (k + 1) _ _ (by omega) (by first | omega | (dsimp only; omega)) (.c rfl (.c rfl (.base 39 rfl rfl))) inferInstance
        · have _t3 := True.intro
          have hkw : k = h.walls.length := by omega
          rw [hkw]
          have hws := wsum_rng ha (by omega) i (k := h.walls.length) (Nat.le_refl _)
          rw [show sumTo (wslope h i) h.walls.length = sumTo (wslope h i) h.walls.length + sumTo (cslope h i) 0 by rw [sumTo, Int.add_zero]]
          clear ih1 hk hkw c3
          refine XK.exit rfl ?_
          refine XK.seq ?_
          refine XK.seq ?_
          refine XK.region rfl ?_
          refine XO.q (Q.fieldAddr rfl) ?_
          refine XO.q (Q.ld rfl rfl) ?_
          refine XO.len rfl fun l73 => ?_
          refine XO.q (Q.move rfl) ?_
          refine XO.done ?_
          refine XK.block ?_
          refine XK.while (X := Nat) [5, 9, 74, 75, 76, 77, 78, 79, 80, 81, 82, 83, 84, 85, 86] (fun k => [(74, some (.int .i64 (k : Nat))), (5, some (.int .i64 (sumTo (wslope h i) h.walls.length + sumTo (cslope h i) k)))]) (fun k => []) (fun k => k ≤ h.coolers.length) (fun k => h.coolers.length - k) (0) [] rfl (by omega) (.c rfl (.c rfl (.base 0 rfl rfl))) ?_
          rintro k hk ih2
          dsimp only [List.cons_append, List.nil_append] at ih2 ⊢
          refine XK.seq ?_
          refine XK.region rfl ?_
          refine XO.q (Q.lss rfl rfl) ?_
          refine XO.done ?_
          refine XK.seq ?_
          refine XK.if rfl (fun c5 => ?_) (fun c5 => ?_)
          · have _t5 := True.intro
            have hcs := csum_rng ha (by omega) i (k := k) (by omega)
            have hcf := (allowed_facts ha).2.2 k (by omega)
            refine XK.skip ?_
            refine XK.seq ?_
            refine XK.block ?_
            refine XK.seq ?_
            refine XK.region rfl ?_
            refine XO.ix rfl rfl (by omega) (by omega) fun i76 => ?_
            refine XO.q (Q.ldEA [_, _, _, _, _] rfl (by first | assumption | omega) rfl rfl) ?_
            refine XO.alloc fun b9 => ?_
            refine XO.st rfl rfl rfl ?_
            refine XO.done ?_
            refine XK.seq ?_
            refine XK.region rfl ?_
            refine XO.q (Q.fieldAddr rfl) ?_
            refine XO.q (Q.ld rfl rfl) ?_
            refine XO.q (Q.move rfl) ?_
            refine XO.q (Q.eql rfl rfl) ?_
            refine XO.done ?_
            refine XK.if rfl (fun c6 => ?_) (fun c6 => ?_)
            · have _t6 := True.intro
              refine XK.region rfl ?_
              refine XO.q (Q.move rfl) ?_
              refine XO.q (Q.fieldAddr rfl) ?_
              refine XO.q (Q.ld rfl rfl) ?_
              refine XO.q (Q.add rfl rfl ⟨by omega, by omega⟩) ?_
              refine XO.q (Q.assign rfl) ?_
              refine XO.done ?_
              refine XK.inBlock ?_
              refine XK.region rfl ?_
              refine XO.q (Q.add rfl rfl ⟨by omega, by omega⟩) ?_
              refine XO.q (Q.move rfl) ?_
              refine XO.done ?_
              rw [show sumTo (wslope h i) h.walls.length + sumTo (cslope h i) k + (h.coolers.getD k default).gain = sumTo (wslope h i) h.walls.length + sumTo (cslope h i) (k + 1) by rw [sumTo, cslope, if_pos c6, Int.add_assoc]]
              exact ih2 (k + 1) _ _ (by omega) (by first | omega | (dsimp only; omega)) (.c rfl (.c rfl (.base 32 rfl rfl))) inferInstance
            · have _t6 := True.intro
              refine XK.skip ?_
              refine XK.inBlock ?_
              refine XK.region rfl ?_
              refine XO.q (Q.add rfl rfl ⟨by omega, by omega⟩) ?_
              refine XO.q (Q.move rfl) ?_
              refine XO.done ?_
              rw [show sumTo (cslope h i) k = sumTo (cslope h i) (k + 1) by rw [sumTo, cslope, if_neg c6, Int.add_zero]]
              exact ih2 (k + 1) _ _ (by omega) (by first | omega | (dsimp only; omega)) (.c rfl (.c rfl (.base 27 rfl rfl))) inferInstance
          · have _t5 := True.intro
            have hkc : k = h.coolers.length := by omega
            rw [hkc]
            refine XK.exit rfl ?_
            refine XK.seq ?_
            refine XK.region rfl ?_
            refine XO.q (Q.move rfl) ?_
            refine XO.q (Q.fieldAddr rfl) ?_
            refine XO.q (Q.ld rfl rfl) ?_
            refine XO.q (Q.gtr rfl rfl) ?_
            refine XO.done ?_
            refine XK.if rfl (fun c7 => ?_) (fun c7 => ?_)
            · have _t7 := True.intro
              refine XK.seq ?_
              refine XK.region rfl ?_
              refine XO.q (Q.assign rfl) ?_
              refine XO.done ?_
              refine XK.rt [] Try.func81 Try.results81 (.t rfl .n) ?_
              exact ⟨by rw [hcheck, if_neg c0, if_neg (by rw [ha]; simp), if_neg]; rw [allTo_false (s := i) (by omega) (by rw [decide_eq_false_iff_not]; change ¬ sumTo (wslope h i) h.walls.length + sumTo (cslope h i) h.coolers.length ≤ _; omega)]; simp, rfl⟩
            · have _t7 := True.intro
              refine XK.skip ?_
              refine XK.inBlock ?_
              refine XK.region rfl ?_
              refine XO.q (Q.add rfl rfl ⟨by omega, by omega⟩) ?_
              refine XO.q (Q.move rfl) ?_
              refine XO.done ?_
              exact ih0 (i + 1) _ _ ⟨by omega, by rw [allTo_succ, hall, Bool.true_and, decide_eq_true_eq]; change sumTo (wslope h i) h.walls.length + sumTo (cslope h i) h.coolers.length ≤ _; omega⟩ (by first | omega | (dsimp only; omega)) (.c rfl (.base 118 rfl rfl)) inferInstance
      · have _t2 := True.intro
        refine XK.exit rfl ?_
        refine XK.seq ?_
        refine XK.region rfl ?_
        refine XO.q (Q.assign rfl) ?_
        refine XO.done ?_
        refine XK.rt [] Try.func81 Try.results81 (.t rfl .n) ?_
        have hin : i = h.rooms.length := by omega
        rw [hin] at hall
        exact ⟨by rw [hcheck, if_neg c0, if_neg (by rw [ha]; simp), if_pos hall], rfl⟩
theorem next7 (b : Nat) (vl : Value) (hl : PHeap) (l : List UInt8) [sl : Arr vl encU8 1 hl l] (i n : Nat) (hi : i ≤ 1000000000) (hn : 0 < n) (hn2 : n ≤ 1000000) : Spec Try.prog 57 #[ptr b 0, .int .i64 (n : Nat)] [blk b [vl, .int .i64 (i : Nat)] 114] [hl]
    (fun v hs => hs = [blk b [vl, .int .i64 ((i + 1 : Nat) : Int)] 114] ∧ ∃ r : Nat, v = .int .i64 (r : Nat) ∧ r < n) := by
  refine Spec.intro (fn := Try.f57) (N := 36) Try.func57 rfl Try.ntmps57 rfl fun B => ?_
  refine XK.seq ?_
  refine XK.region rfl ?_
  refine XO.q (Q.assign rfl) ?_
  refine XO.done ?_
  refine XK.seq ?_
  refine XK.region rfl ?_
  refine XO.q (Q.move rfl) ?_
  refine XO.q (Q.nilCheck rfl) ?_
  refine XO.q (Q.fieldAddr rfl) ?_
  refine XO.q (Q.ld rfl rfl) ?_
  refine XO.q (Q.add rfl rfl ⟨by omega, by omega⟩) ?_
  rw [show ((i : Int) + 1) = ((i + 1 : Nat) : Int) from rfl]
  refine XO.q (Q.nilCheck rfl) ?_
  refine XO.q (Q.fieldAddr rfl) ?_
  refine XO.st rfl rfl rfl ?_
  refine XO.done ?_
  refine XK.seq ?_
  refine XK.seq ?_
  refine XK.drawn [0, 1, 2, 3, 4, 5, 6, 7, 8, 9] [b] [] (.q 0 (.q 1 (.q 2 (.q 3 (.q 4 (.q 5 (.q 6 (.q 7 (.q 8 (.q 9 .done)))))))))) Try.mixed rfl (by kernel_rfl) ?_
  refine XT.q rfl rfl (Q.move rfl) ?_
  refine XT.q rfl rfl (Q.nilCheck rfl) ?_
  refine XT.q rfl rfl (Q.fieldAddr rfl) ?_
  refine XT.q rfl rfl (Q.ld rfl rfl) ?_
  refine XT.q rfl rfl (Q.move rfl) ?_
  refine XT.q rfl rfl (Q.nilCheck rfl) ?_
  refine XT.q rfl rfl (Q.fieldAddr rfl) ?_
  refine XT.q rfl rfl (Q.ld rfl rfl) ?_
  refine XT.q rfl rfl (Q.len rfl) ?_
  refine XT.q rfl rfl (Q.gtr rfl rfl) ?_
  refine XT.done ?_
  refine XK.if rfl (fun c0 => ?_) (fun c0 => ?_)
  · have _t0 := True.intro
    refine XK.seq ?_
    refine XK.region rfl ?_
    refine XO.q (Q.assign rfl) ?_
    refine XO.done ?_
    refine XK.rt [blk b [vl, .int .i64 ((i + 1 : Nat) : Int)] 114] Try.func57 Try.results57 (.t rfl .n) ?_
    exact ⟨rfl, 0, rfl, hn⟩
  · have _t0 := True.intro
    refine XK.skip ?_
    refine XK.seq ?_
    refine XK.drawn [0, 1, 2, 3, 4, 5, 6, 7, 8, 9, 10, 11, 12, 13, 14] [b] [] (.q 0 (.q 1 (.q 2 (.q 3 (.q 4 (.q 5 (.q 6 (.q 7 (.q 8 (.q 9 (.q 10 (.q 11 (.q 12 (.q 13 (.q 14 .done))))))))))))))) Try.mixed rfl (by kernel_rfl) ?_
    refine XT.q rfl rfl (Q.move rfl) ?_
    refine XT.q rfl rfl (Q.nilCheck rfl) ?_
    refine XT.q rfl rfl (Q.fieldAddr rfl) ?_
    refine XT.q rfl rfl (Q.ld rfl rfl) ?_
    refine XT.q rfl rfl (Q.move rfl) ?_
    refine XT.q rfl rfl (Q.nilCheck rfl) ?_
    refine XT.q rfl rfl (Q.fieldAddr rfl) ?_
    refine XT.q rfl rfl (Q.ld rfl rfl) ?_
    refine XT.q rfl rfl (Q.sub rfl rfl ⟨by omega, by omega⟩) ?_
    rw [show (((i + 1 : Nat) : Int) - 1) = (i : Int) by omega]
    refine XT.ix rfl rfl rfl rfl (by omega) (by omega) fun i31 => ?_
    refine XT.q rfl rfl (Q.ldE rfl (by first | assumption | omega) rfl) ?_
    refine XT.q rfl rfl (Q.conv rfl) ?_
    have hu := (l.getD i default).toNat_lt
    rw [wrap64_of ⟨by omega, by omega⟩]
    refine XT.q rfl rfl (Q.move rfl) ?_
    refine XT.q rfl rfl (Q.rem rfl rfl (by omega) (by omega)) ?_
    rw [show ((((l.getD i default).toNat : Nat) : Int) % (n : Int)) = (((l.getD i default).toNat % n : Nat) : Int) from rfl]
    refine XT.q rfl rfl (Q.assign rfl) ?_
    refine XT.done ?_
    refine XK.rt [blk b [vl, .int .i64 ((i + 1 : Nat) : Int)] 114] Try.func57 Try.results57 (.t rfl .n) ?_
    exact ⟨rfl, (l.getD i default).toNat % n, rfl, Nat.mod_lt _ hn⟩
end Go.X.Ht

set_option linter.unusedSimpArgs false
set_option linter.unusedVariables false
set_option maxRecDepth 20000
namespace Go.X.Ht
open Go.Proofs
theorem feed_spec (h : Hall) (vr vw vb vc : Value) (hb : PHeap) [ib : Arr vb encBranch 3 hb h.branches] (ok : HOk h) (pump : Int) (hp : 0 ≤ pump) (hp2 : pump ≤ 100000) (b2 b5 b6 : Nat) (vo : Value) :
    ∀ (m i : Nat), i < h.branches.length → h.branches.length - i ≤ m → ∀ (x : Int), 0 ≤ x → x ≤ 100000 → max (x - (h.branches.getD i default).leak) 0 = (flowsL h pump).getD i 0 → ∀ (ho : PHeap) (o : List Int), OArr vo encI 1 3 ho o → o.length = h.branches.length → (∀ j, Sub h i j → o.getD j 0 = 0) →
    Spec Try.prog 106 #[.int .i64 (i : Nat), .int .i64 x, ptr b2 0, ptr b5 0, ptr b6 0] [ho] [blk b2 [vr, vw, vb, vc] 76, blk b5 [vo] 22, blk b6 [(.func (.func 106) #[] #[ptr b2 0, ptr b5 0, ptr b6 0])] 176, hb]
      (fun v hs => ∃ h' o', hs = [h'] ∧ OArr vo encI 1 3 h' o' ∧ o'.length = h.branches.length ∧ (∀ j, j < h.branches.length → Sub h i j → o'.getD j 0 = (flowsL h pump).getD j 0) ∧ ∀ j, ¬ Sub h i j → o'.getD j 0 = o.getD j 0) := by
  intro m
  induction m with
  | zero => intro i hi hm; omega
  | succ m ih =>
    intro i hi hm x hx hx2 hF ho o OO hol hz
    have hbr := ok.branch i hi
    have hb2 := ok.b2
    have hone := open_le ok (i : Int) (n := h.branches.length) (Nat.le_refl _)
    refine Spec.intro (fn := Try.f106) (N := 69) Try.func106 rfl Try.ntmps106 rfl fun B => ?_
    refine XK.seq ?_
    refine XK.drawn [0, 1, 2, 3, 4, 5, 6, 7, 8, 9, 10, 11] [b5, b2] [] (.q 0 (.q 1 (.q 2 (.q 3 (.q 4 (.q 5 (.q 6 (.q 7 (.q 8 (.q 9 (.q 10 (.q 11 (.br 12 false .done .stop))))))))))))) Try.mixed rfl (by kernel_rfl) ?_
    refine XT.q rfl rfl (Q.ld rfl rfl) ?_
    refine XT.q rfl rfl (Q.move rfl) ?_
    refine XT.q rfl rfl (Q.move rfl) ?_
    refine XT.q rfl rfl (Q.fieldAddr rfl) ?_
    refine XT.q rfl rfl (Q.ld rfl rfl) ?_
    refine XT.q rfl rfl (Q.move rfl) ?_
    refine XT.ix rfl rfl rfl rfl (by omega) (by omega) fun i18 => ?_
    refine XT.q rfl rfl (Q.fieldQ rfl (by first | assumption | omega)) ?_
    refine XT.q rfl rfl (Q.ldE rfl (by first | assumption | omega) rfl) ?_
    refine XT.q rfl rfl (Q.sub rfl rfl ⟨by omega, by omega⟩) ?_
    refine XT.q rfl rfl (Q.max rfl rfl) ?_
    refine XT.ix rfl rfl rfl rfl (by omega) (by omega) fun i23 => ?_
    refine XT.stE _ rfl rfl rfl rfl rfl (by assumption) rfl rfl (fun h0_12 O0_12 => ⟨inferInstance, ?_⟩) XT.stop
    rw [hF] at O0_12
    have fs := fed_start (pump := pump) hi hol
    refine XT.done ?_
    refine XK.seq ?_
    refine XK.region rfl ?_
    refine XO.q (Q.assign rfl) ?_
    refine XO.done ?_
    refine XK.seq ?_
    refine XK.seq ?_
    refine XK.region rfl ?_
    refine XO.q (Q.fieldAddr rfl) ?_
    refine XO.q (Q.ld rfl rfl) ?_
    refine XO.len rfl fun l26 => ?_
    refine XO.q (Q.move rfl) ?_
    refine XO.done ?_
    refine XK.block ?_
    refine XK.while (X := Nat) [7, 9, 27, 28, 29, 30, 31, 32, 33, 34, 35, 36, 37, 38, 39] (fun k => [(27, some (.int .i64 (k : Nat))), (7, some (.int .i64 (sumOpen h i k)))]) (fun k => []) (fun k => k ≤ h.branches.length) (fun k => h.branches.length - k) (0) [] rfl (by omega) (.c rfl (.c rfl (.base 0 rfl rfl))) ?_
    rintro k hk ih0
    dsimp only [List.cons_append, List.nil_append] at ih0 ⊢
    refine XK.seq ?_
    refine XK.region rfl ?_
    refine XO.q (Q.lss rfl rfl) ?_
    refine XO.done ?_
    refine XK.seq ?_
    refine XK.if rfl (fun c0 => ?_) (fun c0 => ?_)
    · have _t0 := True.intro
      have hop := open_le ok (i : Int) (n := k) (by omega)
      have hop0 := open_nonneg ok (i : Int) (n := k) (by omega)
      have hbk := ok.branch k (by omega)
      refine XK.skip ?_
      refine XK.seq ?_
      refine XK.block ?_
      refine XK.seq ?_
      refine XK.region rfl ?_
      refine XO.ix rfl rfl (by omega) (by omega) fun i29 => ?_
      refine XO.q (Q.ldEA [_, _, _] rfl (by first | assumption | omega) rfl rfl) ?_
      refine XO.alloc fun b9 => ?_
      refine XO.st rfl rfl rfl ?_
      refine XO.done ?_
      refine XK.seq ?_
      refine XK.region rfl ?_
      refine XO.q (Q.fieldAddr rfl) ?_
      refine XO.q (Q.ld rfl rfl) ?_
      refine XO.q (Q.move rfl) ?_
      refine XO.q (Q.eql rfl rfl) ?_
      refine XO.done ?_
      refine XK.if rfl (fun c1 => ?_) (fun c1 => ?_)
      · have _t1 := True.intro
        refine XK.region rfl ?_
        refine XO.q (Q.move rfl) ?_
        refine XO.q (Q.fieldAddr rfl) ?_
        refine XO.q (Q.ld rfl rfl) ?_
        refine XO.q (Q.add rfl rfl ⟨by omega, by omega⟩) ?_
        refine XO.q (Q.assign rfl) ?_
        refine XO.done ?_
        refine XK.inBlock ?_
        refine XK.region rfl ?_
        refine XO.q (Q.add rfl rfl ⟨by omega, by omega⟩) ?_
        refine XO.q (Q.move rfl) ?_
        refine XO.done ?_
        rw [open_pos c1]
        exact ih0 (k + 1) _ _ (by omega) (by first | omega | (dsimp only; omega)) (.c rfl (.c rfl (.base 32 rfl rfl))) inferInstance
      · have _t1 := True.intro
        refine XK.skip ?_
        refine XK.inBlock ?_
        refine XK.region rfl ?_
        refine XO.q (Q.add rfl rfl ⟨by omega, by omega⟩) ?_
        refine XO.q (Q.move rfl) ?_
        refine XO.done ?_
        rw [open_neg c1]
        exact ih0 (k + 1) _ _ (by omega) (by first | omega | (dsimp only; omega)) (.c rfl (.c rfl (.base 27 rfl rfl))) inferInstance
    · have _t0 := True.intro
      have hkn : k = h.branches.length := by omega
      rw [hkn]
      clear ih0 hk hkn c0
      refine XK.exit rfl ?_
      refine XK.seq ?_
      refine XK.region rfl ?_
      refine XO.q (Q.fieldAddr rfl) ?_
      refine XO.q (Q.ld rfl rfl) ?_
      refine XO.len rfl fun l42 => ?_
      refine XO.q (Q.move rfl) ?_
      refine XO.done ?_
      refine XK.block ?_
      refine XK.while (X := Nat × PHeap × List Int) [10, 11, 43, 44, 45, 46, 47, 48, 49, 50, 51, 52, 53, 54, 55, 56, 57, 58, 59, 60, 61, 62, 63, 64, 65, 66, 67, 68] (fun ⟨k, hq, z⟩ => [(43, some (.int .i64 (k : Nat)))]) (fun ⟨k, hq, z⟩ => [hq]) (fun ⟨k, hq, z⟩ => k ≤ h.branches.length ∧ Fed h pump i k o z ∧ OArr vo encI 1 3 hq z) (fun ⟨k, hq, z⟩ => h.branches.length - k) (0, h0_12, _) [h0_12] rfl ⟨by omega, fs, O0_12⟩ (.c rfl (.base 0 rfl rfl)) ?_
      rintro ⟨k, hq, z⟩ ⟨hk, fd, OZ⟩ ih1
      dsimp only [List.cons_append, List.nil_append] at ih1 ⊢
      refine XK.seq ?_
      refine XK.region rfl ?_
      refine XO.q (Q.lss rfl rfl) ?_
      refine XO.done ?_
      refine XK.seq ?_
      refine XK.if rfl (fun c2 => ?_) (fun c2 => ?_)
      · have _t2 := True.intro
        have hbk := ok.branch k (by omega)
        have hfr := flows_rng ok hp i hi
        have hzl := fd.len
        refine XK.skip ?_
        refine XK.seq ?_
        refine XK.block ?_
        refine XK.seq ?_
        refine XK.region rfl ?_
        refine XO.q (Q.move rfl) ?_
        refine XO.ix rfl rfl (by omega) (by omega) fun i46 => ?_
        refine XO.q (Q.ldEA [_, _, _] rfl (by first | assumption | omega) rfl rfl) ?_
        refine XO.alloc fun b11 => ?_
        refine XO.q (Q.assign rfl) ?_
        refine XO.st rfl rfl rfl ?_
        refine XO.done ?_
        refine XK.seq ?_
        refine XK.region rfl ?_
        refine XO.q (Q.fieldAddr rfl) ?_
        refine XO.q (Q.ld rfl rfl) ?_
        refine XO.q (Q.move rfl) ?_
        refine XO.q (Q.eql rfl rfl) ?_
        refine XO.q (Q.move rfl) ?_
        refine XO.q (Quiet.guardT rfl rfl fun g53 p53 => Q.move rfl) ?_
        refine XO.q (Quiet.guardT rfl rfl fun g54 p54 => Q.gtr (lzv g54 rfl) rfl) ?_
        refine XO.q (Q.and rfl (fun hp => lzv hp rfl)) ?_
        refine XO.done ?_
        refine XK.if rfl (fun c3 => ?_) (fun c3 => ?_)
        · have _t3 := True.intro
          obtain ⟨c3u, c3s⟩ := c3
          have hmul : 0 ≤ (flowsL h pump).getD i 0 * (h.branches.getD k default).opn ∧ (flowsL h pump).getD i 0 * (h.branches.getD k default).opn ≤ 100000 * 100 := ⟨Int.mul_nonneg hfr.1 hbk.2.1.1, Int.mul_le_mul (by omega) hbk.2.1.2 hbk.2.1.1 (by omega)⟩
          have hsh := share_le (x := (flowsL h pump).getD i 0) (o := (h.branches.getD k default).opn) (s := sumOpen h i h.branches.length) hfr.1 hbk.2.1.1 (by have := open_one ok (k := k) (by omega); rw [c3u] at this; exact this) c3s
          have hup := up_of ok (i := k) (by omega) (not_zero ok (by omega) c3u)
          refine XK.drawn [0, 1, 2, 3, 4, 6, 7, 9, 8, 10] [b6, b5, b11] [] (.q 0 (.q 1 (.q 2 (.q 3 (.q 4 (.q 6 (.q 7 (.q 9 (.br 5 true (.q 8 (.q 10 (.br 11 true .done .stop))) .stop))))))))) Try.mixed rfl (by kernel_rfl) ?_
          refine XT.q rfl rfl (Q.ld rfl rfl) ?_
          refine XT.q rfl rfl (Q.move rfl) ?_
          refine XT.q rfl rfl (Q.ld rfl rfl) ?_
          refine XT.q rfl rfl (Q.move rfl) ?_
          refine XT.ix rfl rfl rfl rfl (by omega) (by omega) fun i60 => ?_
          refine XT.q rfl rfl (Q.fieldAddr rfl) ?_
          refine XT.q rfl rfl (Q.ld rfl rfl) ?_
          refine XT.q rfl rfl (Q.move rfl) ?_
          refine XT.qs rfl rfl (Q.ldE rfl (by first | assumption | omega) rfl) ⟨inferInstance, ?_⟩ XT.stop
          rw [show z.getD i default = (flowsL h pump).getD i 0 from fd.yes i hi (.inl rfl)]
          refine XT.q rfl rfl (Q.mul rfl rfl ⟨by omega, by omega⟩) ?_
          refine XT.q rfl rfl (Q.quo rfl rfl (by omega) (by omega) (by omega)) ?_
          refine XT.call rfl rfl Try.call106 rfl rfl rfl (ih k (by omega) (by omega) _ hsh.1 (by omega) (feed_child ok (by omega) c3u c3s).symm hq z OZ fd.len (fed_zero ok fd (by omega) c3u hz)) (fun v67 s67 R67 => ?_) XT.stop
          obtain ⟨h67, y, rfl, O67, y1, y2, y3⟩ := R67
          dsimp only [List.cons_append, List.nil_append]
          refine ⟨inferInstance, ?_⟩
          refine XT.done ?_
          refine XK.inBlock ?_
          refine XK.region rfl ?_
          refine XO.q (Q.add rfl rfl ⟨by omega, by omega⟩) ?_
          refine XO.q (Q.move rfl) ?_
          refine XO.done ?_
          exact ih1 (k + 1, h67, y) _ _ ⟨by dsimp only; omega, fed_call ok fd (by omega) c3u y1 y2 y3, O67⟩ (by first | omega | (dsimp only; omega)) (.c rfl (.base 57 rfl rfl)) inferInstance
        · have _t3 := True.intro
          refine XK.skip ?_
          refine XK.inBlock ?_
          refine XK.region rfl ?_
          refine XO.q (Q.add rfl rfl ⟨by omega, by omega⟩) ?_
          refine XO.q (Q.move rfl) ?_
          refine XO.done ?_
          exact ih1 (k + 1, hq, z) _ _ ⟨by dsimp only; omega, fed_skip ok fd (by omega) hz c3, OZ⟩ (by first | omega | (dsimp only; omega)) (.c rfl (.base 45 rfl rfl)) inferInstance
      · have _t2 := True.intro
        have hkn : k = h.branches.length := by omega
        rw [hkn] at fd
        refine XK.exit rfl ?_
        refine XK.fn [hq] Try.func106 Try.results106 (.n) ?_
        exact ⟨hq, z, rfl, OZ, fd.len, fun j hj s => fd.yes j hj ((done_sub ok hi).1 s), fun j s => fd.no j fun hd => s ((done_sub ok hi).2 hd)⟩
end Go.X.Ht

set_option linter.unusedSimpArgs false
set_option linter.unusedVariables false
set_option maxRecDepth 20000
namespace Go.X.Ht
open Go.Proofs
theorem flows_eq {h : Hall} {pump : Int} {o : List Int} (hl : o.length = h.branches.length) (hj : ∀ j, j < h.branches.length → o.getD j 0 = (flowsL h pump).getD j 0) : o = flowsL h pump := by
  refine List.ext_getElem (by rw [hl, flows_len]) fun j h1 h2 => ?_
  have := hj j (by omega)
  simpa [h1, h2] using this
theorem flows_zero {h : Hall} (ok : HOk h) {pump : Int} (h0 : 0 < h.branches.length) : max (pump - (h.branches.getD 0 default).leak) 0 = (flowsL h pump).getD 0 0 := by
  rw [flows_at ok h0]; unfold feedOf; rw [if_pos rfl]
theorem flows_spec (h : Hall) (vr vw vb vc : Value) (hb : PHeap) [ir : One vr] [iw : One vw] [ib : Arr vb encBranch 3 hb h.branches] [ic : One vc] (ok : HOk h) (pump : Int) (hp : 0 ≤ pump) (hp2 : pump ≤ 100000) : Spec Try.prog 100 #[.agg #[vr, vw, vb, vc], .int .i64 pump] [] [hb]
    (fun v hs => ∃ k, hs = [k] ∧ OArr v encI 1 3 k (flowsL h pump)) := by
  have hb2 := ok.b2
  refine Spec.intro (fn := Try.f100) (N := 19) Try.func100 rfl Try.ntmps100 rfl fun B => ?_
  refine XK.seq ?_
  refine XK.region rfl ?_
  refine XO.box rfl fun b2 => ?_
  refine XO.q (Q.assign rfl) ?_
  refine XO.done ?_
  refine XK.seq ?_
  refine XK.region rfl ?_
  refine XO.q (Q.fieldAddr rfl) ?_
  refine XO.q (Q.ld rfl rfl) ?_
  refine XO.len rfl fun l9 => ?_
  refine XO.make encI (0) rfl rfl rfl (by omega) (by omega) (fun _ => rfl) rfl rfl rfl (by dsimp only [encI]; infer_instance) fun v10 h10 O10 => ?_
  refine XO.alloc fun b5 => ?_
  refine XO.st rfl rfl rfl ?_
  refine XO.done ?_
  refine XK.seq ?_
  refine XK.region rfl ?_
  refine XO.alloc fun b6 => ?_
  refine XO.done ?_
  refine XK.seq ?_
  refine XK.region rfl ?_
  refine XO.q (Q.func (fun _ he => rfl) (fun _ he => evs_rel he rfl)) ?_
  refine XO.st rfl rfl rfl ?_
  refine XO.done ?_
  refine XK.seq ?_
  refine XK.seq ?_
  refine XK.region rfl ?_
  refine XO.q (Q.ld rfl rfl) ?_
  refine XO.len rfl fun l13 => ?_
  rw [List.length_replicate]
  refine XO.q (Q.gtr rfl rfl) ?_
  refine XO.done ?_
  refine XK.if rfl (fun c0 => ?_) (fun c0 => ?_)
  · have _t0 := True.intro
    refine XK.region rfl ?_
    refine XO.q (Q.ld rfl rfl) ?_
    refine XO.q (Q.move rfl) ?_
    refine XO.call Try.call106 rfl rfl rfl (feed_spec h vr vw vb vc hb ok pump hp hp2 b2 b5 b6 v10 h.branches.length 0 (by omega) (by omega) pump hp hp2 (flows_zero ok (by omega)) h10 (List.replicate h.branches.length 0) O10 (by simp) (fun j _ => by rw [List.getD_eq_getElem?_getD, List.getElem?_replicate]; split <;> simp)) fun v17 s17 R17 => ?_
    obtain ⟨h17, y, rfl, O17, y1, y2, y3⟩ := R17
    dsimp only [List.cons_append, List.nil_append]
    refine XO.done ?_
    refine XK.seq ?_
    refine XK.region rfl ?_
    refine XO.q (Q.ld rfl rfl) ?_
    refine XO.q (Q.assign rfl) ?_
    refine XO.done ?_
    refine XK.rt [h17] Try.func100 Try.results100 (.t rfl .n) ?_
    rw [flows_eq y1 fun j hj => y2 j hj (sub_root ok j hj)] at O17
    exact ⟨h17, rfl, O17⟩
  · have _t0 := True.intro
    refine XK.skip ?_
    refine XK.seq ?_
    refine XK.region rfl ?_
    refine XO.q (Q.ld rfl rfl) ?_
    refine XO.q (Q.assign rfl) ?_
    refine XO.done ?_
    refine XK.rt [h10] Try.func100 Try.results100 (.t rfl .n) ?_
    have h0 : h.branches.length = 0 := by omega
    rw [flows_eq (pump := pump) (h := h) (o := List.replicate h.branches.length 0) (by simp) (fun j hj => by omega)] at O10
    exact ⟨h10, rfl, O10⟩
end Go.X.Ht

set_option linter.unusedSimpArgs false
set_option linter.unusedVariables false
set_option maxRecDepth 20000
namespace Go.X.Ht
open Go.Proofs
theorem at_spec (h : Hall) (vr vw vb vc : Value) (hb hc : PHeap) [ir : One vr] [iw : One vw] [ib : Arr vb encBranch 3 hb h.branches] [ic : Arr vc encCooler 5 hc h.coolers] (ok : HOk h) (t : List Int) (vt : Value) (ht : PHeap) [it : Arr vt encI 1 ht t] (tk : TOk h t) (c : HCase) (ck : COk h c) (vl : Value) [il : One vl] :
    Spec Try.prog 86 #[.agg #[vr, vw, vb, vc], vt, .agg #[vl, .int .i64 c.out, .int .i64 c.pump]] [] [hb, hc, ht] (fun v hs => ∃ b vk k, v = ptr b 0 ∧ hs = [blk b [vr, vw, vb, vc, vl, .int .i64 c.out, .int .i64 c.pump, vt, vk] 165, k] ∧ OArr vk encI 1 3 k (takenL h t c.pump)) := by
  have hnil : OArr (.slice none 0 0) encI 1 3 emp ([] : List Int) := OArr.nil (fun _ => rfl)
  have hb2 := ok.b2
  have hc2 := ok.c2
  have hfl := flows_len h c.pump
  have htl := tk.len
  have hpm := ck.pump
  refine Spec.intro (fn := Try.f86) (N := 88) Try.func86 rfl Try.ntmps86 rfl fun B => ?_
  refine XK.seq ?_
  refine XK.region rfl ?_
  refine XO.box rfl fun b3 => ?_
  refine XO.box rfl fun b5 => ?_
  refine XO.q (Q.assign rfl) ?_
  refine XO.done ?_
  refine XK.seq ?_
  refine XK.region rfl ?_
  refine XO.q (Q.ldA [_, _, _, _] rfl rfl rfl) ?_
  refine XO.q (Q.ldA [_, _, _] rfl rfl rfl) ?_
  refine XO.q (Q.move rfl) ?_
  refine XO.q (Q.build [_, _, _, _, _, _, _, _, _] (.c 0 4 rfl rfl rfl (.c 4 3 rfl rfl rfl (.c 7 1 rfl rfl rfl (.n _))))) ?_
  refine XO.box rfl fun b19 => ?_
  refine XO.q (Q.assign rfl) ?_
  refine XO.done ?_
  refine XK.seq ?_
  refine XK.region rfl ?_
  refine XO.q (Q.ldA [_, _, _, _] rfl rfl rfl) ?_
  refine XO.q (Q.fieldAddr rfl) ?_
  refine XO.q (Q.ld rfl rfl) ?_
  refine XO.call Try.call100 rfl rfl rfl (flows_spec h vr vw vb vc hb ok c.pump ck.pump.1 ck.pump.2) fun v23 s23 R23 => ?_
  obtain ⟨k23, rfl, O23⟩ := R23
  dsimp only [List.cons_append, List.nil_append]
  refine XO.q (Q.assign rfl) ?_
  refine XO.done ?_
  refine XK.seq ?_
  refine XK.region rfl ?_
  refine XO.q (Q.move rfl) ?_
  refine XO.len rfl fun l25 => ?_
  rw [hfl]
  refine XO.make encI (0) rfl rfl rfl (by omega) (by omega) (fun _ => rfl) rfl rfl rfl (by dsimp only [encI]; infer_instance) fun v26 h26 O26 => ?_
  refine XO.q (Q.assign rfl) ?_
  refine XO.done ?_
  refine XK.seq ?_
  refine XK.seq ?_
  refine XK.region rfl ?_
  refine XO.q (Q.fieldAddr rfl) ?_
  refine XO.q (Q.ld rfl rfl) ?_
  refine XO.len rfl fun l29 => ?_
  refine XO.q (Q.move rfl) ?_
  refine XO.done ?_
  refine XK.block ?_
  refine XK.while (X := Nat × PHeap × List Int) [11, 30, 31, 32, 33, 34, 35, 36, 37, 38, 39, 40, 41] (fun ⟨k, hz, on⟩ => [(30, some (.int .i64 (k : Nat)))]) (fun ⟨k, hz, on⟩ => [hz]) (fun ⟨k, hz, on⟩ => k ≤ h.coolers.length ∧ on.length = h.branches.length ∧ (∀ b : Int, 0 ≤ b → b < h.branches.length → on.getD b.toNat 0 = onBr h b k) ∧ OArr v26 encI 1 3 hz on) (fun ⟨k, hz, on⟩ => h.coolers.length - k) (0, h26, _) [h26] rfl ⟨by omega, by simp, fun b h1 h2 => by rw [List.getD_eq_getElem?_getD, List.getElem?_replicate]; split <;> rfl, O26⟩ (.c rfl (.base 0 rfl rfl)) ?_
  rintro ⟨k, hz, on⟩ ⟨hk, hol, hon, OZ⟩ ih0
  dsimp only [List.cons_append, List.nil_append] at ih0 ⊢
  refine XK.seq ?_
  refine XK.region rfl ?_
  refine XO.q (Q.lss rfl rfl) ?_
  refine XO.done ?_
  refine XK.seq ?_
  refine XK.if rfl (fun c0 => ?_) (fun c0 => ?_)
  · have _t0 := True.intro
    have hcf := ok.cooler k (by omega)
    have hbt : (h.coolers.getD k default).br.toNat < on.length := by omega
    have hov := onBr_rng (h := h) (h.coolers.getD k default).br k
    have hoe := hon (h.coolers.getD k default).br hcf.2.1.1 hcf.2.1.2
    change on.getD (h.coolers.getD k default).br.toNat default = _ at hoe
    refine XK.skip ?_
    refine XK.seq ?_
    refine XK.block ?_
    refine XK.seq ?_
    refine XK.region rfl ?_
    refine XO.ix rfl rfl (by omega) (by omega) fun i32 => ?_
    refine XO.q (Q.ldEA [_, _, _, _, _] rfl (by first | assumption | omega) rfl rfl) ?_
    refine XO.alloc fun b11 => ?_
    refine XO.st rfl rfl rfl ?_
    refine XO.done ?_
    refine XK.region rfl ?_
    refine XO.q (Q.move rfl) ?_
    refine XO.q (Q.fieldAddr rfl) ?_
    refine XO.q (Q.ld rfl rfl) ?_
    refine XO.ix rfl rfl (by omega) (by omega) fun i37 => ?_
    refine XO.q (Q.ldE rfl (by first | assumption | omega) rfl) ?_
    refine XO.q (Q.add rfl rfl ⟨by omega, by omega⟩) ?_
    refine XO.ix rfl rfl (by omega) (by omega) fun i40 => ?_
    refine XO.stE _ rfl rfl rfl (by assumption) rfl rfl fun h7_7 O7_7 => ?_
    refine XO.done ?_
    refine XK.inBlock ?_
    refine XK.region rfl ?_
    refine XO.q (Q.add rfl rfl ⟨by omega, by omega⟩) ?_
    refine XO.q (Q.move rfl) ?_
    refine XO.done ?_
    exact ih0 (k + 1, h7_7, _) _ _ ⟨by dsimp only; omega, by simp only [List.length_set]; exact hol, fun b h1 h2 => by
        dsimp only
        rw [List.getD_eq_getElem?_getD, List.getElem?_set, onBr_succ]
        by_cases hbb : (h.coolers.getD k default).br = b
        · rw [if_pos (by rw [hbb]), if_pos hbt, if_pos hbb, Option.getD_some, hoe, hbb]
        · rw [if_neg (by omega), ← List.getD_eq_getElem?_getD, hon b h1 h2, if_neg hbb, Int.add_zero], O7_7⟩ (by first | omega | (dsimp only; omega)) (.c rfl (.base 27 rfl rfl)) inferInstance
  · have _t0 := True.intro
    have hkn : k = h.coolers.length := by omega
    rw [hkn] at hon
    clear ih0 hk hkn c0
    refine XK.exit rfl ?_
    refine XK.seq ?_
    refine XK.seq ?_
    refine XK.region rfl ?_
    refine XO.q (Q.fieldAddr rfl) ?_
    refine XO.q (Q.ld rfl rfl) ?_
    refine XO.len rfl fun l44 => ?_
    refine XO.q (Q.move rfl) ?_
    refine XO.done ?_
    refine XK.block ?_
    refine XK.while (X := Nat × Value × PHeap) [13, 14, 45, 46, 47, 48, 49, 50, 51, 52, 53, 54, 55, 56, 57, 58, 59, 60, 61, 62, 63, 64, 65, 66, 67, 68, 69, 70, 71, 72, 73, 74, 75, 76, 77, 78, 79, 80, 81, 82, 83, 84, 85, 86] (fun ⟨k, vk, hk9⟩ => [(45, some (.int .i64 (k : Nat)))]) (fun ⟨k, vk, hk9⟩ => [blk b19 [vr, vw, vb, vc, vl, .int .i64 c.out, .int .i64 c.pump, vt, vk] 165, hk9]) (fun ⟨k, vk, hk9⟩ => k ≤ h.coolers.length ∧ OArr vk encI 1 3 hk9 ((List.range k).map (takenAt h t (flowsL h c.pump)))) (fun ⟨k, vk, hk9⟩ => h.coolers.length - k) (0, .slice none 0 0, emp) [blk b19 [vr, vw, vb, vc, vl, .int .i64 c.out, .int .i64 c.pump, vt, .slice none 0 0] 165, emp] rfl ⟨by omega, by simpa using hnil⟩ (.c rfl (.base 0 rfl rfl)) ?_
    rintro ⟨k, vk, hk9⟩ ⟨hk, OK⟩ ih1
    dsimp only [List.cons_append, List.nil_append] at ih1 ⊢
    refine XK.seq ?_
    refine XK.region rfl ?_
    refine XO.q (Q.lss rfl rfl) ?_
    refine XO.done ?_
    refine XK.seq ?_
    refine XK.if rfl (fun c1 => ?_) (fun c1 => ?_)
    · have _t1 := True.intro
      have hcf := ok.cooler k (by omega)
      have hoe := hon (h.coolers.getD k default).br hcf.2.1.1 hcf.2.1.2
      change on.getD (h.coolers.getD k default).br.toNat default = _ at hoe
      have hop := onBr_pos (h := h) (k := k) (by omega)
      have hor := onBr_rng (h := h) (h.coolers.getD k default).br h.coolers.length
      have hF := flows_rng ok ck.pump.1 (h.coolers.getD k default).br.toNat (by omega)
      change 0 ≤ (flowsL h c.pump).getD (h.coolers.getD k default).br.toNat default ∧ (flowsL h c.pump).getD (h.coolers.getD k default).br.toNat default ≤ c.pump at hF
      have hm1 := mul_abs (p := (h.coolers.getD k default).carry) (d := (flowsL h c.pump).getD (h.coolers.getD k default).br.toNat default) (P := 1000) (D := 100000) hcf.2.2.2.1.1 hcf.2.2.2.1.2 (by omega) (by omega) (by omega)
      have hm0 := Int.mul_nonneg hcf.2.2.2.1.1 hF.1
      have hT := temp_at ok tk hcf.1.1 hcf.1.2
      change 0 ≤ t.getD (h.coolers.getD k default).room.toNat default ∧ t.getD (h.coolers.getD k default).room.toNat default ≤ 1000000 at hT
      have hm2 := mul_abs (p := (h.coolers.getD k default).gain) (d := t.getD (h.coolers.getD k default).room.toNat default - (h.coolers.getD k default).supply) (P := 100000) (D := 1000000) hcf.2.2.1.1 hcf.2.2.1.2 (by omega) (by omega) (by omega)
      refine XK.skip ?_
      refine XK.seq ?_
      refine XK.block ?_
      refine XK.seq ?_
      refine XK.region rfl ?_
      refine XO.ix rfl rfl (by omega) (by omega) fun i47 => ?_
      refine XO.q (Q.ldEA [_, _, _, _, _] rfl (by first | assumption | omega) rfl rfl) ?_
      refine XO.alloc fun b13 => ?_
      refine XO.st rfl rfl rfl ?_
      refine XO.done ?_
      refine XK.seq ?_
      refine XK.drawn [0, 1, 2, 3, 4, 5, 6, 7, 8, 9, 10, 11, 12, 13, 14] [b13] [k23, hz] (.q 0 (.q 1 (.q 2 (.q 3 (.q 4 (.q 5 (.q 6 (.q 7 (.q 8 (.q 9 (.q 10 (.q 11 (.q 12 (.q 13 (.q 14 .done))))))))))))))) Try.mixed rfl (by kernel_rfl) ?_
      refine XT.q rfl rfl (Q.fieldAddr rfl) ?_
      refine XT.q rfl rfl (Q.ld rfl rfl) ?_
      refine XT.q rfl rfl (Q.move rfl) ?_
      refine XT.q rfl rfl (Q.fieldAddr rfl) ?_
      refine XT.q rfl rfl (Q.ld rfl rfl) ?_
      refine XT.ix rfl rfl rfl rfl (by omega) (by omega) fun i54 => ?_
      refine XT.q rfl rfl (Q.ldE rfl (by first | assumption | omega) rfl) ?_
      refine XT.q rfl rfl (Q.mul rfl rfl ⟨by omega, by omega⟩) ?_
      refine XT.q rfl rfl (Q.move rfl) ?_
      refine XT.q rfl rfl (Q.fieldAddr rfl) ?_
      refine XT.q rfl rfl (Q.ld rfl rfl) ?_
      refine XT.ix rfl rfl rfl rfl (by omega) (by omega) fun i60 => ?_
      refine XT.q rfl rfl (Q.ldE rfl (by first | assumption | omega) rfl) ?_
      refine XT.q rfl rfl (Q.quo rfl rfl (by omega) (by omega) (by omega)) ?_
      refine XT.q rfl rfl (Q.assign rfl) ?_
      refine XT.done ?_
      refine XK.drawn [0, 1, 2, 3, 5, 6, 7, 8, 9, 10, 11, 12, 13, 14, 15, 16, 17, 18, 21, 22] [b13] [] (.q 0 (.q 1 (.q 2 (.q 3 (.q 5 (.q 6 (.q 7 (.q 8 (.q 9 (.q 10 (.q 11 (.q 12 (.q 13 (.q 14 (.q 15 (.q 16 (.q 17 (.q 18 (.br 4 true (.br 19 true (.br 20 true (.q 21 (.q 22 (.br 23 true .done .stop))) .stop) .stop) (.br 19 true (.br 4 true (.br 20 true (.q 21 (.q 22 (.br 23 true .done .stop))) .stop) .stop) .stop)))))))))))))))))))) Try.mixed rfl (by kernel_rfl) ?_
      refine XT.q rfl rfl (Q.move rfl) ?_
      refine XT.q rfl rfl (Q.move rfl) ?_
      refine XT.q rfl rfl (Q.nilCheck rfl) ?_
      refine XT.q rfl rfl (Q.fieldAddr rfl) ?_
      refine XT.q rfl rfl (Q.fieldAddr rfl) ?_
      refine XT.q rfl rfl (Q.ld rfl rfl) ?_
      refine XT.q rfl rfl (Q.move rfl) ?_
      refine XT.q rfl rfl (Q.fieldAddr rfl) ?_
      refine XT.q rfl rfl (Q.ld rfl rfl) ?_
      refine XT.ix rfl rfl rfl rfl (by omega) (by omega) fun i73 => ?_
      refine XT.q rfl rfl (Q.ldE rfl (by first | assumption | omega) rfl) ?_
      refine XT.q rfl rfl (Q.fieldAddr rfl) ?_
      refine XT.q rfl rfl (Q.ld rfl rfl) ?_
      refine XT.q rfl rfl (Q.sub rfl rfl ⟨by omega, by omega⟩) ?_
      refine XT.q rfl rfl (Q.mul rfl rfl ⟨by omega, by omega⟩) ?_
      refine XT.q rfl rfl (Q.max rfl rfl) ?_
      refine XT.q rfl rfl (Q.move rfl) ?_
      refine XT.q rfl rfl (Q.min rfl rfl) ?_
      refine XT.qs rfl rfl (Q.ld rfl rfl) ⟨inferInstance, ?_⟩ ?_
      · skip
        refine XT.lit [_] [_] [_] encI rfl rfl (by rfl) (by rfl) rfl (by rfl) (by exact .c 0 1 rfl rfl rfl (.n _)) (fun _ => rfl) (by rfl) rfl (by infer_instance) rfl (fun v82 h82 O82 => ⟨inferInstance, ?_⟩) XT.stop
        refine XT.append rfl rfl rfl rfl rfl rfl (by simp only [List.length_map, List.length_range, List.length_cons, List.length_nil]; omega) (fun v83 h83 O83 => ⟨inferInstance, ?_⟩) XT.stop
        refine XT.q rfl rfl (Q.nilCheck rfl) ?_
        refine XT.q rfl rfl (Q.fieldAddr rfl) ?_
        refine XT.st rfl rfl rfl rfl rfl ⟨inferInstance, ?_⟩ XT.stop
        refine XT.done ?_
        refine XK.inBlock ?_
        refine XK.region rfl ?_
        refine XO.q (Q.add rfl rfl ⟨by omega, by omega⟩) ?_
        refine XO.q (Q.move rfl) ?_
        refine XO.done ?_
        exact ih1 (k + 1, v83, h83) _ _ ⟨by dsimp only; omega, by dsimp only; rw [show (List.range (k + 1)).map (takenAt h t (flowsL h c.pump)) = (List.range k).map (takenAt h t (flowsL h c.pump)) ++ [takenAt h t (flowsL h c.pump) k] by rw [List.range_succ, List.map_append]; rfl, takenAt]; rw [hoe] at O83; exact O83⟩ (by first | omega | (dsimp only; omega)) (.c rfl (.base 89 rfl rfl)) inferInstance
      · skip
        refine XT.lit [_] [_] [_] encI rfl rfl (by rfl) (by rfl) rfl (by rfl) (by exact .c 0 1 rfl rfl rfl (.n _)) (fun _ => rfl) (by rfl) rfl (by infer_instance) rfl (fun v82 h82 O82 => ⟨inferInstance, ?_⟩) XT.stop
        refine XT.qs rfl rfl (Q.ld rfl rfl) ⟨inferInstance, ?_⟩ XT.stop
        refine XT.append rfl rfl rfl rfl rfl rfl (by simp only [List.length_map, List.length_range, List.length_cons, List.length_nil]; omega) (fun v83 h83 O83 => ⟨inferInstance, ?_⟩) XT.stop
        refine XT.q rfl rfl (Q.nilCheck rfl) ?_
        refine XT.q rfl rfl (Q.fieldAddr rfl) ?_
        refine XT.st rfl rfl rfl rfl rfl ⟨inferInstance, ?_⟩ XT.stop
        refine XT.done ?_
        refine XK.inBlock ?_
        refine XK.region rfl ?_
        refine XO.q (Q.add rfl rfl ⟨by omega, by omega⟩) ?_
        refine XO.q (Q.move rfl) ?_
        refine XO.done ?_
        exact ih1 (k + 1, v83, h83) _ _ ⟨by dsimp only; omega, by dsimp only; rw [show (List.range (k + 1)).map (takenAt h t (flowsL h c.pump)) = (List.range k).map (takenAt h t (flowsL h c.pump)) ++ [takenAt h t (flowsL h c.pump) k] by rw [List.range_succ, List.map_append]; rfl, takenAt]; rw [hoe] at O83; exact O83⟩ (by first | omega | (dsimp only; omega)) (.c rfl (.base 89 rfl rfl)) inferInstance
    · have _t1 := True.intro
      refine XK.exit rfl ?_
      refine XK.seq ?_
      refine XK.region rfl ?_
      refine XO.q (Q.move rfl) ?_
      refine XO.q (Q.assign rfl) ?_
      refine XO.done ?_
      refine XK.rt [blk b19 [vr, vw, vb, vc, vl, .int .i64 c.out, .int .i64 c.pump, vt, vk] 165, hk9] Try.func86 Try.results86 (.t rfl .n) ?_
      have hkn : k = h.coolers.length := by omega
      rw [hkn] at OK
      exact ⟨b19, vk, hk9, rfl, rfl, OK⟩
end Go.X.Ht

set_option linter.unusedSimpArgs false
set_option linter.unusedVariables false
set_option maxRecDepth 20000
namespace Go.X.Ht
open Go.Proofs
theorem load_spec (b : Nat) (vr vw vb vc vl vt vk : Value) (c : HCase) (hl : PHeap) [il : Arr vl encI 1 hl c.load] (i : Nat) (hi : i < c.load.length) : Spec Try.prog 87 #[ptr b 0, .int .i64 (i : Nat)] [] [blk b [vr, vw, vb, vc, vl, .int .i64 c.out, .int .i64 c.pump, vt, vk] 165, hl]
    (fun v hs => v = .int .i64 (c.load.getD i 0) ∧ hs = []) := by
  refine Spec.intro (fn := Try.f87) (N := 13) Try.func87 rfl Try.ntmps87 rfl fun B => ?_
  refine XK.seq ?_
  refine XK.region rfl ?_
  refine XO.q (Q.assign rfl) ?_
  refine XO.done ?_
  refine XK.seq ?_
  refine XK.region rfl ?_
  refine XO.q (Q.move rfl) ?_
  refine XO.q (Q.nilCheck rfl) ?_
  refine XO.q (Q.fieldAddr rfl) ?_
  refine XO.q (Q.fieldAddr rfl) ?_
  refine XO.q (Q.ld rfl rfl) ?_
  refine XO.q (Q.move rfl) ?_
  refine XO.ix rfl rfl (by omega) (by omega) fun i11 => ?_
  refine XO.q (Q.ldE rfl (by first | assumption | omega) rfl) ?_
  refine XO.q (Q.assign rfl) ?_
  refine XO.done ?_
  refine XK.rt [] Try.func87 Try.results87 (.t rfl .n) ?_
  exact ⟨rfl, rfl⟩
theorem walls_spec (h : Hall) (ok : HOk h) (b : Nat) (vr vw vb vc vl vt vk : Value) (c : HCase) (hw ht : PHeap) [iw : Arr vw encWall 3 hw h.walls] (t : List Int) [it : Arr vt encI 1 ht t] (tk : TOk h t) (ck : COk h c) (i : Nat) (hi : i < h.rooms.length) :
    Spec Try.prog 88 #[ptr b 0, .int .i64 (i : Nat)] [] [blk b [vr, vw, vb, vc, vl, .int .i64 c.out, .int .i64 c.pump, vt, vk] 165, hw, ht] (fun v hs => v = .int .i64 (sumTo (wheat h t c.out i) h.walls.length) ∧ hs = []) := by
  have hw2 := ok.w2
  have htl := tk.len
  have hco := ck.out
  have hI := tk.rng i (by omega)
  change 0 ≤ t.getD i default ∧ t.getD i default ≤ 1000000 at hI
  refine Spec.intro (fn := Try.f88) (N := 81) Try.func88 rfl Try.ntmps88 rfl fun B => ?_
  refine XK.seq ?_
  refine XK.region rfl ?_
  refine XO.q (Q.assign rfl) ?_
  refine XO.done ?_
  refine XK.seq ?_
  refine XK.region rfl ?_
  refine XO.q (Q.assign rfl) ?_
  refine XO.done ?_
  refine XK.seq ?_
  refine XK.seq ?_
  refine XK.region rfl ?_
  refine XO.q (Q.move rfl) ?_
  refine XO.q (Q.nilCheck rfl) ?_
  refine XO.q (Q.fieldAddr rfl) ?_
  refine XO.q (Q.fieldAddr rfl) ?_
  refine XO.q (Q.ld rfl rfl) ?_
  refine XO.len rfl fun l14 => ?_
  refine XO.q (Q.move rfl) ?_
  refine XO.done ?_
  refine XK.block ?_
  refine XK.while (X := Nat) [5, 7, 8, 15, 16, 17, 18, 19, 20, 21, 22, 23, 24, 25, 26, 27, 28, 29, 30, 31, 32, 33, 34, 35, 36, 37, 38, 39, 40, 41, 42, 43, 44, 45, 46, 47, 48, 49, 50, 51, 52, 53, 54, 55, 56, 57, 58, 59, 60, 61, 62, 63, 64, 65, 66, 67, 68, 69, 70, 71, 72, 73, 74, 75, 76, 77, 78, 79] (fun k => [(15, some (.int .i64 (k : Nat))), (5, some (.int .i64 (sumTo (wheat h t c.out i) k)))]) (fun k => []) (fun k => k ≤ h.walls.length) (fun k => h.walls.length - k) (0) [] rfl (by omega) (.c rfl (.c rfl (.base 0 rfl rfl))) ?_
  rintro k hk ih0
  dsimp only [List.cons_append, List.nil_append] at ih0 ⊢
  refine XK.seq ?_
  refine XK.region rfl ?_
  refine XO.q (Q.lss rfl rfl) ?_
  refine XO.done ?_
  refine XK.seq ?_
  refine XK.if rfl (fun c0 => ?_) (fun c0 => ?_)
  · have _t0 := True.intro
    have hwf := ok.wall k (by omega)
    have hsw := wsum_abs ok tk hco hi (n := k) (by omega)
    have hA := temp_at ok tk hwf.1.1 hwf.1.2
    change 0 ≤ t.getD (h.walls.getD k default).a.toNat default ∧ t.getD (h.walls.getD k default).a.toNat default ≤ 1000000 at hA
    refine XK.skip ?_
    refine XK.seq ?_
    refine XK.block ?_
    refine XK.seq ?_
    refine XK.region rfl ?_
    refine XO.ix rfl rfl (by omega) (by omega) fun i17 => ?_
    refine XO.q (Q.ldEA [_, _, _] rfl (by first | assumption | omega) rfl rfl) ?_
    refine XO.alloc fun b7 => ?_
    refine XO.st rfl rfl rfl ?_
    refine XO.done ?_
    refine XK.seq ?_
    refine XK.region rfl ?_
    refine XO.q (Q.move rfl) ?_
    refine XO.q (Q.nilCheck rfl) ?_
    refine XO.q (Q.fieldAddr rfl) ?_
    refine XO.q (Q.fieldAddr rfl) ?_
    refine XO.q (Q.ld rfl rfl) ?_
    refine XO.q (Q.assign rfl) ?_
    refine XO.done ?_
    refine XK.seq ?_
    refine XK.seq ?_
    refine XK.region rfl ?_
    refine XO.q (Q.fieldAddr rfl) ?_
    refine XO.q (Q.ld rfl rfl) ?_
    refine XO.q (Q.geq rfl rfl) ?_
    refine XO.done ?_
    refine XK.meet (X := Int) [8, 27, 28, 29, 30, 31, 32, 33, 34] (fun y => [(8, some (.int .i64 y))]) (fun y => []) (fun y => y = (if 0 ≤ (h.walls.getD k default).b then t.getD (h.walls.getD k default).b.toNat 0 else c.out) ∧ 0 ≤ y ∧ y ≤ 1000000) [] ?_ ?_
    · rintro y ⟨hy, hy1, hy2⟩
      dsimp only [List.cons_append, List.nil_append]
      refine XK.seq ?_
      refine XK.region rfl ?_
      refine XO.q (Q.move rfl) ?_
      refine XO.done ?_
      refine XK.block ?_
      refine XK.seq ?_
      refine XK.region rfl ?_
      refine XO.q (Q.fieldAddr rfl) ?_
      refine XO.q (Q.ld rfl rfl) ?_
      refine XO.q (Q.eql rfl rfl) ?_
      refine XO.q (Q.assign rfl) ?_
      refine XO.done ?_
      refine XK.if rfl (fun c2 => ?_) (fun c2 => ?_)
      · have _t2 := True.intro
        have hm := mul_abs (p := (h.walls.getD k default).pass) (d := y - t.getD i default) (P := 100000) (D := 1000000) hwf.2.2.2.1 hwf.2.2.2.2 (by omega) (by omega) (by omega)
        refine XK.drawn [0, 1, 2, 3, 4, 5, 6, 7, 8, 9, 10, 11, 12, 13, 14] [b7, b] [] (.q 0 (.q 1 (.q 2 (.q 3 (.q 4 (.q 5 (.q 6 (.q 7 (.q 8 (.q 9 (.q 10 (.q 11 (.q 12 (.q 13 (.q 14 .done))))))))))))))) Try.mixed rfl (by kernel_rfl) ?_
        refine XT.q rfl rfl (Q.move rfl) ?_
        refine XT.q rfl rfl (Q.fieldAddr rfl) ?_
        refine XT.q rfl rfl (Q.ld rfl rfl) ?_
        refine XT.q rfl rfl (Q.move rfl) ?_
        refine XT.q rfl rfl (Q.move rfl) ?_
        refine XT.q rfl rfl (Q.nilCheck rfl) ?_
        refine XT.q rfl rfl (Q.fieldAddr rfl) ?_
        refine XT.q rfl rfl (Q.ld rfl rfl) ?_
        refine XT.q rfl rfl (Q.move rfl) ?_
        refine XT.ix rfl rfl rfl rfl (by omega) (by omega) fun i49 => ?_
        refine XT.q rfl rfl (Q.ldE rfl (by first | assumption | omega) rfl) ?_
        refine XT.q rfl rfl (Q.sub rfl rfl ⟨by omega, by omega⟩) ?_
        refine XT.q rfl rfl (Q.mul rfl rfl ⟨by omega, by omega⟩) ?_
        refine XT.q rfl rfl (Q.add rfl rfl ⟨by omega, by omega⟩) ?_
        refine XT.q rfl rfl (Q.assign rfl) ?_
        refine XT.done ?_
        refine XK.inBlock ?_
        refine XK.inBlock ?_
        refine XK.region rfl ?_
        refine XO.q (Q.add rfl rfl ⟨by omega, by omega⟩) ?_
        refine XO.q (Q.move rfl) ?_
        refine XO.done ?_
        rw [show sumTo (wheat h t c.out i) k + (h.walls.getD k default).pass * (y - t.getD i default) = sumTo (wheat h t c.out i) (k + 1) by rw [sumTo, wheat, if_pos c2.symm, ← hy]; rfl]
        exact ih0 (k + 1) _ _ (by omega) (by first | omega | (dsimp only; omega)) (.c rfl (.c rfl (.base 115 rfl rfl))) inferInstance
      · have _t2 := True.intro
        refine XK.seq ?_
        refine XK.region rfl ?_
        refine XO.q (Q.fieldAddr rfl) ?_
        refine XO.q (Q.ld rfl rfl) ?_
        refine XO.q (Q.eql rfl rfl) ?_
        refine XO.q (Q.assign rfl) ?_
        refine XO.done ?_
        refine XK.if rfl (fun c3 => ?_) (fun c3 => ?_)
        · have _t3 := True.intro
          have hm := mul_abs (p := (h.walls.getD k default).pass) (d := t.getD (h.walls.getD k default).a.toNat default - t.getD i default) (P := 100000) (D := 1000000) hwf.2.2.2.1 hwf.2.2.2.2 (by omega) (by omega) (by omega)
          refine XK.drawn [0, 1, 2, 3, 4, 5, 6, 7, 8, 9, 10, 11, 12, 13, 14, 15, 16, 17, 18, 19, 20, 21] [b7, b] [] (.q 0 (.q 1 (.q 2 (.q 3 (.q 4 (.q 5 (.q 6 (.q 7 (.q 8 (.q 9 (.q 10 (.q 11 (.q 12 (.q 13 (.q 14 (.q 15 (.q 16 (.q 17 (.q 18 (.q 19 (.q 20 (.q 21 .done)))))))))))))))))))))) Try.mixed rfl (by kernel_rfl) ?_
          refine XT.q rfl rfl (Q.move rfl) ?_
          refine XT.q rfl rfl (Q.fieldAddr rfl) ?_
          refine XT.q rfl rfl (Q.ld rfl rfl) ?_
          refine XT.q rfl rfl (Q.move rfl) ?_
          refine XT.q rfl rfl (Q.nilCheck rfl) ?_
          refine XT.q rfl rfl (Q.fieldAddr rfl) ?_
          refine XT.q rfl rfl (Q.ld rfl rfl) ?_
          refine XT.q rfl rfl (Q.fieldAddr rfl) ?_
          refine XT.q rfl rfl (Q.ld rfl rfl) ?_
          refine XT.ix rfl rfl rfl rfl (by omega) (by omega) fun i67 => ?_
          refine XT.q rfl rfl (Q.ldE rfl (by first | assumption | omega) rfl) ?_
          refine XT.q rfl rfl (Q.move rfl) ?_
          refine XT.q rfl rfl (Q.nilCheck rfl) ?_
          refine XT.q rfl rfl (Q.fieldAddr rfl) ?_
          refine XT.q rfl rfl (Q.ld rfl rfl) ?_
          refine XT.q rfl rfl (Q.move rfl) ?_
          refine XT.ix rfl rfl rfl rfl (by omega) (by omega) fun i74 => ?_
          refine XT.q rfl rfl (Q.ldE rfl (by first | assumption | omega) rfl) ?_
          refine XT.q rfl rfl (Q.sub rfl rfl ⟨by omega, by omega⟩) ?_
          refine XT.q rfl rfl (Q.mul rfl rfl ⟨by omega, by omega⟩) ?_
          refine XT.q rfl rfl (Q.add rfl rfl ⟨by omega, by omega⟩) ?_
          refine XT.q rfl rfl (Q.assign rfl) ?_
          refine XT.done ?_
          refine XK.inBlock ?_
          refine XK.inBlock ?_
          refine XK.region rfl ?_
          refine XO.q (Q.add rfl rfl ⟨by omega, by omega⟩) ?_
          refine XO.q (Q.move rfl) ?_
          refine XO.done ?_
          rw [show sumTo (wheat h t c.out i) k + (h.walls.getD k default).pass * (t.getD (h.walls.getD k default).a.toNat default - t.getD i default) = sumTo (wheat h t c.out i) (k + 1) by rw [sumTo, wheat, if_neg (Ne.symm c2), if_pos c3.symm]; rfl]
          exact ih0 (k + 1) _ _ (by omega) (by first | omega | (dsimp only; omega)) (.c rfl (.c rfl (.base 126 rfl rfl))) inferInstance
        · have _t3 := True.intro
          refine XK.skip ?_
          refine XK.inBlock ?_
          refine XK.inBlock ?_
          refine XK.region rfl ?_
          refine XO.q (Q.add rfl rfl ⟨by omega, by omega⟩) ?_
          refine XO.q (Q.move rfl) ?_
          refine XO.done ?_
          rw [show sumTo (wheat h t c.out i) k = sumTo (wheat h t c.out i) (k + 1) by rw [sumTo, wheat, if_neg (Ne.symm c2), if_neg (Ne.symm c3), Int.add_zero]]
          exact ih0 (k + 1) _ _ (by omega) (by first | omega | (dsimp only; omega)) (.c rfl (.c rfl (.base 104 rfl rfl))) inferInstance
    · intro mt1
      dsimp only [List.cons_append, List.nil_append] at mt1
      refine XK.if rfl (fun c1 => ?_) (fun c1 => ?_)
      · have _t1 := True.intro
        refine XK.drawn [0, 1, 2, 3, 4, 5, 6, 7, 8] [b, b7] [] (.q 0 (.q 1 (.q 2 (.q 3 (.q 4 (.q 5 (.q 6 (.q 7 (.q 8 .done))))))))) Try.mixed rfl (by kernel_rfl) ?_
        refine XT.q rfl rfl (Q.move rfl) ?_
        refine XT.q rfl rfl (Q.nilCheck rfl) ?_
        refine XT.q rfl rfl (Q.fieldAddr rfl) ?_
        refine XT.q rfl rfl (Q.ld rfl rfl) ?_
        refine XT.q rfl rfl (Q.fieldAddr rfl) ?_
        refine XT.q rfl rfl (Q.ld rfl rfl) ?_
        refine XT.ix rfl rfl rfl rfl (by omega) (by omega) fun i33 => ?_
        refine XT.q rfl rfl (Q.ldE rfl (by first | assumption | omega) rfl) ?_
        refine XT.q rfl rfl (Q.assign rfl) ?_
        refine XT.done ?_
        exact mt1 (_) _ _ ⟨by rw [if_pos c1]; rfl, by have := temp_at ok tk (i := (h.walls.getD k default).b) c1 (by omega); exact this.1, by have := temp_at ok tk (i := (h.walls.getD k default).b) c1 (by omega); exact this.2⟩ (.c rfl (.base 9 rfl rfl)) inferInstance
      · have _t1 := True.intro
        refine XK.skip ?_
        exact mt1 (c.out) _ _ ⟨by rw [if_neg c1], hco.1, hco.2⟩ (.c rfl (.base 0 rfl rfl)) inferInstance
  · have _t0 := True.intro
    refine XK.exit rfl ?_
    refine XK.seq ?_
    refine XK.region rfl ?_
    refine XO.q (Q.move rfl) ?_
    refine XO.q (Q.assign rfl) ?_
    refine XO.done ?_
    refine XK.rt [] Try.func88 Try.results88 (.t rfl .n) ?_
    have hkn : k = h.walls.length := by omega
    rw [hkn]
    exact ⟨rfl, rfl⟩
theorem coolers_spec (h : Hall) (ok : HOk h) (b : Nat) (vr vw vb vc vl vt vk : Value) (c : HCase) (hc hk : PHeap) [ic : Arr vc encCooler 5 hc h.coolers] (t : List Int) (tk : TOk h t) (ck : COk h c) [ik : Arr vk encI 1 hk (takenL h t c.pump)] (i : Nat) :
    Spec Try.prog 89 #[ptr b 0, .int .i64 (i : Nat)] [] [blk b [vr, vw, vb, vc, vl, .int .i64 c.out, .int .i64 c.pump, vt, vk] 165, hc, hk] (fun v hs => v = .int .i64 (sumTo (cheat h (takenL h t c.pump) i) h.coolers.length) ∧ hs = []) := by
  have hc2 := ok.c2
  have hkl : (takenL h t c.pump).length = h.coolers.length := by simp [takenL]
  refine Spec.intro (fn := Try.f89) (N := 34) Try.func89 rfl Try.ntmps89 rfl fun B => ?_
  refine XK.seq ?_
  refine XK.region rfl ?_
  refine XO.q (Q.assign rfl) ?_
  refine XO.done ?_
  refine XK.seq ?_
  refine XK.region rfl ?_
  refine XO.q (Q.assign rfl) ?_
  refine XO.done ?_
  refine XK.seq ?_
  refine XK.seq ?_
  refine XK.region rfl ?_
  refine XO.q (Q.move rfl) ?_
  refine XO.q (Q.nilCheck rfl) ?_
  refine XO.q (Q.fieldAddr rfl) ?_
  refine XO.q (Q.fieldAddr rfl) ?_
  refine XO.q (Q.ld rfl rfl) ?_
  refine XO.len rfl fun l13 => ?_
  refine XO.q (Q.move rfl) ?_
  refine XO.done ?_
  refine XK.block ?_
  refine XK.while (X := Nat) [5, 6, 7, 14, 15, 16, 17, 18, 19, 20, 21, 22, 23, 24, 25, 26, 27, 28, 29, 30, 31, 32] (fun k => [(14, some (.int .i64 (k : Nat))), (5, some (.int .i64 (sumTo (cheat h (takenL h t c.pump) i) k)))]) (fun k => []) (fun k => k ≤ h.coolers.length) (fun k => h.coolers.length - k) (0) [] rfl (by omega) (.c rfl (.c rfl (.base 0 rfl rfl))) ?_
  rintro k hkk ih0
  dsimp only [List.cons_append, List.nil_append] at ih0 ⊢
  refine XK.seq ?_
  refine XK.region rfl ?_
  refine XO.q (Q.lss rfl rfl) ?_
  refine XO.done ?_
  refine XK.seq ?_
  refine XK.if rfl (fun c0 => ?_) (fun c0 => ?_)
  · have _t0 := True.intro
    have hcs := csum_abs ok tk ck.pump.1 ck.pump.2 (i := i) (n := k) (by omega)
    have hct := taken_rng ok tk ck.pump.1 ck.pump.2 (k := k) (by omega)
    rw [← taken_getD ok tk (by omega)] at hct
    change 0 ≤ (takenL h t c.pump).getD k default ∧ (takenL h t c.pump).getD k default ≤ _ at hct
    refine XK.skip ?_
    refine XK.seq ?_
    refine XK.block ?_
    refine XK.seq ?_
    refine XK.region rfl ?_
    refine XO.q (Q.move rfl) ?_
    refine XO.ix rfl rfl (by omega) (by omega) fun i17 => ?_
    refine XO.q (Q.ldEA [_, _, _, _, _] rfl (by first | assumption | omega) rfl rfl) ?_
    refine XO.alloc fun b7 => ?_
    refine XO.q (Q.assign rfl) ?_
    refine XO.st rfl rfl rfl ?_
    refine XO.done ?_
    refine XK.seq ?_
    refine XK.region rfl ?_
    refine XO.q (Q.fieldAddr rfl) ?_
    refine XO.q (Q.ld rfl rfl) ?_
    refine XO.q (Q.move rfl) ?_
    refine XO.q (Q.eql rfl rfl) ?_
    refine XO.done ?_
    refine XK.if rfl (fun c1 => ?_) (fun c1 => ?_)
    · have _t1 := True.intro
      refine XK.region rfl ?_
      refine XO.q (Q.move rfl) ?_
      refine XO.q (Q.move rfl) ?_
      refine XO.q (Q.nilCheck rfl) ?_
      refine XO.q (Q.fieldAddr rfl) ?_
      refine XO.q (Q.ld rfl rfl) ?_
      refine XO.q (Q.move rfl) ?_
      refine XO.ix rfl rfl (by omega) (by omega) fun i29 => ?_
      refine XO.q (Q.ldE rfl (by first | assumption | omega) rfl) ?_
      refine XO.q (Q.sub rfl rfl ⟨by omega, by omega⟩) ?_
      refine XO.q (Q.assign rfl) ?_
      refine XO.done ?_
      refine XK.inBlock ?_
      refine XK.region rfl ?_
      refine XO.q (Q.add rfl rfl ⟨by omega, by omega⟩) ?_
      refine XO.q (Q.move rfl) ?_
      refine XO.done ?_
      rw [show sumTo (cheat h (takenL h t c.pump) i) k - (takenL h t c.pump).getD k default = sumTo (cheat h (takenL h t c.pump) i) (k + 1) by rw [sumTo, cheat, if_pos c1]; exact Int.sub_eq_add_neg ..]
      exact ih0 (k + 1) _ _ (by omega) (by first | omega | (dsimp only; omega)) (.c rfl (.c rfl (.base 46 rfl rfl))) inferInstance
    · have _t1 := True.intro
      refine XK.skip ?_
      refine XK.inBlock ?_
      refine XK.region rfl ?_
      refine XO.q (Q.add rfl rfl ⟨by omega, by omega⟩) ?_
      refine XO.q (Q.move rfl) ?_
      refine XO.done ?_
      rw [show sumTo (cheat h (takenL h t c.pump) i) k = sumTo (cheat h (takenL h t c.pump) i) (k + 1) by rw [sumTo, cheat, if_neg c1, Int.add_zero]]
      exact ih0 (k + 1) _ _ (by omega) (by first | omega | (dsimp only; omega)) (.c rfl (.c rfl (.base 36 rfl rfl))) inferInstance
  · have _t0 := True.intro
    refine XK.exit rfl ?_
    refine XK.seq ?_
    refine XK.region rfl ?_
    refine XO.q (Q.move rfl) ?_
    refine XO.q (Q.assign rfl) ?_
    refine XO.done ?_
    refine XK.rt [] Try.func89 Try.results89 (.t rfl .n) ?_
    have hkn : k = h.coolers.length := by omega
    rw [hkn]
    exact ⟨rfl, rfl⟩
theorem list_get {α : Type} [Inhabited α] {l : List α} {j : Nat} (hj : j < l.length) : l[((j : Nat) : Int).toNat]? = some (l.getD j default) := by
  rw [Int.toNat_natCast, List.getElem?_eq_getElem hj, List.getD_eq_getElem?_getD, List.getElem?_eq_getElem hj]; rfl
theorem carr_spec (h : Hall) (ok : HOk h) (b : Nat) (vr vw vb vc vl vt vk : Value) (c : HCase) (hw hc hl ht hk : PHeap) [iw : Arr vw encWall 3 hw h.walls] [ic : Arr vc encCooler 5 hc h.coolers] [il : Arr vl encI 1 hl c.load] (t : List Int) [it : Arr vt encI 1 ht t] (tk : TOk h t) (ck : COk h c)
    [ik : Arr vk encI 1 hk (takenL h t c.pump)] (i : Nat) (hi : i < h.rooms.length) (j : Nat) (hj : j < 3) :
    VSpec Try.prog (([.func (.func 87) #[ptr b 0] #[], .func (.func 88) #[ptr b 0] #[], .func (.func 89) #[ptr b 0] #[]] : List Value).getD j default) [.int .i64 (i : Nat)] [] [blk b [vr, vw, vb, vc, vl, .int .i64 c.out, .int .i64 c.pump, vt, vk] 165, hw, hc, hl, ht, hk] (fun v hs => v = .int .i64 (([c.load.getD i 0, sumTo (wheat h t c.out i) h.walls.length, sumTo (cheat h (takenL h t c.pump) i) h.coolers.length] : List Int).getD j default) ∧ hs = []) := by
  match j, hj with
  | 0, _ => exact VSpec.fn (fst := [ptr b 0]) (cap := []) (vs := [.int .i64 (i : Nat)]) Try.call87 rfl ((load_spec b vr vw vb vc vl vt vk c hl i (by have := ck.len; omega)).wide (fun x hx => by simp at hx; rcases hx with rfl | rfl <;> simp))
  | 1, _ => exact VSpec.fn (fst := [ptr b 0]) (cap := []) (vs := [.int .i64 (i : Nat)]) Try.call88 rfl ((walls_spec h ok b vr vw vb vc vl vt vk c hw ht t tk ck i hi).wide (fun x hx => by simp at hx; rcases hx with rfl | rfl | rfl <;> simp))
  | 2, _ => exact VSpec.fn (fst := [ptr b 0]) (cap := []) (vs := [.int .i64 (i : Nat)]) Try.call89 rfl ((coolers_spec h ok b vr vw vb vc vl vt vk c hc hk t tk ck i).wide (fun x hx => by simp at hx; rcases hx with rfl | rfl | rfl <;> simp))
theorem three_bd7 {a b c lo hi : Int} (ha : lo ≤ a ∧ a ≤ hi) (hb : lo ≤ b ∧ b ≤ hi) (hc : lo ≤ c ∧ c ≤ hi) {k : Nat} (hk : k < 3) : lo ≤ [a, b, c].getD k default ∧ [a, b, c].getD k default ≤ hi := by
  match k, hk with
  | 0, _ => exact ha
  | 1, _ => exact hb
  | 2, _ => exact hc
theorem sum_three (x a b c : Int) : x + sumTo (fun j => [a, b, c].getD j default) 3 = x + a + b + c := by
  show x + (((0 + a) + b) + c) = _
  omega
theorem next_spec7 (h : Hall) (vr vw vb vc : Value) (hr hw hb hc : PHeap) [ir : Arr vr encRoom 2 hr h.rooms] [iw : Arr vw encWall 3 hw h.walls] [ib : Arr vb encBranch 3 hb h.branches] [ic : Arr vc encCooler 5 hc h.coolers] (ok : HOk h) (t : List Int) (vt : Value) (ht : PHeap) [it : Arr vt encI 1 ht t] (tk : TOk h t)
    (c : HCase) (ck : COk h c) (vl : Value) (hl : PHeap) [il : Arr vl encI 1 hl c.load] : Spec Try.prog 62 #[.agg #[vr, vw, vb, vc], vt, .agg #[vl, .int .i64 c.out, .int .i64 c.pump]] [] [hr, hw, hb, hc, ht, hl] (fun v hs => ∃ k, hs = [k] ∧ OArr v encI 1 3 k (nextL h t c)) := by
  have hnil : OArr (.slice none 0 0) encI 1 3 emp ([] : List Int) := OArr.nil (fun _ => rfl)
  have hr2 := ok.r2
  have htl := tk.len
  refine Spec.intro (fn := Try.f62) (N := 61) Try.func62 rfl Try.ntmps62 rfl fun B => ?_
  refine XK.seq ?_
  refine XK.region rfl ?_
  refine XO.box rfl fun b3 => ?_
  refine XO.box rfl fun b5 => ?_
  refine XO.q (Q.assign rfl) ?_
  refine XO.done ?_
  refine XK.seq ?_
  refine XK.region rfl ?_
  refine XO.q (Q.ldA [_, _, _, _] rfl rfl rfl) ?_
  refine XO.q (Q.move rfl) ?_
  refine XO.q (Q.ldA [_, _, _] rfl rfl rfl) ?_
  refine XO.call Try.call86 rfl rfl rfl (at_spec h vr vw vb vc hb hc ok t vt ht tk c ck vl) fun v18 s18 R18 => ?_
  obtain ⟨b19, vk, hk, rfl, rfl, OK⟩ := R18
  dsimp only [List.cons_append, List.nil_append]
  refine XO.q (Q.assign rfl) ?_
  refine XO.done ?_
  refine XK.seq ?_
  refine XK.region rfl ?_
  refine XO.q (Q.move rfl) ?_
  refine XO.q (Q.func (fun _ he => evs_rel he rfl) (fun _ he => rfl)) ?_
  refine XO.q (Q.move rfl) ?_
  refine XO.q (Q.func (fun _ he => evs_rel he rfl) (fun _ he => rfl)) ?_
  refine XO.q (Q.move rfl) ?_
  refine XO.q (Q.func (fun _ he => evs_rel he rfl) (fun _ he => rfl)) ?_
  refine XO.q (Q.build [_, _, _] (.c 0 1 rfl rfl rfl (.c 1 1 rfl rfl rfl (.c 2 1 rfl rfl rfl (.n _))))) ?_
  refine XO.alloc fun b8 => ?_
  refine XO.st rfl rfl rfl ?_
  refine XO.done ?_
  refine XK.seq ?_
  refine XK.region rfl ?_
  refine XO.q (Q.assign rfl) ?_
  refine XO.done ?_
  refine XK.seq ?_
  refine XK.seq ?_
  refine XK.region rfl ?_
  refine XO.q (Q.fieldAddr rfl) ?_
  refine XO.q (Q.ld rfl rfl) ?_
  refine XO.len rfl fun l28 => ?_
  refine XO.q (Q.move rfl) ?_
  refine XO.done ?_
  refine XK.block ?_
  refine XK.while (X := Nat × Value × PHeap) [9, 10, 11, 12, 14, 29, 30, 31, 32, 33, 34, 35, 36, 37, 38, 39, 40, 41, 42, 43, 44, 45, 46, 47, 48, 49, 50, 51, 52, 53, 54, 55, 56, 57, 58, 59] (fun ⟨i, vO, hO⟩ => [(29, some (.int .i64 (i : Nat))), (9, some (vO))]) (fun ⟨i, vO, hO⟩ => [hO]) (fun ⟨i, vO, hO⟩ => i ≤ h.rooms.length ∧ OArr vO encI 1 3 hO ((List.range i).map (nextAt h t c))) (fun ⟨i, vO, hO⟩ => h.rooms.length - i) (0, .slice none 0 0, emp) [emp] rfl ⟨by omega, by simpa using hnil⟩ (.c rfl (.c rfl (.base 0 rfl rfl))) ?_
  rintro ⟨i, vO, hO⟩ ⟨hi, OO⟩ ih0
  dsimp only [List.cons_append, List.nil_append] at ih0 ⊢
  refine XK.seq ?_
  refine XK.region rfl ?_
  refine XO.q (Q.lss rfl rfl) ?_
  refine XO.done ?_
  refine XK.seq ?_
  refine XK.if rfl (fun c0 => ?_) (fun c0 => ?_)
  · have _t0 := True.intro
    have hrm := ok.room i (by omega)
    have hI := tk.rng i (by omega)
    change 0 ≤ t.getD i default ∧ t.getD i default ≤ 1000000 at hI
    have hm := mul_abs (p := (h.rooms.getD i default).store) (d := t.getD i default) (P := 1000000) (D := 1000000) (by omega) hrm.2.1 (by omega) hI.2 (by omega)
    have hl1 := ck.rng i (by have := ck.len; omega)
    have hw1 := wsum_abs ok tk ck.out (i := i) (n := h.walls.length) (by omega) (Nat.le_refl _)
    have hc1 := csum_abs ok tk ck.pump.1 ck.pump.2 (i := i) (n := h.coolers.length) (Nat.le_refl _)
    have hnn := heat_nonneg ok tk ck (i := i) (by omega)
    have hnu : heatOf h t c i ≤ 10000000000000 := by unfold heatOf; change (h.rooms.getD i default).store * t.getD i default + _ + _ + _ ≤ _; omega
    refine XK.skip ?_
    refine XK.seq ?_
    refine XK.block ?_
    refine XK.seq ?_
    refine XK.region rfl ?_
    refine XO.q (Q.move rfl) ?_
    refine XO.ix rfl rfl (by omega) (by omega) fun i32 => ?_
    refine XO.q (Q.ldEA [_, _] rfl (by first | assumption | omega) rfl rfl) ?_
    refine XO.alloc fun b11 => ?_
    refine XO.q (Q.assign rfl) ?_
    refine XO.st rfl rfl rfl ?_
    refine XO.done ?_
    refine XK.seq ?_
    refine XK.drawn [0, 1, 2, 3, 4, 5, 6, 7] [b11] [] (.q 0 (.q 1 (.q 2 (.q 3 (.q 4 (.q 5 (.q 6 (.q 7 .done)))))))) Try.mixed rfl (by kernel_rfl) ?_
    refine XT.q rfl rfl (Q.fieldAddr rfl) ?_
    refine XT.q rfl rfl (Q.ld rfl rfl) ?_
    refine XT.q rfl rfl (Q.move rfl) ?_
    refine XT.q rfl rfl (Q.move rfl) ?_
    refine XT.ix rfl rfl rfl rfl (by omega) (by omega) fun i38 => ?_
    refine XT.q rfl rfl (Q.ldE rfl (by first | assumption | omega) rfl) ?_
    refine XT.q rfl rfl (Q.mul rfl rfl ⟨by omega, by omega⟩) ?_
    refine XT.q rfl rfl (Q.assign rfl) ?_
    refine XT.done ?_
    refine XK.seq ?_
    refine XK.seq ?_
    refine XK.region rfl ?_
    rw [show (h.rooms.getD i default).store * t.getD i default = (h.rooms.getD i default).store * t.getD i default + sumTo (fun j => ([c.load.getD i 0, sumTo (wheat h t c.out i) h.walls.length, sumTo (cheat h (takenL h t c.pump) i) h.coolers.length] : List Int).getD j default) 0 by rw [sumTo, Int.add_zero]]
    refine XO.q (Q.ldA [_, _, _] rfl rfl rfl) ?_
    refine XO.q (Q.move rfl) ?_
    refine XO.done ?_
    refine XK.block ?_
    refine XK.while (X := Nat) [12, 14, 42, 43, 44, 45, 46, 47, 48, 49, 50] (fun j => [(42, some (.int .i64 (j : Nat))), (12, some (.int .i64 ((h.rooms.getD i default).store * t.getD i default + sumTo (fun j => ([c.load.getD i 0, sumTo (wheat h t c.out i) h.walls.length, sumTo (cheat h (takenL h t c.pump) i) h.coolers.length] : List Int).getD j default) j)))]) (fun j => []) (fun j => j ≤ 3) (fun j => 3 - j) (0) [] rfl (by omega) (.c rfl (.c rfl (.base 0 rfl rfl))) ?_
    rintro j hj ih1
    dsimp only [List.cons_append, List.nil_append] at ih1 ⊢
    refine XK.seq ?_
    refine XK.region rfl ?_
    refine XO.q (Q.lss rfl rfl) ?_
    refine XO.done ?_
    refine XK.seq ?_
    refine XK.if rfl (fun c1 => ?_) (fun c1 => ?_)
    · have _t1 := True.intro
      have hpj : -1600000000000 ≤ ([c.load.getD i 0, sumTo (wheat h t c.out i) h.walls.length, sumTo (cheat h (takenL h t c.pump) i) h.coolers.length] : List Int).getD j default ∧ ([c.load.getD i 0, sumTo (wheat h t c.out i) h.walls.length, sumTo (cheat h (takenL h t c.pump) i) h.coolers.length] : List Int).getD j default ≤ 1600000000000 := three_bd7 (by omega) hw1 hc1 (by omega)
      have hsj := sum_abs (f := (fun j => ([c.load.getD i 0, sumTo (wheat h t c.out i) h.walls.length, sumTo (cheat h (takenL h t c.pump) i) h.coolers.length] : List Int).getD j default)) (n := j) (M := 1600000000000) fun k hk => three_bd7 (by omega) hw1 hc1 (by omega)
      refine XK.skip ?_
      refine XK.seq ?_
      refine XK.block ?_
      refine XK.seq ?_
      refine XK.region rfl ?_
      refine XO.q (Q.index1 (v := ([.func (.func 87) #[ptr b19 0] #[], .func (.func 88) #[ptr b19 0] #[], .func (.func 89) #[ptr b19 0] #[]] : List Value).getD j default) rfl rfl (by omega) (by omega) (list_get (by show j < 3; omega))) ?_
      refine XO.q (Q.assign rfl) ?_
      refine XO.done ?_
      refine XK.region rfl ?_
      refine XO.q (Q.move rfl) ?_
      refine XO.q (Q.move rfl) ?_
      refine XO.q (Q.move rfl) ?_
      refine XO.vcall rfl rfl (carr_spec h ok b19 vr vw vb vc vl vt vk c hw hc hl ht hk t tk ck i (by omega) j (by omega)) fun v48 s48 R48 => ?_
      obtain ⟨rfl, rfl⟩ := R48
      dsimp only [List.cons_append, List.nil_append]
      refine XO.q (Q.add rfl rfl ⟨by omega, by omega⟩) ?_
      refine XO.q (Q.assign rfl) ?_
      refine XO.done ?_
      refine XK.inBlock ?_
      refine XK.region rfl ?_
      refine XO.q (Q.add rfl rfl ⟨by omega, by omega⟩) ?_
      refine XO.q (Q.move rfl) ?_
      refine XO.done ?_
      rw [show (h.rooms.getD i default).store * t.getD i default + sumTo (fun j => ([c.load.getD i 0, sumTo (wheat h t c.out i) h.walls.length, sumTo (cheat h (takenL h t c.pump) i) h.coolers.length] : List Int).getD j default) j + ([c.load.getD i 0, sumTo (wheat h t c.out i) h.walls.length, sumTo (cheat h (takenL h t c.pump) i) h.coolers.length] : List Int).getD j default = (h.rooms.getD i default).store * t.getD i default + sumTo (fun j => ([c.load.getD i 0, sumTo (wheat h t c.out i) h.walls.length, sumTo (cheat h (takenL h t c.pump) i) h.coolers.length] : List Int).getD j default) (j + 1) by rw [sumTo, Int.add_assoc]]
      exact ih1 (j + 1) _ _ (by omega) (by first | omega | (dsimp only; omega)) (.c rfl (.c rfl (.base 24 rfl rfl))) inferInstance
    · have _t1 := True.intro
      have hj3 : j = 3 := by omega
      rw [hj3]
      rw [show (h.rooms.getD i default).store * t.getD i default + sumTo (fun j => ([c.load.getD i 0, sumTo (wheat h t c.out i) h.walls.length, sumTo (cheat h (takenL h t c.pump) i) h.coolers.length] : List Int).getD j default) 3 = heatOf h t c i by rw [heatOf]; exact sum_three ..]
      refine XK.exit rfl ?_
      refine XK.region rfl ?_
      refine XO.q (Q.move rfl) ?_
      refine XO.q (Q.move rfl) ?_
      refine XO.q (Q.fieldAddr rfl) ?_
      refine XO.q (Q.ld rfl rfl) ?_
      refine XO.q (Q.quo rfl rfl (by omega) (by omega) (by omega)) ?_
      refine XO.q (Q.min rfl rfl) ?_
      refine XO.lit [_] [_] [_] encI (by rfl) (by rfl) rfl (by rfl) (by exact .c 0 1 rfl rfl rfl (.n _)) (fun _ => rfl) (by rfl) rfl (by infer_instance) rfl fun v57 h57 O57 => ?_
      refine XO.append rfl rfl rfl rfl (by simp only [List.length_map, List.length_range, List.length_cons, List.length_nil]; omega) fun v58 h58 O58 => ?_
      refine XO.q (Q.assign rfl) ?_
      refine XO.done ?_
      refine XK.inBlock ?_
      refine XK.region rfl ?_
      refine XO.q (Q.add rfl rfl ⟨by omega, by omega⟩) ?_
      refine XO.q (Q.move rfl) ?_
      refine XO.done ?_
      exact ih0 (i + 1, v58, h58) _ _ ⟨by dsimp only; omega, by dsimp only; rw [show (List.range (i + 1)).map (nextAt h t c) = (List.range i).map (nextAt h t c) ++ [nextAt h t c i] by rw [List.range_succ, List.map_append]; rfl]; exact O58⟩ (by first | omega | (dsimp only; omega)) (.c rfl (.c rfl (.base 79 rfl rfl))) inferInstance
  · have _t0 := True.intro
    refine XK.exit rfl ?_
    refine XK.seq ?_
    refine XK.region rfl ?_
    refine XO.q (Q.move rfl) ?_
    refine XO.q (Q.assign rfl) ?_
    refine XO.done ?_
    refine XK.rt [hO] Try.func62 Try.results62 (.t rfl .n) ?_
    have hin : i = h.rooms.length := by omega
    rw [hin] at OO
    exact ⟨hO, rfl, OO⟩
end Go.X.Ht

set_option linter.unusedSimpArgs false
set_option linter.unusedVariables false
set_option maxRecDepth 20000
namespace Go.X.Ht
open Go.Proofs
theorem cloneI (v : Value) (h : PHeap) (xs : List Int) [s : Arr v encI 1 h xs] (hl : xs.length ≤ 68719476736) :
    Spec Try.prog 25 #[v] [] [h] (fun v' hs => ∃ h', hs = [h'] ∧ OArr v' encI 1 3 h' xs) := by
  refine Spec.intro (fn := Try.f25) (N := 8) Try.func25 rfl Try.ntmps25 rfl fun B => ?_
  refine XK.seq ?_
  refine XK.region rfl ?_
  refine XO.q (Q.assign rfl) ?_
  refine XO.done ?_
  refine XK.seq ?_
  refine XK.seq ?_
  refine XK.region rfl ?_
  refine XO.q (Q.move rfl) ?_
  refine XO.eqNil rfl fun z4 hz4 => ?_
  refine XO.done ?_
  refine XK.if rfl (fun c0 => ?_) (fun c0 => ?_)
  · have _t0 := True.intro
    refine XK.seq ?_
    refine XK.region rfl ?_
    refine XO.q (Q.assign rfl) ?_
    refine XO.done ?_
    refine XK.rt [emp] Try.func25 Try.results25 (.t rfl .n) ?_
    exact ⟨emp, rfl, by rw [(hz4 c0).1]; exact OArr.nil (fun _ => rfl)⟩
  · have _t0 := True.intro
    refine XK.skip ?_
    refine XK.seq ?_
    refine XK.region rfl ?_
    refine XO.lit [] [] [] encI (by rfl) (by rfl) rfl (by rfl) (by exact .n _) (fun _ => rfl) (by rfl) rfl (by infer_instance) rfl fun v5 h5 O5 => ?_
    refine XO.q (Q.move rfl) ?_
    refine XO.append rfl rfl rfl rfl (by first | omega | (simp; omega)) fun v7 h7 O7 => ?_
    refine XO.q (Q.assign rfl) ?_
    refine XO.done ?_
    refine XK.rt [h7] Try.func25 Try.results25 (.t rfl .n) ?_
    exact ⟨h7, rfl, O7⟩
theorem equalI (v1 v2 : Value) (h1 h2 : PHeap) (xs ys : List Int) [s1 : Arr v1 encI 1 h1 xs] [s2 : Arr v2 encI 1 h2 ys] :
    Spec Try.prog 37 #[v1, v2] [] [h1, h2] (fun v hs => v = .bool (decide (xs = ys)) ∧ hs = []) := by
  refine Spec.intro (fn := Try.f37) (N := 26) Try.func37 rfl Try.ntmps37 rfl fun B => ?_
  refine XK.seq ?_
  refine XK.region rfl ?_
  refine XO.q (Q.assign rfl) ?_
  refine XO.done ?_
  refine XK.seq ?_
  refine XK.seq ?_
  refine XK.region rfl ?_
  refine XO.q (Q.move rfl) ?_
  refine XO.len rfl fun l7 => ?_
  refine XO.q (Q.move rfl) ?_
  refine XO.len rfl fun l9 => ?_
  refine XO.q (Q.neq rfl rfl) ?_
  refine XO.done ?_
  refine XK.if rfl (fun c0 => ?_) (fun c0 => ?_)
  · have _t0 := True.intro
    refine XK.seq ?_
    refine XK.region rfl ?_
    refine XO.q (Q.assign rfl) ?_
    refine XO.done ?_
    refine XK.rt [] Try.func37 Try.results37 (.t rfl .n) ?_
    exact ⟨by rw [decide_eq_false (fun h => c0 (by rw [h]))], rfl⟩
  · have _t0 := True.intro
    refine XK.skip ?_
    refine XK.seq ?_
    refine XK.seq ?_
    refine XK.region rfl ?_
    refine XO.q (Q.move rfl) ?_
    refine XO.len rfl fun l12 => ?_
    refine XO.q (Q.move rfl) ?_
    refine XO.done ?_
    refine XK.block ?_
    refine XK.while (X := Nat) [4, 5, 13, 14, 15, 16, 17, 18, 19, 20, 21, 22, 23, 24, 25] (fun i => [(13, some (.int .i64 (i : Nat)))]) (fun i => []) (fun i => i ≤ xs.length ∧ xs.take i = ys.take i) (fun i => xs.length - i) (0) [] rfl ⟨by omega, rfl⟩ (.c rfl (.base 0 rfl rfl)) ?_
    rintro i ⟨hi, ht⟩ ih0
    dsimp only [List.cons_append, List.nil_append] at ih0 ⊢
    refine XK.seq ?_
    refine XK.region rfl ?_
    refine XO.q (Q.lss rfl rfl) ?_
    refine XO.done ?_
    refine XK.seq ?_
    refine XK.if rfl (fun c1 => ?_) (fun c1 => ?_)
    · have _t1 := True.intro
      refine XK.skip ?_
      refine XK.seq ?_
      refine XK.block ?_
      refine XK.seq ?_
      refine XK.region rfl ?_
      refine XO.q (Q.move rfl) ?_
      refine XO.q (Q.assign rfl) ?_
      refine XO.done ?_
      refine XK.seq ?_
      refine XK.drawn [0, 1, 2, 3, 4, 5, 6, 7, 8] [] [] (.q 0 (.q 1 (.q 2 (.q 3 (.q 4 (.q 5 (.q 6 (.q 7 (.q 8 .done))))))))) Try.mixed rfl (by kernel_rfl) ?_
      refine XT.q rfl rfl (Q.move rfl) ?_
      refine XT.q rfl rfl (Q.move rfl) ?_
      refine XT.ix rfl rfl rfl rfl (by omega) (by omega) fun i18 => ?_
      refine XT.q rfl rfl (Q.ldE rfl (by first | assumption | omega) rfl) ?_
      refine XT.q rfl rfl (Q.move rfl) ?_
      refine XT.q rfl rfl (Q.move rfl) ?_
      refine XT.ix rfl rfl rfl rfl (by omega) (by omega) fun i22 => ?_
      refine XT.q rfl rfl (Q.ldE rfl (by first | assumption | omega) rfl) ?_
      refine XT.q rfl rfl (Q.neq rfl rfl) ?_
      refine XT.done ?_
      refine XK.if rfl (fun c2 => ?_) (fun c2 => ?_)
      · have _t2 := True.intro
        refine XK.seq ?_
        refine XK.region rfl ?_
        refine XO.q (Q.assign rfl) ?_
        refine XO.done ?_
        refine XK.rt [] Try.func37 Try.results37 (.t rfl .n) ?_
        exact ⟨by rw [decide_eq_false (fun h => c2 (by rw [h]))], rfl⟩
      · have _t2 := True.intro
        refine XK.skip ?_
        refine XK.inBlock ?_
        refine XK.region rfl ?_
        refine XO.q (Q.add rfl rfl ⟨by omega, by omega⟩) ?_
        refine XO.q (Q.move rfl) ?_
        refine XO.done ?_
        exact ih0 (i + 1) _ _ ⟨by omega, take_step ht (by omega) (by omega) (Decidable.of_not_not c2)⟩ (by first | omega | (dsimp only; omega)) (.c rfl (.base 30 rfl rfl)) inferInstance
    · have _t1 := True.intro
      refine XK.exit rfl ?_
      refine XK.seq ?_
      refine XK.region rfl ?_
      refine XO.q (Q.assign rfl) ?_
      refine XO.done ?_
      refine XK.rt [] Try.func37 Try.results37 (.t rfl .n) ?_
      exact ⟨by rw [decide_eq_true (take_all ht c1 (by omega))], rfl⟩
theorem indexFuncI (v : Value) (h : PHeap) (xs : List Int) [s : Arr v encI 1 h xs] (gid : FuncId) (cap : List Value) (Hr : List PHeap) (p : Int → Bool)
    (hc : ∀ args w, (callFunc gid args).run Try.prog w = .ok (.enter gid args) w) (hS : ∀ x ∈ xs, Spec Try.prog gid (.int .i64 x :: cap).toArray [] Hr (fun v hs => v = .bool (p x) ∧ hs = [])) :
    Spec Try.prog 90 #[v, .func (.func gid) #[] cap.toArray] [] (h :: Hr) (fun v hs => v = .int .i64 (findFirst p xs) ∧ hs = []) := by
  refine Spec.intro (fn := Try.f90) (N := 19) Try.func90 rfl Try.ntmps90 rfl fun B => ?_
  refine XK.seq ?_
  refine XK.region rfl ?_
  refine XO.q (Q.assign rfl) ?_
  refine XO.done ?_
  refine XK.seq ?_
  refine XK.seq ?_
  refine XK.region rfl ?_
  refine XO.q (Q.move rfl) ?_
  refine XO.len rfl fun l7 => ?_
  refine XO.q (Q.move rfl) ?_
  refine XO.done ?_
  refine XK.block ?_
  refine XK.while (X := Nat) [4, 5, 8, 9, 10, 11, 12, 13, 14, 15, 16, 17, 18] (fun i => [(8, some (.int .i64 (i : Nat)))]) (fun i => []) (fun i => i ≤ xs.length ∧ (xs.take i).any p = false) (fun i => xs.length - i) (0) [] rfl ⟨by omega, rfl⟩ (.c rfl (.base 0 rfl rfl)) ?_
  rintro i ⟨hi, ht⟩ ih0
  dsimp only [List.cons_append, List.nil_append] at ih0 ⊢
  refine XK.seq ?_
  refine XK.region rfl ?_
  refine XO.q (Q.lss rfl rfl) ?_
  refine XO.done ?_
  refine XK.seq ?_
  refine XK.if rfl (fun c0 => ?_) (fun c0 => ?_)
  · have _t0 := True.intro
    refine XK.skip ?_
    refine XK.seq ?_
    refine XK.block ?_
    refine XK.seq ?_
    refine XK.region rfl ?_
    refine XO.q (Q.move rfl) ?_
    refine XO.q (Q.assign rfl) ?_
    refine XO.done ?_
    refine XK.seq ?_
    refine XK.region rfl ?_
    refine XO.q (Q.move rfl) ?_
    refine XO.q (Q.move rfl) ?_
    refine XO.q (Q.move rfl) ?_
    refine XO.ix rfl rfl (by omega) (by omega) fun i14 => ?_
    refine XO.q (Q.ldE rfl (by first | assumption | omega) rfl) ?_
    refine XO.call hc rfl rfl rfl (hS _ (getD_mem (by omega))) fun v16 s16 R16 => ?_
    obtain ⟨rfl, rfl⟩ := R16
    dsimp only [List.cons_append, List.nil_append]
    refine XO.done ?_
    refine XK.if rfl (fun c1 => ?_) (fun c1 => ?_)
    · have _t1 := True.intro
      refine XK.seq ?_
      refine XK.region rfl ?_
      refine XO.q (Q.move rfl) ?_
      refine XO.q (Q.assign rfl) ?_
      refine XO.done ?_
      refine XK.rt [] Try.func90 Try.results90 (.t rfl .n) ?_
      exact ⟨by rw [findFirst_here ht (by omega) c1], rfl⟩
    · have _t1 := True.intro
      refine XK.skip ?_
      refine XK.inBlock ?_
      refine XK.region rfl ?_
      refine XO.q (Q.add rfl rfl ⟨by omega, by omega⟩) ?_
      refine XO.q (Q.move rfl) ?_
      refine XO.done ?_
      exact ih0 (i + 1) _ _ ⟨by omega, any_step ht (by omega) (Bool.eq_false_iff.2 c1)⟩ (by first | omega | (dsimp only; omega)) (.c rfl (.base 25 rfl rfl)) inferInstance
  · have _t0 := True.intro
    refine XK.exit rfl ?_
    refine XK.seq ?_
    refine XK.region rfl ?_
    refine XO.q (Q.assign rfl) ?_
    refine XO.done ?_
    refine XK.rt [] Try.func90 Try.results90 (.t rfl .n) ?_
    exact ⟨by rw [findFirst_none ht c0], rfl⟩
theorem containsFuncI (v : Value) (h : PHeap) (xs : List Int) [s : Arr v encI 1 h xs] (gid : FuncId) (cap : List Value) (Hr : List PHeap) (p : Int → Bool)
    (hc : ∀ args w, (callFunc gid args).run Try.prog w = .ok (.enter gid args) w) (hS : ∀ x ∈ xs, Spec Try.prog gid (.int .i64 x :: cap).toArray [] Hr (fun v hs => v = .bool (p x) ∧ hs = [])) :
    Spec Try.prog 63 #[v, .func (.func gid) #[] cap.toArray] [] (h :: Hr) (fun v hs => v = .bool (xs.any p) ∧ hs = []) := by
  refine Spec.intro (fn := Try.f63) (N := 9) Try.func63 rfl Try.ntmps63 rfl fun B => ?_
  refine XK.seq ?_
  refine XK.region rfl ?_
  refine XO.q (Q.assign rfl) ?_
  refine XO.done ?_
  refine XK.seq ?_
  refine XK.region rfl ?_
  refine XO.q (Q.move rfl) ?_
  refine XO.q (Q.move rfl) ?_
  refine XO.call Try.call90 rfl rfl rfl (indexFuncI v h xs gid cap Hr p hc hS) fun v7 s7 R7 => ?_
  obtain ⟨rfl, rfl⟩ := R7
  dsimp only [List.cons_append, List.nil_append]
  refine XO.q (Q.geq rfl rfl) ?_
  refine XO.q (Q.assign rfl) ?_
  refine XO.done ?_
  refine XK.rt [] Try.func63 Try.results63 (.t rfl .n) ?_
  exact ⟨by rw [← findFirst_any], rfl⟩
theorem warm1 (x : Int) : Spec Try.prog 97 #[.int .i64 x] [] [] (fun v hs => v = .bool (!inP x 1000000) ∧ hs = []) := by
  refine Spec.intro (fn := Try.f97) (N := 6) Try.func97 rfl Try.ntmps97 rfl fun B => ?_
  refine XK.seq ?_
  refine XK.region rfl ?_
  refine XO.q (Q.assign rfl) ?_
  refine XO.done ?_
  refine XK.seq ?_
  refine XK.region rfl ?_
  refine XO.q (Q.move rfl) ?_
  refine XO.call Try.call78 rfl rfl rfl (in_spec _ _) fun v4 s4 R4 => ?_
  obtain ⟨rfl, rfl⟩ := R4
  dsimp only [List.cons_append, List.nil_append]
  refine XO.q (Q.not rfl) ?_
  refine XO.q (Q.assign rfl) ?_
  refine XO.done ?_
  refine XK.rt [] Try.func97 Try.results97 (.t rfl .n) ?_
  exact ⟨rfl, rfl⟩
theorem cased1 (x : Int) : Spec Try.prog 98 #[.int .i64 x] [] [] (fun v hs => v = .bool (!inP x 10000000) ∧ hs = []) := by
  refine Spec.intro (fn := Try.f98) (N := 6) Try.func98 rfl Try.ntmps98 rfl fun B => ?_
  refine XK.seq ?_
  refine XK.region rfl ?_
  refine XO.q (Q.assign rfl) ?_
  refine XO.done ?_
  refine XK.seq ?_
  refine XK.region rfl ?_
  refine XO.q (Q.move rfl) ?_
  refine XO.call Try.call78 rfl rfl rfl (in_spec _ _) fun v4 s4 R4 => ?_
  obtain ⟨rfl, rfl⟩ := R4
  dsimp only [List.cons_append, List.nil_append]
  refine XO.q (Q.not rfl) ?_
  refine XO.q (Q.assign rfl) ?_
  refine XO.done ?_
  refine XK.rt [] Try.func98 Try.results98 (.t rfl .n) ?_
  exact ⟨rfl, rfl⟩
theorem warm_spec (h : Hall) (vr vw vb vc : Value) (hr : PHeap) [ir : Arr vr encRoom 2 hr h.rooms] [iw : One vw] [ib : One vb] [ic : One vc] (vt : Value) (ht : PHeap) (t : List Int) [it : Arr vt encI 1 ht t] : Spec Try.prog 83 #[.agg #[vr, vw, vb, vc], vt] [] [hr, ht]
    (fun v hs => v = .int .i64 (warmP h t) ∧ hs = []) := by
  refine Spec.intro (fn := Try.f83) (N := 13) Try.func83 rfl Try.ntmps83 rfl fun B => ?_
  refine XK.seq ?_
  refine XK.region rfl ?_
  refine XO.box rfl fun b2 => ?_
  refine XO.q (Q.assign rfl) ?_
  refine XO.done ?_
  refine XK.seq ?_
  refine XK.seq ?_
  refine XK.region rfl ?_
  refine XO.q (Q.move rfl) ?_
  refine XO.len rfl fun l6 => ?_
  refine XO.q (Q.fieldAddr rfl) ?_
  refine XO.q (Q.ld rfl rfl) ?_
  refine XO.len rfl fun l9 => ?_
  refine XO.q (Q.neq rfl rfl) ?_
  refine XO.done ?_
  refine XK.if rfl (fun c0 => ?_) (fun c0 => ?_)
  · have _t0 := True.intro
    refine XK.seq ?_
    refine XK.region rfl ?_
    refine XO.q (Q.assign rfl) ?_
    refine XO.done ?_
    refine XK.rt [] Try.func83 Try.results83 (.t rfl .n) ?_
    exact ⟨by rw [warmP, if_pos c0], rfl⟩
  · have _t0 := True.intro
    refine XK.skip ?_
    refine XK.seq ?_
    refine XK.seq ?_
    refine XK.region rfl ?_
    refine XO.q (Q.move rfl) ?_
    refine XO.call Try.call63 rfl rfl rfl (containsFuncI vt ht t 97 [] [] _ Try.call97 (fun x hx => warm1 x)) fun v12 s12 R12 => ?_
    obtain ⟨rfl, rfl⟩ := R12
    dsimp only [List.cons_append, List.nil_append]
    refine XO.done ?_
    refine XK.if rfl (fun c1 => ?_) (fun c1 => ?_)
    · have _t1 := True.intro
      refine XK.seq ?_
      refine XK.region rfl ?_
      refine XO.q (Q.assign rfl) ?_
      refine XO.done ?_
      refine XK.rt [] Try.func83 Try.results83 (.t rfl .n) ?_
      exact ⟨by rw [warmP, if_neg c0, if_pos c1], rfl⟩
    · have _t1 := True.intro
      refine XK.skip ?_
      refine XK.seq ?_
      refine XK.region rfl ?_
      refine XO.q (Q.assign rfl) ?_
      refine XO.done ?_
      refine XK.rt [] Try.func83 Try.results83 (.t rfl .n) ?_
      exact ⟨by rw [warmP, if_neg c0, if_neg c1], rfl⟩
theorem cased_spec (h : Hall) (vr vw vb vc : Value) (hr : PHeap) [ir : Arr vr encRoom 2 hr h.rooms] [iw : One vw] [ib : One vb] [ic : One vc] (vl : Value) (hl : PHeap) (c : HCase) [il : Arr vl encI 1 hl c.load] : Spec Try.prog 84 #[.agg #[vr, vw, vb, vc], .agg #[vl, .int .i64 c.out, .int .i64 c.pump]] [] [hr, hl]
    (fun v hs => v = .int .i64 (casedP h c) ∧ hs = []) := by
  refine Spec.intro (fn := Try.f84) (N := 27) Try.func84 rfl Try.ntmps84 rfl fun B => ?_
  refine XK.seq ?_
  refine XK.region rfl ?_
  refine XO.box rfl fun b2 => ?_
  refine XO.box rfl fun b3 => ?_
  refine XO.q (Q.assign rfl) ?_
  refine XO.done ?_
  refine XK.seq ?_
  refine XK.seq ?_
  refine XK.region rfl ?_
  refine XO.q (Q.fieldAddr rfl) ?_
  refine XO.q (Q.ld rfl rfl) ?_
  refine XO.len rfl fun l7 => ?_
  refine XO.q (Q.fieldAddr rfl) ?_
  refine XO.q (Q.ld rfl rfl) ?_
  refine XO.len rfl fun l10 => ?_
  refine XO.q (Q.neq rfl rfl) ?_
  refine XO.done ?_
  refine XK.if rfl (fun c0 => ?_) (fun c0 => ?_)
  · have _t0 := True.intro
    refine XK.seq ?_
    refine XK.region rfl ?_
    refine XO.q (Q.assign rfl) ?_
    refine XO.done ?_
    refine XK.rt [] Try.func84 Try.results84 (.t rfl .n) ?_
    exact ⟨by rw [casedP, if_pos c0], rfl⟩
  · have _t0 := True.intro
    refine XK.skip ?_
    refine XK.seq ?_
    refine XK.seq ?_
    refine XK.region rfl ?_
    refine XO.q (Q.fieldAddr rfl) ?_
    refine XO.q (Q.ld rfl rfl) ?_
    refine XO.call Try.call63 rfl rfl rfl (containsFuncI vl hl c.load 98 [] [] _ Try.call98 (fun x hx => cased1 x)) fun v14 s14 R14 => ?_
    obtain ⟨rfl, rfl⟩ := R14
    dsimp only [List.cons_append, List.nil_append]
    refine XO.q (Q.move rfl) ?_
    refine XO.q (Quiet.guardF rfl rfl fun g16 p16 => Q.fieldAddr rfl) ?_
    refine XO.q (Quiet.guardF rfl rfl fun g17 p17 => Q.ld (lzv g17 rfl) rfl) ?_
    refine XO.gcallF rfl rfl Try.call78 rfl (fun g18 => .c (lzv g18 rfl) (.c rfl .n)) rfl (fun g18 p18 => in_spec _ _) ?_
    refine XO.q (Quiet.guardF rfl rfl fun g19 p19 => Q.not (lzv g19 rfl)) ?_
    refine XO.q (Q.or rfl (fun hp => lzv hp rfl)) ?_
    refine XO.q (Q.move rfl) ?_
    refine XO.q (Quiet.guardF rfl rfl fun g22 p22 => Q.fieldAddr rfl) ?_
    refine XO.q (Quiet.guardF rfl rfl fun g23 p23 => Q.ld (lzv g23 rfl) rfl) ?_
    refine XO.gcallF rfl rfl Try.call78 rfl (fun g24 => .c (lzv g24 rfl) (.c rfl .n)) rfl (fun g24 p24 => in_spec _ _) ?_
    refine XO.q (Quiet.guardF rfl rfl fun g25 p25 => Q.not (lzv g25 rfl)) ?_
    refine XO.q (Q.or rfl (fun hp => lzv hp rfl)) ?_
    refine XO.done ?_
    refine XK.if rfl (fun c1 => ?_) (fun c1 => ?_)
    · have _t1 := True.intro
      refine XK.seq ?_
      refine XK.region rfl ?_
      refine XO.q (Q.assign rfl) ?_
      refine XO.done ?_
      refine XK.rt [] Try.func84 Try.results84 (.t rfl .n) ?_
      exact ⟨by rw [casedP, if_neg c0, if_pos c1], rfl⟩
    · have _t1 := True.intro
      refine XK.skip ?_
      refine XK.seq ?_
      refine XK.region rfl ?_
      refine XO.q (Q.assign rfl) ?_
      refine XO.done ?_
      refine XK.rt [] Try.func84 Try.results84 (.t rfl .n) ?_
      exact ⟨by rw [casedP, if_neg c0, if_neg c1], rfl⟩
theorem indexE (v : Value) (hh : PHeap) (xs : List Int) [s : Arr v encI 1 hh xs] (x : Int) : Spec Try.prog 105 #[v, .int .i64 x] [] [hh] (fun v hs => v = .int .i64 (findFirst (fun y => decide (x = y)) xs) ∧ hs = []) := by
  refine Spec.intro (fn := Try.f105) (N := 19) Try.func105 rfl Try.ntmps105 rfl fun B => ?_
  refine XK.seq ?_
  refine XK.region rfl ?_
  refine XO.q (Q.assign rfl) ?_
  refine XO.done ?_
  refine XK.seq ?_
  refine XK.seq ?_
  refine XK.region rfl ?_
  refine XO.q (Q.move rfl) ?_
  refine XO.len rfl fun l7 => ?_
  refine XO.q (Q.move rfl) ?_
  refine XO.done ?_
  refine XK.block ?_
  refine XK.while (X := Nat) [4, 5, 8, 9, 10, 11, 12, 13, 14, 15, 16, 17, 18] (fun i => [(8, some (.int .i64 (i : Nat)))]) (fun i => []) (fun i => i ≤ xs.length ∧ (xs.take i).any (fun y => decide (x = y)) = false) (fun i => xs.length - i) (0) [] rfl ⟨by omega, rfl⟩ (.c rfl (.base 0 rfl rfl)) ?_
  rintro i ⟨hi, hany⟩ ih0
  dsimp only [List.cons_append, List.nil_append] at ih0 ⊢
  refine XK.seq ?_
  refine XK.region rfl ?_
  refine XO.q (Q.lss rfl rfl) ?_
  refine XO.done ?_
  refine XK.seq ?_
  refine XK.if rfl (fun c0 => ?_) (fun c0 => ?_)
  · have _t0 := True.intro
    refine XK.skip ?_
    refine XK.seq ?_
    refine XK.block ?_
    refine XK.seq ?_
    refine XK.region rfl ?_
    refine XO.q (Q.move rfl) ?_
    refine XO.q (Q.assign rfl) ?_
    refine XO.done ?_
    refine XK.seq ?_
    refine XK.region rfl ?_
    refine XO.q (Q.move rfl) ?_
    refine XO.q (Q.move rfl) ?_
    refine XO.q (Q.move rfl) ?_
    refine XO.ix rfl rfl (by omega) (by omega) fun i14 => ?_
    refine XO.q (Q.ldE rfl (by first | assumption | omega) rfl) ?_
    refine XO.q (Q.eql rfl rfl) ?_
    refine XO.done ?_
    refine XK.if rfl (fun c1 => ?_) (fun c1 => ?_)
    · have _t1 := True.intro
      refine XK.seq ?_
      refine XK.region rfl ?_
      refine XO.q (Q.move rfl) ?_
      refine XO.q (Q.assign rfl) ?_
      refine XO.done ?_
      refine XK.rt [] Try.func105 Try.results105 (.t rfl .n) ?_
      exact ⟨by rw [findFirst_here hany (by omega) (by rw [decide_eq_true_eq]; exact c1)], rfl⟩
    · have _t1 := True.intro
      refine XK.skip ?_
      refine XK.inBlock ?_
      refine XK.region rfl ?_
      refine XO.q (Q.add rfl rfl ⟨by omega, by omega⟩) ?_
      refine XO.q (Q.move rfl) ?_
      refine XO.done ?_
      exact ih0 (i + 1) _ _ ⟨by omega, any_step hany (by omega) (by rw [decide_eq_false_iff_not]; exact c1)⟩ (by first | omega | (dsimp only; omega)) (.c rfl (.base 25 rfl rfl)) inferInstance
  · have _t0 := True.intro
    refine XK.exit rfl ?_
    refine XK.seq ?_
    refine XK.region rfl ?_
    refine XO.q (Q.assign rfl) ?_
    refine XO.done ?_
    refine XK.rt [] Try.func105 Try.results105 (.t rfl .n) ?_
    exact ⟨by rw [findFirst_none hany c0], rfl⟩
theorem containsE (v : Value) (hh : PHeap) (xs : List Int) [s : Arr v encI 1 hh xs] (x : Int) : Spec Try.prog 96 #[v, .int .i64 x] [] [hh] (fun v hs => v = .bool (xs.any (fun y => decide (x = y))) ∧ hs = []) := by
  refine Spec.intro (fn := Try.f96) (N := 9) Try.func96 rfl Try.ntmps96 rfl fun B => ?_
  refine XK.seq ?_
  refine XK.region rfl ?_
  refine XO.q (Q.assign rfl) ?_
  refine XO.done ?_
  refine XK.seq ?_
  refine XK.region rfl ?_
  refine XO.q (Q.move rfl) ?_
  refine XO.q (Q.move rfl) ?_
  refine XO.call Try.call105 rfl rfl rfl (indexE v hh xs x) fun v7 s7 R7 => ?_
  obtain ⟨rfl, rfl⟩ := R7
  dsimp only [List.cons_append, List.nil_append]
  refine XO.q (Q.geq rfl rfl) ?_
  refine XO.q (Q.assign rfl) ?_
  refine XO.done ?_
  refine XK.rt [] Try.func96 Try.results96 (.t rfl .n) ?_
  exact ⟨by rw [← findFirst_any], rfl⟩
theorem any_mem {x : Int} {xs : List Int} : xs.any (fun y => decide (x = y)) = true ↔ x ∈ xs := by
  rw [List.any_eq_true]
  exact ⟨fun ⟨y, hy, h⟩ => by rw [decide_eq_true_eq] at h; exact h ▸ hy, fun h => ⟨x, h, by simp⟩⟩
theorem both_spec (v : Value) (hh : PHeap) (xs : List Int) [s : Arr v encI 1 hh xs] : Spec Try.prog 82 #[v] [] [hh] (fun v hs => v = .int .i64 (bothP xs) ∧ hs = []) := by
  refine Spec.intro (fn := Try.f82) (N := 16) Try.func82 rfl Try.ntmps82 rfl fun B => ?_
  refine XK.seq ?_
  refine XK.region rfl ?_
  refine XO.q (Q.assign rfl) ?_
  refine XO.done ?_
  refine XK.seq ?_
  refine XK.seq ?_
  refine XK.region rfl ?_
  refine XO.lit [_, _] [_, _] [1, 6] encI (by rfl) (by rfl) rfl (by rfl) (by exact .c 0 1 rfl rfl rfl (.c 1 1 rfl rfl rfl (.n _))) (fun _ => rfl) (by rfl) rfl (by infer_instance) rfl fun v5 h5 O5 => ?_
  refine XO.len rfl fun l6 => ?_
  rw [show (((([1, 6] : List Int).length : Nat) : Int)) = 2 from rfl]
  refine XO.q (Q.move rfl) ?_
  refine XO.done ?_
  refine XK.block ?_
  refine XK.while (X := Nat) [2, 4, 7, 8, 9, 10, 11, 12, 13, 14, 15] (fun i => [(7, some (.int .i64 (i : Nat)))]) (fun i => []) (fun i => i ≤ 2 ∧ (0 < i → ¬ (1 : Int) ∈ xs) ∧ (1 < i → ¬ (6 : Int) ∈ xs)) (fun i => 2 - i) (0) [] rfl ⟨by omega, by omega, by omega⟩ (.c rfl (.base 0 rfl rfl)) ?_
  rintro i ⟨hi, h0, h1⟩ ih0
  dsimp only [List.cons_append, List.nil_append] at ih0 ⊢
  refine XK.seq ?_
  refine XK.region rfl ?_
  refine XO.q (Q.lss rfl rfl) ?_
  refine XO.done ?_
  refine XK.seq ?_
  refine XK.if rfl (fun c0 => ?_) (fun c0 => ?_)
  · have _t0 := True.intro
    refine XK.skip ?_
    refine XK.seq ?_
    refine XK.block ?_
    refine XK.seq ?_
    refine XK.region rfl ?_
    refine XO.ix rfl rfl (by omega) (by show (i : Int) < 2; omega) fun i9 => ?_
    refine XO.q (Q.ldE rfl (by first | assumption | omega) rfl) ?_
    refine XO.q (Q.assign rfl) ?_
    refine XO.done ?_
    refine XK.seq ?_
    refine XK.region rfl ?_
    refine XO.q (Q.move rfl) ?_
    refine XO.q (Q.move rfl) ?_
    refine XO.call Try.call96 rfl rfl rfl (containsE v hh xs _) fun v13 s13 R13 => ?_
    obtain ⟨rfl, rfl⟩ := R13
    dsimp only [List.cons_append, List.nil_append]
    refine XO.done ?_
    refine XK.if rfl (fun c1 => ?_) (fun c1 => ?_)
    · have _t1 := True.intro
      refine XK.seq ?_
      refine XK.region rfl ?_
      refine XO.q (Q.move rfl) ?_
      refine XO.q (Q.assign rfl) ?_
      refine XO.done ?_
      refine XK.rt [] Try.func82 Try.results82 (.t rfl .n) ?_
      rw [any_mem] at c1
      match i, (by omega : i < 2) with
      | 0, _ => exact ⟨by rw [bothP, if_pos (show (1 : Int) ∈ xs from c1)]; rfl, rfl⟩
      | 1, _ => exact ⟨by rw [bothP, if_neg (h0 (by omega)), if_pos (show (6 : Int) ∈ xs from c1)]; rfl, rfl⟩
    · have _t1 := True.intro
      refine XK.skip ?_
      refine XK.inBlock ?_
      refine XK.region rfl ?_
      refine XO.q (Q.add rfl rfl ⟨by omega, by omega⟩) ?_
      refine XO.q (Q.move rfl) ?_
      refine XO.done ?_
      rw [any_mem] at c1
      exact ih0 (i + 1) _ _ (by match i, (by omega : i < 2) with
          | 0, _ => exact ⟨by omega, fun _ => c1, by omega⟩
          | 1, _ => exact ⟨by omega, fun _ => h0 (by omega), fun _ => c1⟩) (by first | omega | (dsimp only; omega)) (.c rfl (.base 21 rfl rfl)) inferInstance
  · have _t0 := True.intro
    refine XK.exit rfl ?_
    refine XK.seq ?_
    refine XK.region rfl ?_
    refine XO.q (Q.assign rfl) ?_
    refine XO.done ?_
    refine XK.rt [] Try.func82 Try.results82 (.t rfl .n) ?_
    have hi2 : i = 2 := by omega
    exact ⟨by rw [bothP, if_neg (h0 (by omega)), if_neg (h1 (by omega))], rfl⟩
theorem Next_spec (h : Hall) (vr vw vb vc : Value) (hr hw hb hc : PHeap) [ir : Arr vr encRoom 2 hr h.rooms] [iw : Arr vw encWall 3 hw h.walls] [ib : Arr vb encBranch 3 hb h.branches] [ic : Arr vc encCooler 5 hc h.coolers] (t : List Int) (vt : Value) (ht : PHeap) [it : Arr vt encI 1 ht t] (c : HCase) (vl : Value) (hl : PHeap) [il : Arr vl encI 1 hl c.load] : Spec Try.prog 59 #[.agg #[vr, vw, vb, vc], vt, .agg #[vl, .int .i64 c.out, .int .i64 c.pump]] [] [hr, hw, hb, hc, ht, hl]
    (fun v hs => ∃ v1 k1, v = .tuple #[v1, .int .i64 (nextG h t c).2] ∧ hs = [k1] ∧ OArr v1 encI 1 3 k1 (nextG h t c).1) := by
  refine Spec.intro (fn := Try.f59) (N := 30) Try.func59 rfl Try.ntmps59 rfl fun B => ?_
  refine XK.seq ?_
  refine XK.region rfl ?_
  refine XO.box rfl fun b3 => ?_
  refine XO.box rfl fun b5 => ?_
  refine XO.q (Q.assign rfl) ?_
  refine XO.q (Q.assign rfl) ?_
  refine XO.done ?_
  refine XK.seq ?_
  refine XK.seq ?_
  refine XK.region rfl ?_
  refine XO.q (Q.ldA [_, _, _, _] rfl rfl rfl) ?_
  refine XO.call Try.call81 rfl rfl rfl (Check_spec h vr vw vb vc hr hw hb hc) fun v11 s11 R11 => ?_
  obtain ⟨rfl, rfl⟩ := R11
  dsimp only [List.cons_append, List.nil_append]
  refine XO.q (Q.assign rfl) ?_
  refine XO.done ?_
  refine XK.seq ?_
  refine XK.region rfl ?_
  refine XO.q (Q.move rfl) ?_
  refine XO.q (Q.neq rfl rfl) ?_
  refine XO.done ?_
  refine XK.if rfl (fun c0 => ?_) (fun c0 => ?_)
  · have _t0 := True.intro
    refine XK.seq ?_
    refine XK.region rfl ?_
    refine XO.q (Q.move rfl) ?_
    refine XO.q (Q.assign rfl) ?_
    refine XO.q (Q.assign rfl) ?_
    refine XO.done ?_
    refine XK.rt [emp] Try.func59 Try.results59 (.t rfl (.t rfl .n)) ?_
    have hw0 : nextG h t c = ([], hcheck h) := by rw [nextG, if_pos c0]
    rw [hw0]
    exact ⟨.slice none 0 0, emp, rfl, rfl, OArr.nil (fun _ => rfl)⟩
  · have _t0 := True.intro
    refine XK.skip ?_
    refine XK.seq ?_
    refine XK.seq ?_
    refine XK.drawn [0, 1, 3, 4, 8] [b3, b5] [] (.q 0 (.q 1 (.q 3 (.q 4 (.br 2 true (.br 5 true (.br 6 true (.br 7 true (.q 8 .done) .stop) .stop) .stop) .stop))))) Try.mixed rfl (by kernel_rfl) ?_
    refine XT.q rfl rfl (Q.ldA [_, _, _, _] rfl rfl rfl) ?_
    refine XT.q rfl rfl (Q.move rfl) ?_
    refine XT.q rfl rfl (Q.ldA [_, _, _, _] rfl rfl rfl) ?_
    refine XT.q rfl rfl (Q.ldA [_, _, _] rfl rfl rfl) ?_
    refine XT.call rfl rfl Try.call83 rfl rfl rfl (warm_spec h vr vw vb vc hr vt ht t) (fun v17 s17 R17 => ?_) XT.stop
    obtain ⟨rfl, rfl⟩ := R17
    dsimp only [List.cons_append, List.nil_append]
    refine ⟨inferInstance, ?_⟩
    refine XT.call rfl rfl Try.call84 rfl rfl rfl (cased_spec h vr vw vb vc hr vl hl c) (fun v20 s20 R20 => ?_) XT.stop
    obtain ⟨rfl, rfl⟩ := R20
    dsimp only [List.cons_append, List.nil_append]
    refine ⟨inferInstance, ?_⟩
    refine XT.lit [_, _] [_, _] [warmP h t, casedP h c] encI rfl rfl (by rfl) (by rfl) rfl (by rfl) (by exact .c 0 1 rfl rfl rfl (.c 1 1 rfl rfl rfl (.n _))) (fun _ => rfl) (by rfl) rfl (by infer_instance) rfl (fun v21 h21 O21 => ⟨inferInstance, ?_⟩) XT.stop
    refine XT.call rfl rfl Try.call82 rfl rfl rfl (both_spec v21 h21 [warmP h t, casedP h c]) (fun v22 s22 R22 => ?_) XT.stop
    obtain ⟨rfl, rfl⟩ := R22
    dsimp only [List.cons_append, List.nil_append]
    refine ⟨inferInstance, ?_⟩
    refine XT.q rfl rfl (Q.assign rfl) ?_
    refine XT.done ?_
    refine XK.seq ?_
    refine XK.region rfl ?_
    refine XO.q (Q.move rfl) ?_
    refine XO.q (Q.neq rfl rfl) ?_
    refine XO.done ?_
    refine XK.if rfl (fun c1 => ?_) (fun c1 => ?_)
    · have _t1 := True.intro
      refine XK.seq ?_
      refine XK.region rfl ?_
      refine XO.q (Q.move rfl) ?_
      refine XO.q (Q.assign rfl) ?_
      refine XO.q (Q.assign rfl) ?_
      refine XO.done ?_
      refine XK.rt [emp] Try.func59 Try.results59 (.t rfl (.t rfl .n)) ?_
      have hw0 : nextG h t c = ([], bothP [warmP h t, casedP h c]) := by rw [nextG, if_neg c0, if_pos c1]
      rw [hw0]
      exact ⟨.slice none 0 0, emp, rfl, rfl, OArr.nil (fun _ => rfl)⟩
    · have _t1 := True.intro
      refine XK.skip ?_
      refine XK.seq ?_
      refine XK.region rfl ?_
      refine XO.q (Q.ldA [_, _, _, _] rfl rfl rfl) ?_
      refine XO.q (Q.move rfl) ?_
      refine XO.q (Q.ldA [_, _, _] rfl rfl rfl) ?_
      refine XO.call Try.call62 rfl rfl rfl (next_spec7 h vr vw vb vc hr hw hb hc (hcheck_ok (Decidable.of_not_not c0)) t vt ht (both_ok (Decidable.of_not_not c1)).1 c (both_ok (Decidable.of_not_not c1)).2 vl hl) fun v29 s29 R29 => ?_
      obtain ⟨k1, rfl, O1⟩ := R29
      dsimp only [List.cons_append, List.nil_append]
      refine XO.q (Q.assign rfl) ?_
      refine XO.q (Q.assign rfl) ?_
      refine XO.done ?_
      refine XK.rt [k1] Try.func59 Try.results59 (.t rfl (.t rfl .n)) ?_
      have hw0 : nextG h t c = (nextL h t c, 0) := by rw [nextG, if_neg c0, if_neg c1]
      rw [hw0]
      exact ⟨_, k1, rfl, rfl, O1⟩
end Go.X.Ht

set_option linter.unusedSimpArgs false
set_option linter.unusedVariables false
set_option maxRecDepth 20000
namespace Go.X.Ht
open Go.Proofs
theorem warm_made (vr vw vb vc : Value) (hr : PHeap) (rs : List HRoom) [ir : Arr vr encRoom 2 hr rs] [iw : One vw] [ib : One vb] [ic : One vc] (hn : rs.length ≤ 8) (vl : Value) (hl : PHeap) (l : List UInt8) [sl : Arr vl encU8 1 hl l] : Spec Try.prog 33 #[.agg #[vr, vw, vb, vc], vl] [] [hr, hl]
    (fun v hs => ∃ t k, hs = [k] ∧ OArr v encI 1 3 k t ∧ WarmOk rs.length t) := by
  have hnil : OArr (.slice none 0 0) encI 1 3 emp ([] : List Int) := OArr.nil (fun _ => rfl)
  refine Spec.intro (fn := Try.f33) (N := 24) Try.func33 rfl Try.ntmps33 rfl fun B => ?_
  refine XK.seq ?_
  refine XK.region rfl ?_
  refine XO.box rfl fun b2 => ?_
  refine XO.q (Q.assign rfl) ?_
  refine XO.done ?_
  refine XK.seq ?_
  refine XK.region rfl ?_
  refine XO.q (Q.move rfl) ?_
  refine XO.q (Q.build [_, _] (.c 0 1 rfl rfl rfl (.n _))) ?_
  refine XO.box rfl fun b9 => ?_
  refine XO.q (Q.assign rfl) ?_
  refine XO.done ?_
  refine XK.seq ?_
  refine XK.region rfl ?_
  refine XO.q (Q.assign rfl) ?_
  refine XO.done ?_
  refine XK.seq ?_
  refine XK.seq ?_
  refine XK.region rfl ?_
  refine XO.q (Q.fieldAddr rfl) ?_
  refine XO.q (Q.ld rfl rfl) ?_
  refine XO.len rfl fun l12 => ?_
  refine XO.q (Q.move rfl) ?_
  refine XO.done ?_
  refine XK.block ?_
  refine XK.while (X := Nat × Value × PHeap × List Int) [6, 13, 14, 15, 16, 17, 18, 19, 20, 21, 22] (fun ⟨i, v, k, t⟩ => [(13, some (.int .i64 (i : Nat))), (6, some (v))]) (fun ⟨i, v, k, t⟩ => [blk b9 [vl, .int .i64 ((i : Nat) : Int)] 114, k]) (fun ⟨i, v, k, t⟩ => i ≤ rs.length ∧ OArr v encI 1 3 k t ∧ WarmOk i t) (fun ⟨i, v, k, t⟩ => rs.length - i) (0, .slice none 0 0, emp, []) [blk b9 [vl, .int .i64 ((0 : Nat) : Int)] 114, emp] rfl ⟨by omega, hnil, rfl, fun j hj => by cases hj⟩ (.c rfl (.c rfl (.base 0 rfl rfl))) ?_
  rintro ⟨i, v, k, t⟩ ⟨hi, OT, htl, htr⟩ ih0
  dsimp only [List.cons_append, List.nil_append] at ih0 ⊢
  refine XK.seq ?_
  refine XK.region rfl ?_
  refine XO.q (Q.lss rfl rfl) ?_
  refine XO.done ?_
  refine XK.seq ?_
  refine XK.if rfl (fun c0 => ?_) (fun c0 => ?_)
  · have _t0 := True.intro
    refine XK.skip ?_
    refine XK.seq ?_
    refine XK.block ?_
    refine XK.region rfl ?_
    refine XO.q (Q.move rfl) ?_
    refine XO.q (Q.move rfl) ?_
    refine XO.callB b9 Try.call57 rfl rfl rfl (next7 b9 vl hl l (i) (256) (by omega) (by omega) (by omega)) fun v17 s17 R17 => ?_
    obtain ⟨rfl, n17, rfl, h17⟩ := R17
    dsimp only [List.cons_append, List.nil_append]
    refine XO.q (Q.mul rfl rfl ⟨by omega, by omega⟩) ?_
    refine XO.q (Q.add rfl rfl ⟨by omega, by omega⟩) ?_
    refine XO.lit [_] [_] [_] encI (by rfl) (by rfl) rfl (by rfl) (by exact .c 0 1 rfl rfl rfl (.n _)) (fun _ => rfl) (by rfl) rfl (by infer_instance) rfl fun v20 h20 O20 => ?_
    refine XO.append rfl rfl rfl rfl (by simp only [List.length_cons, List.length_nil]; omega) fun v21 h21 O21 => ?_
    refine XO.q (Q.assign rfl) ?_
    refine XO.done ?_
    refine XK.inBlock ?_
    refine XK.region rfl ?_
    refine XO.q (Q.add rfl rfl ⟨by omega, by omega⟩) ?_
    refine XO.q (Q.move rfl) ?_
    refine XO.done ?_
    exact ih0 (i + 1, v21, h21, _) _ _ ⟨by dsimp only; omega, O21, snoc_ok htl htr (by omega)⟩ (by first | omega | (dsimp only; omega)) (.c rfl (.c rfl (.base 24 rfl rfl))) inferInstance
  · have _t0 := True.intro
    refine XK.exit rfl ?_
    refine XK.seq ?_
    refine XK.region rfl ?_
    refine XO.q (Q.move rfl) ?_
    refine XO.q (Q.assign rfl) ?_
    refine XO.done ?_
    refine XK.rt [k] Try.func33 Try.results33 (.t rfl .n) ?_
    have hin : i = rs.length := by omega
    rw [hin] at htl
    exact ⟨t, k, rfl, OT, htl, htr⟩
theorem cased_made (vr vw vb vc : Value) (hr : PHeap) (rs : List HRoom) [ir : Arr vr encRoom 2 hr rs] [iw : One vw] [ib : One vb] [ic : One vc] (hn : rs.length ≤ 8) (vl : Value) (hl : PHeap) (l : List UInt8) [sl : Arr vl encU8 1 hl l] : Spec Try.prog 34 #[.agg #[vr, vw, vb, vc], vl] [] [hr, hl]
    (fun v hs => ∃ (c : HCase) (v1 : Value) (k : PHeap), v = .agg #[v1, .int .i64 c.out, .int .i64 c.pump] ∧ hs = [k] ∧ OArr v1 encI 1 3 k c.load ∧ CasedOk rs.length c) := by
  have hnil : OArr (.slice none 0 0) encI 1 3 emp ([] : List Int) := OArr.nil (fun _ => rfl)
  refine Spec.intro (fn := Try.f34) (N := 33) Try.func34 rfl Try.ntmps34 rfl fun B => ?_
  refine XK.seq ?_
  refine XK.region rfl ?_
  refine XO.box rfl fun b2 => ?_
  refine XO.alloc fun b4 => ?_
  refine XO.done ?_
  refine XK.seq ?_
  refine XK.region rfl ?_
  refine XO.q (Q.move rfl) ?_
  refine XO.q (Q.build [_, _] (.c 0 1 rfl rfl rfl (.n _))) ?_
  refine XO.box rfl fun b9 => ?_
  refine XO.q (Q.assign rfl) ?_
  refine XO.done ?_
  refine XK.seq ?_
  refine XK.region rfl ?_
  refine XO.q (Q.move rfl) ?_
  refine XO.callB b9 Try.call57 rfl rfl rfl (next7 b9 vl hl l (0) (256) (by omega) (by omega) (by omega)) fun v11 s11 R11 => ?_
  obtain ⟨rfl, n11, rfl, h11⟩ := R11
  dsimp only [List.cons_append, List.nil_append]
  refine XO.q (Q.mul rfl rfl ⟨by omega, by omega⟩) ?_
  refine XO.q (Q.add rfl rfl ⟨by omega, by omega⟩) ?_
  refine XO.q (Q.move rfl) ?_
  refine XO.callB b9 Try.call57 rfl rfl rfl (next7 b9 vl hl l (0 + 1) (256) (by omega) (by omega) (by omega)) fun v15 s15 R15 => ?_
  obtain ⟨rfl, n15, rfl, h15⟩ := R15
  dsimp only [List.cons_append, List.nil_append]
  refine XO.q (Q.mul rfl rfl ⟨by omega, by omega⟩) ?_
  refine XO.q (Q.build [_, _, _] (.c 1 1 rfl rfl rfl (.c 2 1 rfl rfl rfl (.n _)))) ?_
  refine XO.alloc fun b6 => ?_
  refine XO.st rfl rfl rfl ?_
  refine XO.done ?_
  refine XK.seq ?_
  refine XK.seq ?_
  refine XK.region rfl ?_
  refine XO.q (Q.fieldAddr rfl) ?_
  refine XO.q (Q.ld rfl rfl) ?_
  refine XO.len rfl fun l20 => ?_
  refine XO.q (Q.move rfl) ?_
  refine XO.done ?_
  refine XK.block ?_
  refine XK.while (X := Nat × Value × PHeap × List Int) [21, 22, 23, 24, 25, 26, 27, 28, 29, 30, 31] (fun ⟨i, v, k, t⟩ => [(21, some (.int .i64 (i : Nat)))]) (fun ⟨i, v, k, t⟩ => [blk b6 [v, .int .i64 (10000 + 100 * (n11 : Int)), .int .i64 (10 * (n15 : Int))] 80, blk b9 [vl, .int .i64 ((i + 1 + 1 : Nat) : Int)] 114, k]) (fun ⟨i, v, k, t⟩ => i ≤ rs.length ∧ OArr v encI 1 3 k t ∧ LoadOk i t) (fun ⟨i, v, k, t⟩ => rs.length - i) (0, .slice none 0 0, emp, []) [blk b6 [.slice none 0 0, .int .i64 (10000 + 100 * (n11 : Int)), .int .i64 (10 * (n15 : Int))] 80, blk b9 [vl, .int .i64 ((0 + 1 + 1 : Nat) : Int)] 114, emp] rfl ⟨by omega, hnil, rfl, fun j hj => by cases hj⟩ (.c rfl (.base 0 rfl rfl)) ?_
  rintro ⟨i, v, k, t⟩ ⟨hi, OT, htl, htr⟩ ih0
  dsimp only [List.cons_append, List.nil_append] at ih0 ⊢
  refine XK.seq ?_
  refine XK.region rfl ?_
  refine XO.q (Q.lss rfl rfl) ?_
  refine XO.done ?_
  refine XK.seq ?_
  refine XK.if rfl (fun c0 => ?_) (fun c0 => ?_)
  · have _t0 := True.intro
    refine XK.skip ?_
    refine XK.seq ?_
    refine XK.block ?_
    refine XK.drawn [0, 1, 2, 4, 7] [b6] [] (.q 0 (.q 1 (.q 2 (.br 3 true (.q 4 (.br 5 true (.br 6 true (.q 7 (.br 8 false .done .stop)) .stop) .stop)) .stop)))) Try.mixed rfl (by kernel_rfl) ?_
    refine XT.q rfl rfl (Q.fieldAddr rfl) ?_
    refine XT.q rfl rfl (Q.ld rfl rfl) ?_
    refine XT.q rfl rfl (Q.move rfl) ?_
    refine XT.callB b9 rfl rfl Try.call57 rfl rfl rfl (next7 b9 vl hl l (i + 1 + 1) (256) (by omega) (by omega) (by omega)) (fun v26 s26 R26 => ?_) XT.stop
    obtain ⟨rfl, n26, rfl, h26⟩ := R26
    dsimp only [List.cons_append, List.nil_append]
    refine ⟨inferInstance, ?_⟩
    refine XT.q rfl rfl (Q.mul rfl rfl ⟨by omega, by omega⟩) ?_
    refine XT.lit [_] [_] [_] encI rfl rfl (by rfl) (by rfl) rfl (by rfl) (by exact .c 0 1 rfl rfl rfl (.n _)) (fun _ => rfl) (by rfl) rfl (by infer_instance) rfl (fun v28 h28 O28 => ⟨inferInstance, ?_⟩) XT.stop
    refine XT.append rfl rfl rfl rfl rfl rfl (by simp only [List.length_cons, List.length_nil]; omega) (fun v29 h29 O29 => ⟨inferInstance, ?_⟩) XT.stop
    refine XT.q rfl rfl (Q.fieldAddr rfl) ?_
    refine XT.st rfl rfl rfl rfl rfl ⟨inferInstance, ?_⟩ XT.stop
    refine XT.done ?_
    refine XK.inBlock ?_
    refine XK.region rfl ?_
    refine XO.q (Q.add rfl rfl ⟨by omega, by omega⟩) ?_
    refine XO.q (Q.move rfl) ?_
    refine XO.done ?_
    exact ih0 (i + 1, v29, h29, _) _ _ ⟨by dsimp only; omega, O29, snoc_ok2 htl htr (by omega)⟩ (by first | omega | (dsimp only; omega)) (.c rfl (.base 23 rfl rfl)) inferInstance
  · have _t0 := True.intro
    refine XK.exit rfl ?_
    refine XK.seq ?_
    refine XK.region rfl ?_
    refine XO.q (Q.ldA [_, _, _] rfl rfl rfl) ?_
    refine XO.st rfl rfl rfl ?_
    refine XO.done ?_
    refine XK.rt [k] Try.func34 Try.results34 (.cell [_, _, _] rfl rfl rfl (.n)) ?_
    have hin : i = rs.length := by omega
    rw [hin] at htl
    exact ⟨⟨t, 10000 + 100 * (n11 : Int), 10 * (n15 : Int)⟩, v, k, rfl, rfl, OT, ⟨htl, htr⟩, by dsimp only; omega, by dsimp only; omega⟩
end Go.X.Ht

set_option linter.unusedSimpArgs false
set_option linter.unusedVariables false
set_option maxRecDepth 20000
namespace Go.X.Ht
open Go.Proofs
theorem made7 (vl : Value) (hl : PHeap) (l : List UInt8) [sl : Arr vl encU8 1 hl l] : Spec Try.prog 32 #[vl] [] [hl]
    (fun v hs => ∃ (h : Hall) (vr vw vb vc : Value) (kr kw kb kc : PHeap), v = .agg #[vr, vw, vb, vc] ∧ hs = [kr, kw, kb, kc] ∧ OArr vr encRoom 2 122 kr h.rooms ∧ OArr vw encWall 3 116 kw h.walls ∧ OArr vb encBranch 3 118 kb h.branches ∧ OArr vc encCooler 5 120 kc h.coolers ∧ MOk h) := by
  have nR : OArr (.slice none 0 0) encRoom 2 122 emp ([] : List HRoom) := OArr.nil (fun _ => rfl)
  have nW : OArr (.slice none 0 0) encWall 3 116 emp ([] : List HWall) := OArr.nil (fun _ => rfl)
  have nB : OArr (.slice none 0 0) encBranch 3 118 emp ([] : List HBranch) := OArr.nil (fun _ => rfl)
  have nC : OArr (.slice none 0 0) encCooler 5 120 emp ([] : List HCooler) := OArr.nil (fun _ => rfl)
  refine Spec.intro (fn := Try.f32) (N := 163) Try.func32 rfl Try.ntmps32 rfl fun B => ?_
  refine XK.seq ?_
  refine XK.region rfl ?_
  refine XO.alloc fun b2 => ?_
  refine XO.done ?_
  refine XK.seq ?_
  refine XK.region rfl ?_
  refine XO.q (Q.move rfl) ?_
  refine XO.q (Q.build [_, _] (.c 0 1 rfl rfl rfl (.n _))) ?_
  refine XO.box rfl fun b14 => ?_
  refine XO.q (Q.assign rfl) ?_
  refine XO.done ?_
  refine XK.seq ?_
  refine XK.region rfl ?_
  refine XO.alloc fun b4 => ?_
  refine XO.done ?_
  refine XK.seq ?_
  refine XK.region rfl ?_
  refine XO.q (Q.move rfl) ?_
  refine XO.callB b14 Try.call57 rfl rfl rfl (next7 b14 vl hl l (0) (4) (by omega) (by omega) (by omega)) fun v16 s16 R16 => ?_
  obtain ⟨rfl, n16, rfl, h16⟩ := R16
  dsimp only [List.cons_append, List.nil_append]
  refine XO.q (Q.add rfl rfl ⟨by omega, by omega⟩) ?_
  rw [show ((1 : Int) + (n16 : Int)) = ((1 + n16 : Nat) : Int) from rfl]
  obtain ⟨n, en⟩ : ∃ n, n = 1 + n16 := ⟨_, rfl⟩
  rw [← en]
  refine XO.q (Q.assign rfl) ?_
  refine XO.done ?_
  refine XK.seq ?_
  refine XK.region rfl ?_
  refine XO.q (Q.move rfl) ?_
  refine XO.make encI (0) rfl rfl rfl (by omega) (by omega) (fun _ => rfl) rfl rfl rfl (by dsimp only [encI]; infer_instance) fun v19 h19 O19 => ?_
  refine XO.q (Q.assign rfl) ?_
  refine XO.done ?_
  refine XK.seq ?_
  refine XK.seq ?_
  refine XK.region rfl ?_
  refine XO.q (Q.move rfl) ?_
  refine XO.callB b14 Try.call57 rfl rfl rfl (next7 b14 vl hl l (0 + 1) (7) (by omega) (by omega) (by omega)) fun v21 s21 R21 => ?_
  obtain ⟨rfl, n21, rfl, h21⟩ := R21
  dsimp only [List.cons_append, List.nil_append]
  refine XO.q (Q.move rfl) ?_
  refine XO.done ?_
  refine XK.block ?_
  refine XK.while (X := Nat × Nat × List HWall × Value × PHeap × List Int × PHeap) [7, 22, 23, 24, 25, 26, 27, 28, 29, 30, 31, 32, 33, 34, 35, 36, 37, 38, 39, 40, 41, 42, 43, 44, 45, 46, 47, 48, 49, 50, 51, 52, 53, 54, 55, 56, 57, 58, 59, 60, 61, 62, 63, 64, 65, 66, 67, 68] (fun ⟨k, j, ws, vW, kW, sl, kS⟩ => [(22, some (.int .i64 (k : Nat)))]) (fun ⟨k, j, ws, vW, kW, sl, kS⟩ => [blk b14 [vl, .int .i64 ((j : Nat) : Int)] 114, blk b4 [.slice none 0 0, vW, .slice none 0 0, .slice none 0 0] 76, kW, kS]) (fun ⟨k, j, ws, vW, kW, sl, kS⟩ => k ≤ n21 ∧ j ≤ 2 + k * 3 ∧ ws.length = k ∧ Each (fun _ => WOk n) ws ∧ IsAt n sl (wS ws) ∧ OArr vW encWall 3 116 kW ws ∧ OArr v19 encI 1 3 kS sl) (fun ⟨k, j, ws, vW, kW, sl, kS⟩ => n21 - k) (0, 0 + 1 + 1, [], .slice none 0 0, emp, List.replicate n 0, h19) [blk b14 [vl, .int .i64 ((0 + 1 + 1 : Nat) : Int)] 114, blk b4 [.slice none 0 0, .slice none 0 0, .slice none 0 0, .slice none 0 0] 76, emp, h19] rfl ⟨by omega, by omega, rfl, Each.nil, IsAt.zero n, nW, O19⟩ (.c rfl (.base 0 rfl rfl)) ?_
  rintro ⟨k, j, ws, vW, kW, sl, kS⟩ ⟨hk, hj, hwl, hW, hS, OW, OS⟩ ih0
  dsimp only [List.cons_append, List.nil_append] at ih0 ⊢
  refine XK.seq ?_
  refine XK.region rfl ?_
  refine XO.q (Q.lss rfl rfl) ?_
  refine XO.done ?_
  refine XK.seq ?_
  refine XK.if rfl (fun c0 => ?_) (fun c0 => ?_)
  · have _t0 := True.intro
    refine XK.skip ?_
    refine XK.seq ?_
    refine XK.block ?_
    refine XK.seq ?_
    refine XK.region rfl ?_
    refine XO.q (Q.move rfl) ?_
    refine XO.q (Q.move rfl) ?_
    refine XO.callB b14 Try.call57 rfl rfl rfl (next7 b14 vl hl l (j) (n) (by omega) (by omega) (by omega)) fun v26 s26 R26 => ?_
    obtain ⟨rfl, n26, rfl, h26⟩ := R26
    dsimp only [List.cons_append, List.nil_append]
    refine XO.q (Q.move rfl) ?_
    refine XO.q (Q.move rfl) ?_
    refine XO.q (Q.add rfl rfl ⟨by omega, by omega⟩) ?_
    rw [show ((n : Int) + 1) = ((n + 1 : Nat) : Int) from rfl]
    refine XO.callB b14 Try.call57 rfl rfl rfl (next7 b14 vl hl l (j + 1) (n + 1) (by omega) (by omega) (by omega)) fun v30 s30 R30 => ?_
    obtain ⟨rfl, n30, rfl, h30⟩ := R30
    dsimp only [List.cons_append, List.nil_append]
    refine XO.q (Q.sub rfl rfl ⟨by omega, by omega⟩) ?_
    refine XO.q (Q.move rfl) ?_
    refine XO.callB b14 Try.call57 rfl rfl rfl (next7 b14 vl hl l (j + 1 + 1) (40) (by omega) (by omega) (by omega)) fun v33 s33 R33 => ?_
    obtain ⟨rfl, n33, rfl, h33⟩ := R33
    dsimp only [List.cons_append, List.nil_append]
    refine XO.q (Q.build [_, _, _] (.c 0 1 rfl rfl rfl (.c 1 1 rfl rfl rfl (.c 2 1 rfl rfl rfl (.n _))))) ?_
    refine XO.alloc fun b7 => ?_
    refine XO.st rfl rfl rfl ?_
    refine XO.done ?_
    refine XK.seq ?_
    refine XK.seq ?_
    refine XK.region rfl ?_
    refine XO.q (Q.fieldAddr rfl) ?_
    refine XO.q (Q.ld rfl rfl) ?_
    refine XO.q (Q.fieldAddr rfl) ?_
    refine XO.q (Q.ld rfl rfl) ?_
    refine XO.q (Q.eql rfl rfl) ?_
    refine XO.done ?_
    refine XK.meet (X := Int) [40] (fun y => []) (fun y => [blk b7 [.int .i64 (n26 : Nat), .int .i64 (y), .int .i64 (n33 : Nat)] 116]) (fun y => -1 ≤ y ∧ y < (n : Int) ∧ y ≠ (n26 : Int)) [blk b7 [.int .i64 (n26 : Nat), .int .i64 ((n30 : Int) - 1), .int .i64 (n33 : Nat)] 116] ?_ ?_
    · rintro y ⟨hy0, hy1, hy2⟩
      dsimp only [List.cons_append, List.nil_append]
      have hsl := hS.1
      have hs26 := hS.2 n26 (by omega)
      change sl.getD n26 default = _ at hs26
      have hwr := wS_rng hW n26
      refine XK.seq ?_
      refine XK.drawn [0, 1, 2, 3, 5, 6, 7, 8] [b7] [] (.q 0 (.q 1 (.q 2 (.q 3 (.q 5 (.q 6 (.br 4 true (.q 7 (.q 8 (.br 9 false .done .stop))) .stop))))))) Try.mixed rfl (by kernel_rfl) ?_
      refine XT.q rfl rfl (Q.move rfl) ?_
      refine XT.q rfl rfl (Q.fieldAddr rfl) ?_
      refine XT.q rfl rfl (Q.ld rfl rfl) ?_
      refine XT.ix rfl rfl rfl rfl (by omega) (by omega) fun i44 => ?_
      refine XT.q rfl rfl (Q.fieldAddr rfl) ?_
      refine XT.q rfl rfl (Q.ld rfl rfl) ?_
      refine XT.qs rfl rfl (Q.ldE rfl (by first | assumption | omega) rfl) ⟨inferInstance, ?_⟩ XT.stop
      refine XT.q rfl rfl (Q.add rfl rfl ⟨by omega, by omega⟩) ?_
      refine XT.ix rfl rfl rfl rfl (by omega) (by omega) fun i49 => ?_
      refine XT.stE _ rfl rfl rfl rfl rfl (by assumption) rfl rfl (fun h10_9 O10_9 => ⟨inferInstance, ?_⟩) XT.stop
      refine XT.done ?_
      refine XK.seq ?_
      refine XK.seq ?_
      refine XK.region rfl ?_
      refine XO.q (Q.fieldAddr rfl) ?_
      refine XO.q (Q.ld rfl rfl) ?_
      refine XO.q (Q.geq rfl rfl) ?_
      refine XO.done ?_
      refine XK.if rfl (fun c2 => ?_) (fun c2 => ?_)
      · have _t2 := True.intro
        have hA := hS.add (a := (n26 : Int)) (p := (n33 : Int)) (by omega) (by omega)
        have hAl := hA.1
        have hAy := hA.2 y.toNat (by omega)
        change (sl.set n26 (sl.getD n26 default + n33)).length = n at hAl
        change (sl.set n26 (sl.getD n26 default + n33)).getD y.toNat default = wS ws y.toNat + (if (n26 : Int) = (y.toNat : Nat) then (n33 : Int) else 0) at hAy
        rw [if_neg (by omega)] at hAy
        have hwy := wS_rng hW y.toNat
        refine XK.drawn [0, 1, 2, 3, 5, 6, 7, 8] [b7] [] (.q 0 (.q 1 (.q 2 (.q 3 (.q 5 (.q 6 (.br 4 true (.q 7 (.q 8 (.br 9 false .done .stop))) .stop))))))) Try.mixed rfl (by kernel_rfl) ?_
        refine XT.q rfl rfl (Q.move rfl) ?_
        refine XT.q rfl rfl (Q.fieldAddr rfl) ?_
        refine XT.q rfl rfl (Q.ld rfl rfl) ?_
        refine XT.ix rfl rfl rfl rfl (by omega) (by omega) fun i56 => ?_
        refine XT.q rfl rfl (Q.fieldAddr rfl) ?_
        refine XT.q rfl rfl (Q.ld rfl rfl) ?_
        refine XT.qs rfl rfl (Q.ldE rfl (by first | assumption | omega) rfl) ⟨inferInstance, ?_⟩ XT.stop
        refine XT.q rfl rfl (Q.add rfl rfl ⟨by omega, by omega⟩) ?_
        refine XT.ix rfl rfl rfl rfl (by omega) (by omega) fun i61 => ?_
        refine XT.stE _ rfl rfl rfl rfl rfl (by assumption) rfl rfl (fun h12_9 O12_9 => ⟨inferInstance, ?_⟩) XT.stop
        refine XT.done ?_
        refine XK.region rfl ?_
        refine XO.q (Q.fieldAddr rfl) ?_
        refine XO.q (Q.ld rfl rfl) ?_
        refine XO.q (Q.ldA [_, _, _] rfl rfl rfl) ?_
        refine XO.lit [_, _, _] [_, _, _] [⟨n26, y, n33⟩] encWall (by rfl) (by rfl) rfl (by rfl) (by exact .c 0 3 rfl rfl rfl (.n _)) (fun _ => rfl) (by rfl) rfl (by infer_instance) rfl fun v65 h65 O65 => ?_
        refine XO.append rfl rfl rfl rfl (by simp only [List.length_cons, List.length_nil]; omega) fun v66 h66 O66 => ?_
        refine XO.q (Q.fieldAddr rfl) ?_
        refine XO.st rfl rfl rfl ?_
        refine XO.done ?_
        refine XK.inBlock ?_
        refine XK.region rfl ?_
        refine XO.q (Q.add rfl rfl ⟨by omega, by omega⟩) ?_
        refine XO.q (Q.move rfl) ?_
        refine XO.done ?_
        exact ih0 (k + 1, j + 1 + 1 + 1, ws ++ [⟨n26, y, n33⟩], v66, h66, _, h12_9) _ _ ⟨by dsimp only; omega, by dsimp only; omega, by dsimp only; rw [List.length_append, hwl]; rfl, hW.snoc ⟨by dsimp only; omega, by dsimp only; omega, by dsimp only; omega, by dsimp only; omega⟩, hS.wall (by omega) (by omega) c2 (by omega) (Ne.symm hy2), O66, O12_9⟩ (by first | omega | (dsimp only; omega)) (.c rfl (.base 97 rfl rfl)) inferInstance
      · have _t2 := True.intro
        refine XK.skip ?_
        refine XK.region rfl ?_
        refine XO.q (Q.fieldAddr rfl) ?_
        refine XO.q (Q.ld rfl rfl) ?_
        refine XO.q (Q.ldA [_, _, _] rfl rfl rfl) ?_
        refine XO.lit [_, _, _] [_, _, _] [⟨n26, y, n33⟩] encWall (by rfl) (by rfl) rfl (by rfl) (by exact .c 0 3 rfl rfl rfl (.n _)) (fun _ => rfl) (by rfl) rfl (by infer_instance) rfl fun v65 h65 O65 => ?_
        refine XO.append rfl rfl rfl rfl (by simp only [List.length_cons, List.length_nil]; omega) fun v66 h66 O66 => ?_
        refine XO.q (Q.fieldAddr rfl) ?_
        refine XO.st rfl rfl rfl ?_
        refine XO.done ?_
        refine XK.inBlock ?_
        refine XK.region rfl ?_
        refine XO.q (Q.add rfl rfl ⟨by omega, by omega⟩) ?_
        refine XO.q (Q.move rfl) ?_
        refine XO.done ?_
        exact ih0 (k + 1, j + 1 + 1 + 1, ws ++ [⟨n26, y, n33⟩], v66, h66, _, h10_9) _ _ ⟨by dsimp only; omega, by dsimp only; omega, by dsimp only; rw [List.length_append, hwl]; rfl, hW.snoc ⟨by dsimp only; omega, by dsimp only; omega, by dsimp only; omega, by dsimp only; omega⟩, hS.wall1 (a := (n26 : Int)) (b := y) (p := (n33 : Int)) (by omega) (by omega) (by omega), O66, O10_9⟩ (by first | omega | (dsimp only; omega)) (.c rfl (.base 88 rfl rfl)) inferInstance
    · intro mt1
      dsimp only [List.cons_append, List.nil_append] at mt1
      refine XK.if rfl (fun c1 => ?_) (fun c1 => ?_)
      · have _t1 := True.intro
        refine XK.region rfl ?_
        refine XO.q (Q.fieldAddr rfl) ?_
        refine XO.st rfl rfl rfl ?_
        refine XO.done ?_
        exact mt1 (-1) _ _ ⟨by omega, by omega, by omega⟩ (.base 1 rfl rfl) inferInstance
      · have _t1 := True.intro
        refine XK.skip ?_
        exact mt1 ((n30 : Int) - 1) _ _ ⟨by omega, by omega, by omega⟩ (.base 0 rfl rfl) inferInstance
  · have _t0 := True.intro
    refine XK.exit rfl ?_
    refine XK.seq ?_
    refine XK.seq ?_
    refine XK.region rfl ?_
    refine XO.q (Q.move rfl) ?_
    refine XO.callB b14 Try.call57 rfl rfl rfl (next7 b14 vl hl l (j) (7) (by omega) (by omega) (by omega)) fun v70 s70 R70 => ?_
    obtain ⟨rfl, n70, rfl, h70⟩ := R70
    dsimp only [List.cons_append, List.nil_append]
    refine XO.q (Q.move rfl) ?_
    refine XO.done ?_
    refine XK.block ?_
    refine XK.while (X := Nat × Nat × List HBranch × Value × PHeap) [8, 9, 71, 72, 73, 74, 75, 76, 77, 78, 79, 80, 81, 82, 83, 84, 85, 86, 87, 88, 89, 90, 91, 92, 93, 94] (fun ⟨i, q, bs, vB, kB⟩ => [(71, some (.int .i64 (i : Nat)))]) (fun ⟨i, q, bs, vB, kB⟩ => [blk b14 [vl, .int .i64 ((q : Nat) : Int)] 114, blk b4 [.slice none 0 0, vW, vB, .slice none 0 0] 76, kB]) (fun ⟨i, q, bs, vB, kB⟩ => i ≤ n70 ∧ q ≤ 30 + i * 4 ∧ bs.length = i ∧ Each BOk bs ∧ OArr vB encBranch 3 118 kB bs) (fun ⟨i, q, bs, vB, kB⟩ => n70 - i) (0, j + 1, [], .slice none 0 0, emp) [blk b14 [vl, .int .i64 ((j + 1 : Nat) : Int)] 114, blk b4 [.slice none 0 0, vW, .slice none 0 0, .slice none 0 0] 76, emp] rfl ⟨by omega, by omega, rfl, Each.nil, nB⟩ (.c rfl (.base 0 rfl rfl)) ?_
    rintro ⟨i, q, bs, vB, kB⟩ ⟨hi, hq, hbl, hB, OB⟩ ih1
    dsimp only [List.cons_append, List.nil_append] at ih1 ⊢
    refine XK.seq ?_
    refine XK.region rfl ?_
    refine XO.q (Q.lss rfl rfl) ?_
    refine XO.done ?_
    refine XK.seq ?_
    refine XK.if rfl (fun c3 => ?_) (fun c3 => ?_)
    · have _t3 := True.intro
      refine XK.skip ?_
      refine XK.seq ?_
      refine XK.block ?_
      refine XK.seq ?_
      refine XK.region rfl ?_
      refine XO.q (Q.move rfl) ?_
      refine XO.q (Q.assign rfl) ?_
      refine XO.done ?_
      refine XK.seq ?_
      refine XK.region rfl ?_
      refine XO.q (Q.move rfl) ?_
      refine XO.callB b14 Try.call57 rfl rfl rfl (next7 b14 vl hl l (q) (101) (by omega) (by omega) (by omega)) fun v75 s75 R75 => ?_
      obtain ⟨rfl, n75, rfl, h75⟩ := R75
      dsimp only [List.cons_append, List.nil_append]
      refine XO.q (Q.move rfl) ?_
      refine XO.callB b14 Try.call57 rfl rfl rfl (next7 b14 vl hl l (q + 1) (30) (by omega) (by omega) (by omega)) fun v77 s77 R77 => ?_
      obtain ⟨rfl, n77, rfl, h77⟩ := R77
      dsimp only [List.cons_append, List.nil_append]
      refine XO.q (Q.move rfl) ?_
      refine XO.callB b14 Try.call57 rfl rfl rfl (next7 b14 vl hl l (q + 1 + 1) (2) (by omega) (by omega) (by omega)) fun v79 s79 R79 => ?_
      obtain ⟨rfl, n79, rfl, h79⟩ := R79
      dsimp only [List.cons_append, List.nil_append]
      have hm77_79 : n77 * n79 ≤ 29 * 1 := Nat.mul_le_mul (by omega) (by omega)
      have em77_79 : (n77 : Int) * (n79 : Int) = ((n77 * n79 : Nat) : Int) := (Int.natCast_mul ..).symm
      refine XO.q (Q.mul rfl rfl ⟨by omega, by omega⟩) ?_
      refine XO.q (Q.build [_, _, _] (.c 0 1 rfl rfl rfl (.c 1 1 rfl rfl rfl (.c 2 1 rfl rfl rfl (.n _))))) ?_
      refine XO.alloc fun b9 => ?_
      refine XO.st rfl rfl rfl ?_
      refine XO.done ?_
      refine XK.seq ?_
      refine XK.seq ?_
      refine XK.region rfl ?_
      refine XO.q (Q.move rfl) ?_
      refine XO.q (Q.gtr rfl rfl) ?_
      refine XO.done ?_
      refine XK.meet (X := Int × Nat) [84, 85, 86, 87] (fun ⟨y, q2⟩ => []) (fun ⟨y, q2⟩ => [blk b14 [vl, .int .i64 ((q2 : Nat) : Int)] 114, blk b9 [.int .i64 (y), .int .i64 (n75 : Nat), .int .i64 ((n77 : Int) * (n79 : Int))] 118]) (fun ⟨y, q2⟩ => (if i = 0 then y = -1 else 0 ≤ y ∧ y < i) ∧ q2 ≤ q + 4) [blk b14 [vl, .int .i64 ((q + 1 + 1 + 1 : Nat) : Int)] 114, blk b9 [.int .i64 (-1), .int .i64 (n75 : Nat), .int .i64 ((n77 : Int) * (n79 : Int))] 118] ?_ ?_
      · rintro ⟨y, q2⟩ ⟨hy, hq2⟩
        dsimp only [List.cons_append, List.nil_append]
        refine XK.region rfl ?_
        refine XO.q (Q.fieldAddr rfl) ?_
        refine XO.q (Q.ld rfl rfl) ?_
        refine XO.q (Q.ldA [_, _, _] rfl rfl rfl) ?_
        refine XO.lit [_, _, _] [_, _, _] [⟨y, n75, (n77 : Int) * (n79 : Int)⟩] encBranch (by rfl) (by rfl) rfl (by rfl) (by exact .c 0 3 rfl rfl rfl (.n _)) (fun _ => rfl) (by rfl) rfl (by infer_instance) rfl fun v91 h91 O91 => ?_
        refine XO.append rfl rfl rfl rfl (by simp only [List.length_cons, List.length_nil]; omega) fun v92 h92 O92 => ?_
        refine XO.q (Q.fieldAddr rfl) ?_
        refine XO.st rfl rfl rfl ?_
        refine XO.done ?_
        refine XK.inBlock ?_
        refine XK.region rfl ?_
        refine XO.q (Q.add rfl rfl ⟨by omega, by omega⟩) ?_
        refine XO.q (Q.move rfl) ?_
        refine XO.done ?_
        exact ih1 (i + 1, q2, bs ++ [⟨y, n75, (n77 : Int) * (n79 : Int)⟩], v92, h92) _ _ ⟨by dsimp only; omega, by dsimp only; omega, by dsimp only; rw [List.length_append, hbl]; rfl, hB.snoc ⟨by dsimp only; rw [hbl]; exact hy, by dsimp only; omega, by dsimp only; omega⟩, O92⟩ (by first | omega | (dsimp only; omega)) (.c rfl (.base 53 rfl rfl)) inferInstance
      · intro mt4
        dsimp only [List.cons_append, List.nil_append] at mt4
        refine XK.if rfl (fun c4 => ?_) (fun c4 => ?_)
        · have _t4 := True.intro
          refine XK.region rfl ?_
          refine XO.q (Q.move rfl) ?_
          refine XO.q (Q.move rfl) ?_
          refine XO.callB b14 Try.call57 rfl rfl rfl (next7 b14 vl hl l (q + 1 + 1 + 1) (i) (by omega) (by omega) (by omega)) fun v86 s86 R86 => ?_
          obtain ⟨rfl, n86, rfl, h86⟩ := R86
          dsimp only [List.cons_append, List.nil_append]
          refine XO.q (Q.fieldAddr rfl) ?_
          refine XO.st rfl rfl rfl ?_
          refine XO.done ?_
          exact mt4 ((n86 : Nat), q + 1 + 1 + 1 + 1) _ _ ⟨by dsimp only; rw [if_neg (by omega)]; omega, by dsimp only; omega⟩ (.base 4 rfl rfl) inferInstance
        · have _t4 := True.intro
          refine XK.skip ?_
          exact mt4 (-1, q + 1 + 1 + 1) _ _ ⟨by dsimp only; rw [if_pos (by omega)], by dsimp only; omega⟩ (.base 0 rfl rfl) inferInstance
    · have _t3 := True.intro
      refine XK.exit rfl ?_
      refine XK.seq ?_
      refine XK.seq ?_
      refine XK.region rfl ?_
      refine XO.q (Q.fieldAddr rfl) ?_
      refine XO.q (Q.ld rfl rfl) ?_
      refine XO.len rfl fun l97 => ?_
      refine XO.q (Q.gtr rfl rfl) ?_
      refine XO.done ?_
      refine XK.meet (X := Nat × List HCooler × Value × PHeap × List Int × PHeap) [10, 99, 100, 101, 102, 103, 104, 105, 106, 107, 108, 109, 110, 111, 112, 113, 114, 115, 116, 117, 118, 119, 120, 121, 122, 123, 124, 125, 126, 127, 128, 129, 130, 131, 132, 133, 134, 135] (fun ⟨u, cs, vC, kC, sl2, kS2⟩ => []) (fun ⟨u, cs, vC, kC, sl2, kS2⟩ => [blk b14 [vl, .int .i64 ((u : Nat) : Int)] 114, blk b4 [.slice none 0 0, vW, vB, vC] 76, kC, kS2]) (fun ⟨u, cs, vC, kC, sl2, kS2⟩ => u ≤ 100 ∧ cs.length ≤ 6 ∧ Each (fun _ => KOk n bs.length) cs ∧ IsAt n sl2 (fun i => wS ws i + cS cs i) ∧ OArr vC encCooler 5 120 kC cs ∧ OArr v19 encI 1 3 kS2 sl2) [blk b14 [vl, .int .i64 ((q : Nat) : Int)] 114, blk b4 [.slice none 0 0, vW, vB, .slice none 0 0] 76, emp, kS] ?_ ?_
      · rintro ⟨u, cs, vC, kC, sl2, kS2⟩ ⟨hu, hcl, hC, hS2, OC, OS2⟩
        dsimp only [List.cons_append, List.nil_append]
        refine XK.seq ?_
        refine XK.seq ?_
        refine XK.region rfl ?_
        refine XO.q (Q.move rfl) ?_
        refine XO.q (Q.move rfl) ?_
        refine XO.done ?_
        refine XK.block ?_
        refine XK.while (X := Nat × Nat × List HRoom × Value × PHeap) [11, 137, 138, 139, 140, 141, 142, 143, 144, 145, 146, 147, 148, 149, 150, 151, 152, 153, 154, 155, 156, 157, 158, 159, 160, 161] (fun ⟨i, e, rs, vR, kR⟩ => [(137, some (.int .i64 (i : Nat)))]) (fun ⟨i, e, rs, vR, kR⟩ => [blk b14 [vl, .int .i64 ((e : Nat) : Int)] 114, blk b4 [vR, vW, vB, vC] 76, kR]) (fun ⟨i, e, rs, vR, kR⟩ => i ≤ n ∧ e ≤ 200 + i * 3 ∧ rs.length = i ∧ Each (ROk ws cs) rs ∧ OArr vR encRoom 2 122 kR rs) (fun ⟨i, e, rs, vR, kR⟩ => n - i) (0, u, [], .slice none 0 0, emp) [blk b14 [vl, .int .i64 ((u : Nat) : Int)] 114, blk b4 [.slice none 0 0, vW, vB, vC] 76, emp] rfl ⟨by omega, by omega, rfl, Each.nil, nR⟩ (.c rfl (.base 0 rfl rfl)) ?_
        rintro ⟨i, e, rs, vR, kR⟩ ⟨hi2, he, hrl, hR, OR⟩ ih2
        dsimp only [List.cons_append, List.nil_append] at ih2 ⊢
        refine XK.seq ?_
        refine XK.region rfl ?_
        refine XO.q (Q.lss rfl rfl) ?_
        refine XO.done ?_
        refine XK.seq ?_
        refine XK.if rfl (fun c6 => ?_) (fun c6 => ?_)
        · have _t6 := True.intro
          have hs2l := hS2.1
          have hs2i := hS2.2 i (by omega)
          change sl2.getD i default = wS ws i + cS cs i at hs2i
          have hwi := wS_rng hW i
          have hci := cS_rng hC i
          refine XK.skip ?_
          refine XK.seq ?_
          refine XK.block ?_
          refine XK.seq ?_
          refine XK.region rfl ?_
          refine XO.q (Q.move rfl) ?_
          refine XO.q (Q.assign rfl) ?_
          refine XO.done ?_
          refine XK.drawn [0, 1, 2, 3, 4, 5, 6, 7, 9, 13, 11, 12, 15, 16, 17, 20] [b4] [kS2] (.q 0 (.q 1 (.q 2 (.q 3 (.q 4 (.q 5 (.q 6 (.q 7 (.q 9 (.q 13 (.br 8 true (.br 10 true (.q 11 (.q 12 (.br 14 true (.q 15 (.q 16 (.q 17 (.br 18 true (.br 19 true (.q 20 (.br 21 false .done .stop)) .stop) .stop)))) .stop))) .stop) .stop))))))))))) Try.mixed rfl (by kernel_rfl) ?_
          refine XT.q rfl rfl (Q.fieldAddr rfl) ?_
          refine XT.q rfl rfl (Q.ld rfl rfl) ?_
          refine XT.q rfl rfl (Q.move rfl) ?_
          refine XT.q rfl rfl (Q.move rfl) ?_
          refine XT.ix rfl rfl rfl rfl (by omega) (by omega) fun i144 => ?_
          refine XT.q rfl rfl (Q.ldE rfl (by first | assumption | omega) rfl) ?_
          refine XT.q rfl rfl (Q.add rfl rfl ⟨by omega, by omega⟩) ?_
          refine XT.q rfl rfl (Q.move rfl) ?_
          refine XT.q rfl rfl (Q.move rfl) ?_
          refine XT.q rfl rfl (Q.move rfl) ?_
          refine XT.callB b14 rfl rfl Try.call57 rfl rfl rfl (next7 b14 vl hl l (e) (256) (by omega) (by omega) (by omega)) (fun v148 s148 R148 => ?_) XT.stop
          obtain ⟨rfl, n148, rfl, h148⟩ := R148
          dsimp only [List.cons_append, List.nil_append]
          refine ⟨inferInstance, ?_⟩
          refine XT.callB b14 rfl rfl Try.call57 rfl rfl rfl (next7 b14 vl hl l (e + 1) (3) (by omega) (by omega) (by omega)) (fun v150 s150 R150 => ?_) XT.stop
          obtain ⟨rfl, n150, rfl, h150⟩ := R150
          dsimp only [List.cons_append, List.nil_append]
          refine ⟨inferInstance, ?_⟩
          have hm148_150 : n148 * n150 ≤ 255 * 2 := Nat.mul_le_mul (by omega) (by omega)
          have em148_150 : (n148 : Int) * (n150 : Int) = ((n148 * n150 : Nat) : Int) := (Int.natCast_mul ..).symm
          refine XT.q rfl rfl (Q.mul rfl rfl ⟨by omega, by omega⟩) ?_
          refine XT.q rfl rfl (Q.add rfl rfl ⟨by omega, by omega⟩) ?_
          refine XT.callB b14 rfl rfl Try.call57 rfl rfl rfl (next7 b14 vl hl l (e + 1 + 1) (256) (by omega) (by omega) (by omega)) (fun v154 s154 R154 => ?_) XT.stop
          obtain ⟨rfl, n154, rfl, h154⟩ := R154
          dsimp only [List.cons_append, List.nil_append]
          refine ⟨inferInstance, ?_⟩
          refine XT.q rfl rfl (Q.mul rfl rfl ⟨by omega, by omega⟩) ?_
          refine XT.q rfl rfl (Q.add rfl rfl ⟨by omega, by omega⟩) ?_
          refine XT.q rfl rfl (Q.build [_, _] (.c 0 1 rfl rfl rfl (.c 1 1 rfl rfl rfl (.n _)))) ?_
          refine XT.lit [_, _] [_, _] [⟨sl2.getD i default + 1 + (n148 : Int) * (n150 : Int), 20000 + 80 * (n154 : Int)⟩] encRoom rfl rfl (by rfl) (by rfl) rfl (by rfl) (by exact .c 0 2 rfl rfl rfl (.n _)) (fun _ => rfl) (by rfl) rfl (by infer_instance) rfl (fun v158 h158 O158 => ⟨inferInstance, ?_⟩) XT.stop
          refine XT.append rfl rfl rfl rfl rfl rfl (by simp only [List.length_cons, List.length_nil]; omega) (fun v159 h159 O159 => ⟨inferInstance, ?_⟩) XT.stop
          refine XT.q rfl rfl (Q.fieldAddr rfl) ?_
          refine XT.st rfl rfl rfl rfl rfl ⟨inferInstance, ?_⟩ XT.stop
          refine XT.done ?_
          refine XK.inBlock ?_
          refine XK.region rfl ?_
          refine XO.q (Q.add rfl rfl ⟨by omega, by omega⟩) ?_
          refine XO.q (Q.move rfl) ?_
          refine XO.done ?_
          exact ih2 (i + 1, e + 1 + 1 + 1, rs ++ [⟨sl2.getD i default + 1 + (n148 : Int) * (n150 : Int), 20000 + 80 * (n154 : Int)⟩], v159, h159) _ _ ⟨by dsimp only; omega, by dsimp only; omega, by dsimp only; rw [List.length_append, hrl]; rfl, hR.snoc ⟨by dsimp only; rw [hrl]; omega, by dsimp only; omega, by dsimp only; omega, by dsimp only; omega, by dsimp only; omega⟩, O159⟩ (by first | omega | (dsimp only; omega)) (.c rfl (.base 53 rfl rfl)) inferInstance
        · have _t6 := True.intro
          refine XK.exit rfl ?_
          refine XK.seq ?_
          refine XK.region rfl ?_
          refine XO.q (Q.ldA [_, _, _, _] rfl rfl rfl) ?_
          refine XO.st rfl rfl rfl ?_
          refine XO.done ?_
          refine XK.rt [kR, kW, kB, kC] Try.func32 Try.results32 (.cell [_, _, _, _] rfl rfl rfl (.n)) ?_
          have hin : i = n := by omega
          subst hin
          exact ⟨⟨rs, ws, bs, cs⟩, vR, vW, vB, vC, kR, kW, kB, kC, rfl, rfl, OR, OW, OB, OC, made_ok (by omega) (by omega) (by omega) (by omega) (by omega) hR (by rw [hrl]; exact hW) hB (by rw [hrl]; exact hC)⟩
      · intro mt5
        dsimp only [List.cons_append, List.nil_append] at mt5
        refine XK.if rfl (fun c5 => ?_) (fun c5 => ?_)
        · have _t5 := True.intro
          refine XK.seq ?_
          refine XK.region rfl ?_
          refine XO.q (Q.move rfl) ?_
          refine XO.callB b14 Try.call57 rfl rfl rfl (next7 b14 vl hl l (q) (7) (by omega) (by omega) (by omega)) fun v100 s100 R100 => ?_
          obtain ⟨rfl, n100, rfl, h100⟩ := R100
          dsimp only [List.cons_append, List.nil_append]
          refine XO.q (Q.move rfl) ?_
          refine XO.done ?_
          refine XK.block ?_
          refine XK.while (X := Nat × Nat × List HCooler × Value × PHeap × List Int × PHeap) [10, 101, 102, 103, 104, 105, 106, 107, 108, 109, 110, 111, 112, 113, 114, 115, 116, 117, 118, 119, 120, 121, 122, 123, 124, 125, 126, 127, 128, 129, 130, 131, 132, 133, 134, 135] (fun ⟨m, u, cs, vC, kC, sl2, kS2⟩ => [(101, some (.int .i64 (m : Nat)))]) (fun ⟨m, u, cs, vC, kC, sl2, kS2⟩ => [blk b14 [vl, .int .i64 ((u : Nat) : Int)] 114, blk b4 [.slice none 0 0, vW, vB, vC] 76, kC, kS2]) (fun ⟨m, u, cs, vC, kC, sl2, kS2⟩ => m ≤ n100 ∧ u ≤ 60 + m * 5 ∧ cs.length = m ∧ Each (fun _ => KOk n bs.length) cs ∧ IsAt n sl2 (fun i => wS ws i + cS cs i) ∧ OArr vC encCooler 5 120 kC cs ∧ OArr v19 encI 1 3 kS2 sl2) (fun ⟨m, u, cs, vC, kC, sl2, kS2⟩ => n100 - m) (0, q + 1, [], .slice none 0 0, emp, sl, kS) [blk b14 [vl, .int .i64 ((q + 1 : Nat) : Int)] 114, blk b4 [.slice none 0 0, vW, vB, .slice none 0 0] 76, emp, kS] rfl ⟨by omega, by omega, rfl, Each.nil, hS.none, nC, OS⟩ (.c rfl (.base 0 rfl rfl)) ?_
          rintro ⟨m, u, cs, vC, kC, sl2, kS2⟩ ⟨hm, hu, hcl, hC, hS2, OC, OS2⟩ ih3
          dsimp only [List.cons_append, List.nil_append] at ih3 ⊢
          refine XK.seq ?_
          refine XK.region rfl ?_
          refine XO.q (Q.lss rfl rfl) ?_
          refine XO.done ?_
          refine XK.seq ?_
          refine XK.if rfl (fun c7 => ?_) (fun c7 => ?_)
          · have _t7 := True.intro
            refine XK.skip ?_
            refine XK.seq ?_
            refine XK.block ?_
            refine XK.seq ?_
            refine XK.meet (X := Nat × Nat × Nat × Nat × Nat × Nat) [10, 103, 104, 105, 106, 107, 108, 109, 110, 111, 112, 113, 114, 115, 116, 117, 118, 119] (fun ⟨b10, x1, x2, x3, x4, x5⟩ => [(10, some (ptr b10 0))]) (fun ⟨b10, x1, x2, x3, x4, x5⟩ => [blk b10 [.int .i64 (x1 : Nat), .int .i64 (x2 : Nat), .int .i64 (x3 : Nat), .int .i64 (x4 : Nat), .int .i64 (10000 + 40 * (x5 : Int))] 120, blk b14 [vl, .int .i64 ((u + 1 + 1 + 1 + 1 + 1 : Nat) : Int)] 114]) (fun ⟨b10, x1, x2, x3, x4, x5⟩ => x1 < n ∧ x2 < bs.length ∧ x3 < 60 ∧ x4 < 200 ∧ x5 < 256) [blk b14 [vl, .int .i64 ((u : Nat) : Int)] 114] ?_ ?_
            · rintro ⟨b10, x1, x2, x3, x4, x5⟩ ⟨hx1, hx2, hx3, hx4, hx5⟩
              dsimp only [List.cons_append, List.nil_append]
              have hs2l := hS2.1
              have hs2i := hS2.2 x1 (by omega)
              change sl2.getD x1 default = wS ws x1 + cS cs x1 at hs2i
              have hwi := wS_rng hW x1
              have hci := cS_rng hC x1
              refine XK.seq ?_
              refine XK.drawn [0, 1, 2, 3, 5, 6, 7, 8] [b10] [] (.q 0 (.q 1 (.q 2 (.q 3 (.q 5 (.q 6 (.br 4 true (.q 7 (.q 8 (.br 9 false .done .stop))) .stop))))))) Try.mixed rfl (by kernel_rfl) ?_
              refine XT.q rfl rfl (Q.move rfl) ?_
              refine XT.q rfl rfl (Q.fieldAddr rfl) ?_
              refine XT.q rfl rfl (Q.ld rfl rfl) ?_
              refine XT.ix rfl rfl rfl rfl (by omega) (by omega) fun i123 => ?_
              refine XT.q rfl rfl (Q.fieldAddr rfl) ?_
              refine XT.q rfl rfl (Q.ld rfl rfl) ?_
              refine XT.qs rfl rfl (Q.ldE rfl (by first | assumption | omega) rfl) ⟨inferInstance, ?_⟩ XT.stop
              refine XT.q rfl rfl (Q.add rfl rfl ⟨by omega, by omega⟩) ?_
              refine XT.ix rfl rfl rfl rfl (by omega) (by omega) fun i128 => ?_
              refine XT.stE _ rfl rfl rfl rfl rfl (by assumption) rfl rfl (fun h27_9 O27_9 => ⟨inferInstance, ?_⟩) XT.stop
              refine XT.done ?_
              refine XK.region rfl ?_
              refine XO.q (Q.fieldAddr rfl) ?_
              refine XO.q (Q.ld rfl rfl) ?_
              refine XO.q (Q.ldA [_, _, _, _, _] rfl rfl rfl) ?_
              refine XO.lit [_, _, _, _, _] [_, _, _, _, _] [⟨x1, x2, x3, x4, 10000 + 40 * (x5 : Int)⟩] encCooler (by rfl) (by rfl) rfl (by rfl) (by exact .c 0 5 rfl rfl rfl (.n _)) (fun _ => rfl) (by rfl) rfl (by infer_instance) rfl fun v132 h132 O132 => ?_
              refine XO.append rfl rfl rfl rfl (by simp only [List.length_cons, List.length_nil]; omega) fun v133 h133 O133 => ?_
              refine XO.q (Q.fieldAddr rfl) ?_
              refine XO.st rfl rfl rfl ?_
              refine XO.done ?_
              refine XK.inBlock ?_
              refine XK.region rfl ?_
              refine XO.q (Q.add rfl rfl ⟨by omega, by omega⟩) ?_
              refine XO.q (Q.move rfl) ?_
              refine XO.done ?_
              exact ih3 (m + 1, u + 1 + 1 + 1 + 1 + 1, cs ++ [⟨x1, x2, x3, x4, 10000 + 40 * (x5 : Int)⟩], v133, h133, _, h27_9) _ _ ⟨by dsimp only; omega, by dsimp only; omega, by dsimp only; rw [List.length_append, hcl]; rfl, hC.snoc ⟨by dsimp only; omega, by dsimp only; omega, by dsimp only; omega, by dsimp only; omega, by dsimp only; omega⟩, hS2.cooler (c := ⟨x1, x2, x3, x4, 10000 + 40 * (x5 : Int)⟩) (by dsimp only; omega) (by dsimp only; omega), O133, O27_9⟩ (by first | omega | (dsimp only; omega)) (.c rfl (.base 74 rfl rfl)) inferInstance
            · intro mtr26
              dsimp only [List.cons_append, List.nil_append] at mtr26
              refine XK.drawn [0, 1, 3, 4, 5, 6, 8, 10, 12, 14, 15, 16] [b4] [] (.q 0 (.q 1 (.q 3 (.q 4 (.q 5 (.q 6 (.q 8 (.q 10 (.q 12 (.br 2 true (.br 7 true (.br 9 true (.br 11 true (.br 13 true (.q 14 (.q 15 (.q 16 (.br 17 true (.br 18 false .done .stop) .stop)))) (.br 17 true (.br 13 true (.q 14 (.q 15 (.q 16 (.br 18 false .done .stop)))) .stop) .stop)) (.br 17 true (.br 11 true (.br 13 true (.q 14 (.q 15 (.q 16 (.br 18 false .done .stop)))) .stop) .stop) .stop)) (.br 17 true (.br 9 true (.br 11 true (.br 13 true (.q 14 (.q 15 (.q 16 (.br 18 false .done .stop)))) .stop) .stop) .stop) .stop)) (.br 17 true (.br 7 true (.br 9 true (.br 11 true (.br 13 true (.q 14 (.q 15 (.q 16 (.br 18 false .done .stop)))) .stop) .stop) .stop) .stop) .stop)) (.br 17 true (.br 2 true (.br 7 true (.br 9 true (.br 11 true (.br 13 true (.q 14 (.q 15 (.q 16 (.br 18 false .done .stop)))) .stop) .stop) .stop) .stop) .stop) .stop))))))))))) Try.mixed rfl (by kernel_rfl) ?_
              refine XT.q rfl rfl (Q.move rfl) ?_
              refine XT.q rfl rfl (Q.move rfl) ?_
              refine XT.q rfl rfl (Q.move rfl) ?_
              refine XT.q rfl rfl (Q.fieldAddr rfl) ?_
              refine XT.q rfl rfl (Q.ld rfl rfl) ?_
              refine XT.q rfl rfl (Q.len rfl) ?_
              refine XT.q rfl rfl (Q.move rfl) ?_
              refine XT.q rfl rfl (Q.move rfl) ?_
              refine XT.q rfl rfl (Q.move rfl) ?_
              refine XT.callB b14 rfl rfl Try.call57 rfl rfl rfl (next7 b14 vl hl l (u) (n) (by omega) (by omega) (by omega)) (fun v105 s105 R105 => ?_) ?_
              · skip
                obtain ⟨rfl, n105, rfl, h105⟩ := R105
                dsimp only [List.cons_append, List.nil_append]
                refine ⟨inferInstance, ?_⟩
                refine XT.callB b14 rfl rfl Try.call57 rfl rfl rfl (next7 b14 vl hl l (u + 1) (bs.length) (by omega) (by omega) (by omega)) (fun v110 s110 R110 => ?_) ?_
                · skip
                  obtain ⟨rfl, n110, rfl, h110⟩ := R110
                  dsimp only [List.cons_append, List.nil_append]
                  refine ⟨inferInstance, ?_⟩
                  refine XT.callB b14 rfl rfl Try.call57 rfl rfl rfl (next7 b14 vl hl l (u + 1 + 1) (60) (by omega) (by omega) (by omega)) (fun v112 s112 R112 => ?_) ?_
                  · skip
                    obtain ⟨rfl, n112, rfl, h112⟩ := R112
                    dsimp only [List.cons_append, List.nil_append]
                    refine ⟨inferInstance, ?_⟩
                    refine XT.callB b14 rfl rfl Try.call57 rfl rfl rfl (next7 b14 vl hl l (u + 1 + 1 + 1) (200) (by omega) (by omega) (by omega)) (fun v114 s114 R114 => ?_) ?_
                    · skip
                      obtain ⟨rfl, n114, rfl, h114⟩ := R114
                      dsimp only [List.cons_append, List.nil_append]
                      refine ⟨inferInstance, ?_⟩
                      refine XT.callB b14 rfl rfl Try.call57 rfl rfl rfl (next7 b14 vl hl l (u + 1 + 1 + 1 + 1) (256) (by omega) (by omega) (by omega)) (fun v116 s116 R116 => ?_) ?_
                      · skip
                        obtain ⟨rfl, n116, rfl, h116⟩ := R116
                        dsimp only [List.cons_append, List.nil_append]
                        refine ⟨inferInstance, ?_⟩
                        refine XT.q rfl rfl (Q.mul rfl rfl ⟨by omega, by omega⟩) ?_
                        refine XT.q rfl rfl (Q.add rfl rfl ⟨by omega, by omega⟩) ?_
                        refine XT.q rfl rfl (Q.build [_, _, _, _, _] (.c 0 1 rfl rfl rfl (.c 1 1 rfl rfl rfl (.c 2 1 rfl rfl rfl (.c 3 1 rfl rfl rfl (.c 4 1 rfl rfl rfl (.n _))))))) ?_
                        refine XT.alloc rfl rfl (fun b10 => ⟨inferInstance, ?_⟩) XT.stop
                        refine XT.st rfl rfl rfl rfl rfl ⟨inferInstance, ?_⟩ XT.stop
                        refine XT.done ?_
                        exact mtr26 ((b10, n105, n110, n112, n114, n116)) _ _ ⟨h105, h110, h112, h114, h116⟩ (.c rfl (.base 18 rfl rfl)) inferInstance
                      · skip
                        refine XT.alloc rfl rfl (fun b10 => ⟨inferInstance, ?_⟩) XT.stop
                        refine XT.callB b14 rfl rfl Try.call57 rfl rfl rfl (next7 b14 vl hl l (u + 1 + 1 + 1 + 1) (256) (by omega) (by omega) (by omega)) (fun v116 s116 R116 => ?_) XT.stop
                        obtain ⟨rfl, n116, rfl, h116⟩ := R116
                        dsimp only [List.cons_append, List.nil_append]
                        refine ⟨inferInstance, ?_⟩
                        refine XT.q rfl rfl (Q.mul rfl rfl ⟨by omega, by omega⟩) ?_
                        refine XT.q rfl rfl (Q.add rfl rfl ⟨by omega, by omega⟩) ?_
                        refine XT.q rfl rfl (Q.build [_, _, _, _, _] (.c 0 1 rfl rfl rfl (.c 1 1 rfl rfl rfl (.c 2 1 rfl rfl rfl (.c 3 1 rfl rfl rfl (.c 4 1 rfl rfl rfl (.n _))))))) ?_
                        refine XT.st rfl rfl rfl rfl rfl ⟨inferInstance, ?_⟩ XT.stop
                        refine XT.done ?_
                        exact mtr26 ((b10, n105, n110, n112, n114, n116)) _ _ ⟨h105, h110, h112, h114, h116⟩ (.c rfl (.base 18 rfl rfl)) inferInstance
                    · skip
                      refine XT.alloc rfl rfl (fun b10 => ⟨inferInstance, ?_⟩) XT.stop
                      refine XT.callB b14 rfl rfl Try.call57 rfl rfl rfl (next7 b14 vl hl l (u + 1 + 1 + 1) (200) (by omega) (by omega) (by omega)) (fun v114 s114 R114 => ?_) XT.stop
                      obtain ⟨rfl, n114, rfl, h114⟩ := R114
                      dsimp only [List.cons_append, List.nil_append]
                      refine ⟨inferInstance, ?_⟩
                      refine XT.callB b14 rfl rfl Try.call57 rfl rfl rfl (next7 b14 vl hl l (u + 1 + 1 + 1 + 1) (256) (by omega) (by omega) (by omega)) (fun v116 s116 R116 => ?_) XT.stop
                      obtain ⟨rfl, n116, rfl, h116⟩ := R116
                      dsimp only [List.cons_append, List.nil_append]
                      refine ⟨inferInstance, ?_⟩
                      refine XT.q rfl rfl (Q.mul rfl rfl ⟨by omega, by omega⟩) ?_
                      refine XT.q rfl rfl (Q.add rfl rfl ⟨by omega, by omega⟩) ?_
                      refine XT.q rfl rfl (Q.build [_, _, _, _, _] (.c 0 1 rfl rfl rfl (.c 1 1 rfl rfl rfl (.c 2 1 rfl rfl rfl (.c 3 1 rfl rfl rfl (.c 4 1 rfl rfl rfl (.n _))))))) ?_
                      refine XT.st rfl rfl rfl rfl rfl ⟨inferInstance, ?_⟩ XT.stop
                      refine XT.done ?_
                      exact mtr26 ((b10, n105, n110, n112, n114, n116)) _ _ ⟨h105, h110, h112, h114, h116⟩ (.c rfl (.base 18 rfl rfl)) inferInstance
                  · skip
                    refine XT.alloc rfl rfl (fun b10 => ⟨inferInstance, ?_⟩) XT.stop
                    refine XT.callB b14 rfl rfl Try.call57 rfl rfl rfl (next7 b14 vl hl l (u + 1 + 1) (60) (by omega) (by omega) (by omega)) (fun v112 s112 R112 => ?_) XT.stop
                    obtain ⟨rfl, n112, rfl, h112⟩ := R112
                    dsimp only [List.cons_append, List.nil_append]
                    refine ⟨inferInstance, ?_⟩
                    refine XT.callB b14 rfl rfl Try.call57 rfl rfl rfl (next7 b14 vl hl l (u + 1 + 1 + 1) (200) (by omega) (by omega) (by omega)) (fun v114 s114 R114 => ?_) XT.stop
                    obtain ⟨rfl, n114, rfl, h114⟩ := R114
                    dsimp only [List.cons_append, List.nil_append]
                    refine ⟨inferInstance, ?_⟩
                    refine XT.callB b14 rfl rfl Try.call57 rfl rfl rfl (next7 b14 vl hl l (u + 1 + 1 + 1 + 1) (256) (by omega) (by omega) (by omega)) (fun v116 s116 R116 => ?_) XT.stop
                    obtain ⟨rfl, n116, rfl, h116⟩ := R116
                    dsimp only [List.cons_append, List.nil_append]
                    refine ⟨inferInstance, ?_⟩
                    refine XT.q rfl rfl (Q.mul rfl rfl ⟨by omega, by omega⟩) ?_
                    refine XT.q rfl rfl (Q.add rfl rfl ⟨by omega, by omega⟩) ?_
                    refine XT.q rfl rfl (Q.build [_, _, _, _, _] (.c 0 1 rfl rfl rfl (.c 1 1 rfl rfl rfl (.c 2 1 rfl rfl rfl (.c 3 1 rfl rfl rfl (.c 4 1 rfl rfl rfl (.n _))))))) ?_
                    refine XT.st rfl rfl rfl rfl rfl ⟨inferInstance, ?_⟩ XT.stop
                    refine XT.done ?_
                    exact mtr26 ((b10, n105, n110, n112, n114, n116)) _ _ ⟨h105, h110, h112, h114, h116⟩ (.c rfl (.base 18 rfl rfl)) inferInstance
                · skip
                  refine XT.alloc rfl rfl (fun b10 => ⟨inferInstance, ?_⟩) XT.stop
                  refine XT.callB b14 rfl rfl Try.call57 rfl rfl rfl (next7 b14 vl hl l (u + 1) (bs.length) (by omega) (by omega) (by omega)) (fun v110 s110 R110 => ?_) XT.stop
                  obtain ⟨rfl, n110, rfl, h110⟩ := R110
                  dsimp only [List.cons_append, List.nil_append]
                  refine ⟨inferInstance, ?_⟩
                  refine XT.callB b14 rfl rfl Try.call57 rfl rfl rfl (next7 b14 vl hl l (u + 1 + 1) (60) (by omega) (by omega) (by omega)) (fun v112 s112 R112 => ?_) XT.stop
                  obtain ⟨rfl, n112, rfl, h112⟩ := R112
                  dsimp only [List.cons_append, List.nil_append]
                  refine ⟨inferInstance, ?_⟩
                  refine XT.callB b14 rfl rfl Try.call57 rfl rfl rfl (next7 b14 vl hl l (u + 1 + 1 + 1) (200) (by omega) (by omega) (by omega)) (fun v114 s114 R114 => ?_) XT.stop
                  obtain ⟨rfl, n114, rfl, h114⟩ := R114
                  dsimp only [List.cons_append, List.nil_append]
                  refine ⟨inferInstance, ?_⟩
                  refine XT.callB b14 rfl rfl Try.call57 rfl rfl rfl (next7 b14 vl hl l (u + 1 + 1 + 1 + 1) (256) (by omega) (by omega) (by omega)) (fun v116 s116 R116 => ?_) XT.stop
                  obtain ⟨rfl, n116, rfl, h116⟩ := R116
                  dsimp only [List.cons_append, List.nil_append]
                  refine ⟨inferInstance, ?_⟩
                  refine XT.q rfl rfl (Q.mul rfl rfl ⟨by omega, by omega⟩) ?_
                  refine XT.q rfl rfl (Q.add rfl rfl ⟨by omega, by omega⟩) ?_
                  refine XT.q rfl rfl (Q.build [_, _, _, _, _] (.c 0 1 rfl rfl rfl (.c 1 1 rfl rfl rfl (.c 2 1 rfl rfl rfl (.c 3 1 rfl rfl rfl (.c 4 1 rfl rfl rfl (.n _))))))) ?_
                  refine XT.st rfl rfl rfl rfl rfl ⟨inferInstance, ?_⟩ XT.stop
                  refine XT.done ?_
                  exact mtr26 ((b10, n105, n110, n112, n114, n116)) _ _ ⟨h105, h110, h112, h114, h116⟩ (.c rfl (.base 18 rfl rfl)) inferInstance
              · skip
                refine XT.alloc rfl rfl (fun b10 => ⟨inferInstance, ?_⟩) XT.stop
                refine XT.callB b14 rfl rfl Try.call57 rfl rfl rfl (next7 b14 vl hl l (u) (n) (by omega) (by omega) (by omega)) (fun v105 s105 R105 => ?_) XT.stop
                obtain ⟨rfl, n105, rfl, h105⟩ := R105
                dsimp only [List.cons_append, List.nil_append]
                refine ⟨inferInstance, ?_⟩
                refine XT.callB b14 rfl rfl Try.call57 rfl rfl rfl (next7 b14 vl hl l (u + 1) (bs.length) (by omega) (by omega) (by omega)) (fun v110 s110 R110 => ?_) XT.stop
                obtain ⟨rfl, n110, rfl, h110⟩ := R110
                dsimp only [List.cons_append, List.nil_append]
                refine ⟨inferInstance, ?_⟩
                refine XT.callB b14 rfl rfl Try.call57 rfl rfl rfl (next7 b14 vl hl l (u + 1 + 1) (60) (by omega) (by omega) (by omega)) (fun v112 s112 R112 => ?_) XT.stop
                obtain ⟨rfl, n112, rfl, h112⟩ := R112
                dsimp only [List.cons_append, List.nil_append]
                refine ⟨inferInstance, ?_⟩
                refine XT.callB b14 rfl rfl Try.call57 rfl rfl rfl (next7 b14 vl hl l (u + 1 + 1 + 1) (200) (by omega) (by omega) (by omega)) (fun v114 s114 R114 => ?_) XT.stop
                obtain ⟨rfl, n114, rfl, h114⟩ := R114
                dsimp only [List.cons_append, List.nil_append]
                refine ⟨inferInstance, ?_⟩
                refine XT.callB b14 rfl rfl Try.call57 rfl rfl rfl (next7 b14 vl hl l (u + 1 + 1 + 1 + 1) (256) (by omega) (by omega) (by omega)) (fun v116 s116 R116 => ?_) XT.stop
                obtain ⟨rfl, n116, rfl, h116⟩ := R116
                dsimp only [List.cons_append, List.nil_append]
                refine ⟨inferInstance, ?_⟩
                refine XT.q rfl rfl (Q.mul rfl rfl ⟨by omega, by omega⟩) ?_
                refine XT.q rfl rfl (Q.add rfl rfl ⟨by omega, by omega⟩) ?_
                refine XT.q rfl rfl (Q.build [_, _, _, _, _] (.c 0 1 rfl rfl rfl (.c 1 1 rfl rfl rfl (.c 2 1 rfl rfl rfl (.c 3 1 rfl rfl rfl (.c 4 1 rfl rfl rfl (.n _))))))) ?_
                refine XT.st rfl rfl rfl rfl rfl ⟨inferInstance, ?_⟩ XT.stop
                refine XT.done ?_
                exact mtr26 ((b10, n105, n110, n112, n114, n116)) _ _ ⟨h105, h110, h112, h114, h116⟩ (.c rfl (.base 18 rfl rfl)) inferInstance
          · have _t7 := True.intro
            refine XK.exit rfl ?_
            exact mt5 (u, cs, vC, kC, sl2, kS2) _ _ ⟨by dsimp only; omega, by dsimp only; omega, hC, hS2, OC, OS2⟩ (.base 41 rfl rfl) inferInstance
        · have _t5 := True.intro
          refine XK.skip ?_
          exact mt5 (q, [], .slice none 0 0, emp, sl, kS) _ _ ⟨by dsimp only; omega, by dsimp only; decide, Each.nil, hS.none, nC, OS⟩ (.base 0 rfl rfl) inferInstance
end Go.X.Ht

set_option linter.unusedSimpArgs false
set_option linter.unusedVariables false
set_option maxRecDepth 20000
namespace Go.X.Ht
open Go.Proofs
end Go.X.Ht

set_option linter.unusedSimpArgs false
set_option linter.unusedVariables false
set_option maxRecDepth 20000
namespace Go.X.Ht
open Go.Proofs
def encCV (x : Value × HCase) : List Value := [x.1, .int .i64 x.2.out, .int .i64 x.2.pump]
instance : Inhabited (Value × HCase) := ⟨(.slice none 0 0, default)⟩
theorem below_spec7 (va vb : Value) (ha hb : PHeap) (a b : List Int) [ia : Arr va encI 1 ha a] [ib : Arr vb encI 1 hb b] (hl : a.length ≤ b.length) : Spec Try.prog 61 #[va, vb] [] [ha, hb] (fun v hs => v = .bool (lbelow a b) ∧ hs = []) := by
  refine Spec.intro (fn := Try.f61) (N := 21) Try.func61 rfl Try.ntmps61 rfl fun B => ?_
  refine XK.seq ?_
  refine XK.region rfl ?_
  refine XO.q (Q.assign rfl) ?_
  refine XO.done ?_
  refine XK.seq ?_
  refine XK.seq ?_
  refine XK.region rfl ?_
  refine XO.q (Q.move rfl) ?_
  refine XO.len rfl fun l7 => ?_
  refine XO.q (Q.move rfl) ?_
  refine XO.done ?_
  refine XK.block ?_
  refine XK.while (X := Nat) [4, 5, 8, 9, 10, 11, 12, 13, 14, 15, 16, 17, 18, 19, 20] (fun i => [(8, some (.int .i64 (i : Nat)))]) (fun i => []) (fun i => i ≤ a.length ∧ allTo (fun i => decide (a.getD i 0 ≤ b.getD i 0)) i = true) (fun i => a.length - i) (0) [] rfl ⟨by omega, rfl⟩ (.c rfl (.base 0 rfl rfl)) ?_
  rintro i ⟨hi, ht⟩ ih0
  dsimp only [List.cons_append, List.nil_append] at ih0 ⊢
  refine XK.seq ?_
  refine XK.region rfl ?_
  refine XO.q (Q.lss rfl rfl) ?_
  refine XO.done ?_
  refine XK.seq ?_
  refine XK.if rfl (fun c0 => ?_) (fun c0 => ?_)
  · have _t0 := True.intro
    refine XK.skip ?_
    refine XK.seq ?_
    refine XK.block ?_
    refine XK.seq ?_
    refine XK.region rfl ?_
    refine XO.q (Q.move rfl) ?_
    refine XO.q (Q.assign rfl) ?_
    refine XO.done ?_
    refine XK.seq ?_
    refine XK.drawn [0, 1, 2, 3, 4, 5, 6, 7, 8] [] [] (.q 0 (.q 1 (.q 2 (.q 3 (.q 4 (.q 5 (.q 6 (.q 7 (.q 8 .done))))))))) Try.mixed rfl (by kernel_rfl) ?_
    refine XT.q rfl rfl (Q.move rfl) ?_
    refine XT.q rfl rfl (Q.move rfl) ?_
    refine XT.ix rfl rfl rfl rfl (by omega) (by omega) fun i13 => ?_
    refine XT.q rfl rfl (Q.ldE rfl (by first | assumption | omega) rfl) ?_
    refine XT.q rfl rfl (Q.move rfl) ?_
    refine XT.q rfl rfl (Q.move rfl) ?_
    refine XT.ix rfl rfl rfl rfl (by omega) (by omega) fun i17 => ?_
    refine XT.q rfl rfl (Q.ldE rfl (by first | assumption | omega) rfl) ?_
    refine XT.q rfl rfl (Q.gtr rfl rfl) ?_
    refine XT.done ?_
    refine XK.if rfl (fun c1 => ?_) (fun c1 => ?_)
    · have _t1 := True.intro
      refine XK.seq ?_
      refine XK.region rfl ?_
      refine XO.q (Q.assign rfl) ?_
      refine XO.done ?_
      refine XK.rt [] Try.func61 Try.results61 (.t rfl .n) ?_
      exact ⟨by rw [lbelow, allTo_false (s := i) (by omega) (by rw [decide_eq_false_iff_not]; change b.getD i 0 < a.getD i 0 at c1; omega)], rfl⟩
    · have _t1 := True.intro
      refine XK.skip ?_
      refine XK.inBlock ?_
      refine XK.region rfl ?_
      refine XO.q (Q.add rfl rfl ⟨by omega, by omega⟩) ?_
      refine XO.q (Q.move rfl) ?_
      refine XO.done ?_
      exact ih0 (i + 1) _ _ ⟨by omega, by rw [allTo_succ, ht, Bool.true_and, decide_eq_true_eq]; change ¬ (b.getD i 0 < a.getD i 0) at c1; omega⟩ (by first | omega | (dsimp only; omega)) (.c rfl (.base 30 rfl rfl)) inferInstance
  · have _t0 := True.intro
    refine XK.exit rfl ?_
    refine XK.seq ?_
    refine XK.region rfl ?_
    refine XO.q (Q.assign rfl) ?_
    refine XO.done ?_
    refine XK.rt [] Try.func61 Try.results61 (.t rfl .n) ?_
    have hn : i = a.length := by omega
    rw [hn] at ht
    exact ⟨by rw [lbelow, ht], rfl⟩
theorem between_spec (a c d : HCase) (va vc vd : Value) (ha hc hd : PHeap) [ia : Arr va encI 1 ha a.load] [ic : Arr vc encI 1 hc c.load] [id : Arr vd encI 1 hd d.load] (h1 : c.load.length ≤ a.load.length) (h2 : c.load.length ≤ d.load.length) :
    Spec Try.prog 99 #[.agg #[va, .int .i64 a.out, .int .i64 a.pump], .agg #[vc, .int .i64 c.out, .int .i64 c.pump], .agg #[vd, .int .i64 d.out, .int .i64 d.pump]] [] [ha, hc, hd] (fun v hs => v = .bool (betweenP a c d) ∧ hs = []) := by
  refine Spec.intro (fn := Try.f99) (N := 60) Try.func99 rfl Try.ntmps99 rfl fun B => ?_
  refine XK.seq ?_
  refine XK.region rfl ?_
  refine XO.box rfl fun b3 => ?_
  refine XO.box rfl fun b4 => ?_
  refine XO.box rfl fun b5 => ?_
  refine XO.q (Q.assign rfl) ?_
  refine XO.done ?_
  refine XK.seq ?_
  refine XK.seq ?_
  refine XK.region rfl ?_
  refine XO.q (Q.fieldAddr rfl) ?_
  refine XO.q (Q.ld rfl rfl) ?_
  refine XO.len rfl fun l11 => ?_
  refine XO.q (Q.move rfl) ?_
  refine XO.done ?_
  refine XK.block ?_
  refine XK.while (X := Nat) [6, 7, 8, 12, 13, 14, 15, 16, 17, 18, 19, 20, 21, 22, 23, 24, 25, 26, 27, 28, 29, 30, 31, 32, 33] (fun i => [(12, some (.int .i64 (i : Nat)))]) (fun i => []) (fun i => i ≤ c.load.length ∧ allTo (fun i => decide (a.load.getD i 0 ≤ c.load.getD i 0) && decide (c.load.getD i 0 ≤ d.load.getD i 0)) i = true) (fun i => c.load.length - i) (0) [] rfl ⟨by omega, rfl⟩ (.c rfl (.base 0 rfl rfl)) ?_
  rintro i ⟨hi, ht⟩ ih0
  dsimp only [List.cons_append, List.nil_append] at ih0 ⊢
  refine XK.seq ?_
  refine XK.region rfl ?_
  refine XO.q (Q.lss rfl rfl) ?_
  refine XO.done ?_
  refine XK.seq ?_
  refine XK.if rfl (fun c0 => ?_) (fun c0 => ?_)
  · have _t0 := True.intro
    refine XK.skip ?_
    refine XK.seq ?_
    refine XK.block ?_
    refine XK.seq ?_
    refine XK.region rfl ?_
    refine XO.q (Q.move rfl) ?_
    refine XO.ix rfl rfl (by omega) (by omega) fun i15 => ?_
    refine XO.q (Q.ldE rfl (by first | assumption | omega) rfl) ?_
    refine XO.q (Q.assign rfl) ?_
    refine XO.q (Q.assign rfl) ?_
    refine XO.done ?_
    refine XK.seq ?_
    refine XK.region rfl ?_
    refine XO.q (Q.move rfl) ?_
    refine XO.q (Q.fieldAddr rfl) ?_
    refine XO.q (Q.ld rfl rfl) ?_
    refine XO.q (Q.move rfl) ?_
    refine XO.ix rfl rfl (by omega) (by omega) fun i21 => ?_
    refine XO.q (Q.ldE rfl (by first | assumption | omega) rfl) ?_
    refine XO.q (Q.lss rfl rfl) ?_
    refine XO.q (Q.move rfl) ?_
    refine XO.q (Quiet.guardF rfl rfl fun g25 p25 => Q.move rfl) ?_
    refine XO.q (Quiet.guardF rfl rfl fun g26 p26 => Q.fieldAddr rfl) ?_
    refine XO.q (Quiet.guardF rfl rfl fun g27 p27 => Q.ld (lzv g27 rfl) rfl) ?_
    refine XO.q (Quiet.guardF rfl rfl fun g28 p28 => Q.move rfl) ?_
    refine XO.q (Quiet.guardF rfl rfl fun g29 p29 => Q.ix (lzv g29 rfl) (lzv g29 rfl) (by omega) (by omega)) ?_
    refine XO.q (Quiet.guardF rfl rfl fun g30 p30 => Q.ldE (lzv g30 rfl) (by first | assumption | omega) rfl) ?_
    refine XO.q (Quiet.guardF rfl rfl fun g31 p31 => Q.gtr (lzv g31 rfl) (lzv g31 rfl)) ?_
    refine XO.q (Q.or rfl (fun hp => lzv hp rfl)) ?_
    refine XO.done ?_
    refine XK.if rfl (fun c1 => ?_) (fun c1 => ?_)
    · have _t1 := True.intro
      refine XK.seq ?_
      refine XK.region rfl ?_
      refine XO.q (Q.assign rfl) ?_
      refine XO.done ?_
      refine XK.rt [] Try.func99 Try.results99 (.t rfl .n) ?_
      exact ⟨by rw [between_spec1 (i := i) (by omega) c1], rfl⟩
    · have _t1 := True.intro
      refine XK.skip ?_
      refine XK.inBlock ?_
      refine XK.region rfl ?_
      refine XO.q (Q.add rfl rfl ⟨by omega, by omega⟩) ?_
      refine XO.q (Q.move rfl) ?_
      refine XO.done ?_
      exact ih0 (i + 1) _ _ ⟨by omega, by rw [allTo_succ, ht, Bool.true_and, Bool.and_eq_true, decide_eq_true_eq, decide_eq_true_eq]; change ¬ (c.load.getD i 0 < a.load.getD i 0 ∨ d.load.getD i 0 < c.load.getD i 0) at c1; omega⟩ (by first | omega | (dsimp only; omega)) (.c rfl (.base 50 rfl rfl)) inferInstance
  · have _t0 := True.intro
    refine XK.exit rfl ?_
    refine XK.seq ?_
    refine XK.region rfl ?_
    refine XO.q (Q.fieldAddr rfl) ?_
    refine XO.q (Q.ld rfl rfl) ?_
    refine XO.q (Q.fieldAddr rfl) ?_
    refine XO.q (Q.ld rfl rfl) ?_
    refine XO.q (Q.geq rfl rfl) ?_
    refine XO.q (Q.move rfl) ?_
    refine XO.q (Quiet.guardT rfl rfl fun g40 p40 => Q.fieldAddr rfl) ?_
    refine XO.q (Quiet.guardT rfl rfl fun g41 p41 => Q.ld (lzv g41 rfl) rfl) ?_
    refine XO.q (Quiet.guardT rfl rfl fun g42 p42 => Q.fieldAddr rfl) ?_
    refine XO.q (Quiet.guardT rfl rfl fun g43 p43 => Q.ld (lzv g43 rfl) rfl) ?_
    refine XO.q (Quiet.guardT rfl rfl fun g44 p44 => Q.leq (lzv g44 rfl) (lzv g44 rfl)) ?_
    refine XO.q (Q.and rfl (fun hp => lzv hp rfl)) ?_
    refine XO.q (Q.move rfl) ?_
    refine XO.q (Quiet.guardT rfl rfl fun g47 p47 => Q.fieldAddr rfl) ?_
    refine XO.q (Quiet.guardT rfl rfl fun g48 p48 => Q.ld (lzv g48 rfl) rfl) ?_
    refine XO.q (Quiet.guardT rfl rfl fun g49 p49 => Q.fieldAddr rfl) ?_
    refine XO.q (Quiet.guardT rfl rfl fun g50 p50 => Q.ld (lzv g50 rfl) rfl) ?_
    refine XO.q (Quiet.guardT rfl rfl fun g51 p51 => Q.leq (lzv g51 rfl) (lzv g51 rfl)) ?_
    refine XO.q (Q.and rfl (fun hp => lzv hp rfl)) ?_
    refine XO.q (Q.move rfl) ?_
    refine XO.q (Quiet.guardT rfl rfl fun g54 p54 => Q.fieldAddr rfl) ?_
    refine XO.q (Quiet.guardT rfl rfl fun g55 p55 => Q.ld (lzv g55 rfl) rfl) ?_
    refine XO.q (Quiet.guardT rfl rfl fun g56 p56 => Q.fieldAddr rfl) ?_
    refine XO.q (Quiet.guardT rfl rfl fun g57 p57 => Q.ld (lzv g57 rfl) rfl) ?_
    refine XO.q (Quiet.guardT rfl rfl fun g58 p58 => Q.geq (lzv g58 rfl) (lzv g58 rfl)) ?_
    refine XO.q (Q.and rfl (fun hp => lzv hp rfl)) ?_
    refine XO.q (Q.assign rfl) ?_
    refine XO.done ?_
    refine XK.rt [] Try.func99 Try.results99 (.t rfl .n) ?_
    have hn : i = c.load.length := by omega
    rw [hn] at ht
    exact ⟨by rw [betweenP, ht, Bool.true_and], rfl⟩
theorem Classed_spec (h : Hall) (vr vw vb vc : Value) (hr hw hb hc : PHeap) [ir : Arr vr encRoom 2 hr h.rooms] [iw : Arr vw encWall 3 hw h.walls] [ib : Arr vb encBranch 3 hb h.branches] [ic : Arr vc encCooler 5 hc h.coolers] (a d : HCase) (va vd : Value) (ha hd : PHeap) [ia : Arr va encI 1 ha a.load] [id : Arr vd encI 1 hd d.load] (l : List (Value × HCase)) (vl : Value) (hl hL : PHeap) [il : Arr vl encCV 3 hl l] (hll : l.length ≤ 20000) (aL : ∀ i, i < l.length → Arr (l.getD i default).1 encI 1 hL (l.getD i default).2.load) :
    Spec Try.prog 85 #[.agg #[vr, vw, vb, vc], .agg #[va, .int .i64 a.out, .int .i64 a.pump, vd, .int .i64 d.out, .int .i64 d.pump], vl] [] [hr, hw, hb, hc, ha, hd, hl, hL] (fun v hs => v = .int .i64 (classedG h a d (l.map Prod.snd)) ∧ hs = []) := by
  refine Spec.intro (fn := Try.f85) (N := 52) Try.func85 rfl Try.ntmps85 rfl fun B => ?_
  refine XK.seq ?_
  refine XK.region rfl ?_
  refine XO.box rfl fun b3 => ?_
  refine XO.box rfl fun b4 => ?_
  refine XO.q (Q.assign rfl) ?_
  refine XO.done ?_
  refine XK.seq ?_
  refine XK.seq ?_
  refine XK.region rfl ?_
  refine XO.q (Q.ldA [_, _, _, _] rfl rfl rfl) ?_
  refine XO.call Try.call81 rfl rfl rfl (Check_spec h vr vw vb vc hr hw hb hc) fun v13 s13 R13 => ?_
  obtain ⟨rfl, rfl⟩ := R13
  dsimp only [List.cons_append, List.nil_append]
  refine XO.q (Q.assign rfl) ?_
  refine XO.done ?_
  refine XK.seq ?_
  refine XK.region rfl ?_
  refine XO.q (Q.move rfl) ?_
  refine XO.q (Q.neq rfl rfl) ?_
  refine XO.done ?_
  refine XK.if rfl (fun c0 => ?_) (fun c0 => ?_)
  · have _t0 := True.intro
    refine XK.seq ?_
    refine XK.region rfl ?_
    refine XO.q (Q.move rfl) ?_
    refine XO.q (Q.assign rfl) ?_
    refine XO.done ?_
    refine XK.rt [] Try.func85 Try.results85 (.t rfl .n) ?_
    exact ⟨by rw [classedG_errs, if_pos c0], rfl⟩
  · have _t0 := True.intro
    refine XK.skip ?_
    refine XK.seq ?_
    refine XK.drawn [0, 1, 2, 4, 5, 6, 9] [b3, b4] [] (.q 0 (.q 1 (.q 2 (.q 4 (.q 5 (.q 6 (.br 3 true (.br 7 true (.br 8 true (.q 9 .done) .stop) .stop) .stop))))))) Try.mixed rfl (by kernel_rfl) ?_
    refine XT.q rfl rfl (Q.ldA [_, _, _, _] rfl rfl rfl) ?_
    refine XT.q rfl rfl (Q.fieldAddr rfl) ?_
    refine XT.q rfl rfl (Q.ldA [_, _, _] rfl rfl rfl) ?_
    refine XT.q rfl rfl (Q.ldA [_, _, _, _] rfl rfl rfl) ?_
    refine XT.q rfl rfl (Q.fieldAddr rfl) ?_
    refine XT.q rfl rfl (Q.ldA [_, _, _] rfl rfl rfl) ?_
    refine XT.call rfl rfl Try.call84 rfl rfl rfl (cased_spec h vr vw vb vc hr va ha a) (fun v20 s20 R20 => ?_) XT.stop
    obtain ⟨rfl, rfl⟩ := R20
    dsimp only [List.cons_append, List.nil_append]
    refine ⟨inferInstance, ?_⟩
    refine XT.call rfl rfl Try.call84 rfl rfl rfl (cased_spec h vr vw vb vc hr vd hd d) (fun v24 s24 R24 => ?_) XT.stop
    obtain ⟨rfl, rfl⟩ := R24
    dsimp only [List.cons_append, List.nil_append]
    refine ⟨inferInstance, ?_⟩
    refine XT.lit [_, _] [_, _] [casedP h a, casedP h d] encI rfl rfl (by rfl) (by rfl) rfl (by rfl) (by exact .c 0 1 rfl rfl rfl (.c 1 1 rfl rfl rfl (.n _))) (fun _ => rfl) (by rfl) rfl (by infer_instance) rfl (fun v25 h25 O25 => ⟨inferInstance, ?_⟩) XT.stop
    refine XT.q rfl rfl (Q.assign rfl) ?_
    refine XT.done ?_
    refine XK.seq ?_
    refine XK.seq ?_
    refine XK.region rfl ?_
    refine XO.q (Q.move rfl) ?_
    refine XO.len rfl fun l27 => ?_
    refine XO.q (Q.move rfl) ?_
    refine XO.done ?_
    refine XK.block ?_
    refine XK.while (X := Nat × Value × PHeap) [8, 10, 28, 29, 30, 31, 32, 33, 34, 35, 36, 37, 38] (fun ⟨i, v8, k8⟩ => [(28, some (.int .i64 (i : Nat))), (8, some (v8))]) (fun ⟨i, v8, k8⟩ => [k8]) (fun ⟨i, v8, k8⟩ => i ≤ l.length ∧ OArr v8 encI 1 31 k8 (errsL h a d ((List.range i).map (fun j => (l.getD j default).2)))) (fun ⟨i, v8, k8⟩ => l.length - i) (0, v25, h25) [h25] rfl ⟨by omega, O25⟩ (.c rfl (.c rfl (.base 0 rfl rfl))) ?_
    rintro ⟨i, v8, k8⟩ ⟨hi, O8⟩ ih0
    dsimp only [List.cons_append, List.nil_append] at ih0 ⊢
    refine XK.seq ?_
    refine XK.region rfl ?_
    refine XO.q (Q.lss rfl rfl) ?_
    refine XO.done ?_
    refine XK.seq ?_
    refine XK.if rfl (fun c1 => ?_) (fun c1 => ?_)
    · have _t1 := True.intro
      have il0 := aL i (by omega)
      refine XK.skip ?_
      refine XK.seq ?_
      refine XK.block ?_
      refine XK.seq ?_
      refine XK.region rfl ?_
      refine XO.ix rfl rfl (by omega) (by omega) fun i30 => ?_
      refine XO.q (Q.ldEA [_, _, _] rfl (by first | assumption | omega) rfl rfl) ?_
      refine XO.alloc fun b10 => ?_
      refine XO.st rfl rfl rfl ?_
      refine XO.done ?_
      refine XK.region rfl ?_
      refine XO.q (Q.move rfl) ?_
      refine XO.q (Q.ldA [_, _, _, _] rfl rfl rfl) ?_
      refine XO.q (Q.ldA [_, _, _] rfl rfl rfl) ?_
      refine XO.call Try.call84 rfl rfl rfl (cased_spec h vr vw vb vc hr (l.getD i default).1 hL (l.getD i default).2) fun v35 s35 R35 => ?_
      obtain ⟨rfl, rfl⟩ := R35
      dsimp only [List.cons_append, List.nil_append]
      refine XO.lit [_] [_] [_] encI (by rfl) (by rfl) rfl (by rfl) (by exact .c 0 1 rfl rfl rfl (.n _)) (fun _ => rfl) (by rfl) rfl (by infer_instance) rfl fun v36 h36 O36 => ?_
      refine XO.append rfl rfl rfl rfl (by simp only [errsL_len, List.length_map, List.length_range, List.length_cons, List.length_nil]; omega) fun v37 h37 O37 => ?_
      refine XO.q (Q.assign rfl) ?_
      refine XO.done ?_
      refine XK.inBlock ?_
      refine XK.region rfl ?_
      refine XO.q (Q.add rfl rfl ⟨by omega, by omega⟩) ?_
      refine XO.q (Q.move rfl) ?_
      refine XO.done ?_
      exact ih0 (i + 1, v37, h37) _ _ ⟨by dsimp only; omega, by dsimp only; rw [range_snoc, errsL_snoc]; exact O37⟩ (by first | omega | (dsimp only; omega)) (.c rfl (.c rfl (.base 28 rfl rfl))) inferInstance
    · have _t1 := True.intro
      have hn : i = l.length := by omega
      subst hn
      rw [range_getD l (fun x => x.2)] at O8
      refine XK.exit rfl ?_
      refine XK.seq ?_
      refine XK.seq ?_
      refine XK.region rfl ?_
      refine XO.q (Q.move rfl) ?_
      refine XO.call Try.call82 rfl rfl rfl (both_spec v8 k8 (errsL h a d (l.map Prod.snd))) fun v40 s40 R40 => ?_
      obtain ⟨rfl, rfl⟩ := R40
      dsimp only [List.cons_append, List.nil_append]
      refine XO.q (Q.assign rfl) ?_
      refine XO.done ?_
      refine XK.seq ?_
      refine XK.region rfl ?_
      refine XO.q (Q.move rfl) ?_
      refine XO.q (Q.neq rfl rfl) ?_
      refine XO.done ?_
      refine XK.if rfl (fun c2 => ?_) (fun c2 => ?_)
      · have _t2 := True.intro
        refine XK.seq ?_
        refine XK.region rfl ?_
        refine XO.q (Q.move rfl) ?_
        refine XO.q (Q.assign rfl) ?_
        refine XO.done ?_
        refine XK.rt [] Try.func85 Try.results85 (.t rfl .n) ?_
        exact ⟨by rw [classedG_errs, if_neg c0, if_pos c2], rfl⟩
      · have _t2 := True.intro
        have c2 := Decidable.of_not_not c2
        have oka : COk h a := both_cased c2 (by simp [errsL])
        have okd : COk h d := both_cased c2 (by simp [errsL])
        refine XK.skip ?_
        refine XK.seq ?_
        refine XK.seq ?_
        refine XK.region rfl ?_
        refine XO.q (Q.fieldAddr rfl) ?_
        refine XO.q (Q.ldA [_, _, _] rfl rfl rfl) ?_
        refine XO.q (Q.fieldAddr rfl) ?_
        refine XO.q (Q.ldA [_, _, _] rfl rfl rfl) ?_
        refine XO.q (Q.fieldAddr rfl) ?_
        refine XO.q (Q.ldA [_, _, _] rfl rfl rfl) ?_
        refine XO.call Try.call99 rfl rfl rfl (between_spec a a d va va vd ha ha hd (Nat.le_refl _) (by rw [oka.len, okd.len]; exact Nat.le_refl _)) fun v50 s50 R50 => ?_
        obtain ⟨rfl, rfl⟩ := R50
        dsimp only [List.cons_append, List.nil_append]
        refine XO.q (Q.not rfl) ?_
        refine XO.done ?_
        refine XK.if rfl (fun c3 => ?_) (fun c3 => ?_)
        · have _t3 := True.intro
          refine XK.seq ?_
          refine XK.region rfl ?_
          refine XO.q (Q.assign rfl) ?_
          refine XO.done ?_
          refine XK.rt [] Try.func85 Try.results85 (.t rfl .n) ?_
          exact ⟨by rw [classedG_errs, if_neg c0, if_neg (by rw [c2]; decide), if_neg c3], rfl⟩
        · have _t3 := True.intro
          refine XK.skip ?_
          refine XK.seq ?_
          refine XK.region rfl ?_
          refine XO.q (Q.assign rfl) ?_
          refine XO.done ?_
          refine XK.rt [] Try.func85 Try.results85 (.t rfl .n) ?_
          exact ⟨by rw [classedG_errs, if_neg c0, if_neg (by rw [c2]; decide), if_pos (Decidable.of_not_not c3)], rfl⟩
end Go.X.Ht

set_option linter.unusedSimpArgs false
set_option linter.unusedVariables false
set_option maxRecDepth 20000
namespace Go.X.Ht
open Go.Proofs
theorem boxed_spec (h : Hall) (vr vw vb vc : Value) (hr hw hb hc : PHeap) [ir : Arr vr encRoom 2 hr h.rooms] [iw : Arr vw encWall 3 hw h.walls] [ib : Arr vb encBranch 3 hb h.branches] [ic : Arr vc encCooler 5 hc h.coolers] (a d : HCase) (va vd : Value) (ha hd : PHeap) [ia : Arr va encI 1 ha a.load] [id : Arr vd encI 1 hd d.load] (lo hi : List Int) (vlo vhi : Value) (hlo hhi : PHeap) [ilo : Arr vlo encI 1 hlo lo] [ihi : Arr vhi encI 1 hhi hi] : Spec Try.prog 60 #[.agg #[vr, vw, vb, vc], vlo, vhi, .agg #[va, .int .i64 a.out, .int .i64 a.pump, vd, .int .i64 d.out, .int .i64 d.pump]] [] [hr, hw, hb, hc, ha, hd, hlo, hhi] (fun v hs => v = .int .i64 (boxedG h lo hi a d) ∧ hs = []) := by
  refine Spec.intro (fn := Try.f60) (N := 32) Try.func60 rfl Try.ntmps60 rfl fun B => ?_
  refine XK.seq ?_
  refine XK.region rfl ?_
  refine XO.box rfl fun b4 => ?_
  refine XO.box rfl fun b7 => ?_
  refine XO.q (Q.assign rfl) ?_
  refine XO.done ?_
  refine XK.seq ?_
  refine XK.seq ?_
  refine XK.region rfl ?_
  refine XO.q (Q.ldA [_, _, _, _] rfl rfl rfl) ?_
  refine XO.q (Q.ldA [_, _, _, _, _, _] rfl rfl rfl) ?_
  refine XO.call Try.call85 rfl rfl rfl (Classed_spec h vr vw vb vc hr hw hb hc a d va vd ha hd [] (.slice none 0 0) hr hr (il := Arr.nil (fun _ => rfl)) (by simp) (fun i hi => absurd hi (Nat.not_lt_zero i))) fun v13 s13 R13 => ?_
  obtain ⟨rfl, rfl⟩ := R13
  dsimp only [List.cons_append, List.nil_append]
  rw [List.map_nil]
  refine XO.q (Q.assign rfl) ?_
  refine XO.done ?_
  refine XK.seq ?_
  refine XK.region rfl ?_
  refine XO.q (Q.move rfl) ?_
  refine XO.q (Q.neq rfl rfl) ?_
  refine XO.done ?_
  refine XK.if rfl (fun c0 => ?_) (fun c0 => ?_)
  · have _t0 := True.intro
    refine XK.seq ?_
    refine XK.region rfl ?_
    refine XO.q (Q.move rfl) ?_
    refine XO.q (Q.assign rfl) ?_
    refine XO.done ?_
    refine XK.rt [] Try.func60 Try.results60 (.t rfl .n) ?_
    exact ⟨by rw [boxedG, if_pos c0], rfl⟩
  · have _t0 := True.intro
    refine XK.skip ?_
    refine XK.seq ?_
    refine XK.seq ?_
    refine XK.drawn [0, 1, 3, 4, 8] [b4] [] (.q 0 (.q 1 (.q 3 (.q 4 (.br 2 true (.br 5 true (.br 6 true (.br 7 true (.q 8 .done) .stop) .stop) .stop) .stop))))) Try.mixed rfl (by kernel_rfl) ?_
    refine XT.q rfl rfl (Q.ldA [_, _, _, _] rfl rfl rfl) ?_
    refine XT.q rfl rfl (Q.move rfl) ?_
    refine XT.q rfl rfl (Q.ldA [_, _, _, _] rfl rfl rfl) ?_
    refine XT.q rfl rfl (Q.move rfl) ?_
    refine XT.call rfl rfl Try.call83 rfl rfl rfl (warm_spec h vr vw vb vc hr vlo hlo lo) (fun v19 s19 R19 => ?_) XT.stop
    obtain ⟨rfl, rfl⟩ := R19
    dsimp only [List.cons_append, List.nil_append]
    refine ⟨inferInstance, ?_⟩
    refine XT.call rfl rfl Try.call83 rfl rfl rfl (warm_spec h vr vw vb vc hr vhi hhi hi) (fun v22 s22 R22 => ?_) XT.stop
    obtain ⟨rfl, rfl⟩ := R22
    dsimp only [List.cons_append, List.nil_append]
    refine ⟨inferInstance, ?_⟩
    refine XT.lit [_, _] [_, _] [warmP h lo, warmP h hi] encI rfl rfl (by rfl) (by rfl) rfl (by rfl) (by exact .c 0 1 rfl rfl rfl (.c 1 1 rfl rfl rfl (.n _))) (fun _ => rfl) (by rfl) rfl (by infer_instance) rfl (fun v23 h23 O23 => ⟨inferInstance, ?_⟩) XT.stop
    refine XT.call rfl rfl Try.call82 rfl rfl rfl (both_spec v23 h23 [warmP h lo, warmP h hi]) (fun v24 s24 R24 => ?_) XT.stop
    obtain ⟨rfl, rfl⟩ := R24
    dsimp only [List.cons_append, List.nil_append]
    refine ⟨inferInstance, ?_⟩
    refine XT.q rfl rfl (Q.assign rfl) ?_
    refine XT.done ?_
    refine XK.seq ?_
    refine XK.region rfl ?_
    refine XO.q (Q.move rfl) ?_
    refine XO.q (Q.neq rfl rfl) ?_
    refine XO.done ?_
    refine XK.if rfl (fun c1 => ?_) (fun c1 => ?_)
    · have _t1 := True.intro
      refine XK.seq ?_
      refine XK.region rfl ?_
      refine XO.q (Q.move rfl) ?_
      refine XO.q (Q.assign rfl) ?_
      refine XO.done ?_
      refine XK.rt [] Try.func60 Try.results60 (.t rfl .n) ?_
      exact ⟨by rw [boxedG, if_neg c0, if_pos c1], rfl⟩
    · have _t1 := True.intro
      have oklo : TOk h lo := both_warm (Decidable.of_not_not c1) (by simp)
      have okhi : TOk h hi := both_warm (Decidable.of_not_not c1) (by simp)
      refine XK.skip ?_
      refine XK.seq ?_
      refine XK.seq ?_
      refine XK.region rfl ?_
      refine XO.q (Q.move rfl) ?_
      refine XO.q (Q.move rfl) ?_
      refine XO.call Try.call61 rfl rfl rfl (below_spec7 vlo vhi hlo hhi lo hi (by rw [oklo.len, okhi.len]; exact Nat.le_refl _)) fun v30 s30 R30 => ?_
      obtain ⟨rfl, rfl⟩ := R30
      dsimp only [List.cons_append, List.nil_append]
      refine XO.q (Q.not rfl) ?_
      refine XO.done ?_
      refine XK.if rfl (fun c2 => ?_) (fun c2 => ?_)
      · have _t2 := True.intro
        refine XK.seq ?_
        refine XK.region rfl ?_
        refine XO.q (Q.assign rfl) ?_
        refine XO.done ?_
        refine XK.rt [] Try.func60 Try.results60 (.t rfl .n) ?_
        exact ⟨by rw [boxedG, if_neg c0, if_neg c1, if_neg c2], rfl⟩
      · have _t2 := True.intro
        refine XK.skip ?_
        refine XK.seq ?_
        refine XK.region rfl ?_
        refine XO.q (Q.assign rfl) ?_
        refine XO.done ?_
        refine XK.rt [] Try.func60 Try.results60 (.t rfl .n) ?_
        exact ⟨by rw [boxedG, if_neg c0, if_neg c1, if_pos (Decidable.of_not_not c2)], rfl⟩
theorem Held_spec (h : Hall) (vr vw vb vc : Value) (hr hw hb hc : PHeap) [ir : Arr vr encRoom 2 hr h.rooms] [iw : Arr vw encWall 3 hw h.walls] [ib : Arr vb encBranch 3 hb h.branches] [ic : Arr vc encCooler 5 hc h.coolers] (a d : HCase) (va vd : Value) (ha hd : PHeap) [ia : Arr va encI 1 ha a.load] [id : Arr vd encI 1 hd d.load] (lo hi : List Int) (vlo vhi : Value) (hlo hhi : PHeap) [ilo : Arr vlo encI 1 hlo lo] [ihi : Arr vhi encI 1 hhi hi] : Spec Try.prog 36 #[.agg #[vr, vw, vb, vc], vlo, vhi, .agg #[va, .int .i64 a.out, .int .i64 a.pump, vd, .int .i64 d.out, .int .i64 d.pump]] [] [hr, hw, hb, hc, ha, hd, hlo, hhi] (fun v hs => v = .tuple #[.bool (heldG h lo hi a d).1, .int .i64 (heldG h lo hi a d).2] ∧ hs = []) := by
  refine Spec.intro (fn := Try.f36) (N := 35) Try.func36 rfl Try.ntmps36 rfl fun B => ?_
  refine XK.seq ?_
  refine XK.region rfl ?_
  refine XO.box rfl fun b4 => ?_
  refine XO.box rfl fun b7 => ?_
  refine XO.q (Q.assign rfl) ?_
  refine XO.q (Q.assign rfl) ?_
  refine XO.done ?_
  refine XK.seq ?_
  refine XK.seq ?_
  refine XK.region rfl ?_
  refine XO.q (Q.ldA [_, _, _, _] rfl rfl rfl) ?_
  refine XO.q (Q.move rfl) ?_
  refine XO.q (Q.move rfl) ?_
  refine XO.q (Q.ldA [_, _, _, _, _, _] rfl rfl rfl) ?_
  refine XO.call Try.call60 rfl rfl rfl (boxed_spec h vr vw vb vc hr hw hb hc a d va vd ha hd lo hi vlo vhi hlo hhi) fun v15 s15 R15 => ?_
  obtain ⟨rfl, rfl⟩ := R15
  dsimp only [List.cons_append, List.nil_append]
  refine XO.q (Q.assign rfl) ?_
  refine XO.done ?_
  refine XK.seq ?_
  refine XK.region rfl ?_
  refine XO.q (Q.move rfl) ?_
  refine XO.q (Q.neq rfl rfl) ?_
  refine XO.done ?_
  refine XK.if rfl (fun c0 => ?_) (fun c0 => ?_)
  · have _t0 := True.intro
    refine XK.seq ?_
    refine XK.region rfl ?_
    refine XO.q (Q.move rfl) ?_
    refine XO.q (Q.assign rfl) ?_
    refine XO.q (Q.assign rfl) ?_
    refine XO.done ?_
    refine XK.rt [] Try.func36 Try.results36 (.t rfl (.t rfl .n)) ?_
    exact ⟨by rw [heldG, if_pos c0], rfl⟩
  · have _t0 := True.intro
    obtain ⟨ok0, oka, okd, oklo, okhi, _, _⟩ := boxed_ok (Decidable.of_not_not c0)
    refine XK.skip ?_
    refine XK.seq ?_
    refine XK.region rfl ?_
    refine XO.q (Q.move rfl) ?_
    refine XO.q (Q.ldA [_, _, _, _] rfl rfl rfl) ?_
    refine XO.q (Q.move rfl) ?_
    refine XO.q (Q.fieldAddr rfl) ?_
    refine XO.q (Q.ldA [_, _, _] rfl rfl rfl) ?_
    refine XO.call Try.call62 rfl rfl rfl (next_spec7 h vr vw vb vc hr hw hb hc (hcheck_ok ok0) lo vlo hlo oklo a oka va ha) fun v24 s24 R24 => ?_
    obtain ⟨k24, rfl, O24⟩ := R24
    dsimp only [List.cons_append, List.nil_append]
    refine XO.call Try.call61 rfl rfl rfl (below_spec7 vlo v24 hlo k24 lo (nextL h lo a) (by rw [oklo.len, nextL_len]; exact Nat.le_refl _)) fun v25 s25 R25 => ?_
    obtain ⟨rfl, rfl⟩ := R25
    dsimp only [List.cons_append, List.nil_append]
    rcases hb25 : lbelow lo (nextL h lo a) with _ | _
    · have _tb := True.intro
      refine XO.q (Q.move rfl) ?_
      refine XO.q (Quiet.off rfl rfl (by decide)) ?_
      refine XO.q (Quiet.off rfl rfl (by decide)) ?_
      refine XO.q (Quiet.off rfl rfl (by decide)) ?_
      refine XO.q (Quiet.off rfl rfl (by decide)) ?_
      refine XO.q (Quiet.off rfl rfl (by decide)) ?_
      refine XO.q (Quiet.off rfl rfl (by decide)) ?_
      refine XO.q (Quiet.off rfl rfl (by decide)) ?_
      refine XO.q (Q.and (b := false) (b2 := false) rfl (fun hp => by cases hp)) ?_
      refine XO.q (Q.assign rfl) ?_
      refine XO.q (Q.assign rfl) ?_
      refine XO.done ?_
      refine XK.rt [] Try.func36 Try.results36 (.t rfl (.t rfl .n)) ?_
      exact ⟨by rw [heldG, if_neg c0, hb25, Bool.false_and]; rfl, rfl⟩
    · have _tb := True.intro
      refine XO.q (Q.move rfl) ?_
      refine XO.q (Quiet.guardT rfl rfl fun g27 p27 => Q.ldA [_, _, _, _] rfl rfl rfl) ?_
      refine XO.q (Quiet.guardT rfl rfl fun g28 p28 => Q.move rfl) ?_
      refine XO.q (Quiet.guardT rfl rfl fun g29 p29 => Q.fieldAddr rfl) ?_
      refine XO.q (Quiet.guardT rfl rfl fun g30 p30 => Q.ldA [_, _, _] (lzv rfl rfl) rfl rfl) ?_
      refine XO.callS rfl rfl rfl Try.call62 rfl (.c (lzv rfl rfl) (.c (lzv rfl rfl) (.c (lzv rfl rfl) .n))) rfl (next_spec7 h vr vw vb vc hr hw hb hc (hcheck_ok ok0) hi vhi hhi okhi d okd vd hd) fun v31 s31 R31 => ?_
      obtain ⟨k31, rfl, O31⟩ := R31
      dsimp only [List.cons_append, List.nil_append]
      refine XO.q (Quiet.guardT rfl rfl fun g32 p32 => Q.move rfl) ?_
      refine XO.callS rfl rfl rfl Try.call61 rfl (.c rfl (.c (lzv rfl rfl) .n)) rfl (below_spec7 v31 vhi k31 hhi (nextL h hi d) hi (by rw [okhi.len, nextL_len]; exact Nat.le_refl _)) fun v33 s33 R33 => ?_
      obtain ⟨rfl, rfl⟩ := R33
      dsimp only [List.cons_append, List.nil_append]
      refine XO.q (Q.and rfl (fun _ => rfl)) ?_
      refine XO.q (Q.assign rfl) ?_
      refine XO.q (Q.assign rfl) ?_
      refine XO.done ?_
      refine XK.rt [] Try.func36 Try.results36 (.t rfl (.t rfl .n)) ?_
      exact ⟨by rw [heldG, if_neg c0, hb25], rfl⟩
theorem always1 (b : Nat) (c : HCase) (vl : Value) [il : One vl] (x : Value) : Spec Try.prog 94 #[x, ptr b 0] [] [blk b [vl, .int .i64 c.out, .int .i64 c.pump] 80] (fun v hs => v = .agg #[vl, .int .i64 c.out, .int .i64 c.pump] ∧ hs = []) := by
  refine Spec.intro (fn := Try.f94) (N := 5) Try.func94 rfl Try.ntmps94 rfl fun B => ?_
  refine XK.seq ?_
  refine XK.region rfl ?_
  refine XO.alloc fun b3 => ?_
  refine XO.done ?_
  refine XK.seq ?_
  refine XK.region rfl ?_
  refine XO.q (Q.ldA [_, _, _] rfl rfl rfl) ?_
  refine XO.st rfl rfl rfl ?_
  refine XO.done ?_
  refine XK.rt [] Try.func94 Try.results94 (.cell [_, _, _] rfl rfl rfl (.n)) ?_
  exact ⟨rfl, rfl⟩
/-- The function that gives a second's case. -/
def OfC (y : Value) (n : Nat) (c : Nat → HCase) (vl : Nat → Value) (Ho : List PHeap) : Prop := ∀ i, i < n → VSpec Try.prog y [.int .i64 (i : Nat)] [] Ho (fun v hs => v = .agg #[vl i, .int .i64 (c i).out, .int .i64 (c i).pump] ∧ hs = [])
theorem OfC.two {y : Value} {n : Nat} {c : Nat → HCase} {vl : Nat → Value} {a : PHeap} (h : OfC y n c vl [a]) : OfC y n c vl [a, a] := fun i hi o r w hs hr => h i hi o r w hs (fun x hx => hr x (by rcases List.mem_cons.1 hx with rfl | hx; exact List.mem_cons_self; cases hx))
theorem always_spec (c : HCase) (vl : Value) [il : One vl] : Spec Try.prog 80 #[.agg #[vl, .int .i64 c.out, .int .i64 c.pump]] [] [] (fun v hs => ∃ b, hs = [blk b [vl, .int .i64 c.out, .int .i64 c.pump] 80] ∧ One v ∧ ∀ n, OfC v n (fun _ => c) (fun _ => vl) [blk b [vl, .int .i64 c.out, .int .i64 c.pump] 80]) := by
  refine Spec.intro (fn := Try.f80) (N := 4) Try.func80 rfl Try.ntmps80 rfl fun B => ?_
  refine XK.seq ?_
  refine XK.region rfl ?_
  refine XO.box rfl fun b1 => ?_
  refine XO.q (Q.assign rfl) ?_
  refine XO.done ?_
  refine XK.seq ?_
  refine XK.region rfl ?_
  refine XO.q (Q.func (fun _ he => rfl) (fun _ he => evs_rel he rfl)) ?_
  refine XO.q (Q.assign rfl) ?_
  refine XO.done ?_
  refine XK.rt [blk b1 [vl, .int .i64 c.out, .int .i64 c.pump] 80] Try.func80 Try.results80 (.t rfl .n) ?_
  exact ⟨b1, rfl, inferInstance, fun n i hi => VSpec.fn (fst := []) (cap := [ptr b1 0]) Try.call94 rfl (always1 b1 c vl _)⟩
end Go.X.Ht
