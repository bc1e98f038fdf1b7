/- A part of the proof: a small program logic, plain laws and contracts of functions, each proved by a walk through its operations. No condition but those that stand in each theorem. -/
import Derived.Test.YtkoojoljdpbnoaaGreatA4
set_option linter.unusedSimpArgs false
set_option linter.unusedVariables false
set_option maxRecDepth 20000
namespace Go.X.Bk
open Go.Proofs
theorem Run_spec (b : BBank) (vb vg : Value) (hb hg : PHeap) [ib : Arr vb encBat 4 hb b.bats] [ig : Arr vg encGen 5 hg b.gens] (l : List BSpan) (vl : Value) (hl : PHeap) [il : Arr vl encSpan 2 hl l] (fs : List Int) (vf : Value) (hf : PHeap) [jf : Arr vf encI 1 hf fs] : Spec Tryz.prog 29 #[.agg #[vb, vg], vl, vf] [] [hb, hg, hl, hf] (fun v hs => ∃ ve vn ke kn, v = .tuple #[resV (if readyP b l fs = 0 then runP b (powers l) fs else ⟨0, [], [], 0⟩) ve vn, .int .i64 (readyP b l fs)] ∧ hs = [ke, kn] ∧ OArr ve encI 1 3 ke (if readyP b l fs = 0 then runP b (powers l) fs else ⟨0, [], [], 0⟩).energy ∧ OArr vn encI 1 3 kn (if readyP b l fs = 0 then runP b (powers l) fs else ⟨0, [], [], 0⟩).burnt) := by
 refine Spec.intro (fn := Tryz.f29) (N := 21) Tryz.func29 rfl Tryz.ntmps29 rfl fun B => ?_
 refine XK.seq (XK.region rfl ?_)
 refine XO.box rfl fun b3 => ?_
 refine XO.alloc fun b6 => ?_
 refine XO.q (Q.assign rfl) (XO.done (XK.seq (XK.seq (XK.region rfl ?_))))
 refine XO.q (Q.ldA [_, _] rfl rfl rfl) ?_
 refine XO.q (Q.move rfl) (XO.q (Q.move rfl) ?_)
 refine XO.call Tryz.call75 rfl rfl rfl (ready_spec b vb vg hb hg l vl hl fs vf hf) fun v12 s12 R12 => ?_
 obtain ⟨rfl, rfl⟩ := R12
 dsimp only [lcA, lnA]
 refine XO.q (Q.assign rfl) (XO.done (XK.seq (XK.region rfl (XO.q (Q.move rfl) ?_))))
 refine XO.q (Q.neq rfl rfl) ?_
 refine XO.done ?_
 refine XK.if rfl (fun c0 => ?_) (fun c0 => ?_)
 ·skip
  refine XK.seq (XK.region rfl ?_)
  refine XO.q (Q.build [_, _, _, _] (.n _)) ?_
  refine XO.q (Q.move rfl) ?_
  refine XO.st rfl rfl rfl ?_
  refine XO.q (Q.assign rfl) (XO.done ?_)
  refine XK.rt [emp, emp] Tryz.func29 Tryz.results29 (.cell [_, _, _, _] rfl rfl rfl (.t rfl .n)) ?_
  rw [if_neg c0]
  exact ⟨.slice none 0 0, .slice none 0 0, emp, emp, rfl, rfl, OArr.nil (fun _ => rfl), OArr.nil (fun _ => rfl)⟩
 ·skip
  refine XK.skip (XK.seq (XK.region rfl ?_))
  refine XO.q (Q.ldA [_, _] rfl rfl rfl) ?_
  refine XO.q (Q.move rfl) (XO.q (Q.move rfl) ?_)
  have rk := readyP_iff.1 (Decidable.of_not_not c0)
  refine XO.call Tryz.call76 rfl rfl rfl (run_nil b vb vg hb hg l vl hl fs vf hf rk.ob rk.ol rk.of) fun v20 s20 R20 => ?_
  obtain ⟨ve, vn, ke, kn, rfl, rfl, OE, OB⟩ := R20
  dsimp only [lcA, lnA]
  refine XO.st rfl rfl rfl ?_
  refine XO.q (Q.assign rfl) (XO.done ?_)
  refine XK.rt [ke, kn] Tryz.func29 Tryz.results29 (.cell [_, _, _, _] rfl rfl rfl (.t rfl .n)) ?_
  have e0 := Decidable.of_not_not c0
  rw [if_pos e0, e0]
  exact ⟨ve, vn, ke, kn, rfl, rfl, OE, OB⟩
end Go.X.Bk

set_option linter.unusedSimpArgs false
set_option linter.unusedVariables false
set_option maxRecDepth 20000
namespace Go.X.Ht
open Go.Proofs
def encRoom (x : HRoom) : List Value := [.int .i64 x.store, .int .i64 x.limit]
def encWall (x : HWall) : List Value := [.int .i64 x.a, .int .i64 x.b, .int .i64 x.pass]
def encBranch (x : HBranch) : List Value := [.int .i64 x.up, .int .i64 x.opn, .int .i64 x.leak]
def encCooler (x : HCooler) : List Value := [.int .i64 x.room, .int .i64 x.br, .int .i64 x.gain, .int .i64 x.carry, .int .i64 x.supply]
theorem okRoom_iff {x : HRoom} : okRoom x = true ↔ ¬ ((x.store < 1 ∨ 1000000 < x.store) ∨ ¬ inP x.limit 1000000 = true) := by
 simp only [okRoom, Bool.and_eq_true, decide_eq_true_eq, not_or, Classical.not_not]
 constructor <;> rintro ⟨⟨a, b⟩, c⟩ <;> exact ⟨⟨by omega, by omega⟩, c⟩
theorem okWall_iff {n : Nat} {x : HWall} : okWall n x = true ↔ ¬ (((¬ ixP x.a n = true ∨ x.b ≠ -1 ∧ ¬ ixP x.b n = true) ∨ x.a = x.b) ∨ ¬ inP x.pass 100000 = true) := by
 simp only [okWall, Bool.and_eq_true, Bool.or_eq_true, decide_eq_true_eq, not_or, Classical.not_not, not_and]
 constructor
 ·rintro ⟨⟨⟨a, b⟩, c⟩, d⟩
  exact ⟨⟨⟨a, fun h => b.resolve_left h⟩, c⟩, d⟩
 ·rintro ⟨⟨⟨a, b⟩, c⟩, d⟩
  exact ⟨⟨⟨a, if h : x.b = -1 then .inl h else .inr (b h)⟩, c⟩, d⟩
theorem okBranch_iff {i : Nat} {x : HBranch} : okBranch i x = true ↔ ¬ ((((i : Int) = 0 ∧ x.up ≠ -1 ∨ (0 : Int) < i ∧ ¬ ixP x.up i = true) ∨ ¬ inP x.opn 100 = true) ∨ ¬ inP x.leak 100000 = true) := by
 unfold okBranch
 by_cases h : i = 0
 ·subst h; simp [and_assoc]
 ·have h1 : ¬ (i : Int) = 0 := by omega
  have h2 : (0 : Int) < i := by omega
  have h3 : 0 < i := by omega
  simp [h, h2, h3, and_assoc]
theorem okCooler_iff {n m : Nat} {x : HCooler} : okCooler n m x = true ↔ ¬ ((((¬ ixP x.room n = true ∨ ¬ ixP x.br m = true) ∨ ¬ inP x.gain 100000 = true) ∨ ¬ inP x.carry 1000 = true) ∨ ¬ inP x.supply 1000000 = true) := by
 simp only [okCooler, Bool.and_eq_true, not_or, Classical.not_not]
theorem in_spec (n m : Int) : Spec Tryz.prog 61 #[.int .i64 n, .int .i64 m] [] [] (fun v hs => v = .bool (inP n m) ∧ hs = []) := by
 refine Spec.intro (fn := Tryz.f61) (N := 12) Tryz.func61 rfl Tryz.ntmps61 rfl fun B => ?_
 refine XK.seq (XK.region rfl (XO.q (Q.assign rfl) (XO.done (XK.seq (XK.region rfl ?_)))))
 refine XO.q (Q.move rfl) ?_
 refine XO.q (Q.geq rfl rfl) ?_
 refine XO.q (Q.move rfl) ?_
 refine XO.q (Quiet.guardT rfl rfl fun g8 p8 => Q.move rfl) ?_
 refine XO.q (Quiet.guardT rfl rfl fun g9 p9 => Q.move rfl) ?_
 refine XO.q (Quiet.guardT rfl rfl fun g10 p10 => Q.leq (lzv g10 rfl) (lzv g10 rfl)) ?_
 refine XO.q (Q.and rfl (fun hp => lzv hp rfl)) ?_
 refine XO.q (Q.assign rfl) (XO.done ?_)
 refine XK.rt [] Tryz.func61 Tryz.results61 (.t rfl .n) ?_
 exact ⟨rfl, rfl⟩
theorem indexRoom (n : Int) (v : Value) (hh : PHeap) (xs : List HRoom) [s : Arr v encRoom 2 hh xs] : Spec Tryz.prog 163 #[.int .i64 n, v] [] [hh] (fun v hs => v = .bool (ixP n xs.length) ∧ hs = []) := by
 refine Spec.intro (fn := Tryz.f163) (N := 13) Tryz.func163 rfl Tryz.ntmps163 rfl fun B => ?_
 refine XK.seq (XK.region rfl (XO.q (Q.assign rfl) (XO.done (XK.seq (XK.region rfl ?_)))))
 refine XO.q (Q.move rfl) ?_
 refine XO.q (Q.geq rfl rfl) ?_
 refine XO.q (Q.move rfl) ?_
 refine XO.q (Quiet.guardT rfl rfl fun g8 p8 => Q.move rfl) ?_
 refine XO.q (Quiet.guardT rfl rfl fun g9 p9 => Q.move rfl) ?_
 refine XO.q (Quiet.guardT rfl rfl fun g10 p10 => Q.len (lzv g10 rfl)) ?_
 refine XO.q (Quiet.guardT rfl rfl fun g11 p11 => Q.lss (lzv g11 rfl) (lzv g11 rfl)) ?_
 refine XO.q (Q.and rfl (fun hp => lzv hp rfl)) ?_
 refine XO.q (Q.assign rfl) (XO.done ?_)
 refine XK.rt [] Tryz.func163 Tryz.results163 (.t rfl .n) ?_
 exact ⟨rfl, rfl⟩
theorem indexBranch (n : Int) (v : Value) (hh : PHeap) (xs : List HBranch) [s : Arr v encBranch 3 hh xs] : Spec Tryz.prog 164 #[.int .i64 n, v] [] [hh] (fun v hs => v = .bool (ixP n xs.length) ∧ hs = []) := by
 refine Spec.intro (fn := Tryz.f164) (N := 13) Tryz.func164 rfl Tryz.ntmps164 rfl fun B => ?_
 refine XK.seq (XK.region rfl (XO.q (Q.assign rfl) (XO.done (XK.seq (XK.region rfl ?_)))))
 refine XO.q (Q.move rfl) ?_
 refine XO.q (Q.geq rfl rfl) ?_
 refine XO.q (Q.move rfl) ?_
 refine XO.q (Quiet.guardT rfl rfl fun g8 p8 => Q.move rfl) ?_
 refine XO.q (Quiet.guardT rfl rfl fun g9 p9 => Q.move rfl) ?_
 refine XO.q (Quiet.guardT rfl rfl fun g10 p10 => Q.len (lzv g10 rfl)) ?_
 refine XO.q (Quiet.guardT rfl rfl fun g11 p11 => Q.lss (lzv g11 rfl) (lzv g11 rfl)) ?_
 refine XO.q (Q.and rfl (fun hp => lzv hp rfl)) ?_
 refine XO.q (Q.assign rfl) (XO.done ?_)
 refine XK.rt [] Tryz.func164 Tryz.results164 (.t rfl .n) ?_
 exact ⟨rfl, rfl⟩
theorem indexCut (n : Int) (v : Value) (hh : PHeap) (xs : List HBranch) [s : Arr v encBranch 3 hh xs] (i : Nat) (hi : i ≤ xs.length) : Spec Tryz.prog 164 #[.int .i64 n, cutv v 3 0 i] [] [hh] (fun v hs => v = .bool (ixP n i) ∧ hs = []) := by
 haveI := Arr.cut s (i := 0) (j := i) (by omega) hi
 have h := indexBranch n (cutv v 3 0 i) hh ((xs.drop 0).take (i - 0))
 rwa [List.drop_zero, Nat.sub_zero, List.length_take, Nat.min_eq_left hi] at h
theorem allowed_spec (h : Hall) (vr vw vb vc : Value) (hr hw hb hc : PHeap) [ir : Arr vr encRoom 2 hr h.rooms] [iw : Arr vw encWall 3 hw h.walls] [ib : Arr vb encBranch 3 hb h.branches] [ic : Arr vc encCooler 5 hc h.coolers] : Spec Tryz.prog 106 #[.agg #[vr, vw, vb, vc]] [] [hr, hw, hb, hc] (fun v hs => v = .bool (allowedP h) ∧ hs = []) := by
 have lr := ir.le
 have lw := iw.le
 have lb := ib.le
 have lc := ic.le
 refine Spec.intro (fn := Tryz.f106) (N := 155) Tryz.func106 rfl Tryz.ntmps106 rfl fun B => ?_
 refine XK.seq (XK.region rfl ?_)
 refine XO.box rfl fun b1 => ?_
 refine XO.q (Q.assign rfl) (XO.done (XK.seq (XK.seq (XK.region rfl ?_))))
 refine XO.q (Q.fieldAddr rfl) ?_
 refine XO.q (Q.ld rfl rfl) ?_
 refine XO.len rfl fun l13 => ?_
 refine XO.q (Q.move rfl) (XO.done (XK.block ?_))
 refine XK.while (X := Nat) [2, 4, 14, 15, 16, 17, 18, 19, 20, 21, 22, 23, 24, 25, 26, 27, 28, 29, 30, 31, 32] (fun i => [(14, some (.int .i64 (i : Nat)))]) (fun i => []) (fun i => i ≤ h.rooms.length ∧ roomsOk h i = true) (fun i => h.rooms.length - i) (0) [] rfl ⟨by omega, rfl⟩ (.c rfl (.base 0 rfl rfl)) ?_
 rintro i ⟨hi, hall⟩ ih0
 dsimp only [lcA, lnA] at ih0 ⊢
 refine XK.seq (XK.region rfl ?_)
 refine XO.q (Q.lss rfl rfl) ?_
 refine XO.done (XK.seq ?_)
 refine XK.if rfl (fun c0 => ?_) (fun c0 => ?_)
 ·skip
  refine XK.skip (XK.seq (XK.block (XK.seq (XK.region rfl ?_))))
  refine XO.ix rfl rfl (by omega) (by omega) fun i16 => ?_
  refine XO.q (Q.ldEA [_, _] rfl (by first | assumption | omega) rfl rfl) ?_
  refine XO.alloc fun b4 => ?_
  refine XO.st rfl rfl rfl ?_
  refine XO.done (XK.seq (XK.region rfl ?_))
  refine XO.q (Q.fieldAddr rfl) ?_
  refine XO.q (Q.ld rfl rfl) ?_
  refine XO.q (Q.lss rfl rfl) ?_
  refine XO.q (Q.move rfl) ?_
  refine XO.q (Quiet.guardF rfl rfl fun g22 p22 => Q.fieldAddr rfl) ?_
  refine XO.q (Quiet.guardF rfl rfl fun g23 p23 => Q.ld (lzv g23 rfl) rfl) ?_
  refine XO.q (Quiet.guardF rfl rfl fun g24 p24 => Q.gtr (lzv g24 rfl) rfl) ?_
  refine XO.q (Q.or rfl (fun hp => lzv hp rfl)) ?_
  refine XO.q (Q.move rfl) ?_
  refine XO.q (Quiet.guardF rfl rfl fun g27 p27 => Q.fieldAddr rfl) ?_
  refine XO.q (Quiet.guardF rfl rfl fun g28 p28 => Q.ld (lzv g28 rfl) rfl) ?_
  refine XO.gcallF rfl rfl Tryz.call61 rfl (fun g29 => .c (lzv g29 rfl) (.c rfl .n)) rfl (fun g29 p29 => in_spec _ _) ?_
  refine XO.q (Quiet.guardF rfl rfl fun g30 p30 => Q.not (lzv g30 rfl)) ?_
  refine XO.q (Q.or rfl (fun hp => lzv hp rfl)) ?_
  refine XO.done ?_
  refine XK.if rfl (fun c1 => ?_) (fun c1 => ?_)
  ·skip
   refine XK.seq (XK.region rfl (XO.q (Q.assign rfl) (XO.done ?_)))
   refine XK.rt [] Tryz.func106 Tryz.results106 (.t rfl .n) ?_
   have hb : roomsOk h h.rooms.length = false := allTo_false (s := i) (by omega) (by rw [Bool.eq_false_iff]; intro h; exact (okRoom_iff.1 h) c1)
   exact ⟨by simp [allowedP, hb], rfl⟩
  ·skip
   refine XK.skip ?_
   refine XK.inBlock ?_
   refine XK.region rfl ?_
   refine XO.q (Q.add rfl rfl ⟨by omega, by omega⟩) ?_
   refine XO.q (Q.move rfl) (XO.done ?_)
   exact ih0 (i + 1) _ _ ⟨by omega, by rw [roomsOk, allTo_succ]; rw [roomsOk] at hall; rw [hall, Bool.true_and]; exact okRoom_iff.2 c1⟩ (by first | omega | (dsimp only; omega)) (.c rfl (.base 42 rfl rfl)) inferInstance
 ·skip
  have e1 : roomsOk h h.rooms.length = true := by rw [show h.rooms.length = i by omega]; exact hall
  clear ih0 hall hi c0
  refine XK.exit rfl ?_
  refine XK.seq (XK.seq (XK.region rfl ?_))
  refine XO.q (Q.fieldAddr rfl) ?_
  refine XO.q (Q.ld rfl rfl) ?_
  refine XO.len rfl fun l35 => ?_
  refine XO.q (Q.move rfl) (XO.done (XK.block ?_))
  refine XK.while (X := Nat) [2, 6, 36, 37, 38, 39, 40, 41, 42, 43, 44, 45, 46, 47, 48, 49, 50, 51, 52, 53, 54, 55, 56, 57, 58, 59, 60, 61, 62, 63, 64, 65, 66, 67, 68, 69, 70, 71, 72] (fun i => [(36, some (.int .i64 (i : Nat)))]) (fun i => []) (fun i => i ≤ h.walls.length ∧ wallsOk h i = true) (fun i => h.walls.length - i) (0) [] rfl ⟨by omega, rfl⟩ (.c rfl (.base 0 rfl rfl)) ?_
  rintro i ⟨hi, hall⟩ ih1
  dsimp only [lcA, lnA] at ih1 ⊢
  refine XK.seq (XK.region rfl ?_)
  refine XO.q (Q.lss rfl rfl) ?_
  refine XO.done (XK.seq ?_)
  refine XK.if rfl (fun c2 => ?_) (fun c2 => ?_)
  ·skip
   refine XK.skip (XK.seq (XK.block (XK.seq (XK.region rfl ?_))))
   refine XO.ix rfl rfl (by omega) (by omega) fun i38 => ?_
   refine XO.q (Q.ldEA [_, _, _] rfl (by first | assumption | omega) rfl rfl) ?_
   refine XO.alloc fun b6 => ?_
   refine XO.st rfl rfl rfl ?_
   refine XO.done (XK.seq (XK.region rfl ?_))
   refine XO.q (Q.fieldAddr rfl) ?_
   refine XO.q (Q.ld rfl rfl) ?_
   refine XO.q (Q.fieldAddr rfl) ?_
   refine XO.q (Q.ld rfl rfl) ?_
   refine XO.call Tryz.call163 rfl rfl rfl (indexRoom _ vr hr h.rooms) fun v44 s44 R44 => ?_
   obtain ⟨rfl, rfl⟩ := R44
   dsimp only [lcA, lnA]
   refine XO.q (Q.not rfl) ?_
   refine XO.q (Q.move rfl) ?_
   refine XO.q (Quiet.guardF rfl rfl fun g47 p47 => Q.fieldAddr rfl) ?_
   refine XO.q (Quiet.guardF rfl rfl fun g48 p48 => Q.ld (lzv g48 rfl) rfl) ?_
   refine XO.q (Quiet.guardF rfl rfl fun g49 p49 => Q.neq (lzv g49 rfl) rfl) ?_
   refine XO.q (Quiet.guardF rfl rfl fun g50 p50 => Q.move (lzv g50 rfl)) ?_
   refine XO.q (Quiet.guard2 rfl rfl fun g51a g51b => have p51a := bpF g51a; have p51b := bpT g51b; Q.fieldAddr rfl) ?_
   refine XO.q (Quiet.guard2 rfl rfl fun g52a g52b => have p52a := bpF g52a; have p52b := bpT g52b; Q.ld (lzv g52b (lzv g52a rfl)) rfl) ?_
   refine XO.q (Quiet.guard2 rfl rfl fun g53a g53b => have p53a := bpF g53a; have p53b := bpT g53b; Q.fieldAddr rfl) ?_
   refine XO.q (Quiet.guard2 rfl rfl fun g54a g54b => have p54a := bpF g54a; have p54b := bpT g54b; Q.ld (lzv g54b (lzv g54a rfl)) rfl) ?_
   refine XO.vg2 rfl rfl (fun g55a g55b => rfl) (fun g55a g55b => .c (lzv g55b (lzv g55a rfl)) (.c (lzv g55b (lzv g55a rfl)) .n)) (fun g55a g55b => have p55a := bpF g55a; have p55b := bpT g55b; VSpec.fn (P := Tryz.prog) Tryz.call163 rfl (indexRoom _ vr hr h.rooms)) ?_
   refine XO.q (Quiet.guard2 rfl rfl fun g56a g56b => have p56a := bpF g56a; have p56b := bpT g56b; Q.not (lzv g56b (lzv g56a rfl))) ?_
   refine XO.q (Quiet.guardF rfl rfl fun g57 p57 => Q.and (lzv g57 rfl) (fun hp => (lzv hp (lzv g57 rfl)))) ?_
   refine XO.q (Q.or rfl (fun hp => lzv hp rfl)) ?_
   refine XO.q (Q.move rfl) ?_
   refine XO.q (Quiet.guardF rfl rfl fun g60 p60 => Q.fieldAddr rfl) ?_
   refine XO.q (Quiet.guardF rfl rfl fun g61 p61 => Q.ld (lzv g61 rfl) rfl) ?_
   refine XO.q (Quiet.guardF rfl rfl fun g62 p62 => Q.fieldAddr rfl) ?_
   refine XO.q (Quiet.guardF rfl rfl fun g63 p63 => Q.ld (lzv g63 rfl) rfl) ?_
   refine XO.q (Quiet.guardF rfl rfl fun g64 p64 => Q.eql (lzv g64 rfl) (lzv g64 rfl)) ?_
   refine XO.q (Q.or rfl (fun hp => lzv hp rfl)) ?_
   refine XO.q (Q.move rfl) ?_
   refine XO.q (Quiet.guardF rfl rfl fun g67 p67 => Q.fieldAddr rfl) ?_
   refine XO.q (Quiet.guardF rfl rfl fun g68 p68 => Q.ld (lzv g68 rfl) rfl) ?_
   refine XO.gcallF rfl rfl Tryz.call61 rfl (fun g69 => .c (lzv g69 rfl) (.c rfl .n)) rfl (fun g69 p69 => in_spec _ _) ?_
   refine XO.q (Quiet.guardF rfl rfl fun g70 p70 => Q.not (lzv g70 rfl)) ?_
   refine XO.q (Q.or rfl (fun hp => lzv hp rfl)) ?_
   refine XO.done ?_
   refine XK.if rfl (fun c3 => ?_) (fun c3 => ?_)
   ·skip
    refine XK.seq (XK.region rfl (XO.q (Q.assign rfl) (XO.done ?_)))
    refine XK.rt [] Tryz.func106 Tryz.results106 (.t rfl .n) ?_
    have hb : wallsOk h h.walls.length = false := allTo_false (s := i) (by omega) (by rw [Bool.eq_false_iff]; intro h; exact (okWall_iff.1 h) c3)
    exact ⟨by simp [allowedP, hb], rfl⟩
   ·skip
    refine XK.skip ?_
    refine XK.inBlock ?_
    refine XK.region rfl ?_
    refine XO.q (Q.add rfl rfl ⟨by omega, by omega⟩) ?_
    refine XO.q (Q.move rfl) (XO.done ?_)
    exact ih1 (i + 1) _ _ ⟨by omega, by rw [wallsOk, allTo_succ]; rw [wallsOk] at hall; rw [hall, Bool.true_and]; exact okWall_iff.2 c3⟩ (by first | omega | (dsimp only; omega)) (.c rfl (.base 78 rfl rfl)) inferInstance
  ·skip
   have e2 : wallsOk h h.walls.length = true := by rw [show h.walls.length = i by omega]; exact hall
   clear ih1 hall hi c2
   refine XK.exit rfl ?_
   refine XK.seq (XK.seq (XK.region rfl ?_))
   refine XO.q (Q.fieldAddr rfl) ?_
   refine XO.q (Q.ld rfl rfl) ?_
   refine XO.len rfl fun l75 => ?_
   refine XO.q (Q.move rfl) (XO.done (XK.block ?_))
   refine XK.while (X := Nat) [2, 7, 8, 76, 77, 78, 79, 80, 81, 82, 83, 84, 85, 86, 87, 88, 89, 90, 91, 92, 93, 94, 95, 96, 97, 98, 99, 100, 101, 102, 103, 104, 105, 106, 107, 108, 109, 110, 111, 112, 113, 114] (fun i => [(76, some (.int .i64 (i : Nat)))]) (fun i => []) (fun i => i ≤ h.branches.length ∧ branchesOk h i = true) (fun i => h.branches.length - i) (0) [] rfl ⟨by omega, rfl⟩ (.c rfl (.base 0 rfl rfl)) ?_
   rintro i ⟨hi, hall⟩ ih2
   dsimp only [lcA, lnA] at ih2 ⊢
   refine XK.seq (XK.region rfl ?_)
   refine XO.q (Q.lss rfl rfl) ?_
   refine XO.done (XK.seq ?_)
   refine XK.if rfl (fun c4 => ?_) (fun c4 => ?_)
   ·skip
    refine XK.skip (XK.seq (XK.block (XK.seq (XK.region rfl (XO.q (Q.move rfl) ?_)))))
    refine XO.ix rfl rfl (by omega) (by omega) fun i79 => ?_
    refine XO.q (Q.ldEA [_, _, _] rfl (by first | assumption | omega) rfl rfl) ?_
    refine XO.alloc fun b8 => ?_
    refine XO.q (Q.assign rfl) ?_
    refine XO.st rfl rfl rfl ?_
    refine XO.done (XK.seq ?_)
    refine XK.drawn [0, 1, 2, 3, 4, 5, 6, 7, 8, 9, 10, 11, 12, 13, 14, 15, 16, 18, 19, 20, 21, 22, 23, 25, 26, 27, 28, 29, 31, 32] [b8, b1] [] (.q 0 (.q 1 (.q 2 (.q 3 (.q 4 (.q 5 (.q 6 (.q 7 (.q 8 (.q 9 (.q 10 (.q 11 (.q 12 (.q 13 (.q 14 (.q 15 (.q 16 (.br 17 true (.q 18 (.q 19 (.q 20 (.q 21 (.q 22 (.q 23 (.br 24 true (.q 25 (.q 26 (.q 27 (.q 28 (.q 29 (.br 30 true (.q 31 (.q 32 .done)) .stop)))))) .stop))))))) .stop)))))))))))))))))) Tryz.mixed rfl (by kernel_rfl) ?_
    refine XT.q rfl rfl (Q.move rfl) ?_
    refine XT.q rfl rfl (Q.eql rfl rfl) ?_
    refine XT.q rfl rfl (Q.move rfl) ?_
    refine XT.q rfl rfl (Quiet.guardT rfl rfl fun g84 p84 => Q.fieldAddr rfl) ?_
    refine XT.q rfl rfl (Quiet.guardT rfl rfl fun g85 p85 => Q.ld (lzv g85 rfl) rfl) ?_
    refine XT.q rfl rfl (Quiet.guardT rfl rfl fun g86 p86 => Q.neq (lzv g86 rfl) rfl) ?_
    refine XT.q rfl rfl (Q.and rfl (fun hp => lzv hp rfl)) ?_
    refine XT.q rfl rfl (Q.move rfl) ?_
    refine XT.q rfl rfl (Quiet.guardF rfl rfl fun g89 p89 => Q.move rfl) ?_
    refine XT.q rfl rfl (Quiet.guardF rfl rfl fun g90 p90 => Q.gtr (lzv g90 rfl) rfl) ?_
    refine XT.q rfl rfl (Quiet.guardF rfl rfl fun g91 p91 => Q.move (lzv g91 rfl)) ?_
    refine XT.q rfl rfl (Quiet.guard2 rfl rfl fun g92a g92b => have p92a := bpF g92a; have p92b := bpT g92b; Q.fieldAddr rfl) ?_
    refine XT.q rfl rfl (Quiet.guard2 rfl rfl fun g93a g93b => have p93a := bpF g93a; have p93b := bpT g93b; Q.ld (lzv g93b (lzv g93a rfl)) rfl) ?_
    refine XT.q rfl rfl (Quiet.guard2 rfl rfl fun g94a g94b => have p94a := bpF g94a; have p94b := bpT g94b; Q.fieldAddr rfl) ?_
    refine XT.q rfl rfl (Quiet.guard2 rfl rfl fun g95a g95b => have p95a := bpF g95a; have p95b := bpT g95b; Q.ld (lzv g95b (lzv g95a rfl)) rfl) ?_
    refine XT.q rfl rfl (Quiet.guard2 rfl rfl fun g96a g96b => have p96a := bpF g96a; have p96b := bpT g96b; Q.move rfl) ?_
    refine XT.q rfl rfl (Quiet.guard2 rfl rfl fun g97a g97b => have p97a := bpF g97a; have p97b := bpT g97b; Q.cut (i := 0) (j := i) (lzv g97b (lzv g97a rfl)) .n (.s (lzv g97b (lzv g97a rfl)) (by omega)) (by omega) (by omega)) ?_
    refine XT.vg2 rfl rfl rfl rfl (fun g98a g98b => rfl) (fun g98a g98b => .c (lzv g98b (lzv g98a rfl)) (.c (lzv g98b (lzv g98a rfl)) .n)) (fun g98a g98b => have p98a := bpF g98a; have p98b := bpT g98b; VSpec.fn (P := Tryz.prog) Tryz.call164 rfl (indexCut _ vb hb h.branches i (by omega))) ⟨inferInstance, ?_⟩ XT.stop
    refine XT.q rfl rfl (Quiet.guard2 rfl rfl fun g99a g99b => have p99a := bpF g99a; have p99b := bpT g99b; Q.not (lzv g99b (lzv g99a rfl))) ?_
    refine XT.q rfl rfl (Quiet.guardF rfl rfl fun g100 p100 => Q.and (lzv g100 rfl) (fun hp => (lzv hp (lzv g100 rfl)))) ?_
    refine XT.q rfl rfl (Q.or rfl (fun hp => lzv hp rfl)) ?_
    refine XT.q rfl rfl (Q.move rfl) ?_
    refine XT.q rfl rfl (Quiet.guardF rfl rfl fun g103 p103 => Q.fieldAddr rfl) ?_
    refine XT.q rfl rfl (Quiet.guardF rfl rfl fun g104 p104 => Q.ld (lzv g104 rfl) rfl) ?_
    refine XT.gcallF rfl rfl rfl rfl Tryz.call61 rfl (fun g105 => .c (lzv g105 rfl) (.c rfl .n)) rfl (fun g105 p105 => in_spec _ _) ⟨inferInstance, ?_⟩ XT.stop
    refine XT.q rfl rfl (Quiet.guardF rfl rfl fun g106 p106 => Q.not (lzv g106 rfl)) ?_
    refine XT.q rfl rfl (Q.or rfl (fun hp => lzv hp rfl)) ?_
    refine XT.q rfl rfl (Q.move rfl) ?_
    refine XT.q rfl rfl (Quiet.guardF rfl rfl fun g109 p109 => Q.fieldAddr rfl) ?_
    refine XT.q rfl rfl (Quiet.guardF rfl rfl fun g110 p110 => Q.ld (lzv g110 rfl) rfl) ?_
    refine XT.gcallF rfl rfl rfl rfl Tryz.call61 rfl (fun g111 => .c (lzv g111 rfl) (.c rfl .n)) rfl (fun g111 p111 => in_spec _ _) ⟨inferInstance, ?_⟩ XT.stop
    refine XT.q rfl rfl (Quiet.guardF rfl rfl fun g112 p112 => Q.not (lzv g112 rfl)) ?_
    refine XT.q rfl rfl (Q.or rfl (fun hp => lzv hp rfl)) ?_
    refine XT.done ?_
    refine XK.if rfl (fun c5 => ?_) (fun c5 => ?_)
    ·skip
     refine XK.seq (XK.region rfl (XO.q (Q.assign rfl) (XO.done ?_)))
     refine XK.rt [] Tryz.func106 Tryz.results106 (.t rfl .n) ?_
     have hb : branchesOk h h.branches.length = false := allTo_false (s := i) (by omega) (by rw [Bool.eq_false_iff]; intro h; exact (okBranch_iff.1 h) c5)
     exact ⟨by simp [allowedP, hb], rfl⟩
    ·skip
     refine XK.skip ?_
     refine XK.inBlock ?_
     refine XK.region rfl ?_
     refine XO.q (Q.add rfl rfl ⟨by omega, by omega⟩) ?_
     refine XO.q (Q.move rfl) (XO.done ?_)
     exact ih2 (i + 1) _ _ ⟨by omega, by rw [branchesOk, allTo_succ]; rw [branchesOk] at hall; rw [hall, Bool.true_and]; exact okBranch_iff.2 c5⟩ (by first | omega | (dsimp only; omega)) (.c rfl (.base 84 rfl rfl)) inferInstance
   ·skip
    have e3 : branchesOk h h.branches.length = true := by rw [show h.branches.length = i by omega]; exact hall
    clear ih2 hall hi c4
    refine XK.exit rfl ?_
    refine XK.seq (XK.seq (XK.region rfl ?_))
    refine XO.q (Q.fieldAddr rfl) ?_
    refine XO.q (Q.ld rfl rfl) ?_
    refine XO.len rfl fun l117 => ?_
    refine XO.q (Q.move rfl) (XO.done (XK.block ?_))
    refine XK.while (X := Nat) [2, 10, 118, 119, 120, 121, 122, 123, 124, 125, 126, 127, 128, 129, 130, 131, 132, 133, 134, 135, 136, 137, 138, 139, 140, 141, 142, 143, 144, 145, 146, 147, 148, 149, 150, 151, 152, 153, 154] (fun i => [(118, some (.int .i64 (i : Nat)))]) (fun i => []) (fun i => i ≤ h.coolers.length ∧ coolersOk h i = true) (fun i => h.coolers.length - i) (0) [] rfl ⟨by omega, rfl⟩ (.c rfl (.base 0 rfl rfl)) ?_
    rintro i ⟨hi, hall⟩ ih3
    dsimp only [lcA, lnA] at ih3 ⊢
    refine XK.seq (XK.region rfl ?_)
    refine XO.q (Q.lss rfl rfl) ?_
    refine XO.done (XK.seq ?_)
    refine XK.if rfl (fun c6 => ?_) (fun c6 => ?_)
    ·skip
     refine XK.skip (XK.seq (XK.block (XK.seq (XK.region rfl ?_))))
     refine XO.ix rfl rfl (by omega) (by omega) fun i120 => ?_
     refine XO.q (Q.ldEA [_, _, _, _, _] rfl (by first | assumption | omega) rfl rfl) ?_
     refine XO.alloc fun b10 => ?_
     refine XO.st rfl rfl rfl ?_
     refine XO.done (XK.seq (XK.region rfl ?_))
     refine XO.q (Q.fieldAddr rfl) ?_
     refine XO.q (Q.ld rfl rfl) ?_
     refine XO.q (Q.fieldAddr rfl) ?_
     refine XO.q (Q.ld rfl rfl) ?_
     refine XO.call Tryz.call163 rfl rfl rfl (indexRoom _ vr hr h.rooms) fun v126 s126 R126 => ?_
     obtain ⟨rfl, rfl⟩ := R126
     dsimp only [lcA, lnA]
     refine XO.q (Q.not rfl) ?_
     refine XO.q (Q.move rfl) ?_
     refine XO.q (Quiet.guardF rfl rfl fun g129 p129 => Q.fieldAddr rfl) ?_
     refine XO.q (Quiet.guardF rfl rfl fun g130 p130 => Q.ld (lzv g130 rfl) rfl) ?_
     refine XO.q (Quiet.guardF rfl rfl fun g131 p131 => Q.fieldAddr rfl) ?_
     refine XO.q (Quiet.guardF rfl rfl fun g132 p132 => Q.ld (lzv g132 rfl) rfl) ?_
     refine XO.gcallF rfl rfl Tryz.call164 rfl (fun g133 => .c (lzv g133 rfl) (.c (lzv g133 rfl) .n)) rfl (fun g133 p133 => indexBranch _ vb hb h.branches) ?_
     refine XO.q (Quiet.guardF rfl rfl fun g134 p134 => Q.not (lzv g134 rfl)) ?_
     refine XO.q (Q.or rfl (fun hp => lzv hp rfl)) ?_
     refine XO.q (Q.move rfl) ?_
     refine XO.q (Quiet.guardF rfl rfl fun g137 p137 => Q.fieldAddr rfl) ?_
     refine XO.q (Quiet.guardF rfl rfl fun g138 p138 => Q.ld (lzv g138 rfl) rfl) ?_
     refine XO.gcallF rfl rfl Tryz.call61 rfl (fun g139 => .c (lzv g139 rfl) (.c rfl .n)) rfl (fun g139 p139 => in_spec _ _) ?_
     refine XO.q (Quiet.guardF rfl rfl fun g140 p140 => Q.not (lzv g140 rfl)) ?_
     refine XO.q (Q.or rfl (fun hp => lzv hp rfl)) ?_
     refine XO.q (Q.move rfl) ?_
     refine XO.q (Quiet.guardF rfl rfl fun g143 p143 => Q.fieldAddr rfl) ?_
     refine XO.q (Quiet.guardF rfl rfl fun g144 p144 => Q.ld (lzv g144 rfl) rfl) ?_
     refine XO.gcallF rfl rfl Tryz.call61 rfl (fun g145 => .c (lzv g145 rfl) (.c rfl .n)) rfl (fun g145 p145 => in_spec _ _) ?_
     refine XO.q (Quiet.guardF rfl rfl fun g146 p146 => Q.not (lzv g146 rfl)) ?_
     refine XO.q (Q.or rfl (fun hp => lzv hp rfl)) ?_
     refine XO.q (Q.move rfl) ?_
     refine XO.q (Quiet.guardF rfl rfl fun g149 p149 => Q.fieldAddr rfl) ?_
     refine XO.q (Quiet.guardF rfl rfl fun g150 p150 => Q.ld (lzv g150 rfl) rfl) ?_
     refine XO.gcallF rfl rfl Tryz.call61 rfl (fun g151 => .c (lzv g151 rfl) (.c rfl .n)) rfl (fun g151 p151 => in_spec _ _) ?_
     refine XO.q (Quiet.guardF rfl rfl fun g152 p152 => Q.not (lzv g152 rfl)) ?_
     refine XO.q (Q.or rfl (fun hp => lzv hp rfl)) ?_
     refine XO.done ?_
     refine XK.if rfl (fun c7 => ?_) (fun c7 => ?_)
     ·skip
      refine XK.seq (XK.region rfl (XO.q (Q.assign rfl) (XO.done ?_)))
      refine XK.rt [] Tryz.func106 Tryz.results106 (.t rfl .n) ?_
      have hb : coolersOk h h.coolers.length = false := allTo_false (s := i) (by omega) (by rw [Bool.eq_false_iff]; intro h; exact (okCooler_iff.1 h) c7)
      exact ⟨by simp [allowedP, hb], rfl⟩
     ·skip
      refine XK.skip ?_
      refine XK.inBlock ?_
      refine XK.region rfl ?_
      refine XO.q (Q.add rfl rfl ⟨by omega, by omega⟩) ?_
      refine XO.q (Q.move rfl) (XO.done ?_)
      exact ih3 (i + 1) _ _ ⟨by omega, by rw [coolersOk, allTo_succ]; rw [coolersOk] at hall; rw [hall, Bool.true_and]; exact okCooler_iff.2 c7⟩ (by first | omega | (dsimp only; omega)) (.c rfl (.base 78 rfl rfl)) inferInstance
    ·skip
     have e4 : coolersOk h h.coolers.length = true := by rw [show h.coolers.length = i by omega]; exact hall
     refine XK.exit rfl ?_
     refine XK.seq (XK.region rfl (XO.q (Q.assign rfl) (XO.done ?_)))
     refine XK.rt [] Tryz.func106 Tryz.results106 (.t rfl .n) ?_
     exact ⟨by rw [allowedP, e1, e2, e3, e4]; rfl, rfl⟩
end Go.X.Ht

set_option linter.unusedSimpArgs false
set_option linter.unusedVariables false
set_option maxRecDepth 20000
namespace Go.X.Ht
open Go.Proofs
theorem hcheck_many {h : Hall} (c : (((((h.rooms.length : Int) < 1 ∨ 8 < (h.rooms.length : Int)) ∨ 16 < (h.walls.length : Int)) ∨ 16 < (h.branches.length : Int)) ∨ 16 < (h.coolers.length : Int))) : hcheck h = 2 := by rw [hcheck, if_pos c]
theorem Check_spec (h : Hall) (vr vw vb vc : Value) (hr hw hb hc : PHeap) [ir : Arr vr encRoom 2 hr h.rooms] [iw : Arr vw encWall 3 hw h.walls] [ib : Arr vb encBranch 3 hb h.branches] [ic : Arr vc encCooler 5 hc h.coolers] : Spec Tryz.prog 49 #[.agg #[vr, vw, vb, vc]] [] [hr, hw, hb, hc] (fun v hs => v = .int .i64 (hcheck h) ∧ hs = []) := by
 have lr := ir.le
 have lw := iw.le
 have lb := ib.le
 have lc := ic.le
 refine Spec.intro (fn := Tryz.f49) (N := 92) Tryz.func49 rfl Tryz.ntmps49 rfl fun B => ?_
 refine XK.seq (XK.region rfl ?_)
 refine XO.box rfl fun b1 => ?_
 refine XO.q (Q.assign rfl) (XO.done (XK.seq (XK.seq (XK.region rfl ?_))))
 refine XO.q (Q.fieldAddr rfl) ?_
 refine XO.q (Q.ld rfl rfl) ?_
 refine XO.len rfl fun l12 => ?_
 refine XO.q (Q.lss rfl rfl) ?_
 refine XO.q (Q.move rfl) ?_
 refine XO.q (Quiet.guardF rfl rfl fun g15 p15 => Q.fieldAddr rfl) ?_
 refine XO.q (Quiet.guardF rfl rfl fun g16 p16 => Q.ld (lzv g16 rfl) rfl) ?_
 refine XO.q (Quiet.guardF rfl rfl fun g17 p17 => Q.len (lzv g17 rfl)) ?_
 refine XO.q (Quiet.guardF rfl rfl fun g18 p18 => Q.gtr (lzv g18 rfl) rfl) ?_
 refine XO.q (Q.or rfl (fun hp => lzv hp rfl)) ?_
 refine XO.q (Q.move rfl) ?_
 refine XO.q (Quiet.guardF rfl rfl fun g21 p21 => Q.fieldAddr rfl) ?_
 refine XO.q (Quiet.guardF rfl rfl fun g22 p22 => Q.ld (lzv g22 rfl) rfl) ?_
 refine XO.q (Quiet.guardF rfl rfl fun g23 p23 => Q.len (lzv g23 rfl)) ?_
 refine XO.q (Quiet.guardF rfl rfl fun g24 p24 => Q.gtr (lzv g24 rfl) rfl) ?_
 refine XO.q (Q.or rfl (fun hp => lzv hp rfl)) ?_
 refine XO.q (Q.move rfl) ?_
 refine XO.q (Quiet.guardF rfl rfl fun g27 p27 => Q.fieldAddr rfl) ?_
 refine XO.q (Quiet.guardF rfl rfl fun g28 p28 => Q.ld (lzv g28 rfl) rfl) ?_
 refine XO.q (Quiet.guardF rfl rfl fun g29 p29 => Q.len (lzv g29 rfl)) ?_
 refine XO.q (Quiet.guardF rfl rfl fun g30 p30 => Q.gtr (lzv g30 rfl) rfl) ?_
 refine XO.q (Q.or rfl (fun hp => lzv hp rfl)) ?_
 refine XO.q (Q.move rfl) ?_
 refine XO.q (Quiet.guardF rfl rfl fun g33 p33 => Q.fieldAddr rfl) ?_
 refine XO.q (Quiet.guardF rfl rfl fun g34 p34 => Q.ld (lzv g34 rfl) rfl) ?_
 refine XO.q (Quiet.guardF rfl rfl fun g35 p35 => Q.len (lzv g35 rfl)) ?_
 refine XO.q (Quiet.guardF rfl rfl fun g36 p36 => Q.gtr (lzv g36 rfl) rfl) ?_
 refine XO.q (Q.or rfl (fun hp => lzv hp rfl)) ?_
 refine XO.done ?_
 refine XK.if rfl (fun c0 => ?_) (fun c0 => ?_)
 ·skip
  refine XK.seq (XK.region rfl (XO.q (Q.assign rfl) (XO.done ?_)))
  refine XK.rt [] Tryz.func49 Tryz.results49 (.t rfl .n) ?_
  exact ⟨by rw [hcheck_many c0], rfl⟩
 ·skip
  refine XK.skip (XK.seq (XK.seq (XK.region rfl ?_)))
  refine XO.q (Q.ldA [_, _, _, _] rfl rfl rfl) ?_
  refine XO.call Tryz.call106 rfl rfl rfl (allowed_spec h vr vw vb vc hr hw hb hc) fun v39 s39 R39 => ?_
  obtain ⟨rfl, rfl⟩ := R39
  dsimp only [lcA, lnA]
  refine XO.q (Q.not rfl) ?_
  refine XO.done ?_
  refine XK.if rfl (fun c1 => ?_) (fun c1 => ?_)
  ·skip
   refine XK.seq (XK.region rfl (XO.q (Q.assign rfl) (XO.done ?_)))
   refine XK.rt [] Tryz.func49 Tryz.results49 (.t rfl .n) ?_
   exact ⟨by rw [hcheck, if_neg c0, if_pos (by simpa using c1)], rfl⟩
  ·skip
   have ha : allowedP h = true := Classical.byContradiction c1
   refine XK.skip (XK.seq (XK.seq (XK.region rfl ?_)))
   refine XO.q (Q.fieldAddr rfl) ?_
   refine XO.q (Q.ld rfl rfl) ?_
   refine XO.len rfl fun l43 => ?_
   refine XO.q (Q.move rfl) (XO.done (XK.block ?_))
   refine XK.while (X := Nat) [2, 3, 4, 5, 7, 9, 44, 45, 46, 47, 48, 49, 50, 51, 52, 53, 54, 55, 56, 57, 58, 59, 60, 61, 62, 63, 64, 65, 66, 67, 68, 69, 70, 71, 72, 73, 74, 75, 76, 77, 78, 79, 80, 81, 82, 83, 84, 85, 86, 87, 88, 89, 90, 91] (fun i => [(44, some (.int .i64 (i : Nat)))]) (fun i => []) (fun i => i ≤ h.rooms.length ∧ allTo (fun i => decide (slope h i ≤ (h.rooms.getD i default).store)) i = true) (fun i => h.rooms.length - i) (0) [] rfl ⟨by omega, rfl⟩ (.c rfl (.base 0 rfl rfl)) ?_
   rintro i ⟨hi, hall⟩ ih0
   dsimp only [lcA, lnA] at ih0 ⊢
   refine XK.seq (XK.region rfl ?_)
   refine XO.q (Q.lss rfl rfl) ?_
   refine XO.done (XK.seq ?_)
   refine XK.if rfl (fun c2 => ?_) (fun c2 => ?_)
   ·skip
    refine XK.skip (XK.seq (XK.block (XK.seq (XK.region rfl (XO.q (Q.move rfl) ?_)))))
    refine XO.ix rfl rfl (by omega) (by omega) fun i47 => ?_
    refine XO.q (Q.ldEA [_, _] rfl (by first | assumption | omega) rfl rfl) ?_
    refine XO.alloc fun b4 => ?_
    refine XO.q (Q.assign rfl) ?_
    refine XO.st rfl rfl rfl ?_
    refine XO.done (XK.seq (XK.region rfl (XO.q (Q.assign rfl) (XO.done (XK.seq ?_)))))
    refine XK.seq (XK.region rfl ?_)
    refine XO.q (Q.fieldAddr rfl) ?_
    refine XO.q (Q.ld rfl rfl) ?_
    refine XO.len rfl fun l51 => ?_
    refine XO.q (Q.move rfl) (XO.done (XK.block ?_))
    refine XK.while (X := Nat) [5, 7, 52, 53, 54, 55, 56, 57, 58, 59, 60, 61, 62, 63, 64, 65, 66, 67, 68, 69, 70] (fun k => [(52, some (.int .i64 (k : Nat))), (5, some (.int .i64 (sumTo (wslope h i) k)))]) (fun k => []) (fun k => k ≤ h.walls.length) (fun k => h.walls.length - k) (0) [] rfl (by omega) (.c rfl (.c rfl (.base 0 rfl rfl))) ?_
    rintro k hk ih1
    dsimp only [lcA, lnA] at ih1 ⊢
    refine XK.seq (XK.region rfl ?_)
    refine XO.q (Q.lss rfl rfl) ?_
    refine XO.done (XK.seq ?_)
    refine XK.if rfl (fun c3 => ?_) (fun c3 => ?_)
    ·skip
     have hws := wsum_rng ha (by omega) i (k := k) (by omega)
     have hwf := (allowed_facts ha).2.1 k (by omega)
     refine XK.skip (XK.seq (XK.block (XK.seq (XK.region rfl ?_))))
     refine XO.ix rfl rfl (by omega) (by omega) fun i54 => ?_
     refine XO.q (Q.ldEA [_, _, _] rfl (by first | assumption | omega) rfl rfl) ?_
     refine XO.alloc fun b7 => ?_
     refine XO.st rfl rfl rfl ?_
     refine XO.done (XK.seq (XK.region rfl ?_))
     refine XO.q (Q.fieldAddr rfl) ?_
     refine XO.q (Q.ld rfl rfl) ?_
     refine XO.q (Q.move rfl) ?_
     refine XO.q (Q.eql rfl rfl) ?_
     refine XO.q (Q.move rfl) ?_
     refine XO.q (Quiet.guardF rfl rfl fun g61 p61 => Q.fieldAddr rfl) ?_
     refine XO.q (Quiet.guardF rfl rfl fun g62 p62 => Q.ld (lzv g62 rfl) rfl) ?_
     refine XO.q (Quiet.guardF rfl rfl fun g63 p63 => Q.move rfl) ?_
     refine XO.q (Quiet.guardF rfl rfl fun g64 p64 => Q.eql (lzv g64 rfl) (lzv g64 rfl)) ?_
     refine XO.q (Q.or rfl (fun hp => lzv hp rfl)) ?_
     refine XO.done ?_
     refine XK.if rfl (fun c4 => ?_) (fun c4 => ?_)
     ·skip
      refine XK.region rfl (XO.q (Q.move rfl) ?_)
      refine XO.q (Q.fieldAddr rfl) ?_
      refine XO.q (Q.ld rfl rfl) ?_
      refine XO.q (Q.add rfl rfl ⟨by omega, by omega⟩) ?_
      refine XO.q (Q.assign rfl) (XO.done ?_)
      refine XK.inBlock ?_
      refine XK.region rfl ?_
      refine XO.q (Q.add rfl rfl ⟨by omega, by omega⟩) ?_
      refine XO.q (Q.move rfl) (XO.done ?_)
      rw [show sumTo (wslope h i) k + (h.walls.getD k default).pass = sumTo (wslope h i) (k + 1) by rw [sumTo, wslope, if_pos c4]]
      exact ih1 (k + 1) _ _ (by omega) (by first | omega | (dsimp only; omega)) (.c rfl (.c rfl (.base 44 rfl rfl))) inferInstance
     ·skip
      refine XK.skip ?_
      refine XK.inBlock ?_
      refine XK.region rfl ?_
      refine XO.q (Q.add rfl rfl ⟨by omega, by omega⟩) ?_
      refine XO.q (Q.move rfl) (XO.done ?_)
      rw [show sumTo (wslope h i) k = sumTo (wslope h i) (k + 1) by rw [sumTo, wslope, if_neg c4, Int.add_zero]]
      exact ih1 (k + 1) _ _ (by omega) (by first | omega | (dsimp only; omega)) (.c rfl (.c rfl (.base 39 rfl rfl))) inferInstance
    ·skip
     have hkw : k = h.walls.length := by omega
     rw [hkw]
     have hws := wsum_rng ha (by omega) i (k := h.walls.length) (Nat.le_refl _)
     rw [show sumTo (wslope h i) h.walls.length = sumTo (wslope h i) h.walls.length + sumTo (cslope h i) 0 by rw [sumTo, Int.add_zero]]
     clear ih1 hk hkw c3
     refine XK.exit rfl ?_
     refine XK.seq (XK.seq (XK.region rfl ?_))
     refine XO.q (Q.fieldAddr rfl) ?_
     refine XO.q (Q.ld rfl rfl) ?_
     refine XO.len rfl fun l73 => ?_
     refine XO.q (Q.move rfl) (XO.done (XK.block ?_))
     refine XK.while (X := Nat) [5, 9, 74, 75, 76, 77, 78, 79, 80, 81, 82, 83, 84, 85, 86] (fun k => [(74, some (.int .i64 (k : Nat))), (5, some (.int .i64 (sumTo (wslope h i) h.walls.length + sumTo (cslope h i) k)))]) (fun k => []) (fun k => k ≤ h.coolers.length) (fun k => h.coolers.length - k) (0) [] rfl (by omega) (.c rfl (.c rfl (.base 0 rfl rfl))) ?_
     rintro k hk ih2
     dsimp only [lcA, lnA] at ih2 ⊢
     refine XK.seq (XK.region rfl ?_)
     refine XO.q (Q.lss rfl rfl) ?_
     refine XO.done (XK.seq ?_)
     refine XK.if rfl (fun c5 => ?_) (fun c5 => ?_)
     ·skip
      have hcs := csum_rng ha (by omega) i (k := k) (by omega)
      have hcf := (allowed_facts ha).2.2 k (by omega)
      refine XK.skip (XK.seq (XK.block (XK.seq (XK.region rfl ?_))))
      refine XO.ix rfl rfl (by omega) (by omega) fun i76 => ?_
      refine XO.q (Q.ldEA [_, _, _, _, _] rfl (by first | assumption | omega) rfl rfl) ?_
      refine XO.alloc fun b9 => ?_
      refine XO.st rfl rfl rfl ?_
      refine XO.done (XK.seq (XK.region rfl ?_))
      refine XO.q (Q.fieldAddr rfl) ?_
      refine XO.q (Q.ld rfl rfl) ?_
      refine XO.q (Q.move rfl) ?_
      refine XO.q (Q.eql rfl rfl) ?_
      refine XO.done ?_
      refine XK.if rfl (fun c6 => ?_) (fun c6 => ?_)
      ·skip
       refine XK.region rfl (XO.q (Q.move rfl) ?_)
       refine XO.q (Q.fieldAddr rfl) ?_
       refine XO.q (Q.ld rfl rfl) ?_
       refine XO.q (Q.add rfl rfl ⟨by omega, by omega⟩) ?_
       refine XO.q (Q.assign rfl) (XO.done ?_)
       refine XK.inBlock ?_
       refine XK.region rfl ?_
       refine XO.q (Q.add rfl rfl ⟨by omega, by omega⟩) ?_
       refine XO.q (Q.move rfl) (XO.done ?_)
       rw [show sumTo (wslope h i) h.walls.length + sumTo (cslope h i) k + (h.coolers.getD k default).gain = sumTo (wslope h i) h.walls.length + sumTo (cslope h i) (k + 1) by rw [sumTo, cslope, if_pos c6, Int.add_assoc]]
       exact ih2 (k + 1) _ _ (by omega) (by first | omega | (dsimp only; omega)) (.c rfl (.c rfl (.base 32 rfl rfl))) inferInstance
      ·skip
       refine XK.skip ?_
       refine XK.inBlock ?_
       refine XK.region rfl ?_
       refine XO.q (Q.add rfl rfl ⟨by omega, by omega⟩) ?_
       refine XO.q (Q.move rfl) (XO.done ?_)
       rw [show sumTo (cslope h i) k = sumTo (cslope h i) (k + 1) by rw [sumTo, cslope, if_neg c6, Int.add_zero]]
       exact ih2 (k + 1) _ _ (by omega) (by first | omega | (dsimp only; omega)) (.c rfl (.c rfl (.base 27 rfl rfl))) inferInstance
     ·skip
      have hkc : k = h.coolers.length := by omega
      rw [hkc]
      refine XK.exit rfl ?_
      refine XK.seq (XK.region rfl (XO.q (Q.move rfl) ?_))
      refine XO.q (Q.fieldAddr rfl) ?_
      refine XO.q (Q.ld rfl rfl) ?_
      refine XO.q (Q.gtr rfl rfl) ?_
      refine XO.done ?_
      refine XK.if rfl (fun c7 => ?_) (fun c7 => ?_)
      ·skip
       refine XK.seq (XK.region rfl (XO.q (Q.assign rfl) (XO.done ?_)))
       refine XK.rt [] Tryz.func49 Tryz.results49 (.t rfl .n) ?_
       exact ⟨by rw [hcheck, if_neg c0, if_neg (by rw [ha]; simp), if_neg]; rw [allTo_false (s := i) (by omega) (by rw [decide_eq_false_iff_not]; change ¬ sumTo (wslope h i) h.walls.length + sumTo (cslope h i) h.coolers.length ≤ _; omega)]; simp, rfl⟩
      ·skip
       refine XK.skip ?_
       refine XK.inBlock ?_
       refine XK.region rfl ?_
       refine XO.q (Q.add rfl rfl ⟨by omega, by omega⟩) ?_
       refine XO.q (Q.move rfl) (XO.done ?_)
       exact ih0 (i + 1) _ _ ⟨by omega, by rw [allTo_succ, hall, Bool.true_and, decide_eq_true_eq]; change sumTo (wslope h i) h.walls.length + sumTo (cslope h i) h.coolers.length ≤ _; omega⟩ (by first | omega | (dsimp only; omega)) (.c rfl (.base 118 rfl rfl)) inferInstance
   ·skip
    refine XK.exit rfl ?_
    refine XK.seq (XK.region rfl (XO.q (Q.assign rfl) (XO.done ?_)))
    refine XK.rt [] Tryz.func49 Tryz.results49 (.t rfl .n) ?_
    have hin : i = h.rooms.length := by omega
    rw [hin] at hall
    exact ⟨by rw [hcheck, if_neg c0, if_neg (by rw [ha]; simp), if_pos hall], rfl⟩
end Go.X.Ht

set_option linter.unusedSimpArgs false
set_option linter.unusedVariables false
set_option maxRecDepth 20000
namespace Go.X.Ht
open Go.Proofs
theorem feed_spec (h : Hall) (vr vw vb vc : Value) (hb : PHeap) [ib : Arr vb encBranch 3 hb h.branches] (ok : HOk h) (pump : Int) (hp : 0 ≤ pump) (hp2 : pump ≤ 100000) (b2 b5 b6 : Nat) (vo : Value) :
  ∀ (m i : Nat), i < h.branches.length → h.branches.length - i ≤ m → ∀ (x : Int), 0 ≤ x → x ≤ 100000 → max (x - (h.branches.getD i default).leak) 0 = (flowsL h pump).getD i 0 → ∀ (ho : PHeap) (o : List Int), OArr vo encI 1 3 ho o → o.length = h.branches.length → (∀ j, Sub h i j → o.getD j 0 = 0) →
  Spec Tryz.prog 200 #[.int .i64 (i : Nat), .int .i64 x, ptr b2 0, ptr b5 0, ptr b6 0] [ho] [blk b2 [vr, vw, vb, vc] 28, blk b5 [vo] 29, blk b6 [(.func (.func 200) #[] #[ptr b2 0, ptr b5 0, ptr b6 0])] 349, hb]
   (fun v hs => ∃ h' o', hs = [h'] ∧ OArr vo encI 1 3 h' o' ∧ o'.length = h.branches.length ∧ (∀ j, j < h.branches.length → Sub h i j → o'.getD j 0 = (flowsL h pump).getD j 0) ∧ ∀ j, ¬ Sub h i j → o'.getD j 0 = o.getD j 0) := by
 intro m
 induction m with
 | zero => intro i hi hm; omega
 | succ m ih =>
  intro i hi hm x hx hx2 hF ho o OO hol hz
  have hbr := ok.branch i hi
  have hb2 := ok.b2
  have hone := open_le ok (i : Int) (n := h.branches.length) (Nat.le_refl _)
  refine Spec.intro (fn := Tryz.f200) (N := 69) Tryz.func200 rfl Tryz.ntmps200 rfl fun B => ?_
  refine XK.seq ?_
  refine XK.drawn [0, 1, 2, 3, 4, 5, 6, 7, 8, 9, 10, 11] [b5, b2] [] (.q 0 (.q 1 (.q 2 (.q 3 (.q 4 (.q 5 (.q 6 (.q 7 (.q 8 (.q 9 (.q 10 (.q 11 (.br 12 false .done .stop))))))))))))) Tryz.mixed rfl (by kernel_rfl) ?_
  refine XT.q rfl rfl (Q.ld rfl rfl) ?_
  refine XT.q rfl rfl (Q.move rfl) ?_
  refine XT.q rfl rfl (Q.move rfl) ?_
  refine XT.q rfl rfl (Q.fieldAddr rfl) ?_
  refine XT.q rfl rfl (Q.ld rfl rfl) ?_
  refine XT.q rfl rfl (Q.move rfl) ?_
  refine XT.ix rfl rfl rfl rfl (by omega) (by omega) fun i18 => ?_
  refine XT.q rfl rfl (Q.fieldQ rfl (by first | assumption | omega)) ?_
  refine XT.q rfl rfl (Q.ldE rfl (by first | assumption | omega) rfl) ?_
  refine XT.q rfl rfl (Q.sub rfl rfl ⟨by omega, by omega⟩) ?_
  refine XT.q rfl rfl (Q.max rfl rfl) ?_
  refine XT.ix rfl rfl rfl rfl (by omega) (by omega) fun i23 => ?_
  refine XT.stE _ rfl rfl rfl rfl rfl (by assumption) rfl rfl (fun h0_12 O0_12 => ⟨inferInstance, ?_⟩) XT.stop
  rw [hF] at O0_12
  have fs := fed_start (pump := pump) hi hol
  refine XT.done ?_
  refine XK.seq (XK.region rfl (XO.q (Q.assign rfl) (XO.done (XK.seq (XK.seq ?_)))))
  refine XK.region rfl ?_
  refine XO.q (Q.fieldAddr rfl) ?_
  refine XO.q (Q.ld rfl rfl) ?_
  refine XO.len rfl fun l26 => ?_
  refine XO.q (Q.move rfl) (XO.done (XK.block ?_))
  refine XK.while (X := Nat) [7, 9, 27, 28, 29, 30, 31, 32, 33, 34, 35, 36, 37, 38, 39] (fun k => [(27, some (.int .i64 (k : Nat))), (7, some (.int .i64 (sumOpen h i k)))]) (fun k => []) (fun k => k ≤ h.branches.length) (fun k => h.branches.length - k) (0) [] rfl (by omega) (.c rfl (.c rfl (.base 0 rfl rfl))) ?_
  rintro k hk ih0
  dsimp only [lcA, lnA] at ih0 ⊢
  refine XK.seq (XK.region rfl ?_)
  refine XO.q (Q.lss rfl rfl) ?_
  refine XO.done (XK.seq ?_)
  refine XK.if rfl (fun c0 => ?_) (fun c0 => ?_)
  ·skip
   have hop := open_le ok (i : Int) (n := k) (by omega)
   have hop0 := open_nonneg ok (i : Int) (n := k) (by omega)
   have hbk := ok.branch k (by omega)
   refine XK.skip (XK.seq (XK.block (XK.seq (XK.region rfl ?_))))
   refine XO.ix rfl rfl (by omega) (by omega) fun i29 => ?_
   refine XO.q (Q.ldEA [_, _, _] rfl (by first | assumption | omega) rfl rfl) ?_
   refine XO.alloc fun b9 => ?_
   refine XO.st rfl rfl rfl ?_
   refine XO.done (XK.seq (XK.region rfl ?_))
   refine XO.q (Q.fieldAddr rfl) ?_
   refine XO.q (Q.ld rfl rfl) ?_
   refine XO.q (Q.move rfl) ?_
   refine XO.q (Q.eql rfl rfl) ?_
   refine XO.done ?_
   refine XK.if rfl (fun c1 => ?_) (fun c1 => ?_)
   ·skip
    refine XK.region rfl (XO.q (Q.move rfl) ?_)
    refine XO.q (Q.fieldAddr rfl) ?_
    refine XO.q (Q.ld rfl rfl) ?_
    refine XO.q (Q.add rfl rfl ⟨by omega, by omega⟩) ?_
    refine XO.q (Q.assign rfl) (XO.done ?_)
    refine XK.inBlock ?_
    refine XK.region rfl ?_
    refine XO.q (Q.add rfl rfl ⟨by omega, by omega⟩) ?_
    refine XO.q (Q.move rfl) (XO.done ?_)
    rw [open_pos c1]
    exact ih0 (k + 1) _ _ (by omega) (by first | omega | (dsimp only; omega)) (.c rfl (.c rfl (.base 32 rfl rfl))) inferInstance
   ·skip
    refine XK.skip ?_
    refine XK.inBlock ?_
    refine XK.region rfl ?_
    refine XO.q (Q.add rfl rfl ⟨by omega, by omega⟩) ?_
    refine XO.q (Q.move rfl) (XO.done ?_)
    rw [open_neg c1]
    exact ih0 (k + 1) _ _ (by omega) (by first | omega | (dsimp only; omega)) (.c rfl (.c rfl (.base 27 rfl rfl))) inferInstance
  ·skip
   have hkn : k = h.branches.length := by omega
   rw [hkn]
   clear ih0 hk hkn c0
   refine XK.exit rfl ?_
   refine XK.seq (XK.region rfl ?_)
   refine XO.q (Q.fieldAddr rfl) ?_
   refine XO.q (Q.ld rfl rfl) ?_
   refine XO.len rfl fun l42 => ?_
   refine XO.q (Q.move rfl) (XO.done (XK.block ?_))
   refine XK.while (X := Nat × PHeap × List Int) [10, 11, 43, 44, 45, 46, 47, 48, 49, 50, 51, 52, 53, 54, 55, 56, 57, 58, 59, 60, 61, 62, 63, 64, 65, 66, 67, 68] (fun ⟨k, hq, z⟩ => [(43, some (.int .i64 (k : Nat)))]) (fun ⟨k, hq, z⟩ => [hq]) (fun ⟨k, hq, z⟩ => k ≤ h.branches.length ∧ Fed h pump i k o z ∧ OArr vo encI 1 3 hq z) (fun ⟨k, hq, z⟩ => h.branches.length - k) (0, h0_12, _) [h0_12] rfl ⟨by omega, fs, O0_12⟩ (.c rfl (.base 0 rfl rfl)) ?_
   rintro ⟨k, hq, z⟩ ⟨hk, fd, OZ⟩ ih1
   dsimp only [lcA, lnA] at ih1 ⊢
   refine XK.seq (XK.region rfl ?_)
   refine XO.q (Q.lss rfl rfl) ?_
   refine XO.done (XK.seq ?_)
   refine XK.if rfl (fun c2 => ?_) (fun c2 => ?_)
   ·skip
    have hbk := ok.branch k (by omega)
    have hfr := flows_rng ok hp i hi
    have hzl := fd.len
    refine XK.skip (XK.seq (XK.block (XK.seq (XK.region rfl (XO.q (Q.move rfl) ?_)))))
    refine XO.ix rfl rfl (by omega) (by omega) fun i46 => ?_
    refine XO.q (Q.ldEA [_, _, _] rfl (by first | assumption | omega) rfl rfl) ?_
    refine XO.alloc fun b11 => ?_
    refine XO.q (Q.assign rfl) ?_
    refine XO.st rfl rfl rfl ?_
    refine XO.done (XK.seq (XK.region rfl ?_))
    refine XO.q (Q.fieldAddr rfl) ?_
    refine XO.q (Q.ld rfl rfl) ?_
    refine XO.q (Q.move rfl) ?_
    refine XO.q (Q.eql rfl rfl) ?_
    refine XO.q (Q.move rfl) ?_
    refine XO.q (Quiet.guardT rfl rfl fun g53 p53 => Q.move rfl) ?_
    refine XO.q (Quiet.guardT rfl rfl fun g54 p54 => Q.gtr (lzv g54 rfl) rfl) ?_
    refine XO.q (Q.and rfl (fun hp => lzv hp rfl)) ?_
    refine XO.done ?_
    refine XK.if rfl (fun c3 => ?_) (fun c3 => ?_)
    ·skip
     obtain ⟨c3u, c3s⟩ := c3
     have hmul : 0 ≤ (flowsL h pump).getD i 0 * (h.branches.getD k default).opn ∧ (flowsL h pump).getD i 0 * (h.branches.getD k default).opn ≤ 100000 * 100 := ⟨Int.mul_nonneg hfr.1 hbk.2.1.1, Int.mul_le_mul (by omega) hbk.2.1.2 hbk.2.1.1 (by omega)⟩
     have hsh := share_le (x := (flowsL h pump).getD i 0) (o := (h.branches.getD k default).opn) (s := sumOpen h i h.branches.length) hfr.1 hbk.2.1.1 (by have := open_one ok (k := k) (by omega); rw [c3u] at this; exact this) c3s
     have hup := up_of ok (i := k) (by omega) (not_zero ok (by omega) c3u)
     refine XK.drawn [0, 1, 2, 3, 4, 6, 7, 9, 8, 10] [b6, b5, b11] [] (.q 0 (.q 1 (.q 2 (.q 3 (.q 4 (.q 6 (.q 7 (.q 9 (.br 5 true (.q 8 (.q 10 (.br 11 true .done .stop))) .stop))))))))) Tryz.mixed rfl (by kernel_rfl) ?_
     refine XT.q rfl rfl (Q.ld rfl rfl) ?_
     refine XT.q rfl rfl (Q.move rfl) ?_
     refine XT.q rfl rfl (Q.ld rfl rfl) ?_
     refine XT.q rfl rfl (Q.move rfl) ?_
     refine XT.ix rfl rfl rfl rfl (by omega) (by omega) fun i60 => ?_
     refine XT.q rfl rfl (Q.fieldAddr rfl) ?_
     refine XT.q rfl rfl (Q.ld rfl rfl) ?_
     refine XT.q rfl rfl (Q.move rfl) ?_
     refine XT.qs rfl rfl (Q.ldE rfl (by first | assumption | omega) rfl) ⟨inferInstance, ?_⟩ XT.stop
     rw [show z.getD i default = (flowsL h pump).getD i 0 from fd.yes i hi (.inl rfl)]
     refine XT.q rfl rfl (Q.mul rfl rfl ⟨by omega, by omega⟩) ?_
     refine XT.q rfl rfl (Q.quo rfl rfl (by omega) (by omega) (by omega)) ?_
     refine XT.call rfl rfl Tryz.call200 rfl rfl rfl (ih k (by omega) (by omega) _ hsh.1 (by omega) (feed_child ok (by omega) c3u c3s).symm hq z OZ fd.len (fed_zero ok fd (by omega) c3u hz)) (fun v67 s67 R67 => ?_) XT.stop
     obtain ⟨h67, y, rfl, O67, y1, y2, y3⟩ := R67
     dsimp only [lcA, lnA]
     refine ⟨inferInstance, ?_⟩
     refine XT.done ?_
     refine XK.inBlock ?_
     refine XK.region rfl ?_
     refine XO.q (Q.add rfl rfl ⟨by omega, by omega⟩) ?_
     refine XO.q (Q.move rfl) (XO.done ?_)
     exact ih1 (k + 1, h67, y) _ _ ⟨by dsimp only; omega, fed_call ok fd (by omega) c3u y1 y2 y3, O67⟩ (by first | omega | (dsimp only; omega)) (.c rfl (.base 57 rfl rfl)) inferInstance
    ·skip
     refine XK.skip ?_
     refine XK.inBlock ?_
     refine XK.region rfl ?_
     refine XO.q (Q.add rfl rfl ⟨by omega, by omega⟩) ?_
     refine XO.q (Q.move rfl) (XO.done ?_)
     exact ih1 (k + 1, hq, z) _ _ ⟨by dsimp only; omega, fed_skip ok fd (by omega) hz c3, OZ⟩ (by first | omega | (dsimp only; omega)) (.c rfl (.base 45 rfl rfl)) inferInstance
   ·skip
    have hkn : k = h.branches.length := by omega
    rw [hkn] at fd
    refine XK.exit rfl ?_
    refine XK.fn [hq] Tryz.func200 Tryz.results200 (.n) ?_
    exact ⟨hq, z, rfl, OZ, fd.len, fun j hj s => fd.yes j hj ((done_sub ok hi).1 s), fun j s => fd.no j fun hd => s ((done_sub ok hi).2 hd)⟩
end Go.X.Ht

set_option linter.unusedSimpArgs false
set_option linter.unusedVariables false
set_option maxRecDepth 20000
namespace Go.X.Ht
open Go.Proofs
theorem flows_eq {h : Hall} {pump : Int} {o : List Int} (hl : o.length = h.branches.length) (hj : ∀ j, j < h.branches.length → o.getD j 0 = (flowsL h pump).getD j 0) : o = flowsL h pump := by
 refine List.ext_getElem (by rw [hl, flows_len]) fun j h1 h2 => ?_
 have := hj j (by omega)
 simpa [h1, h2] using this
theorem flows_zero {h : Hall} (ok : HOk h) {pump : Int} (h0 : 0 < h.branches.length) : max (pump - (h.branches.getD 0 default).leak) 0 = (flowsL h pump).getD 0 0 := by
 rw [flows_at ok h0]; unfold feedOf; rw [if_pos rfl]
theorem flows_spec (h : Hall) (vr vw vb vc : Value) (hb : PHeap) [ir : One vr] [iw : One vw] [ib : Arr vb encBranch 3 hb h.branches] [ic : One vc] (ok : HOk h) (pump : Int) (hp : 0 ≤ pump) (hp2 : pump ≤ 100000) : Spec Tryz.prog 166 #[.agg #[vr, vw, vb, vc], .int .i64 pump] [] [hb]
  (fun v hs => ∃ k, hs = [k] ∧ OArr v encI 1 3 k (flowsL h pump)) := by
 have hb2 := ok.b2
 refine Spec.intro (fn := Tryz.f166) (N := 19) Tryz.func166 rfl Tryz.ntmps166 rfl fun B => ?_
 refine XK.seq (XK.region rfl ?_)
 refine XO.box rfl fun b2 => ?_
 refine XO.q (Q.assign rfl) (XO.done (XK.seq (XK.region rfl ?_)))
 refine XO.q (Q.fieldAddr rfl) ?_
 refine XO.q (Q.ld rfl rfl) ?_
 refine XO.len rfl fun l9 => ?_
 refine XO.make encI (0) rfl rfl rfl (by omega) (by omega) (fun _ => rfl) rfl rfl rfl (by dsimp only [encI]; infer_instance) fun v10 h10 O10 => ?_
 refine XO.alloc fun b5 => ?_
 refine XO.st rfl rfl rfl ?_
 refine XO.done (XK.seq (XK.region rfl ?_))
 refine XO.alloc fun b6 => ?_
 refine XO.done (XK.seq (XK.region rfl ?_))
 refine XO.q (Q.func (fun _ he => rfl) (fun _ he => evs_rel he rfl)) ?_
 refine XO.st rfl rfl rfl ?_
 refine XO.done (XK.seq (XK.seq (XK.region rfl ?_)))
 refine XO.q (Q.ld rfl rfl) ?_
 refine XO.len rfl fun l13 => ?_
 rw [List.length_replicate]
 refine XO.q (Q.gtr rfl rfl) ?_
 refine XO.done ?_
 refine XK.if rfl (fun c0 => ?_) (fun c0 => ?_)
 ·skip
  refine XK.region rfl ?_
  refine XO.q (Q.ld rfl rfl) ?_
  refine XO.q (Q.move rfl) ?_
  refine XO.call Tryz.call200 rfl rfl rfl (feed_spec h vr vw vb vc hb ok pump hp hp2 b2 b5 b6 v10 h.branches.length 0 (by omega) (by omega) pump hp hp2 (flows_zero ok (by omega)) h10 (List.replicate h.branches.length 0) O10 (by simp) (fun j _ => by rw [List.getD_eq_getElem?_getD, List.getElem?_replicate]; split <;> simp)) fun v17 s17 R17 => ?_
  obtain ⟨h17, y, rfl, O17, y1, y2, y3⟩ := R17
  dsimp only [lcA, lnA]
  refine XO.done (XK.seq (XK.region rfl ?_))
  refine XO.q (Q.ld rfl rfl) ?_
  refine XO.q (Q.assign rfl) (XO.done ?_)
  refine XK.rt [h17] Tryz.func166 Tryz.results166 (.t rfl .n) ?_
  rw [flows_eq y1 fun j hj => y2 j hj (sub_root ok j hj)] at O17
  exact ⟨h17, rfl, O17⟩
 ·skip
  refine XK.skip (XK.seq (XK.region rfl ?_))
  refine XO.q (Q.ld rfl rfl) ?_
  refine XO.q (Q.assign rfl) (XO.done ?_)
  refine XK.rt [h10] Tryz.func166 Tryz.results166 (.t rfl .n) ?_
  have h0 : h.branches.length = 0 := by omega
  rw [flows_eq (pump := pump) (h := h) (o := List.replicate h.branches.length 0) (by simp) (fun j hj => by omega)] at O10
  exact ⟨h10, rfl, O10⟩
end Go.X.Ht

set_option linter.unusedSimpArgs false
set_option linter.unusedVariables false
set_option maxRecDepth 20000
namespace Go.X.Ht
open Go.Proofs
theorem at_spec (h : Hall) (vr vw vb vc : Value) (hb hc : PHeap) [ir : One vr] [iw : One vw] [ib : Arr vb encBranch 3 hb h.branches] [ic : Arr vc encCooler 5 hc h.coolers] (ok : HOk h) (t : List Int) (vt : Value) (ht : PHeap) [it : Arr vt encI 1 ht t] (tk : TOk h t) (c : HCase) (ck : COk h c) (vl : Value) [il : One vl] :
  Spec Tryz.prog 110 #[.agg #[vr, vw, vb, vc], vt, .agg #[vl, .int .i64 c.out, .int .i64 c.pump]] [] [hb, hc, ht] (fun v hs => ∃ b vk k, v = ptr b 0 ∧ hs = [blk b [vr, vw, vb, vc, vl, .int .i64 c.out, .int .i64 c.pump, vt, vk] 321, k] ∧ OArr vk encI 1 3 k (takenL h t c.pump)) := by
 have hnil : OArr (.slice none 0 0) encI 1 3 emp ([] : List Int) := OArr.nil (fun _ => rfl)
 have hb2 := ok.b2
 have hc2 := ok.c2
 have hfl := flows_len h c.pump
 have htl := tk.len
 have hpm := ck.pump
 refine Spec.intro (fn := Tryz.f110) (N := 88) Tryz.func110 rfl Tryz.ntmps110 rfl fun B => ?_
 refine XK.seq (XK.region rfl ?_)
 refine XO.box rfl fun b3 => ?_
 refine XO.box rfl fun b5 => ?_
 refine XO.q (Q.assign rfl) (XO.done (XK.seq (XK.region rfl ?_)))
 refine XO.q (Q.ldA [_, _, _, _] rfl rfl rfl) ?_
 refine XO.q (Q.ldA [_, _, _] rfl rfl rfl) ?_
 refine XO.q (Q.move rfl) ?_
 refine XO.q (Q.build [_, _, _, _, _, _, _, _, _] (.c 0 4 rfl rfl rfl (.c 4 3 rfl rfl rfl (.c 7 1 rfl rfl rfl (.n _))))) ?_
 refine XO.box rfl fun b19 => ?_
 refine XO.q (Q.assign rfl) (XO.done (XK.seq (XK.region rfl ?_)))
 refine XO.q (Q.ldA [_, _, _, _] rfl rfl rfl) ?_
 refine XO.q (Q.fieldAddr rfl) ?_
 refine XO.q (Q.ld rfl rfl) ?_
 refine XO.call Tryz.call166 rfl rfl rfl (flows_spec h vr vw vb vc hb ok c.pump ck.pump.1 ck.pump.2) fun v23 s23 R23 => ?_
 obtain ⟨k23, rfl, O23⟩ := R23
 dsimp only [lcA, lnA]
 refine XO.q (Q.assign rfl) (XO.done (XK.seq (XK.region rfl (XO.q (Q.move rfl) ?_))))
 refine XO.len rfl fun l25 => ?_
 rw [hfl]
 refine XO.make encI (0) rfl rfl rfl (by omega) (by omega) (fun _ => rfl) rfl rfl rfl (by dsimp only [encI]; infer_instance) fun v26 h26 O26 => ?_
 refine XO.q (Q.assign rfl) (XO.done (XK.seq (XK.seq (XK.region rfl ?_))))
 refine XO.q (Q.fieldAddr rfl) ?_
 refine XO.q (Q.ld rfl rfl) ?_
 refine XO.len rfl fun l29 => ?_
 refine XO.q (Q.move rfl) (XO.done (XK.block ?_))
 refine XK.while (X := Nat × PHeap × List Int) [11, 30, 31, 32, 33, 34, 35, 36, 37, 38, 39, 40, 41] (fun ⟨k, hz, on⟩ => [(30, some (.int .i64 (k : Nat)))]) (fun ⟨k, hz, on⟩ => [hz]) (fun ⟨k, hz, on⟩ => k ≤ h.coolers.length ∧ on.length = h.branches.length ∧ (∀ b : Int, 0 ≤ b → b < h.branches.length → on.getD b.toNat 0 = onBr h b k) ∧ OArr v26 encI 1 3 hz on) (fun ⟨k, hz, on⟩ => h.coolers.length - k) (0, h26, _) [h26] rfl ⟨by omega, by simp, fun b h1 h2 => by rw [List.getD_eq_getElem?_getD, List.getElem?_replicate]; split <;> rfl, O26⟩ (.c rfl (.base 0 rfl rfl)) ?_
 rintro ⟨k, hz, on⟩ ⟨hk, hol, hon, OZ⟩ ih0
 dsimp only [lcA, lnA] at ih0 ⊢
 refine XK.seq (XK.region rfl ?_)
 refine XO.q (Q.lss rfl rfl) ?_
 refine XO.done (XK.seq ?_)
 refine XK.if rfl (fun c0 => ?_) (fun c0 => ?_)
 ·skip
  have hcf := ok.cooler k (by omega)
  have hbt : (h.coolers.getD k default).br.toNat < on.length := by omega
  have hov := onBr_rng (h := h) (h.coolers.getD k default).br k
  have hoe := hon (h.coolers.getD k default).br hcf.2.1.1 hcf.2.1.2
  change on.getD (h.coolers.getD k default).br.toNat default = _ at hoe
  refine XK.skip (XK.seq (XK.block (XK.seq (XK.region rfl ?_))))
  refine XO.ix rfl rfl (by omega) (by omega) fun i32 => ?_
  refine XO.q (Q.ldEA [_, _, _, _, _] rfl (by first | assumption | omega) rfl rfl) ?_
  refine XO.alloc fun b11 => ?_
  refine XO.st rfl rfl rfl ?_
  refine XO.done (XK.region rfl (XO.q (Q.move rfl) ?_))
  refine XO.q (Q.fieldAddr rfl) ?_
  refine XO.q (Q.ld rfl rfl) ?_
  refine XO.ix rfl rfl (by omega) (by omega) fun i37 => ?_
  refine XO.q (Q.ldE rfl (by first | assumption | omega) rfl) ?_
  refine XO.q (Q.add rfl rfl ⟨by omega, by omega⟩) ?_
  refine XO.ix rfl rfl (by omega) (by omega) fun i40 => ?_
  refine XO.stE _ rfl rfl rfl (by assumption) rfl rfl fun h7_7 O7_7 => ?_
  refine XO.done ?_
  refine XK.inBlock ?_
  refine XK.region rfl ?_
  refine XO.q (Q.add rfl rfl ⟨by omega, by omega⟩) ?_
  refine XO.q (Q.move rfl) (XO.done ?_)
  exact ih0 (k + 1, h7_7, _) _ _ ⟨by dsimp only; omega, by simp only [List.length_set]; exact hol, fun b h1 h2 => by
    dsimp only
    rw [List.getD_eq_getElem?_getD, List.getElem?_set, onBr_succ]
    by_cases hbb : (h.coolers.getD k default).br = b
    ·rw [if_pos (by rw [hbb]), if_pos hbt, if_pos hbb, Option.getD_some, hoe, hbb]
    ·rw [if_neg (by omega), ← List.getD_eq_getElem?_getD, hon b h1 h2, if_neg hbb, Int.add_zero], O7_7⟩ (by first | omega | (dsimp only; omega)) (.c rfl (.base 27 rfl rfl)) inferInstance
 ·skip
  have hkn : k = h.coolers.length := by omega
  rw [hkn] at hon
  clear ih0 hk hkn c0
  refine XK.exit rfl ?_
  refine XK.seq (XK.seq (XK.region rfl ?_))
  refine XO.q (Q.fieldAddr rfl) ?_
  refine XO.q (Q.ld rfl rfl) ?_
  refine XO.len rfl fun l44 => ?_
  refine XO.q (Q.move rfl) (XO.done (XK.block ?_))
  refine XK.while (X := Nat × Value × PHeap) [13, 14, 45, 46, 47, 48, 49, 50, 51, 52, 53, 54, 55, 56, 57, 58, 59, 60, 61, 62, 63, 64, 65, 66, 67, 68, 69, 70, 71, 72, 73, 74, 75, 76, 77, 78, 79, 80, 81, 82, 83, 84, 85, 86] (fun ⟨k, vk, hk9⟩ => [(45, some (.int .i64 (k : Nat)))]) (fun ⟨k, vk, hk9⟩ => [blk b19 [vr, vw, vb, vc, vl, .int .i64 c.out, .int .i64 c.pump, vt, vk] 321, hk9]) (fun ⟨k, vk, hk9⟩ => k ≤ h.coolers.length ∧ OArr vk encI 1 3 hk9 ((List.range k).map (takenAt h t (flowsL h c.pump)))) (fun ⟨k, vk, hk9⟩ => h.coolers.length - k) (0, .slice none 0 0, emp) [blk b19 [vr, vw, vb, vc, vl, .int .i64 c.out, .int .i64 c.pump, vt, .slice none 0 0] 321, emp] rfl ⟨by omega, by simpa using hnil⟩ (.c rfl (.base 0 rfl rfl)) ?_
  rintro ⟨k, vk, hk9⟩ ⟨hk, OK⟩ ih1
  dsimp only [lcA, lnA] at ih1 ⊢
  refine XK.seq (XK.region rfl ?_)
  refine XO.q (Q.lss rfl rfl) ?_
  refine XO.done (XK.seq ?_)
  refine XK.if rfl (fun c1 => ?_) (fun c1 => ?_)
  ·skip
   have hcf := ok.cooler k (by omega)
   have hoe := hon (h.coolers.getD k default).br hcf.2.1.1 hcf.2.1.2
   change on.getD (h.coolers.getD k default).br.toNat default = _ at hoe
   have hop := onBr_pos (h := h) (k := k) (by omega)
   have hor := onBr_rng (h := h) (h.coolers.getD k default).br h.coolers.length
   have hF := flows_rng ok ck.pump.1 (h.coolers.getD k default).br.toNat (by omega)
   change 0 ≤ (flowsL h c.pump).getD (h.coolers.getD k default).br.toNat default ∧ (flowsL h c.pump).getD (h.coolers.getD k default).br.toNat default ≤ c.pump at hF
   have hm1 := mul_abs (p := (h.coolers.getD k default).carry) (d := (flowsL h c.pump).getD (h.coolers.getD k default).br.toNat default) (P := 1000) (D := 100000) hcf.2.2.2.1.1 hcf.2.2.2.1.2 (by omega) (by omega) (by omega)
   have hm0 := Int.mul_nonneg hcf.2.2.2.1.1 hF.1
   have hT := temp_at ok tk hcf.1.1 hcf.1.2
   change 0 ≤ t.getD (h.coolers.getD k default).room.toNat default ∧ t.getD (h.coolers.getD k default).room.toNat default ≤ 1000000 at hT
   have hm2 := mul_abs (p := (h.coolers.getD k default).gain) (d := t.getD (h.coolers.getD k default).room.toNat default - (h.coolers.getD k default).supply) (P := 100000) (D := 1000000) hcf.2.2.1.1 hcf.2.2.1.2 (by omega) (by omega) (by omega)
   refine XK.skip (XK.seq (XK.block (XK.seq (XK.region rfl ?_))))
   refine XO.ix rfl rfl (by omega) (by omega) fun i47 => ?_
   refine XO.q (Q.ldEA [_, _, _, _, _] rfl (by first | assumption | omega) rfl rfl) ?_
   refine XO.alloc fun b13 => ?_
   refine XO.st rfl rfl rfl ?_
   refine XO.done (XK.seq ?_)
   refine XK.drawn [0, 1, 2, 3, 4, 5, 6, 7, 8, 9, 10, 11, 12, 13, 14] [b13] [k23, hz] (.q 0 (.q 1 (.q 2 (.q 3 (.q 4 (.q 5 (.q 6 (.q 7 (.q 8 (.q 9 (.q 10 (.q 11 (.q 12 (.q 13 (.q 14 .done))))))))))))))) Tryz.mixed rfl (by kernel_rfl) ?_
   refine XT.q rfl rfl (Q.fieldAddr rfl) ?_
   refine XT.q rfl rfl (Q.ld rfl rfl) ?_
   refine XT.q rfl rfl (Q.move rfl) ?_
   refine XT.q rfl rfl (Q.fieldAddr rfl) ?_
   refine XT.q rfl rfl (Q.ld rfl rfl) ?_
   refine XT.ix rfl rfl rfl rfl (by omega) (by omega) fun i54 => ?_
   refine XT.q rfl rfl (Q.ldE rfl (by first | assumption | omega) rfl) ?_
   refine XT.q rfl rfl (Q.mul rfl rfl ⟨by omega, by omega⟩) ?_
   refine XT.q rfl rfl (Q.move rfl) ?_
   refine XT.q rfl rfl (Q.fieldAddr rfl) ?_
   refine XT.q rfl rfl (Q.ld rfl rfl) ?_
   refine XT.ix rfl rfl rfl rfl (by omega) (by omega) fun i60 => ?_
   refine XT.q rfl rfl (Q.ldE rfl (by first | assumption | omega) rfl) ?_
   refine XT.q rfl rfl (Q.quo rfl rfl (by omega) (by omega) (by omega)) ?_
   refine XT.q rfl rfl (Q.assign rfl) ?_
   refine XT.done ?_
   refine XK.drawn [0, 1, 2, 3, 5, 6, 7, 8, 9, 10, 11, 12, 13, 14, 15, 16, 17, 18, 21, 22] [b13] [] (.q 0 (.q 1 (.q 2 (.q 3 (.q 5 (.q 6 (.q 7 (.q 8 (.q 9 (.q 10 (.q 11 (.q 12 (.q 13 (.q 14 (.q 15 (.q 16 (.q 17 (.q 18 (.br 4 true (.br 19 true (.br 20 true (.q 21 (.q 22 (.br 23 true .done .stop))) .stop) .stop) (.br 19 true (.br 4 true (.br 20 true (.q 21 (.q 22 (.br 23 true .done .stop))) .stop) .stop) .stop)))))))))))))))))))) Tryz.mixed rfl (by kernel_rfl) ?_
   refine XT.q rfl rfl (Q.move rfl) ?_
   refine XT.q rfl rfl (Q.move rfl) ?_
   refine XT.q rfl rfl (Q.nilCheck rfl) ?_
   refine XT.q rfl rfl (Q.fieldAddr rfl) ?_
   refine XT.q rfl rfl (Q.fieldAddr rfl) ?_
   refine XT.q rfl rfl (Q.ld rfl rfl) ?_
   refine XT.q rfl rfl (Q.move rfl) ?_
   refine XT.q rfl rfl (Q.fieldAddr rfl) ?_
   refine XT.q rfl rfl (Q.ld rfl rfl) ?_
   refine XT.ix rfl rfl rfl rfl (by omega) (by omega) fun i73 => ?_
   refine XT.q rfl rfl (Q.ldE rfl (by first | assumption | omega) rfl) ?_
   refine XT.q rfl rfl (Q.fieldAddr rfl) ?_
   refine XT.q rfl rfl (Q.ld rfl rfl) ?_
   refine XT.q rfl rfl (Q.sub rfl rfl ⟨by omega, by omega⟩) ?_
   refine XT.q rfl rfl (Q.mul rfl rfl ⟨by omega, by omega⟩) ?_
   refine XT.q rfl rfl (Q.max rfl rfl) ?_
   refine XT.q rfl rfl (Q.move rfl) ?_
   refine XT.q rfl rfl (Q.min rfl rfl) ?_
   refine XT.qs rfl rfl (Q.ld rfl rfl) ⟨inferInstance, ?_⟩ ?_
   ·skip
    refine XT.lit [_] [_] [_] encI rfl rfl (by rfl) (by rfl) rfl (by rfl) (by exact .c 0 1 rfl rfl rfl (.n _)) (fun _ => rfl) (by rfl) rfl (by infer_instance) rfl (fun v82 h82 O82 => ⟨inferInstance, ?_⟩) XT.stop
    refine XT.append rfl rfl rfl rfl rfl rfl (by simp only [List.length_map, List.length_range, List.length_cons, List.length_nil]; omega) (fun v83 h83 O83 => ⟨inferInstance, ?_⟩) XT.stop
    refine XT.q rfl rfl (Q.nilCheck rfl) ?_
    refine XT.q rfl rfl (Q.fieldAddr rfl) ?_
    refine XT.st rfl rfl rfl rfl rfl ⟨inferInstance, ?_⟩ XT.stop
    refine XT.done ?_
    refine XK.inBlock ?_
    refine XK.region rfl ?_
    refine XO.q (Q.add rfl rfl ⟨by omega, by omega⟩) ?_
    refine XO.q (Q.move rfl) (XO.done ?_)
    exact ih1 (k + 1, v83, h83) _ _ ⟨by dsimp only; omega, by dsimp only; rw [show (List.range (k + 1)).map (takenAt h t (flowsL h c.pump)) = (List.range k).map (takenAt h t (flowsL h c.pump)) ++ [takenAt h t (flowsL h c.pump) k] by rw [List.range_succ, List.map_append]; rfl, takenAt]; rw [hoe] at O83; exact O83⟩ (by first | omega | (dsimp only; omega)) (.c rfl (.base 89 rfl rfl)) inferInstance
   ·skip
    refine XT.lit [_] [_] [_] encI rfl rfl (by rfl) (by rfl) rfl (by rfl) (by exact .c 0 1 rfl rfl rfl (.n _)) (fun _ => rfl) (by rfl) rfl (by infer_instance) rfl (fun v82 h82 O82 => ⟨inferInstance, ?_⟩) XT.stop
    refine XT.qs rfl rfl (Q.ld rfl rfl) ⟨inferInstance, ?_⟩ XT.stop
    refine XT.append rfl rfl rfl rfl rfl rfl (by simp only [List.length_map, List.length_range, List.length_cons, List.length_nil]; omega) (fun v83 h83 O83 => ⟨inferInstance, ?_⟩) XT.stop
    refine XT.q rfl rfl (Q.nilCheck rfl) ?_
    refine XT.q rfl rfl (Q.fieldAddr rfl) ?_
    refine XT.st rfl rfl rfl rfl rfl ⟨inferInstance, ?_⟩ XT.stop
    refine XT.done ?_
    refine XK.inBlock ?_
    refine XK.region rfl ?_
    refine XO.q (Q.add rfl rfl ⟨by omega, by omega⟩) ?_
    refine XO.q (Q.move rfl) (XO.done ?_)
    exact ih1 (k + 1, v83, h83) _ _ ⟨by dsimp only; omega, by dsimp only; rw [show (List.range (k + 1)).map (takenAt h t (flowsL h c.pump)) = (List.range k).map (takenAt h t (flowsL h c.pump)) ++ [takenAt h t (flowsL h c.pump) k] by rw [List.range_succ, List.map_append]; rfl, takenAt]; rw [hoe] at O83; exact O83⟩ (by first | omega | (dsimp only; omega)) (.c rfl (.base 89 rfl rfl)) inferInstance
  ·skip
   refine XK.exit rfl ?_
   refine XK.seq (XK.region rfl (XO.q (Q.move rfl) (XO.q (Q.assign rfl) (XO.done ?_))))
   refine XK.rt [blk b19 [vr, vw, vb, vc, vl, .int .i64 c.out, .int .i64 c.pump, vt, vk] 321, hk9] Tryz.func110 Tryz.results110 (.t rfl .n) ?_
   have hkn : k = h.coolers.length := by omega
   rw [hkn] at OK
   exact ⟨b19, vk, hk9, rfl, rfl, OK⟩
end Go.X.Ht

set_option linter.unusedSimpArgs false
set_option linter.unusedVariables false
set_option maxRecDepth 20000
namespace Go.X.Ht
open Go.Proofs
theorem load_spec (b : Nat) (vr vw vb vc vl vt vk : Value) (c : HCase) (hl : PHeap) [il : Arr vl encI 1 hl c.load] (i : Nat) (hi : i < c.load.length) : Spec Tryz.prog 111 #[ptr b 0, .int .i64 (i : Nat)] [] [blk b [vr, vw, vb, vc, vl, .int .i64 c.out, .int .i64 c.pump, vt, vk] 321, hl]
  (fun v hs => v = .int .i64 (c.load.getD i 0) ∧ hs = []) := by
 refine Spec.intro (fn := Tryz.f111) (N := 13) Tryz.func111 rfl Tryz.ntmps111 rfl fun B => ?_
 refine XK.seq (XK.region rfl (XO.q (Q.assign rfl) (XO.done (XK.seq (XK.region rfl ?_)))))
 refine XO.q (Q.move rfl) ?_
 refine XO.q (Q.nilCheck rfl) ?_
 refine XO.q (Q.fieldAddr rfl) ?_
 refine XO.q (Q.fieldAddr rfl) ?_
 refine XO.q (Q.ld rfl rfl) ?_
 refine XO.q (Q.move rfl) ?_
 refine XO.ix rfl rfl (by omega) (by omega) fun i11 => ?_
 refine XO.q (Q.ldE rfl (by first | assumption | omega) rfl) ?_
 refine XO.q (Q.assign rfl) (XO.done ?_)
 refine XK.rt [] Tryz.func111 Tryz.results111 (.t rfl .n) ?_
 exact ⟨rfl, rfl⟩
theorem walls_spec (h : Hall) (ok : HOk h) (b : Nat) (vr vw vb vc vl vt vk : Value) (c : HCase) (hw ht : PHeap) [iw : Arr vw encWall 3 hw h.walls] (t : List Int) [it : Arr vt encI 1 ht t] (tk : TOk h t) (ck : COk h c) (i : Nat) (hi : i < h.rooms.length) :
  Spec Tryz.prog 112 #[ptr b 0, .int .i64 (i : Nat)] [] [blk b [vr, vw, vb, vc, vl, .int .i64 c.out, .int .i64 c.pump, vt, vk] 321, hw, ht] (fun v hs => v = .int .i64 (sumTo (wheat h t c.out i) h.walls.length) ∧ hs = []) := by
 have hw2 := ok.w2
 have htl := tk.len
 have hco := ck.out
 have hI := tk.rng i (by omega)
 change 0 ≤ t.getD i default ∧ t.getD i default ≤ 1000000 at hI
 refine Spec.intro (fn := Tryz.f112) (N := 81) Tryz.func112 rfl Tryz.ntmps112 rfl fun B => ?_
 refine XK.seq (XK.region rfl (XO.q (Q.assign rfl) (XO.done (XK.seq (XK.region rfl ?_)))))
 refine XO.q (Q.assign rfl) (XO.done (XK.seq (XK.seq (XK.region rfl (XO.q (Q.move rfl) ?_)))))
 refine XO.q (Q.nilCheck rfl) ?_
 refine XO.q (Q.fieldAddr rfl) ?_
 refine XO.q (Q.fieldAddr rfl) ?_
 refine XO.q (Q.ld rfl rfl) ?_
 refine XO.len rfl fun l14 => ?_
 refine XO.q (Q.move rfl) (XO.done (XK.block ?_))
 refine XK.while (X := Nat) [5, 7, 8, 15, 16, 17, 18, 19, 20, 21, 22, 23, 24, 25, 26, 27, 28, 29, 30, 31, 32, 33, 34, 35, 36, 37, 38, 39, 40, 41, 42, 43, 44, 45, 46, 47, 48, 49, 50, 51, 52, 53, 54, 55, 56, 57, 58, 59, 60, 61, 62, 63, 64, 65, 66, 67, 68, 69, 70, 71, 72, 73, 74, 75, 76, 77, 78, 79] (fun k => [(15, some (.int .i64 (k : Nat))), (5, some (.int .i64 (sumTo (wheat h t c.out i) k)))]) (fun k => []) (fun k => k ≤ h.walls.length) (fun k => h.walls.length - k) (0) [] rfl (by omega) (.c rfl (.c rfl (.base 0 rfl rfl))) ?_
 rintro k hk ih0
 dsimp only [lcA, lnA] at ih0 ⊢
 refine XK.seq (XK.region rfl ?_)
 refine XO.q (Q.lss rfl rfl) ?_
 refine XO.done (XK.seq ?_)
 refine XK.if rfl (fun c0 => ?_) (fun c0 => ?_)
 ·skip
  have hwf := ok.wall k (by omega)
  have hsw := wsum_abs ok tk hco hi (n := k) (by omega)
  have hA := temp_at ok tk hwf.1.1 hwf.1.2
  change 0 ≤ t.getD (h.walls.getD k default).a.toNat default ∧ t.getD (h.walls.getD k default).a.toNat default ≤ 1000000 at hA
  refine XK.skip (XK.seq (XK.block (XK.seq (XK.region rfl ?_))))
  refine XO.ix rfl rfl (by omega) (by omega) fun i17 => ?_
  refine XO.q (Q.ldEA [_, _, _] rfl (by first | assumption | omega) rfl rfl) ?_
  refine XO.alloc fun b7 => ?_
  refine XO.st rfl rfl rfl ?_
  refine XO.done (XK.seq (XK.region rfl (XO.q (Q.move rfl) ?_)))
  refine XO.q (Q.nilCheck rfl) ?_
  refine XO.q (Q.fieldAddr rfl) ?_
  refine XO.q (Q.fieldAddr rfl) ?_
  refine XO.q (Q.ld rfl rfl) ?_
  refine XO.q (Q.assign rfl) (XO.done (XK.seq (XK.seq (XK.region rfl ?_))))
  refine XO.q (Q.fieldAddr rfl) ?_
  refine XO.q (Q.ld rfl rfl) ?_
  refine XO.q (Q.geq rfl rfl) ?_
  refine XO.done ?_
  refine XK.meet (X := Int) [8, 27, 28, 29, 30, 31, 32, 33, 34] (fun y => [(8, some (.int .i64 y))]) (fun y => []) (fun y => y = (if 0 ≤ (h.walls.getD k default).b then t.getD (h.walls.getD k default).b.toNat 0 else c.out) ∧ 0 ≤ y ∧ y ≤ 1000000) [] ?_ ?_
  ·rintro y ⟨hy, hy1, hy2⟩
   dsimp only [lcA, lnA]
   refine XK.seq (XK.region rfl (XO.q (Q.move rfl) (XO.done (XK.block (XK.seq ?_)))))
   refine XK.region rfl ?_
   refine XO.q (Q.fieldAddr rfl) ?_
   refine XO.q (Q.ld rfl rfl) ?_
   refine XO.q (Q.eql rfl rfl) ?_
   refine XO.q (Q.assign rfl) (XO.done ?_)
   refine XK.if rfl (fun c2 => ?_) (fun c2 => ?_)
   ·skip
    have hm := mul_abs (p := (h.walls.getD k default).pass) (d := y - t.getD i default) (P := 100000) (D := 1000000) hwf.2.2.2.1 hwf.2.2.2.2 (by omega) (by omega) (by omega)
    refine XK.drawn [0, 1, 2, 3, 4, 5, 6, 7, 8, 9, 10, 11, 12, 13, 14] [b7, b] [] (.q 0 (.q 1 (.q 2 (.q 3 (.q 4 (.q 5 (.q 6 (.q 7 (.q 8 (.q 9 (.q 10 (.q 11 (.q 12 (.q 13 (.q 14 .done))))))))))))))) Tryz.mixed rfl (by kernel_rfl) ?_
    refine XT.q rfl rfl (Q.move rfl) ?_
    refine XT.q rfl rfl (Q.fieldAddr rfl) ?_
    refine XT.q rfl rfl (Q.ld rfl rfl) ?_
    refine XT.q rfl rfl (Q.move rfl) ?_
    refine XT.q rfl rfl (Q.move rfl) ?_
    refine XT.q rfl rfl (Q.nilCheck rfl) ?_
    refine XT.q rfl rfl (Q.fieldAddr rfl) ?_
    refine XT.q rfl rfl (Q.ld rfl rfl) ?_
    refine XT.q rfl rfl (Q.move rfl) ?_
    refine XT.ix rfl rfl rfl rfl (by omega) (by omega) fun i49 => ?_
    refine XT.q rfl rfl (Q.ldE rfl (by first | assumption | omega) rfl) ?_
    refine XT.q rfl rfl (Q.sub rfl rfl ⟨by omega, by omega⟩) ?_
    refine XT.q rfl rfl (Q.mul rfl rfl ⟨by omega, by omega⟩) ?_
    refine XT.q rfl rfl (Q.add rfl rfl ⟨by omega, by omega⟩) ?_
    refine XT.q rfl rfl (Q.assign rfl) ?_
    refine XT.done ?_
    refine XK.inBlock ?_
    refine XK.inBlock ?_
    refine XK.region rfl ?_
    refine XO.q (Q.add rfl rfl ⟨by omega, by omega⟩) ?_
    refine XO.q (Q.move rfl) (XO.done ?_)
    rw [show sumTo (wheat h t c.out i) k + (h.walls.getD k default).pass * (y - t.getD i default) = sumTo (wheat h t c.out i) (k + 1) by rw [sumTo, wheat, if_pos c2.symm, ← hy]; rfl]
    exact ih0 (k + 1) _ _ (by omega) (by first | omega | (dsimp only; omega)) (.c rfl (.c rfl (.base 115 rfl rfl))) inferInstance
   ·skip
    refine XK.seq (XK.region rfl ?_)
    refine XO.q (Q.fieldAddr rfl) ?_
    refine XO.q (Q.ld rfl rfl) ?_
    refine XO.q (Q.eql rfl rfl) ?_
    refine XO.q (Q.assign rfl) (XO.done ?_)
    refine XK.if rfl (fun c3 => ?_) (fun c3 => ?_)
    ·skip
     have hm := mul_abs (p := (h.walls.getD k default).pass) (d := t.getD (h.walls.getD k default).a.toNat default - t.getD i default) (P := 100000) (D := 1000000) hwf.2.2.2.1 hwf.2.2.2.2 (by omega) (by omega) (by omega)
     refine XK.drawn [0, 1, 2, 3, 4, 5, 6, 7, 8, 9, 10, 11, 12, 13, 14, 15, 16, 17, 18, 19, 20, 21] [b7, b] [] (.q 0 (.q 1 (.q 2 (.q 3 (.q 4 (.q 5 (.q 6 (.q 7 (.q 8 (.q 9 (.q 10 (.q 11 (.q 12 (.q 13 (.q 14 (.q 15 (.q 16 (.q 17 (.q 18 (.q 19 (.q 20 (.q 21 .done)))))))))))))))))))))) Tryz.mixed rfl (by kernel_rfl) ?_
     refine XT.q rfl rfl (Q.move rfl) ?_
     refine XT.q rfl rfl (Q.fieldAddr rfl) ?_
     refine XT.q rfl rfl (Q.ld rfl rfl) ?_
     refine XT.q rfl rfl (Q.move rfl) ?_
     refine XT.q rfl rfl (Q.nilCheck rfl) ?_
     refine XT.q rfl rfl (Q.fieldAddr rfl) ?_
     refine XT.q rfl rfl (Q.ld rfl rfl) ?_
     refine XT.q rfl rfl (Q.fieldAddr rfl) ?_
     refine XT.q rfl rfl (Q.ld rfl rfl) ?_
     refine XT.ix rfl rfl rfl rfl (by omega) (by omega) fun i67 => ?_
     refine XT.q rfl rfl (Q.ldE rfl (by first | assumption | omega) rfl) ?_
     refine XT.q rfl rfl (Q.move rfl) ?_
     refine XT.q rfl rfl (Q.nilCheck rfl) ?_
     refine XT.q rfl rfl (Q.fieldAddr rfl) ?_
     refine XT.q rfl rfl (Q.ld rfl rfl) ?_
     refine XT.q rfl rfl (Q.move rfl) ?_
     refine XT.ix rfl rfl rfl rfl (by omega) (by omega) fun i74 => ?_
     refine XT.q rfl rfl (Q.ldE rfl (by first | assumption | omega) rfl) ?_
     refine XT.q rfl rfl (Q.sub rfl rfl ⟨by omega, by omega⟩) ?_
     refine XT.q rfl rfl (Q.mul rfl rfl ⟨by omega, by omega⟩) ?_
     refine XT.q rfl rfl (Q.add rfl rfl ⟨by omega, by omega⟩) ?_
     refine XT.q rfl rfl (Q.assign rfl) ?_
     refine XT.done ?_
     refine XK.inBlock ?_
     refine XK.inBlock ?_
     refine XK.region rfl ?_
     refine XO.q (Q.add rfl rfl ⟨by omega, by omega⟩) ?_
     refine XO.q (Q.move rfl) (XO.done ?_)
     rw [show sumTo (wheat h t c.out i) k + (h.walls.getD k default).pass * (t.getD (h.walls.getD k default).a.toNat default - t.getD i default) = sumTo (wheat h t c.out i) (k + 1) by rw [sumTo, wheat, if_neg (Ne.symm c2), if_pos c3.symm]; rfl]
     exact ih0 (k + 1) _ _ (by omega) (by first | omega | (dsimp only; omega)) (.c rfl (.c rfl (.base 126 rfl rfl))) inferInstance
    ·skip
     refine XK.skip ?_
     refine XK.inBlock ?_
     refine XK.inBlock ?_
     refine XK.region rfl ?_
     refine XO.q (Q.add rfl rfl ⟨by omega, by omega⟩) ?_
     refine XO.q (Q.move rfl) (XO.done ?_)
     rw [show sumTo (wheat h t c.out i) k = sumTo (wheat h t c.out i) (k + 1) by rw [sumTo, wheat, if_neg (Ne.symm c2), if_neg (Ne.symm c3), Int.add_zero]]
     exact ih0 (k + 1) _ _ (by omega) (by first | omega | (dsimp only; omega)) (.c rfl (.c rfl (.base 104 rfl rfl))) inferInstance
  ·intro mt1
   dsimp only [lcA, lnA] at mt1
   refine XK.if rfl (fun c1 => ?_) (fun c1 => ?_)
   ·skip
    refine XK.drawn [0, 1, 2, 3, 4, 5, 6, 7, 8] [b, b7] [] (.q 0 (.q 1 (.q 2 (.q 3 (.q 4 (.q 5 (.q 6 (.q 7 (.q 8 .done))))))))) Tryz.mixed rfl (by kernel_rfl) ?_
    refine XT.q rfl rfl (Q.move rfl) ?_
    refine XT.q rfl rfl (Q.nilCheck rfl) ?_
    refine XT.q rfl rfl (Q.fieldAddr rfl) ?_
    refine XT.q rfl rfl (Q.ld rfl rfl) ?_
    refine XT.q rfl rfl (Q.fieldAddr rfl) ?_
    refine XT.q rfl rfl (Q.ld rfl rfl) ?_
    refine XT.ix rfl rfl rfl rfl (by omega) (by omega) fun i33 => ?_
    refine XT.q rfl rfl (Q.ldE rfl (by first | assumption | omega) rfl) ?_
    refine XT.q rfl rfl (Q.assign rfl) ?_
    refine XT.done ?_
    exact mt1 (_) _ _ ⟨by rw [if_pos c1]; rfl, by have := temp_at ok tk (i := (h.walls.getD k default).b) c1 (by omega); exact this.1, by have := temp_at ok tk (i := (h.walls.getD k default).b) c1 (by omega); exact this.2⟩ (.c rfl (.base 9 rfl rfl)) inferInstance
   ·skip
    refine XK.skip ?_
    exact mt1 (c.out) _ _ ⟨by rw [if_neg c1], hco.1, hco.2⟩ (.c rfl (.base 0 rfl rfl)) inferInstance
 ·skip
  refine XK.exit rfl ?_
  refine XK.seq (XK.region rfl (XO.q (Q.move rfl) (XO.q (Q.assign rfl) (XO.done ?_))))
  refine XK.rt [] Tryz.func112 Tryz.results112 (.t rfl .n) ?_
  have hkn : k = h.walls.length := by omega
  rw [hkn]
  exact ⟨rfl, rfl⟩
theorem coolers_spec (h : Hall) (ok : HOk h) (b : Nat) (vr vw vb vc vl vt vk : Value) (c : HCase) (hc hk : PHeap) [ic : Arr vc encCooler 5 hc h.coolers] (t : List Int) (tk : TOk h t) (ck : COk h c) [ik : Arr vk encI 1 hk (takenL h t c.pump)] (i : Nat) :
  Spec Tryz.prog 113 #[ptr b 0, .int .i64 (i : Nat)] [] [blk b [vr, vw, vb, vc, vl, .int .i64 c.out, .int .i64 c.pump, vt, vk] 321, hc, hk] (fun v hs => v = .int .i64 (sumTo (cheat h (takenL h t c.pump) i) h.coolers.length) ∧ hs = []) := by
 have hc2 := ok.c2
 have hkl : (takenL h t c.pump).length = h.coolers.length := by simp [takenL]
 refine Spec.intro (fn := Tryz.f113) (N := 34) Tryz.func113 rfl Tryz.ntmps113 rfl fun B => ?_
 refine XK.seq (XK.region rfl (XO.q (Q.assign rfl) (XO.done (XK.seq (XK.region rfl ?_)))))
 refine XO.q (Q.assign rfl) (XO.done (XK.seq (XK.seq (XK.region rfl (XO.q (Q.move rfl) ?_)))))
 refine XO.q (Q.nilCheck rfl) ?_
 refine XO.q (Q.fieldAddr rfl) ?_
 refine XO.q (Q.fieldAddr rfl) ?_
 refine XO.q (Q.ld rfl rfl) ?_
 refine XO.len rfl fun l13 => ?_
 refine XO.q (Q.move rfl) (XO.done (XK.block ?_))
 refine XK.while (X := Nat) [5, 6, 7, 14, 15, 16, 17, 18, 19, 20, 21, 22, 23, 24, 25, 26, 27, 28, 29, 30, 31, 32] (fun k => [(14, some (.int .i64 (k : Nat))), (5, some (.int .i64 (sumTo (cheat h (takenL h t c.pump) i) k)))]) (fun k => []) (fun k => k ≤ h.coolers.length) (fun k => h.coolers.length - k) (0) [] rfl (by omega) (.c rfl (.c rfl (.base 0 rfl rfl))) ?_
 rintro k hkk ih0
 dsimp only [lcA, lnA] at ih0 ⊢
 refine XK.seq (XK.region rfl ?_)
 refine XO.q (Q.lss rfl rfl) ?_
 refine XO.done (XK.seq ?_)
 refine XK.if rfl (fun c0 => ?_) (fun c0 => ?_)
 ·skip
  have hcs := csum_abs ok tk ck.pump.1 ck.pump.2 (i := i) (n := k) (by omega)
  have hct := taken_rng ok tk ck.pump.1 ck.pump.2 (k := k) (by omega)
  rw [← taken_getD ok tk (by omega)] at hct
  change 0 ≤ (takenL h t c.pump).getD k default ∧ (takenL h t c.pump).getD k default ≤ _ at hct
  refine XK.skip (XK.seq (XK.block (XK.seq (XK.region rfl (XO.q (Q.move rfl) ?_)))))
  refine XO.ix rfl rfl (by omega) (by omega) fun i17 => ?_
  refine XO.q (Q.ldEA [_, _, _, _, _] rfl (by first | assumption | omega) rfl rfl) ?_
  refine XO.alloc fun b7 => ?_
  refine XO.q (Q.assign rfl) ?_
  refine XO.st rfl rfl rfl ?_
  refine XO.done (XK.seq (XK.region rfl ?_))
  refine XO.q (Q.fieldAddr rfl) ?_
  refine XO.q (Q.ld rfl rfl) ?_
  refine XO.q (Q.move rfl) ?_
  refine XO.q (Q.eql rfl rfl) ?_
  refine XO.done ?_
  refine XK.if rfl (fun c1 => ?_) (fun c1 => ?_)
  ·skip
   refine XK.region rfl (XO.q (Q.move rfl) (XO.q (Q.move rfl) ?_))
   refine XO.q (Q.nilCheck rfl) ?_
   refine XO.q (Q.fieldAddr rfl) ?_
   refine XO.q (Q.ld rfl rfl) ?_
   refine XO.q (Q.move rfl) ?_
   refine XO.ix rfl rfl (by omega) (by omega) fun i29 => ?_
   refine XO.q (Q.ldE rfl (by first | assumption | omega) rfl) ?_
   refine XO.q (Q.sub rfl rfl ⟨by omega, by omega⟩) ?_
   refine XO.q (Q.assign rfl) (XO.done ?_)
   refine XK.inBlock ?_
   refine XK.region rfl ?_
   refine XO.q (Q.add rfl rfl ⟨by omega, by omega⟩) ?_
   refine XO.q (Q.move rfl) (XO.done ?_)
   rw [show sumTo (cheat h (takenL h t c.pump) i) k - (takenL h t c.pump).getD k default = sumTo (cheat h (takenL h t c.pump) i) (k + 1) by rw [sumTo, cheat, if_pos c1]; exact Int.sub_eq_add_neg ..]
   exact ih0 (k + 1) _ _ (by omega) (by first | omega | (dsimp only; omega)) (.c rfl (.c rfl (.base 46 rfl rfl))) inferInstance
  ·skip
   refine XK.skip ?_
   refine XK.inBlock ?_
   refine XK.region rfl ?_
   refine XO.q (Q.add rfl rfl ⟨by omega, by omega⟩) ?_
   refine XO.q (Q.move rfl) (XO.done ?_)
   rw [show sumTo (cheat h (takenL h t c.pump) i) k = sumTo (cheat h (takenL h t c.pump) i) (k + 1) by rw [sumTo, cheat, if_neg c1, Int.add_zero]]
   exact ih0 (k + 1) _ _ (by omega) (by first | omega | (dsimp only; omega)) (.c rfl (.c rfl (.base 36 rfl rfl))) inferInstance
 ·skip
  refine XK.exit rfl ?_
  refine XK.seq (XK.region rfl (XO.q (Q.move rfl) (XO.q (Q.assign rfl) (XO.done ?_))))
  refine XK.rt [] Tryz.func113 Tryz.results113 (.t rfl .n) ?_
  have hkn : k = h.coolers.length := by omega
  rw [hkn]
  exact ⟨rfl, rfl⟩
theorem list_get {α : Type} [Inhabited α] {l : List α} {j : Nat} (hj : j < l.length) : l[((j : Nat) : Int).toNat]? = some (l.getD j default) := by
 rw [Int.toNat_natCast, List.getElem?_eq_getElem hj, List.getD_eq_getElem?_getD, List.getElem?_eq_getElem hj]; rfl
theorem carr_spec (h : Hall) (ok : HOk h) (b : Nat) (vr vw vb vc vl vt vk : Value) (c : HCase) (hw hc hl ht hk : PHeap) [iw : Arr vw encWall 3 hw h.walls] [ic : Arr vc encCooler 5 hc h.coolers] [il : Arr vl encI 1 hl c.load] (t : List Int) [it : Arr vt encI 1 ht t] (tk : TOk h t) (ck : COk h c)
  [ik : Arr vk encI 1 hk (takenL h t c.pump)] (i : Nat) (hi : i < h.rooms.length) (j : Nat) (hj : j < 3) :
  VSpec Tryz.prog (([.func (.func 111) #[ptr b 0] #[], .func (.func 112) #[ptr b 0] #[], .func (.func 113) #[ptr b 0] #[]] : List Value).getD j default) [.int .i64 (i : Nat)] [] [blk b [vr, vw, vb, vc, vl, .int .i64 c.out, .int .i64 c.pump, vt, vk] 321, hw, hc, hl, ht, hk] (fun v hs => v = .int .i64 (([c.load.getD i 0, sumTo (wheat h t c.out i) h.walls.length, sumTo (cheat h (takenL h t c.pump) i) h.coolers.length] : List Int).getD j default) ∧ hs = []) := by
 match j, hj with
 | 0, _ => exact VSpec.fn (fst := [ptr b 0]) (cap := []) (vs := [.int .i64 (i : Nat)]) Tryz.call111 rfl ((load_spec b vr vw vb vc vl vt vk c hl i (by have := ck.len; omega)).wide (fun x hx => by simp at hx; rcases hx with rfl | rfl <;> simp))
 | 1, _ => exact VSpec.fn (fst := [ptr b 0]) (cap := []) (vs := [.int .i64 (i : Nat)]) Tryz.call112 rfl ((walls_spec h ok b vr vw vb vc vl vt vk c hw ht t tk ck i hi).wide (fun x hx => by simp at hx; rcases hx with rfl | rfl | rfl <;> simp))
 | 2, _ => exact VSpec.fn (fst := [ptr b 0]) (cap := []) (vs := [.int .i64 (i : Nat)]) Tryz.call113 rfl ((coolers_spec h ok b vr vw vb vc vl vt vk c hc hk t tk ck i).wide (fun x hx => by simp at hx; rcases hx with rfl | rfl | rfl <;> simp))
theorem three_bd7 {a b c lo hi : Int} (ha : lo ≤ a ∧ a ≤ hi) (hb : lo ≤ b ∧ b ≤ hi) (hc : lo ≤ c ∧ c ≤ hi) {k : Nat} (hk : k < 3) : lo ≤ [a, b, c].getD k default ∧ [a, b, c].getD k default ≤ hi := by
 match k, hk with
 | 0, _ => exact ha
 | 1, _ => exact hb
 | 2, _ => exact hc
theorem sum_three (x a b c : Int) : x + sumTo (fun j => [a, b, c].getD j default) 3 = x + a + b + c := by
 show x + (((0 + a) + b) + c) = _
 omega
theorem next_spec7 (h : Hall) (vr vw vb vc : Value) (hr hw hb hc : PHeap) [ir : Arr vr encRoom 2 hr h.rooms] [iw : Arr vw encWall 3 hw h.walls] [ib : Arr vb encBranch 3 hb h.branches] [ic : Arr vc encCooler 5 hc h.coolers] (ok : HOk h) (t : List Int) (vt : Value) (ht : PHeap) [it : Arr vt encI 1 ht t] (tk : TOk h t)
  (c : HCase) (ck : COk h c) (vl : Value) (hl : PHeap) [il : Arr vl encI 1 hl c.load] : Spec Tryz.prog 53 #[.agg #[vr, vw, vb, vc], vt, .agg #[vl, .int .i64 c.out, .int .i64 c.pump]] [] [hr, hw, hb, hc, ht, hl] (fun v hs => ∃ k, hs = [k] ∧ OArr v encI 1 3 k (nextL h t c)) := by
 have hnil : OArr (.slice none 0 0) encI 1 3 emp ([] : List Int) := OArr.nil (fun _ => rfl)
 have hr2 := ok.r2
 have htl := tk.len
 refine Spec.intro (fn := Tryz.f53) (N := 61) Tryz.func53 rfl Tryz.ntmps53 rfl fun B => ?_
 refine XK.seq (XK.region rfl ?_)
 refine XO.box rfl fun b3 => ?_
 refine XO.box rfl fun b5 => ?_
 refine XO.q (Q.assign rfl) (XO.done (XK.seq (XK.region rfl ?_)))
 refine XO.q (Q.ldA [_, _, _, _] rfl rfl rfl) ?_
 refine XO.q (Q.move rfl) ?_
 refine XO.q (Q.ldA [_, _, _] rfl rfl rfl) ?_
 refine XO.call Tryz.call110 rfl rfl rfl (at_spec h vr vw vb vc hb hc ok t vt ht tk c ck vl) fun v18 s18 R18 => ?_
 obtain ⟨b19, vk, hk, rfl, rfl, OK⟩ := R18
 dsimp only [lcA, lnA]
 refine XO.q (Q.assign rfl) (XO.done (XK.seq (XK.region rfl (XO.q (Q.move rfl) ?_))))
 refine XO.q (Q.func (fun _ he => evs_rel he rfl) (fun _ he => rfl)) ?_
 refine XO.q (Q.move rfl) ?_
 refine XO.q (Q.func (fun _ he => evs_rel he rfl) (fun _ he => rfl)) ?_
 refine XO.q (Q.move rfl) ?_
 refine XO.q (Q.func (fun _ he => evs_rel he rfl) (fun _ he => rfl)) ?_
 refine XO.q (Q.build [_, _, _] (.c 0 1 rfl rfl rfl (.c 1 1 rfl rfl rfl (.c 2 1 rfl rfl rfl (.n _))))) ?_
 refine XO.alloc fun b8 => ?_
 refine XO.st rfl rfl rfl ?_
 refine XO.done (XK.seq (XK.region rfl (XO.q (Q.assign rfl) (XO.done (XK.seq ?_)))))
 refine XK.seq (XK.region rfl ?_)
 refine XO.q (Q.fieldAddr rfl) ?_
 refine XO.q (Q.ld rfl rfl) ?_
 refine XO.len rfl fun l28 => ?_
 refine XO.q (Q.move rfl) (XO.done (XK.block ?_))
 refine XK.while (X := Nat × Value × PHeap) [9, 10, 11, 12, 14, 29, 30, 31, 32, 33, 34, 35, 36, 37, 38, 39, 40, 41, 42, 43, 44, 45, 46, 47, 48, 49, 50, 51, 52, 53, 54, 55, 56, 57, 58, 59] (fun ⟨i, vO, hO⟩ => [(29, some (.int .i64 (i : Nat))), (9, some (vO))]) (fun ⟨i, vO, hO⟩ => [hO]) (fun ⟨i, vO, hO⟩ => i ≤ h.rooms.length ∧ OArr vO encI 1 3 hO ((List.range i).map (nextAt h t c))) (fun ⟨i, vO, hO⟩ => h.rooms.length - i) (0, .slice none 0 0, emp) [emp] rfl ⟨by omega, by simpa using hnil⟩ (.c rfl (.c rfl (.base 0 rfl rfl))) ?_
 rintro ⟨i, vO, hO⟩ ⟨hi, OO⟩ ih0
 dsimp only [lcA, lnA] at ih0 ⊢
 refine XK.seq (XK.region rfl ?_)
 refine XO.q (Q.lss rfl rfl) ?_
 refine XO.done (XK.seq ?_)
 refine XK.if rfl (fun c0 => ?_) (fun c0 => ?_)
 ·skip
  have hrm := ok.room i (by omega)
  have hI := tk.rng i (by omega)
  change 0 ≤ t.getD i default ∧ t.getD i default ≤ 1000000 at hI
  have hm := mul_abs (p := (h.rooms.getD i default).store) (d := t.getD i default) (P := 1000000) (D := 1000000) (by omega) hrm.2.1 (by omega) hI.2 (by omega)
  have hl1 := ck.rng i (by have := ck.len; omega)
  have hw1 := wsum_abs ok tk ck.out (i := i) (n := h.walls.length) (by omega) (Nat.le_refl _)
  have hc1 := csum_abs ok tk ck.pump.1 ck.pump.2 (i := i) (n := h.coolers.length) (Nat.le_refl _)
  have hnn := heat_nonneg ok tk ck (i := i) (by omega)
  have hnu : heatOf h t c i ≤ 10000000000000 := by unfold heatOf; change (h.rooms.getD i default).store * t.getD i default + _ + _ + _ ≤ _; omega
  refine XK.skip (XK.seq (XK.block (XK.seq (XK.region rfl (XO.q (Q.move rfl) ?_)))))
  refine XO.ix rfl rfl (by omega) (by omega) fun i32 => ?_
  refine XO.q (Q.ldEA [_, _] rfl (by first | assumption | omega) rfl rfl) ?_
  refine XO.alloc fun b11 => ?_
  refine XO.q (Q.assign rfl) ?_
  refine XO.st rfl rfl rfl ?_
  refine XO.done (XK.seq ?_)
  refine XK.drawn [0, 1, 2, 3, 4, 5, 6, 7] [b11] [] (.q 0 (.q 1 (.q 2 (.q 3 (.q 4 (.q 5 (.q 6 (.q 7 .done)))))))) Tryz.mixed rfl (by kernel_rfl) ?_
  refine XT.q rfl rfl (Q.fieldAddr rfl) ?_
  refine XT.q rfl rfl (Q.ld rfl rfl) ?_
  refine XT.q rfl rfl (Q.move rfl) ?_
  refine XT.q rfl rfl (Q.move rfl) ?_
  refine XT.ix rfl rfl rfl rfl (by omega) (by omega) fun i38 => ?_
  refine XT.q rfl rfl (Q.ldE rfl (by first | assumption | omega) rfl) ?_
  refine XT.q rfl rfl (Q.mul rfl rfl ⟨by omega, by omega⟩) ?_
  refine XT.q rfl rfl (Q.assign rfl) ?_
  refine XT.done ?_
  refine XK.seq (XK.seq (XK.region rfl ?_))
  rw [show (h.rooms.getD i default).store * t.getD i default = (h.rooms.getD i default).store * t.getD i default + sumTo (fun j => ([c.load.getD i 0, sumTo (wheat h t c.out i) h.walls.length, sumTo (cheat h (takenL h t c.pump) i) h.coolers.length] : List Int).getD j default) 0 by rw [sumTo, Int.add_zero]]
  refine XO.q (Q.ldA [_, _, _] rfl rfl rfl) ?_
  refine XO.q (Q.move rfl) (XO.done (XK.block ?_))
  refine XK.while (X := Nat) [12, 14, 42, 43, 44, 45, 46, 47, 48, 49, 50] (fun j => [(42, some (.int .i64 (j : Nat))), (12, some (.int .i64 ((h.rooms.getD i default).store * t.getD i default + sumTo (fun j => ([c.load.getD i 0, sumTo (wheat h t c.out i) h.walls.length, sumTo (cheat h (takenL h t c.pump) i) h.coolers.length] : List Int).getD j default) j)))]) (fun j => []) (fun j => j ≤ 3) (fun j => 3 - j) (0) [] rfl (by omega) (.c rfl (.c rfl (.base 0 rfl rfl))) ?_
  rintro j hj ih1
  dsimp only [lcA, lnA] at ih1 ⊢
  refine XK.seq (XK.region rfl ?_)
  refine XO.q (Q.lss rfl rfl) ?_
  refine XO.done (XK.seq ?_)
  refine XK.if rfl (fun c1 => ?_) (fun c1 => ?_)
  ·skip
   have hpj : -1600000000000 ≤ ([c.load.getD i 0, sumTo (wheat h t c.out i) h.walls.length, sumTo (cheat h (takenL h t c.pump) i) h.coolers.length] : List Int).getD j default ∧ ([c.load.getD i 0, sumTo (wheat h t c.out i) h.walls.length, sumTo (cheat h (takenL h t c.pump) i) h.coolers.length] : List Int).getD j default ≤ 1600000000000 := three_bd7 (by omega) hw1 hc1 (by omega)
   have hsj := sum_abs (f := (fun j => ([c.load.getD i 0, sumTo (wheat h t c.out i) h.walls.length, sumTo (cheat h (takenL h t c.pump) i) h.coolers.length] : List Int).getD j default)) (n := j) (M := 1600000000000) fun k hk => three_bd7 (by omega) hw1 hc1 (by omega)
   refine XK.skip (XK.seq (XK.block (XK.seq (XK.region rfl ?_))))
   refine XO.q (Q.index1 (v := ([.func (.func 111) #[ptr b19 0] #[], .func (.func 112) #[ptr b19 0] #[], .func (.func 113) #[ptr b19 0] #[]] : List Value).getD j default) rfl rfl (by omega) (by omega) (list_get (by show j < 3; omega))) ?_
   refine XO.q (Q.assign rfl) (XO.done (XK.region rfl (XO.q (Q.move rfl) (XO.q (Q.move rfl) (XO.q (Q.move rfl) ?_)))))
   refine XO.vcall rfl rfl (carr_spec h ok b19 vr vw vb vc vl vt vk c hw hc hl ht hk t tk ck i (by omega) j (by omega)) fun v48 s48 R48 => ?_
   obtain ⟨rfl, rfl⟩ := R48
   dsimp only [lcA, lnA]
   refine XO.q (Q.add rfl rfl ⟨by omega, by omega⟩) ?_
   refine XO.q (Q.assign rfl) (XO.done ?_)
   refine XK.inBlock ?_
   refine XK.region rfl ?_
   refine XO.q (Q.add rfl rfl ⟨by omega, by omega⟩) ?_
   refine XO.q (Q.move rfl) (XO.done ?_)
   rw [show (h.rooms.getD i default).store * t.getD i default + sumTo (fun j => ([c.load.getD i 0, sumTo (wheat h t c.out i) h.walls.length, sumTo (cheat h (takenL h t c.pump) i) h.coolers.length] : List Int).getD j default) j + ([c.load.getD i 0, sumTo (wheat h t c.out i) h.walls.length, sumTo (cheat h (takenL h t c.pump) i) h.coolers.length] : List Int).getD j default = (h.rooms.getD i default).store * t.getD i default + sumTo (fun j => ([c.load.getD i 0, sumTo (wheat h t c.out i) h.walls.length, sumTo (cheat h (takenL h t c.pump) i) h.coolers.length] : List Int).getD j default) (j + 1) by rw [sumTo, Int.add_assoc]]
   exact ih1 (j + 1) _ _ (by omega) (by first | omega | (dsimp only; omega)) (.c rfl (.c rfl (.base 24 rfl rfl))) inferInstance
  ·skip
   have hj3 : j = 3 := by omega
   rw [hj3]
   rw [show (h.rooms.getD i default).store * t.getD i default + sumTo (fun j => ([c.load.getD i 0, sumTo (wheat h t c.out i) h.walls.length, sumTo (cheat h (takenL h t c.pump) i) h.coolers.length] : List Int).getD j default) 3 = heatOf h t c i by rw [heatOf]; exact sum_three ..]
   refine XK.exit rfl ?_
   refine XK.region rfl (XO.q (Q.move rfl) (XO.q (Q.move rfl) ?_))
   refine XO.q (Q.fieldAddr rfl) ?_
   refine XO.q (Q.ld rfl rfl) ?_
   refine XO.q (Q.quo rfl rfl (by omega) (by omega) (by omega)) ?_
   refine XO.q (Q.min rfl rfl) ?_
   refine XO.lit [_] [_] [_] encI (by rfl) (by rfl) rfl (by rfl) (by exact .c 0 1 rfl rfl rfl (.n _)) (fun _ => rfl) (by rfl) rfl (by infer_instance) rfl fun v57 h57 O57 => ?_
   refine XO.append rfl rfl rfl rfl (by simp only [List.length_map, List.length_range, List.length_cons, List.length_nil]; omega) fun v58 h58 O58 => ?_
   refine XO.q (Q.assign rfl) (XO.done ?_)
   refine XK.inBlock ?_
   refine XK.region rfl ?_
   refine XO.q (Q.add rfl rfl ⟨by omega, by omega⟩) ?_
   refine XO.q (Q.move rfl) (XO.done ?_)
   exact ih0 (i + 1, v58, h58) _ _ ⟨by dsimp only; omega, by dsimp only; rw [show (List.range (i + 1)).map (nextAt h t c) = (List.range i).map (nextAt h t c) ++ [nextAt h t c i] by rw [List.range_succ, List.map_append]; rfl]; exact O58⟩ (by first | omega | (dsimp only; omega)) (.c rfl (.c rfl (.base 79 rfl rfl))) inferInstance
 ·skip
  refine XK.exit rfl ?_
  refine XK.seq (XK.region rfl (XO.q (Q.move rfl) (XO.q (Q.assign rfl) (XO.done ?_))))
  refine XK.rt [hO] Tryz.func53 Tryz.results53 (.t rfl .n) ?_
  have hin : i = h.rooms.length := by omega
  rw [hin] at OO
  exact ⟨hO, rfl, OO⟩
end Go.X.Ht

set_option linter.unusedSimpArgs false
set_option linter.unusedVariables false
set_option maxRecDepth 20000
namespace Go.X.Ht
open Go.Proofs
theorem cloneI (v : Value) (h : PHeap) (xs : List Int) [s : Arr v encI 1 h xs] (hl : xs.length ≤ 68719476736) :
  Spec Tryz.prog 59 #[v] [] [h] (fun v' hs => ∃ h', hs = [h'] ∧ OArr v' encI 1 3 h' xs) := by apply Go.X.Bk.cloneI <;> assumption
theorem equalI (v1 v2 : Value) (h1 h2 : PHeap) (xs ys : List Int) [s1 : Arr v1 encI 1 h1 xs] [s2 : Arr v2 encI 1 h2 ys] :
  Spec Tryz.prog 35 #[v1, v2] [] [h1, h2] (fun v hs => v = .bool (decide (xs = ys)) ∧ hs = []) := by apply Go.X.Bk.equalI <;> assumption
theorem indexFuncI (v : Value) (h : PHeap) (xs : List Int) [s : Arr v encI 1 h xs] (gid : FuncId) (cap : List Value) (Hr : List PHeap) (p : Int → Bool)
  (hc : ∀ args w, (callFunc gid args).run Tryz.prog w = .ok (.enter gid args) w) (hS : ∀ x ∈ xs, Spec Tryz.prog gid (.int .i64 x :: cap).toArray [] Hr (fun v hs => v = .bool (p x) ∧ hs = [])) :
  Spec Tryz.prog 159 #[v, .func (.func gid) #[] cap.toArray] [] (h :: Hr) (fun v hs => v = .int .i64 (findFirst p xs) ∧ hs = []) := by apply Go.X.Bk.indexFuncI <;> assumption
theorem containsFuncI (v : Value) (h : PHeap) (xs : List Int) [s : Arr v encI 1 h xs] (gid : FuncId) (cap : List Value) (Hr : List PHeap) (p : Int → Bool)
  (hc : ∀ args w, (callFunc gid args).run Tryz.prog w = .ok (.enter gid args) w) (hS : ∀ x ∈ xs, Spec Tryz.prog gid (.int .i64 x :: cap).toArray [] Hr (fun v hs => v = .bool (p x) ∧ hs = [])) :
  Spec Tryz.prog 97 #[v, .func (.func gid) #[] cap.toArray] [] (h :: Hr) (fun v hs => v = .bool (xs.any p) ∧ hs = []) := by apply Go.X.Bk.containsFuncI <;> assumption
theorem warm1 (x : Int) : Spec Tryz.prog 108 #[.int .i64 x] [] [] (fun v hs => v = .bool (!inP x 1000000) ∧ hs = []) := by
 refine Spec.intro (fn := Tryz.f108) (N := 6) Tryz.func108 rfl Tryz.ntmps108 rfl fun B => ?_
 refine XK.seq (XK.region rfl (XO.q (Q.assign rfl) (XO.done (XK.seq (XK.region rfl ?_)))))
 refine XO.q (Q.move rfl) ?_
 refine XO.call Tryz.call61 rfl rfl rfl (in_spec _ _) fun v4 s4 R4 => ?_
 obtain ⟨rfl, rfl⟩ := R4
 dsimp only [lcA, lnA]
 refine XO.q (Q.not rfl) ?_
 refine XO.q (Q.assign rfl) (XO.done ?_)
 refine XK.rt [] Tryz.func108 Tryz.results108 (.t rfl .n) ?_
 exact ⟨rfl, rfl⟩
theorem cased1 (x : Int) : Spec Tryz.prog 109 #[.int .i64 x] [] [] (fun v hs => v = .bool (!inP x 10000000) ∧ hs = []) := by
 refine Spec.intro (fn := Tryz.f109) (N := 6) Tryz.func109 rfl Tryz.ntmps109 rfl fun B => ?_
 refine XK.seq (XK.region rfl (XO.q (Q.assign rfl) (XO.done (XK.seq (XK.region rfl ?_)))))
 refine XO.q (Q.move rfl) ?_
 refine XO.call Tryz.call61 rfl rfl rfl (in_spec _ _) fun v4 s4 R4 => ?_
 obtain ⟨rfl, rfl⟩ := R4
 dsimp only [lcA, lnA]
 refine XO.q (Q.not rfl) ?_
 refine XO.q (Q.assign rfl) (XO.done ?_)
 refine XK.rt [] Tryz.func109 Tryz.results109 (.t rfl .n) ?_
 exact ⟨rfl, rfl⟩
theorem warm_spec (h : Hall) (vr vw vb vc : Value) (hr : PHeap) [ir : Arr vr encRoom 2 hr h.rooms] [iw : One vw] [ib : One vb] [ic : One vc] (vt : Value) (ht : PHeap) (t : List Int) [it : Arr vt encI 1 ht t] : Spec Tryz.prog 51 #[.agg #[vr, vw, vb, vc], vt] [] [hr, ht]
  (fun v hs => v = .int .i64 (warmP h t) ∧ hs = []) := by
 refine Spec.intro (fn := Tryz.f51) (N := 13) Tryz.func51 rfl Tryz.ntmps51 rfl fun B => ?_
 refine XK.seq (XK.region rfl ?_)
 refine XO.box rfl fun b2 => ?_
 refine XO.q (Q.assign rfl) (XO.done (XK.seq (XK.seq (XK.region rfl (XO.q (Q.move rfl) ?_)))))
 refine XO.len rfl fun l6 => ?_
 refine XO.q (Q.fieldAddr rfl) ?_
 refine XO.q (Q.ld rfl rfl) ?_
 refine XO.len rfl fun l9 => ?_
 refine XO.q (Q.neq rfl rfl) ?_
 refine XO.done ?_
 refine XK.if rfl (fun c0 => ?_) (fun c0 => ?_)
 ·skip
  refine XK.seq (XK.region rfl (XO.q (Q.assign rfl) (XO.done ?_)))
  refine XK.rt [] Tryz.func51 Tryz.results51 (.t rfl .n) ?_
  exact ⟨by rw [warmP, if_pos c0], rfl⟩
 ·skip
  refine XK.skip (XK.seq (XK.seq (XK.region rfl (XO.q (Q.move rfl) ?_))))
  refine XO.call Tryz.call97 rfl rfl rfl (containsFuncI vt ht t 108 [] [] _ Tryz.call108 (fun x hx => warm1 x)) fun v12 s12 R12 => ?_
  obtain ⟨rfl, rfl⟩ := R12
  dsimp only [lcA, lnA]
  refine XO.done ?_
  refine XK.if rfl (fun c1 => ?_) (fun c1 => ?_)
  ·skip
   refine XK.seq (XK.region rfl (XO.q (Q.assign rfl) (XO.done ?_)))
   refine XK.rt [] Tryz.func51 Tryz.results51 (.t rfl .n) ?_
   exact ⟨by rw [warmP, if_neg c0, if_pos c1], rfl⟩
  ·skip
   refine XK.skip (XK.seq (XK.region rfl (XO.q (Q.assign rfl) (XO.done ?_))))
   refine XK.rt [] Tryz.func51 Tryz.results51 (.t rfl .n) ?_
   exact ⟨by rw [warmP, if_neg c0, if_neg c1], rfl⟩
theorem cased_spec (h : Hall) (vr vw vb vc : Value) (hr : PHeap) [ir : Arr vr encRoom 2 hr h.rooms] [iw : One vw] [ib : One vb] [ic : One vc] (vl : Value) (hl : PHeap) (c : HCase) [il : Arr vl encI 1 hl c.load] : Spec Tryz.prog 52 #[.agg #[vr, vw, vb, vc], .agg #[vl, .int .i64 c.out, .int .i64 c.pump]] [] [hr, hl]
  (fun v hs => v = .int .i64 (casedP h c) ∧ hs = []) := by
 refine Spec.intro (fn := Tryz.f52) (N := 27) Tryz.func52 rfl Tryz.ntmps52 rfl fun B => ?_
 refine XK.seq (XK.region rfl ?_)
 refine XO.box rfl fun b2 => ?_
 refine XO.box rfl fun b3 => ?_
 refine XO.q (Q.assign rfl) (XO.done (XK.seq (XK.seq (XK.region rfl ?_))))
 refine XO.q (Q.fieldAddr rfl) ?_
 refine XO.q (Q.ld rfl rfl) ?_
 refine XO.len rfl fun l7 => ?_
 refine XO.q (Q.fieldAddr rfl) ?_
 refine XO.q (Q.ld rfl rfl) ?_
 refine XO.len rfl fun l10 => ?_
 refine XO.q (Q.neq rfl rfl) ?_
 refine XO.done ?_
 refine XK.if rfl (fun c0 => ?_) (fun c0 => ?_)
 ·skip
  refine XK.seq (XK.region rfl (XO.q (Q.assign rfl) (XO.done ?_)))
  refine XK.rt [] Tryz.func52 Tryz.results52 (.t rfl .n) ?_
  exact ⟨by rw [casedP, if_pos c0], rfl⟩
 ·skip
  refine XK.skip (XK.seq (XK.seq (XK.region rfl ?_)))
  refine XO.q (Q.fieldAddr rfl) ?_
  refine XO.q (Q.ld rfl rfl) ?_
  refine XO.call Tryz.call97 rfl rfl rfl (containsFuncI vl hl c.load 109 [] [] _ Tryz.call109 (fun x hx => cased1 x)) fun v14 s14 R14 => ?_
  obtain ⟨rfl, rfl⟩ := R14
  dsimp only [lcA, lnA]
  refine XO.q (Q.move rfl) ?_
  refine XO.q (Quiet.guardF rfl rfl fun g16 p16 => Q.fieldAddr rfl) ?_
  refine XO.q (Quiet.guardF rfl rfl fun g17 p17 => Q.ld (lzv g17 rfl) rfl) ?_
  refine XO.gcallF rfl rfl Tryz.call61 rfl (fun g18 => .c (lzv g18 rfl) (.c rfl .n)) rfl (fun g18 p18 => in_spec _ _) ?_
  refine XO.q (Quiet.guardF rfl rfl fun g19 p19 => Q.not (lzv g19 rfl)) ?_
  refine XO.q (Q.or rfl (fun hp => lzv hp rfl)) ?_
  refine XO.q (Q.move rfl) ?_
  refine XO.q (Quiet.guardF rfl rfl fun g22 p22 => Q.fieldAddr rfl) ?_
  refine XO.q (Quiet.guardF rfl rfl fun g23 p23 => Q.ld (lzv g23 rfl) rfl) ?_
  refine XO.gcallF rfl rfl Tryz.call61 rfl (fun g24 => .c (lzv g24 rfl) (.c rfl .n)) rfl (fun g24 p24 => in_spec _ _) ?_
  refine XO.q (Quiet.guardF rfl rfl fun g25 p25 => Q.not (lzv g25 rfl)) ?_
  refine XO.q (Q.or rfl (fun hp => lzv hp rfl)) ?_
  refine XO.done ?_
  refine XK.if rfl (fun c1 => ?_) (fun c1 => ?_)
  ·skip
   refine XK.seq (XK.region rfl (XO.q (Q.assign rfl) (XO.done ?_)))
   refine XK.rt [] Tryz.func52 Tryz.results52 (.t rfl .n) ?_
   exact ⟨by rw [casedP, if_neg c0, if_pos c1], rfl⟩
  ·skip
   refine XK.skip (XK.seq (XK.region rfl (XO.q (Q.assign rfl) (XO.done ?_))))
   refine XK.rt [] Tryz.func52 Tryz.results52 (.t rfl .n) ?_
   exact ⟨by rw [casedP, if_neg c0, if_neg c1], rfl⟩
theorem indexE (v : Value) (hh : PHeap) (xs : List Int) [s : Arr v encI 1 hh xs] (x : Int) : Spec Tryz.prog 165 #[v, .int .i64 x] [] [hh] (fun v hs => v = .int .i64 (findFirst (fun y => decide (x = y)) xs) ∧ hs = []) := by
 refine Spec.intro (fn := Tryz.f165) (N := 19) Tryz.func165 rfl Tryz.ntmps165 rfl fun B => ?_
 refine XK.seq (XK.region rfl (XO.q (Q.assign rfl) (XO.done (XK.seq (XK.seq ?_)))))
 refine XK.region rfl (XO.q (Q.move rfl) ?_)
 refine XO.len rfl fun l7 => ?_
 refine XO.q (Q.move rfl) (XO.done (XK.block ?_))
 refine XK.while (X := Nat) [4, 5, 8, 9, 10, 11, 12, 13, 14, 15, 16, 17, 18] (fun i => [(8, some (.int .i64 (i : Nat)))]) (fun i => []) (fun i => i ≤ xs.length ∧ (xs.take i).any (fun y => decide (x = y)) = false) (fun i => xs.length - i) (0) [] rfl ⟨by omega, rfl⟩ (.c rfl (.base 0 rfl rfl)) ?_
 rintro i ⟨hi, hany⟩ ih0
 dsimp only [lcA, lnA] at ih0 ⊢
 refine XK.seq (XK.region rfl ?_)
 refine XO.q (Q.lss rfl rfl) ?_
 refine XO.done (XK.seq ?_)
 refine XK.if rfl (fun c0 => ?_) (fun c0 => ?_)
 ·skip
  refine XK.skip (XK.seq (XK.block (XK.seq (XK.region rfl (XO.q (Q.move rfl) ?_)))))
  refine XO.q (Q.assign rfl) (XO.done (XK.seq (XK.region rfl (XO.q (Q.move rfl) (XO.q (Q.move rfl) ?_)))))
  refine XO.q (Q.move rfl) ?_
  refine XO.ix rfl rfl (by omega) (by omega) fun i14 => ?_
  refine XO.q (Q.ldE rfl (by first | assumption | omega) rfl) ?_
  refine XO.q (Q.eql rfl rfl) ?_
  refine XO.done ?_
  refine XK.if rfl (fun c1 => ?_) (fun c1 => ?_)
  ·skip
   refine XK.seq (XK.region rfl (XO.q (Q.move rfl) (XO.q (Q.assign rfl) (XO.done ?_))))
   refine XK.rt [] Tryz.func165 Tryz.results165 (.t rfl .n) ?_
   exact ⟨by rw [findFirst_here hany (by omega) (by rw [decide_eq_true_eq]; exact c1)], rfl⟩
  ·skip
   refine XK.skip ?_
   refine XK.inBlock ?_
   refine XK.region rfl ?_
   refine XO.q (Q.add rfl rfl ⟨by omega, by omega⟩) ?_
   refine XO.q (Q.move rfl) (XO.done ?_)
   exact ih0 (i + 1) _ _ ⟨by omega, any_step hany (by omega) (by rw [decide_eq_false_iff_not]; exact c1)⟩ (by first | omega | (dsimp only; omega)) (.c rfl (.base 25 rfl rfl)) inferInstance
 ·skip
  refine XK.exit rfl ?_
  refine XK.seq (XK.region rfl (XO.q (Q.assign rfl) (XO.done ?_)))
  refine XK.rt [] Tryz.func165 Tryz.results165 (.t rfl .n) ?_
  exact ⟨by rw [findFirst_none hany c0], rfl⟩
theorem containsE (v : Value) (hh : PHeap) (xs : List Int) [s : Arr v encI 1 hh xs] (x : Int) : Spec Tryz.prog 107 #[v, .int .i64 x] [] [hh] (fun v hs => v = .bool (xs.any (fun y => decide (x = y))) ∧ hs = []) := by
 refine Spec.intro (fn := Tryz.f107) (N := 9) Tryz.func107 rfl Tryz.ntmps107 rfl fun B => ?_
 refine XK.seq (XK.region rfl (XO.q (Q.assign rfl) (XO.done (XK.seq (XK.region rfl ?_)))))
 refine XO.q (Q.move rfl) (XO.q (Q.move rfl) ?_)
 refine XO.call Tryz.call165 rfl rfl rfl (indexE v hh xs x) fun v7 s7 R7 => ?_
 obtain ⟨rfl, rfl⟩ := R7
 dsimp only [lcA, lnA]
 refine XO.q (Q.geq rfl rfl) ?_
 refine XO.q (Q.assign rfl) (XO.done ?_)
 refine XK.rt [] Tryz.func107 Tryz.results107 (.t rfl .n) ?_
 exact ⟨by rw [← findFirst_any], rfl⟩
theorem any_mem {x : Int} {xs : List Int} : xs.any (fun y => decide (x = y)) = true ↔ x ∈ xs := by
 rw [List.any_eq_true]
 exact ⟨fun ⟨y, hy, h⟩ => by rw [decide_eq_true_eq] at h; exact h ▸ hy, fun h => ⟨x, h, by simp⟩⟩
theorem both_spec (v : Value) (hh : PHeap) (xs : List Int) [s : Arr v encI 1 hh xs] : Spec Tryz.prog 50 #[v] [] [hh] (fun v hs => v = .int .i64 (bothP xs) ∧ hs = []) := by
 refine Spec.intro (fn := Tryz.f50) (N := 16) Tryz.func50 rfl Tryz.ntmps50 rfl fun B => ?_
 refine XK.seq (XK.region rfl (XO.q (Q.assign rfl) (XO.done (XK.seq (XK.seq ?_)))))
 refine XK.region rfl ?_
 refine XO.lit [_, _] [_, _] [1, 6] encI (by rfl) (by rfl) rfl (by rfl) (by exact .c 0 1 rfl rfl rfl (.c 1 1 rfl rfl rfl (.n _))) (fun _ => rfl) (by rfl) rfl (by infer_instance) rfl fun v5 h5 O5 => ?_
 refine XO.len rfl fun l6 => ?_
 rw [show (((([1, 6] : List Int).length : Nat) : Int)) = 2 from rfl]
 refine XO.q (Q.move rfl) (XO.done (XK.block ?_))
 refine XK.while (X := Nat) [2, 4, 7, 8, 9, 10, 11, 12, 13, 14, 15] (fun i => [(7, some (.int .i64 (i : Nat)))]) (fun i => []) (fun i => i ≤ 2 ∧ (0 < i → ¬ (1 : Int) ∈ xs) ∧ (1 < i → ¬ (6 : Int) ∈ xs)) (fun i => 2 - i) (0) [] rfl ⟨by omega, by omega, by omega⟩ (.c rfl (.base 0 rfl rfl)) ?_
 rintro i ⟨hi, h0, h1⟩ ih0
 dsimp only [lcA, lnA] at ih0 ⊢
 refine XK.seq (XK.region rfl ?_)
 refine XO.q (Q.lss rfl rfl) ?_
 refine XO.done (XK.seq ?_)
 refine XK.if rfl (fun c0 => ?_) (fun c0 => ?_)
 ·skip
  refine XK.skip (XK.seq (XK.block (XK.seq (XK.region rfl ?_))))
  refine XO.ix rfl rfl (by omega) (by show (i : Int) < 2; omega) fun i9 => ?_
  refine XO.q (Q.ldE rfl (by first | assumption | omega) rfl) ?_
  refine XO.q (Q.assign rfl) (XO.done (XK.seq (XK.region rfl (XO.q (Q.move rfl) (XO.q (Q.move rfl) ?_)))))
  refine XO.call Tryz.call107 rfl rfl rfl (containsE v hh xs _) fun v13 s13 R13 => ?_
  obtain ⟨rfl, rfl⟩ := R13
  dsimp only [lcA, lnA]
  refine XO.done ?_
  refine XK.if rfl (fun c1 => ?_) (fun c1 => ?_)
  ·skip
   refine XK.seq (XK.region rfl (XO.q (Q.move rfl) (XO.q (Q.assign rfl) (XO.done ?_))))
   refine XK.rt [] Tryz.func50 Tryz.results50 (.t rfl .n) ?_
   rw [any_mem] at c1
   match i, (by omega : i < 2) with
   | 0, _ => exact ⟨by rw [bothP, if_pos (show (1 : Int) ∈ xs from c1)]; rfl, rfl⟩
   | 1, _ => exact ⟨by rw [bothP, if_neg (h0 (by omega)), if_pos (show (6 : Int) ∈ xs from c1)]; rfl, rfl⟩
  ·skip
   refine XK.skip ?_
   refine XK.inBlock ?_
   refine XK.region rfl ?_
   refine XO.q (Q.add rfl rfl ⟨by omega, by omega⟩) ?_
   refine XO.q (Q.move rfl) (XO.done ?_)
   rw [any_mem] at c1
   exact ih0 (i + 1) _ _ (by match i, (by omega : i < 2) with
     | 0, _ => exact ⟨by omega, fun _ => c1, by omega⟩
     | 1, _ => exact ⟨by omega, fun _ => h0 (by omega), fun _ => c1⟩) (by first | omega | (dsimp only; omega)) (.c rfl (.base 21 rfl rfl)) inferInstance
 ·skip
  refine XK.exit rfl ?_
  refine XK.seq (XK.region rfl (XO.q (Q.assign rfl) (XO.done ?_)))
  refine XK.rt [] Tryz.func50 Tryz.results50 (.t rfl .n) ?_
  have hi2 : i = 2 := by omega
  exact ⟨by rw [bothP, if_neg (h0 (by omega)), if_neg (h1 (by omega))], rfl⟩
theorem Next_spec (h : Hall) (vr vw vb vc : Value) (hr hw hb hc : PHeap) [ir : Arr vr encRoom 2 hr h.rooms] [iw : Arr vw encWall 3 hw h.walls] [ib : Arr vb encBranch 3 hb h.branches] [ic : Arr vc encCooler 5 hc h.coolers] (t : List Int) (vt : Value) (ht : PHeap) [it : Arr vt encI 1 ht t] (c : HCase) (vl : Value) (hl : PHeap) [il : Arr vl encI 1 hl c.load] : Spec Tryz.prog 16 #[.agg #[vr, vw, vb, vc], vt, .agg #[vl, .int .i64 c.out, .int .i64 c.pump]] [] [hr, hw, hb, hc, ht, hl]
  (fun v hs => ∃ v1 k1, v = .tuple #[v1, .int .i64 (nextG h t c).2] ∧ hs = [k1] ∧ OArr v1 encI 1 3 k1 (nextG h t c).1) := by
 refine Spec.intro (fn := Tryz.f16) (N := 30) Tryz.func16 rfl Tryz.ntmps16 rfl fun B => ?_
 refine XK.seq (XK.region rfl ?_)
 refine XO.box rfl fun b3 => ?_
 refine XO.box rfl fun b5 => ?_
 refine XO.q (Q.assign rfl) (XO.q (Q.assign rfl) (XO.done (XK.seq (XK.seq (XK.region rfl ?_)))))
 refine XO.q (Q.ldA [_, _, _, _] rfl rfl rfl) ?_
 refine XO.call Tryz.call49 rfl rfl rfl (Check_spec h vr vw vb vc hr hw hb hc) fun v11 s11 R11 => ?_
 obtain ⟨rfl, rfl⟩ := R11
 dsimp only [lcA, lnA]
 refine XO.q (Q.assign rfl) (XO.done (XK.seq (XK.region rfl (XO.q (Q.move rfl) ?_))))
 refine XO.q (Q.neq rfl rfl) ?_
 refine XO.done ?_
 refine XK.if rfl (fun c0 => ?_) (fun c0 => ?_)
 ·skip
  refine XK.seq (XK.region rfl (XO.q (Q.move rfl) (XO.q (Q.assign rfl) (XO.q (Q.assign rfl) (XO.done ?_)))))
  refine XK.rt [emp] Tryz.func16 Tryz.results16 (.t rfl (.t rfl .n)) ?_
  have hw0 : nextG h t c = ([], hcheck h) := by rw [nextG, if_pos c0]
  rw [hw0]
  exact ⟨.slice none 0 0, emp, rfl, rfl, OArr.nil (fun _ => rfl)⟩
 ·skip
  refine XK.skip (XK.seq (XK.seq ?_))
  refine XK.drawn [0, 1, 3, 4, 8] [b3, b5] [] (.q 0 (.q 1 (.q 3 (.q 4 (.br 2 true (.br 5 true (.br 6 true (.br 7 true (.q 8 .done) .stop) .stop) .stop) .stop))))) Tryz.mixed rfl (by kernel_rfl) ?_
  refine XT.q rfl rfl (Q.ldA [_, _, _, _] rfl rfl rfl) ?_
  refine XT.q rfl rfl (Q.move rfl) ?_
  refine XT.q rfl rfl (Q.ldA [_, _, _, _] rfl rfl rfl) ?_
  refine XT.q rfl rfl (Q.ldA [_, _, _] rfl rfl rfl) ?_
  refine XT.call rfl rfl Tryz.call51 rfl rfl rfl (warm_spec h vr vw vb vc hr vt ht t) (fun v17 s17 R17 => ?_) XT.stop
  obtain ⟨rfl, rfl⟩ := R17
  dsimp only [lcA, lnA]
  refine ⟨inferInstance, ?_⟩
  refine XT.call rfl rfl Tryz.call52 rfl rfl rfl (cased_spec h vr vw vb vc hr vl hl c) (fun v20 s20 R20 => ?_) XT.stop
  obtain ⟨rfl, rfl⟩ := R20
  dsimp only [lcA, lnA]
  refine ⟨inferInstance, ?_⟩
  refine XT.lit [_, _] [_, _] [warmP h t, casedP h c] encI rfl rfl (by rfl) (by rfl) rfl (by rfl) (by exact .c 0 1 rfl rfl rfl (.c 1 1 rfl rfl rfl (.n _))) (fun _ => rfl) (by rfl) rfl (by infer_instance) rfl (fun v21 h21 O21 => ⟨inferInstance, ?_⟩) XT.stop
  refine XT.call rfl rfl Tryz.call50 rfl rfl rfl (both_spec v21 h21 [warmP h t, casedP h c]) (fun v22 s22 R22 => ?_) XT.stop
  obtain ⟨rfl, rfl⟩ := R22
  dsimp only [lcA, lnA]
  refine ⟨inferInstance, ?_⟩
  refine XT.q rfl rfl (Q.assign rfl) ?_
  refine XT.done ?_
  refine XK.seq (XK.region rfl (XO.q (Q.move rfl) ?_))
  refine XO.q (Q.neq rfl rfl) ?_
  refine XO.done ?_
  refine XK.if rfl (fun c1 => ?_) (fun c1 => ?_)
  ·skip
   refine XK.seq (XK.region rfl (XO.q (Q.move rfl) (XO.q (Q.assign rfl) (XO.q (Q.assign rfl) (XO.done ?_)))))
   refine XK.rt [emp] Tryz.func16 Tryz.results16 (.t rfl (.t rfl .n)) ?_
   have hw0 : nextG h t c = ([], bothP [warmP h t, casedP h c]) := by rw [nextG, if_neg c0, if_pos c1]
   rw [hw0]
   exact ⟨.slice none 0 0, emp, rfl, rfl, OArr.nil (fun _ => rfl)⟩
  ·skip
   refine XK.skip (XK.seq (XK.region rfl ?_))
   refine XO.q (Q.ldA [_, _, _, _] rfl rfl rfl) ?_
   refine XO.q (Q.move rfl) ?_
   refine XO.q (Q.ldA [_, _, _] rfl rfl rfl) ?_
   refine XO.call Tryz.call53 rfl rfl rfl (next_spec7 h vr vw vb vc hr hw hb hc (hcheck_ok (Decidable.of_not_not c0)) t vt ht (both_ok (Decidable.of_not_not c1)).1 c (both_ok (Decidable.of_not_not c1)).2 vl hl) fun v29 s29 R29 => ?_
   obtain ⟨k1, rfl, O1⟩ := R29
   dsimp only [lcA, lnA]
   refine XO.q (Q.assign rfl) (XO.q (Q.assign rfl) (XO.done ?_))
   refine XK.rt [k1] Tryz.func16 Tryz.results16 (.t rfl (.t rfl .n)) ?_
   have hw0 : nextG h t c = (nextL h t c, 0) := by rw [nextG, if_neg c0, if_neg c1]
   rw [hw0]
   exact ⟨_, k1, rfl, rfl, O1⟩
end Go.X.Ht

set_option linter.unusedSimpArgs false
set_option maxRecDepth 20000
set_option linter.unusedVariables false
namespace Go.X.Ke
open Go.Proofs
theorem mul64_one (n : Nat) (h : n ≤ 4294967295) : Spec Tryz.prog 199 #[.int .u64 1, .int .u64 (n : Nat)] [] [] (fun v hs => v = .tuple #[.int .u64 0, .int .u64 (n : Nat)] ∧ hs = []) := by
 have h1 : (1 : Int) % 4294967296 = 1 := by decide
 have h2 : (1 : Int) / 4294967296 = 0 := by decide
 have h3 : (n : Int) % 4294967296 = n := by omega
 have h4 : (n : Int) / 4294967296 = 0 := by omega
 have h5 : (0 : Int) % 4294967296 = 0 := by decide
 have h6 : (0 : Int) / 4294967296 = 0 := by decide
 refine Spec.intro (fn := Tryz.f199) (N := 51) Tryz.func199 rfl Tryz.ntmps199 rfl fun B => ?_
 refine XK.seq (XK.region rfl (XO.q (Q.assign rfl) (XO.q (Q.assign rfl) (XO.done (XK.seq ?_)))))
 refine XK.region rfl (XO.q (Q.move rfl) ?_)
 refine XO.q (Q.mask32 rfl rfl (by omega)) ?_
 rw [h1]
 refine XO.q (Q.assign rfl) (XO.done (XK.seq (XK.region rfl (XO.q (Q.move rfl) ?_))))
 refine XO.q (Q.shr32 rfl rfl) ?_
 rw [h2]
 refine XO.q (Q.assign rfl) (XO.done (XK.seq (XK.region rfl (XO.q (Q.move rfl) ?_))))
 refine XO.q (Q.mask32 rfl rfl (by omega)) ?_
 rw [h3]
 refine XO.q (Q.assign rfl) (XO.done (XK.seq (XK.region rfl (XO.q (Q.move rfl) ?_))))
 refine XO.q (Q.shr32 rfl rfl) ?_
 rw [h4]
 refine XO.q (Q.assign rfl) (XO.done (XK.seq (XK.region rfl (XO.q (Q.move rfl) (XO.q (Q.move rfl) ?_)))))
 refine XO.q (Q.mulU rfl rfl (by omega)) ?_
 rw [Int.one_mul]
 refine XO.q (Q.assign rfl) (XO.done (XK.seq (XK.region rfl (XO.q (Q.move rfl) (XO.q (Q.move rfl) ?_)))))
 refine XO.q (Q.mulU rfl rfl (by omega)) ?_
 rw [Int.zero_mul]
 refine XO.q (Q.move rfl) ?_
 refine XO.q (Q.shr32 rfl rfl) ?_
 rw [h4]
 refine XO.q (Q.addU rfl rfl (by omega)) ?_
 rw [Int.add_zero]
 refine XO.q (Q.assign rfl) (XO.done (XK.seq (XK.region rfl (XO.q (Q.move rfl) ?_))))
 refine XO.q (Q.mask32 rfl rfl (by omega)) ?_
 rw [h5]
 refine XO.q (Q.assign rfl) (XO.done (XK.seq (XK.region rfl (XO.q (Q.move rfl) ?_))))
 refine XO.q (Q.shr32 rfl rfl) ?_
 rw [h6]
 refine XO.q (Q.assign rfl) (XO.done (XK.seq (XK.region rfl (XO.q (Q.move rfl) (XO.q (Q.move rfl) ?_)))))
 refine XO.q (Q.move rfl) ?_
 refine XO.q (Q.mulU rfl rfl (by omega)) ?_
 rw [Int.mul_zero]
 refine XO.q (Q.addU rfl rfl (by omega)) ?_
 rw [Int.add_zero]
 refine XO.q (Q.assign rfl) (XO.done (XK.seq (XK.region rfl (XO.q (Q.move rfl) (XO.q (Q.move rfl) ?_)))))
 refine XO.q (Q.mulU rfl rfl (by omega)) ?_
 rw [Int.mul_zero]
 refine XO.q (Q.move rfl) ?_
 refine XO.q (Q.addU rfl rfl (by omega)) ?_
 rw [Int.add_zero]
 refine XO.q (Q.move rfl) ?_
 refine XO.q (Q.shr32 rfl rfl) ?_
 rw [h6]
 refine XO.q (Q.addU rfl rfl (by omega)) ?_
 rw [Int.add_zero]
 refine XO.q (Q.assign rfl) (XO.done (XK.seq (XK.region rfl (XO.q (Q.move rfl) (XO.q (Q.move rfl) ?_)))))
 refine XO.q (Q.mulU rfl rfl (by omega)) ?_
 rw [Int.one_mul]
 refine XO.q (Q.assign rfl) (XO.done ?_)
 refine XK.rt [] Tryz.func199 Tryz.results199 (.t rfl (.t rfl .n)) ?_
 exact ⟨rfl, rfl⟩
theorem mul_one' (n : Nat) (h : n ≤ 4294967295) : Spec Tryz.prog 160 #[.int .u64 1, .int .u64 (n : Nat)] [] [] (fun v hs => v = .tuple #[.int .u64 0, .int .u64 (n : Nat)] ∧ hs = []) := by
 refine Spec.intro (fn := Tryz.f160) (N := 30) Tryz.func160 rfl Tryz.ntmps160 rfl fun B => ?_
 refine XK.seq (XK.region rfl (XO.q (Q.assign rfl) (XO.q (Q.assign rfl) (XO.done (XK.seq ?_)))))
 refine XK.if rfl (fun c0 => ?_) (fun c0 => ?_)
 ·skip
  exact c0.elim
 ·skip
  refine XK.skip (XK.seq (XK.region rfl (XO.q (Q.move rfl) (XO.q (Q.move rfl) ?_))))
  refine XO.call Tryz.call199 rfl rfl rfl (mul64_one n h) fun v25 s25 R25 => ?_
  obtain ⟨rfl, rfl⟩ := R25
  dsimp only [lcA, lnA]
  refine XO.q (Q.move rfl) ?_
  refine XO.q (Q.extract rfl rfl) ?_
  refine XO.q (Q.extract rfl rfl) ?_
  refine XO.q (Q.assign rfl) (XO.q (Q.assign rfl) (XO.done (XK.seq (XK.region rfl (XO.q (Q.move rfl) ?_)))))
  refine XO.q (Q.move rfl) (XO.q (Q.assign rfl) (XO.q (Q.assign rfl) (XO.done ?_)))
  refine XK.rt [] Tryz.func160 Tryz.results160 (.t rfl (.t rfl .n)) ?_
  exact ⟨rfl, rfl⟩
theorem repeatI (v : Value) (h : PHeap) (x : Int) [s : Arr v encI 1 h [x]] (n : Nat) (hn : n ≤ 4294967295) : Spec Tryz.prog 100 #[v, .int .i64 (n : Nat)] [] [h] (fun v' hs => ∃ h', hs = [h'] ∧ OArr v' encI 1 3 h' (List.replicate n x)) := by
 have hw1 : IntKind.u64.wrap ((([x] : List Int).length : Nat) : Int) = 1 := rfl
 have hw2 : IntKind.u64.wrap ((n : Nat) : Int) = n := wrapu64 (by omega)
 have hw3 : IntKind.i64.wrap ((n : Nat) : Int) = n := wrap64_of ⟨by omega, by omega⟩
 have hl1 : ([x] : List Int).length = 1 := rfl
 refine Spec.intro (fn := Tryz.f100) (N := 48) Tryz.func100 rfl Tryz.ntmps100 rfl fun B => ?_
 refine XK.seq (XK.region rfl (XO.q (Q.assign rfl) (XO.done (XK.seq (XK.seq ?_)))))
 refine XK.region rfl (XO.q (Q.move rfl) ?_)
 refine XO.q (Q.lss rfl rfl) ?_
 refine XO.done ?_
 refine XK.if rfl (fun c0 => ?_) (fun c0 => ?_)
 ·skip
  exact absurd c0 (by omega)
 ·skip
  refine XK.skip (XK.seq (XK.region rfl (XO.q (Q.move rfl) ?_)))
  refine XO.len rfl fun l14 => ?_
  refine XO.q (Q.conv rfl) ?_
  rw [hw1]
  refine XO.q (Q.move rfl) ?_
  refine XO.q (Q.conv rfl) ?_
  rw [hw2]
  refine XO.call Tryz.call160 rfl rfl rfl (mul_one' n hn) fun v18 s18 R18 => ?_
  obtain ⟨rfl, rfl⟩ := R18
  dsimp only [lcA, lnA]
  refine XO.q (Q.move rfl) ?_
  refine XO.q (Q.extract rfl rfl) ?_
  refine XO.q (Q.extract rfl rfl) ?_
  refine XO.q (Q.assign rfl) (XO.q (Q.assign rfl) (XO.done (XK.seq (XK.seq (XK.region rfl ?_)))))
  refine XO.q (Q.move rfl) ?_
  refine XO.q (Q.gtr rfl rfl) ?_
  refine XO.q (Q.move rfl) ?_
  refine XO.q (Quiet.guardF rfl rfl fun g24 p24 => Q.move rfl) ?_
  refine XO.q (Quiet.guardF rfl rfl fun g25 p25 => Q.gtr (lzv g25 rfl) rfl) ?_
  refine XO.q (Q.or rfl (fun hp => lzv hp rfl)) ?_
  refine XO.done ?_
  refine XK.if rfl (fun c1 => ?_) (fun c1 => ?_)
  ·skip
   exact absurd c1 (by omega)
  ·skip
   refine XK.skip (XK.seq (XK.region rfl (XO.q (Q.move rfl) ?_)))
   refine XO.q (Q.conv rfl) ?_
   rw [hw3]
   refine XO.make encI (0) rfl rfl rfl (by omega) (by omega) (fun _ => rfl) rfl rfl rfl (by dsimp only [encI]; infer_instance) fun v30 h30 O30 => ?_
   refine XO.q (Q.assign rfl) (XO.done (XK.seq (XK.region rfl (XO.q (Q.move rfl) (XO.q (Q.move rfl) ?_)))))
   refine XO.copy rfl (tailv_zero (s := O30)).symm rfl (by omega) fun h33 O33 => ?_
   rw [show min ([x] : List Int).length ((List.replicate n (0 : Int)).length - 0) = min 1 n by simp]
   refine XO.q (Q.assign rfl) (XO.done (XK.seq (XK.block ?_)))
   refine XK.while (X := Nat × PHeap) [8, 34, 35, 36, 37, 38, 39, 40, 41, 42, 43, 44, 45, 46] (fun ⟨m, hM⟩ => [(8, some (.int .i64 (m : Nat)))]) (fun ⟨m, hM⟩ => [hM]) (fun ⟨m, hM⟩ => m ≤ n ∧ (0 < n → 0 < m) ∧ OArr v30 encI 1 3 hM (List.replicate m x ++ List.replicate (n - m) 0)) (fun ⟨m, hM⟩ => n - m) (min 1 n, h33) [h33] rfl ⟨by omega, by omega, by have := O33; rw [repeat_first] at this; exact this⟩ (.c rfl (.base 0 rfl rfl)) ?_
   rintro ⟨m, hM⟩ ⟨hm, hm0, OM⟩ ih0
   dsimp only [lcA, lnA] at ih0 ⊢
   have hlm : (List.replicate m x ++ List.replicate (n - m) 0).length = n := by rw [List.length_append, List.length_replicate, List.length_replicate]; omega
   have hmm : min (((List.replicate m x ++ List.replicate (n - m) (0 : Int)).drop 0).take (m - 0)).length ((List.replicate m x ++ List.replicate (n - m) (0 : Int)).length - m) = min m (n - m) := by
    rw [hlm, List.drop_zero, List.length_take, hlm]; omega
   refine XK.seq (XK.seq (XK.region rfl (XO.q (Q.move rfl) (XO.q (Q.move rfl) ?_))))
   refine XO.len rfl fun l36 => ?_
   refine XO.q (Q.lss rfl rfl) ?_
   refine XO.done ?_
   refine XK.if rfl (fun c2 => ?_) (fun c2 => ?_)
   ·skip
    refine XK.skip (XK.block ?_)
    refine XK.drawn [0, 1, 2, 3, 4, 5, 6, 8, 9] [] [] (.q 0 (.q 1 (.q 2 (.q 3 (.q 4 (.q 5 (.q 6 (.br 7 true (.q 8 (.q 9 .done)) .stop)))))))) Tryz.mixed rfl (by kernel_rfl) ?_
    refine XT.q rfl rfl (Q.move rfl) ?_
    refine XT.q rfl rfl (Q.move rfl) ?_
    refine XT.q rfl rfl (Q.move rfl) ?_
    refine XT.q rfl rfl (Q.tail (i := m) rfl (.s rfl (by omega)) (by omega)) ?_
    refine XT.q rfl rfl (Q.move rfl) ?_
    refine XT.q rfl rfl (Q.move rfl) ?_
    refine XT.q rfl rfl (Q.cut (i := 0) (j := m) rfl .n (.s rfl (by omega)) (by omega) (by omega)) ?_
    have A44 := Arr.cut (v := v30) (i := 0) (j := m) inferInstance (by omega) (by omega)
    refine XT.copy rfl rfl rfl rfl rfl (by omega) (fun h45 O45 => ⟨inferInstance, ?_⟩) XT.stop
    rw [hmm]
    refine XT.q rfl rfl (Q.add rfl rfl ⟨by omega, by omega⟩) ?_
    rw [show ((m : Int) + ((min m (n - m) : Nat) : Int)) = ((m + min m (n - m) : Nat) : Int) from rfl]
    refine XT.q rfl rfl (Q.assign rfl) ?_
    refine XT.done ?_
    refine XK.inBlock ?_
    exact ih0 (m + min m (n - m), h45) _ _ ⟨by omega, by omega, by have := O45; rw [repeat_step x 0 hm] at this; exact this⟩ (by first | omega | (dsimp only; omega)) (.c rfl (.base 29 rfl rfl)) inferInstance
   ·skip
    refine XK.exit rfl ?_
    refine XK.seq (XK.region rfl (XO.q (Q.move rfl) (XO.q (Q.assign rfl) (XO.done ?_))))
    refine XK.rt [hM] Tryz.func100 Tryz.results100 (.t rfl .n) ?_
    have hmn : m = n := by omega
    subst hmn
    exact ⟨hM, rfl, by simpa using OM⟩
end Go.X.Ke

set_option linter.unusedSimpArgs false
set_option maxRecDepth 20000
set_option linter.unusedVariables false
namespace Go.X.Ke
open Go.Proofs
theorem cloneB (v : Value) (h : PHeap) (xs : List Bool) [s : Arr v encB 1 h xs] (hl : xs.length ≤ 68719476736) :
  Spec Tryz.prog 99 #[v] [] [h] (fun v' hs => ∃ h', hs = [h'] ∧ OArr v' encB 1 4 h' xs) := by
 refine Spec.intro (fn := Tryz.f99) (N := 8) Tryz.func99 rfl Tryz.ntmps99 rfl fun B => ?_
 refine XK.seq (XK.region rfl (XO.q (Q.assign rfl) (XO.done (XK.seq (XK.seq ?_)))))
 refine XK.region rfl (XO.q (Q.move rfl) ?_)
 refine XO.eqNil rfl fun z4 hz4 => ?_
 refine XO.done ?_
 refine XK.if rfl (fun c0 => ?_) (fun c0 => ?_)
 ·skip
  refine XK.seq (XK.region rfl (XO.q (Q.assign rfl) (XO.done ?_)))
  refine XK.rt [emp] Tryz.func99 Tryz.results99 (.t rfl .n) ?_
  exact ⟨emp, rfl, by rw [(hz4 c0).1]; exact OArr.nil (fun _ => rfl)⟩
 ·skip
  refine XK.skip (XK.seq (XK.region rfl ?_))
  refine XO.lit [] [] [] encB (by rfl) (by rfl) rfl (by rfl) (by exact .n _) (fun _ => rfl) (by rfl) rfl (by infer_instance) rfl fun v5 h5 O5 => ?_
  refine XO.q (Q.move rfl) ?_
  refine XO.append rfl rfl rfl rfl (by first | omega | (simp; omega)) fun v7 h7 O7 => ?_
  refine XO.q (Q.assign rfl) (XO.done ?_)
  refine XK.rt [h7] Tryz.func99 Tryz.results99 (.t rfl .n) ?_
  exact ⟨h7, rfl, O7⟩
theorem cloneI (v : Value) (h : PHeap) (xs : List Int) [s : Arr v encI 1 h xs] (hl : xs.length ≤ 68719476736) :
  Spec Tryz.prog 59 #[v] [] [h] (fun v' hs => ∃ h', hs = [h'] ∧ OArr v' encI 1 3 h' xs) := by apply Go.X.Bk.cloneI <;> assumption
theorem equalI (v1 v2 : Value) (h1 h2 : PHeap) (xs ys : List Int) [s1 : Arr v1 encI 1 h1 xs] [s2 : Arr v2 encI 1 h2 ys] :
  Spec Tryz.prog 35 #[v1, v2] [] [h1, h2] (fun v hs => v = .bool (decide (xs = ys)) ∧ hs = []) := by apply Go.X.Bk.equalI <;> assumption
end Go.X.Ke

set_option linter.unusedSimpArgs false
set_option maxRecDepth 20000
set_option linter.unusedVariables false
namespace Go.X.Ke
open Go.Proofs
theorem indexFuncI (v : Value) (h : PHeap) (xs : List Int) [s : Arr v encI 1 h xs] (gid : FuncId) (cap : List Value) (Hr : List PHeap) (p : Int → Bool)
  (hc : ∀ args w, (callFunc gid args).run Tryz.prog w = .ok (.enter gid args) w) (hS : ∀ x ∈ xs, Spec Tryz.prog gid (.int .i64 x :: cap).toArray [] Hr (fun v hs => v = .bool (p x) ∧ hs = [])) :
  Spec Tryz.prog 159 #[v, .func (.func gid) #[] cap.toArray] [] (h :: Hr) (fun v hs => v = .int .i64 (findFirst p xs) ∧ hs = []) := by apply Go.X.Bk.indexFuncI <;> assumption
theorem containsFuncI (v : Value) (h : PHeap) (xs : List Int) [s : Arr v encI 1 h xs] (gid : FuncId) (cap : List Value) (Hr : List PHeap) (p : Int → Bool)
  (hc : ∀ args w, (callFunc gid args).run Tryz.prog w = .ok (.enter gid args) w) (hS : ∀ x ∈ xs, Spec Tryz.prog gid (.int .i64 x :: cap).toArray [] Hr (fun v hs => v = .bool (p x) ∧ hs = [])) :
  Spec Tryz.prog 97 #[v, .func (.func gid) #[] cap.toArray] [] (h :: Hr) (fun v hs => v = .bool (xs.any p) ∧ hs = []) := by apply Go.X.Bk.containsFuncI <;> assumption
end Go.X.Ke

set_option linter.unusedSimpArgs false
set_option maxRecDepth 20000
set_option linter.unusedVariables false
namespace Go.X.Ke
open Go.Proofs
theorem check1 (b T : Nat) (n x : Int) (cs : List Value) : Spec Tryz.prog 98 #[.int .i64 x, ptr b 0] [] [blk b (.int .i64 n :: cs) T] (fun v hs => v = .bool (decide (x < -1) || decide (n ≤ x)) ∧ hs = []) := by
 refine Spec.intro (fn := Tryz.f98) (N := 12) Tryz.func98 rfl Tryz.ntmps98 rfl fun B => ?_
 refine XK.seq (XK.region rfl (XO.q (Q.assign rfl) (XO.done (XK.seq (XK.region rfl ?_)))))
 refine XO.q (Q.move rfl) ?_
 refine XO.q (Q.lss rfl rfl) ?_
 refine XO.q (Q.move rfl) ?_
 refine XO.q (Quiet.guardF rfl rfl fun g7 p7 => Q.move rfl) ?_
 refine XO.q (Quiet.guardF rfl rfl fun g8 p8 => Q.fieldAddr rfl) ?_
 refine XO.q (Quiet.guardF rfl rfl fun g9 p9 => Q.ld (lzv g9 rfl) rfl) ?_
 refine XO.q (Quiet.guardF rfl rfl fun g10 p10 => Q.geq (lzv g10 rfl) (lzv g10 rfl)) ?_
 refine XO.q (Q.or rfl (fun hp => lzv hp rfl)) ?_
 refine XO.q (Q.assign rfl) (XO.done ?_)
 refine XK.rt [] Tryz.func98 Tryz.results98 (.t rfl .n) ?_
 exact ⟨rfl, rfl⟩
theorem check (g : G) (vn vg : Value) (hn hg : PHeap) [sn : Arr vn encI 1 hn g.next] [sg : Arr vg encB 1 hg g.good] : Spec Tryz.prog 44 #[.agg #[.int .i64 g.S, .int .i64 g.C, .int .i64 g.K, vn, vg]] [] [hn, hg] (fun v hs => v = .int .i64 (gcheck g) ∧ hs = []) := by
 refine Spec.intro (fn := Tryz.f44) (N := 58) Tryz.func44 rfl Tryz.ntmps44 rfl fun B => ?_
 refine XK.seq (XK.region rfl ?_)
 refine XO.box rfl fun b1 => ?_
 refine XO.q (Q.assign rfl) (XO.done (XK.seq (XK.block (XK.seq (XK.region rfl ?_)))))
 refine XO.q (Q.fieldAddr rfl) ?_
 refine XO.q (Q.ld rfl rfl) ?_
 refine XO.q (Q.lss rfl rfl) ?_
 refine XO.q (Q.move rfl) ?_
 refine XO.q (Quiet.guardF rfl rfl fun g8 p8 => Q.fieldAddr rfl) ?_
 refine XO.q (Quiet.guardF rfl rfl fun g9 p9 => Q.ld (lzv g9 rfl) rfl) ?_
 refine XO.q (Quiet.guardF rfl rfl fun g10 p10 => Q.gtr (lzv g10 rfl) rfl) ?_
 refine XO.q (Q.or rfl (fun hp => lzv hp rfl)) ?_
 refine XO.q (Q.move rfl) ?_
 refine XO.q (Quiet.guardF rfl rfl fun g13 p13 => Q.fieldAddr rfl) ?_
 refine XO.q (Quiet.guardF rfl rfl fun g14 p14 => Q.ld (lzv g14 rfl) rfl) ?_
 refine XO.q (Quiet.guardF rfl rfl fun g15 p15 => Q.lss (lzv g15 rfl) rfl) ?_
 refine XO.q (Q.or rfl (fun hp => lzv hp rfl)) ?_
 refine XO.q (Q.move rfl) ?_
 refine XO.q (Quiet.guardF rfl rfl fun g18 p18 => Q.fieldAddr rfl) ?_
 refine XO.q (Quiet.guardF rfl rfl fun g19 p19 => Q.ld (lzv g19 rfl) rfl) ?_
 refine XO.q (Quiet.guardF rfl rfl fun g20 p20 => Q.gtr (lzv g20 rfl) rfl) ?_
 refine XO.q (Q.or rfl (fun hp => lzv hp rfl)) ?_
 refine XO.q (Q.move rfl) ?_
 refine XO.q (Quiet.guardF rfl rfl fun g23 p23 => Q.fieldAddr rfl) ?_
 refine XO.q (Quiet.guardF rfl rfl fun g24 p24 => Q.ld (lzv g24 rfl) rfl) ?_
 refine XO.q (Quiet.guardF rfl rfl fun g25 p25 => Q.lss (lzv g25 rfl) rfl) ?_
 refine XO.q (Q.or rfl (fun hp => lzv hp rfl)) ?_
 refine XO.q (Q.move rfl) ?_
 refine XO.q (Quiet.guardF rfl rfl fun g28 p28 => Q.fieldAddr rfl) ?_
 refine XO.q (Quiet.guardF rfl rfl fun g29 p29 => Q.ld (lzv g29 rfl) rfl) ?_
 refine XO.q (Quiet.guardF rfl rfl fun g30 p30 => Q.gtr (lzv g30 rfl) rfl) ?_
 refine XO.q (Q.or rfl (fun hp => lzv hp rfl)) ?_
 refine XO.q (Q.assign rfl) (XO.done ?_)
 refine XK.if rfl (fun c0 => ?_) (fun c0 => ?_)
 ·skip
  refine XK.seq (XK.region rfl (XO.q (Q.assign rfl) (XO.done ?_)))
  refine XK.rt [] Tryz.func44 Tryz.results44 (.t rfl .n) ?_
  exact ⟨by rw [gcheck, if_pos (by omega)], rfl⟩
 ·skip
  have hb := g_bd c0
  refine XK.seq (XK.region rfl ?_)
  refine XO.q (Q.fieldAddr rfl) ?_
  refine XO.q (Q.ld rfl rfl) ?_
  refine XO.len rfl fun l35 => ?_
  refine XO.q (Q.fieldAddr rfl) ?_
  refine XO.q (Q.ld rfl rfl) ?_
  refine XO.q (Q.fieldAddr rfl) ?_
  refine XO.q (Q.ld rfl rfl) ?_
  refine XO.q (Q.mul rfl rfl ⟨by omega, by omega⟩) ?_
  refine XO.q (Q.fieldAddr rfl) ?_
  refine XO.q (Q.ld rfl rfl) ?_
  refine XO.q (Q.mul rfl rfl ⟨by omega, by omega⟩) ?_
  refine XO.q (Q.neq rfl rfl) ?_
  refine XO.q (Q.move rfl) ?_
  refine XO.q (Quiet.guardF rfl rfl fun g46 p46 => Q.fieldAddr rfl) ?_
  refine XO.q (Quiet.guardF rfl rfl fun g47 p47 => Q.ld (lzv g47 rfl) rfl) ?_
  refine XO.q (Quiet.guardF rfl rfl fun g48 p48 => Q.len (lzv g48 rfl)) ?_
  refine XO.q (Quiet.guardF rfl rfl fun g49 p49 => Q.fieldAddr rfl) ?_
  refine XO.q (Quiet.guardF rfl rfl fun g50 p50 => Q.ld (lzv g50 rfl) rfl) ?_
  refine XO.q (Quiet.guardF rfl rfl fun g51 p51 => Q.neq (lzv g51 rfl) (lzv g51 rfl)) ?_
  refine XO.q (Q.or rfl (fun hp => lzv hp rfl)) ?_
  refine XO.q (Q.assign rfl) (XO.done ?_)
  refine XK.if rfl (fun c1 => ?_) (fun c1 => ?_)
  ·skip
   refine XK.seq (XK.region rfl (XO.q (Q.assign rfl) (XO.done ?_)))
   refine XK.rt [] Tryz.func44 Tryz.results44 (.t rfl .n) ?_
   exact ⟨by rw [gcheck, if_neg (by omega), if_pos (by omega)], rfl⟩
  ·skip
   refine XK.seq (XK.region rfl ?_)
   refine XO.q (Q.fieldAddr rfl) ?_
   refine XO.q (Q.ld rfl rfl) ?_
   refine XO.q (Q.func (fun _ he => rfl) (fun _ he => evs_rel he rfl)) ?_
   refine XO.call Tryz.call97 rfl rfl rfl (containsFuncI vn hn g.next 98 [ptr b1 0] [blk b1 [.int .i64 g.S, .int .i64 g.C, .int .i64 g.K, vn, vg] 42] _ Tryz.call98 (fun x _ => check1 b1 42 g.S x _)) fun v57 s57 R57 => ?_
   obtain ⟨rfl, rfl⟩ := R57
   dsimp only [lcA, lnA]
   refine XO.q (Q.assign rfl) (XO.done ?_)
   refine XK.if rfl (fun c2 => ?_) (fun c2 => ?_)
   ·skip
    refine XK.seq (XK.region rfl (XO.q (Q.assign rfl) (XO.done ?_)))
    refine XK.rt [] Tryz.func44 Tryz.results44 (.t rfl .n) ?_
    exact ⟨by rw [gcheck, if_neg (by omega), if_neg (by omega), if_pos c2], rfl⟩
   ·skip
    refine XK.skip ?_
    refine XK.inBlock ?_
    refine XK.seq (XK.region rfl (XO.q (Q.assign rfl) (XO.done ?_)))
    refine XK.rt [] Tryz.func44 Tryz.results44 (.t rfl .n) ?_
    exact ⟨by rw [gcheck, if_neg (by omega), if_neg (by omega), if_neg c2], rfl⟩
theorem leads_spec (S C K : Nat) (next : List Int) (good : List Bool) (ok : Ok S C K next good) (vn vg : Value) (hn : PHeap) [sn : Arr vn encI 1 hn next] (s u : Nat) (hs : s < S) (hu : u < C) : Spec Tryz.prog 102 #[.agg #[.int .i64 (S : Nat), .int .i64 (C : Nat), .int .i64 (K : Nat), vn, vg], .int .i64 (s : Nat), .int .i64 (u : Nat)] [] [hn]
  (fun v hs => hs = [] ∧ Arr v encI 1 hn (leads next C K s u)) := by
 have hb := ok.sc
 have hl := lead_le (K := K) hs hu
 have hlen := ok.len
 have hz := lead_int s u C K
 refine Spec.intro (fn := Tryz.f102) (N := 25) Tryz.func102 rfl Tryz.ntmps102 rfl fun B => ?_
 refine XK.seq (XK.region rfl ?_)
 refine XO.box rfl fun b3 => ?_
 refine XO.q (Q.assign rfl) (XO.done (XK.seq (XK.region rfl (XO.q (Q.move rfl) ?_))))
 refine XO.q (Q.fieldAddr rfl) ?_
 refine XO.q (Q.ld rfl rfl) ?_
 refine XO.q (Q.mul rfl rfl ⟨by omega, by omega⟩) ?_
 refine XO.q (Q.move rfl) ?_
 refine XO.q (Q.add rfl rfl ⟨by omega, by omega⟩) ?_
 refine XO.q (Q.fieldAddr rfl) ?_
 refine XO.q (Q.ld rfl rfl) ?_
 refine XO.q (Q.mul rfl rfl ⟨by omega, by omega⟩) ?_
 refine XO.q (Q.assign rfl) (XO.done (XK.seq (XK.region rfl ?_)))
 refine XO.q (Q.fieldAddr rfl) ?_
 refine XO.q (Q.ld rfl rfl) ?_
 refine XO.q (Q.move rfl) (XO.q (Q.move rfl) ?_)
 refine XO.q (Q.fieldAddr rfl) ?_
 refine XO.q (Q.ld rfl rfl) ?_
 refine XO.q (Q.add rfl rfl ⟨by omega, by omega⟩) ?_
 refine XO.cut (i := (s * C + u) * K) (j := (s * C + u) * K + K) rfl (.s rfl (by omega)) (.s rfl (by omega)) (by omega) (by omega) fun v24 A24 => ?_
 refine XO.q (Q.assign rfl) (XO.done ?_)
 refine XK.rt [] Tryz.func102 Tryz.results102 (.t rfl .n) ?_
 exact ⟨rfl, by rw [Nat.add_sub_cancel_left] at A24; exact A24⟩
end Go.X.Ke

set_option linter.unusedSimpArgs false
set_option maxRecDepth 20000
set_option linter.unusedVariables false
set_option maxRecDepth 3000
namespace Go.X.Ke
open Go.Proofs
theorem keeps1 (b : Nat) (vi vc vr : Value) (hi : PHeap) (ins : List Bool) [si : Arr vi encB 1 hi ins] (x : Int) (hx : x < ins.length) : Spec Tryz.prog 103 #[.int .i64 x, ptr b 0] [] [blk b [vi, vc, vr] 48, hi]
  (fun v hs => v = .bool (bad ins x) ∧ hs = []) := by
 refine Spec.intro (fn := Tryz.f103) (N := 14) Tryz.func103 rfl Tryz.ntmps103 rfl fun B => ?_
 refine XK.seq (XK.region rfl (XO.q (Q.assign rfl) (XO.done (XK.seq (XK.region rfl ?_)))))
 refine XO.q (Q.move rfl) ?_
 refine XO.q (Q.lss rfl rfl) ?_
 refine XO.q (Q.move rfl) ?_
 refine XO.q (Quiet.guardF rfl rfl fun g7 p7 => Q.fieldAddr rfl) ?_
 refine XO.q (Quiet.guardF rfl rfl fun g8 p8 => Q.ld (lzv g8 rfl) rfl) ?_
 refine XO.q (Quiet.guardF rfl rfl fun g9 p9 => Q.move rfl) ?_
 refine XO.q (Quiet.guardF rfl rfl fun g10 p10 => Q.ix (lzv g10 rfl) (lzv g10 rfl) (by omega) (by omega)) ?_
 refine XO.q (Quiet.guardF rfl rfl fun g11 p11 => Q.ldE (lzv g11 rfl) (by first | assumption | omega) rfl) ?_
 refine XO.q (Quiet.guardF rfl rfl fun g12 p12 => Q.not (lzv g12 rfl)) ?_
 refine XO.q (Q.or rfl (fun hp => lzv hp rfl)) ?_
 refine XO.q (Q.assign rfl) (XO.done ?_)
 refine XK.rt [] Tryz.func103 Tryz.results103 (.t rfl .n) ?_
 exact ⟨rfl, rfl⟩
theorem keeps_spec (S C K : Nat) (next : List Int) (good : List Bool) (ok : Ok S C K next good) (vn vg : Value) (hn : PHeap) [sn : Arr vn encI 1 hn next] (vi vc vr : Value) (hi : PHeap) (ins : List Bool) [si : Arr vi encB 1 hi ins] [oc : One vc] [orr : One vr] (hlen : ins.length = S) (s u : Nat) (hs : s < S) (hu : u < C) :
  Spec Tryz.prog 46 #[.agg #[vi, vc, vr], .agg #[.int .i64 (S : Nat), .int .i64 (C : Nat), .int .i64 (K : Nat), vn, vg], .int .i64 (s : Nat), .int .i64 (u : Nat)] [] [hn, hi] (fun v hs => v = .bool (keepsP next C K ins s u) ∧ hs = []) := by
 have hmem : ∀ x ∈ leads next C K s u, x < ins.length := fun x hx => by
  have := ok.inr x (List.mem_of_mem_drop (List.mem_of_mem_take hx))
  omega
 refine Spec.intro (fn := Tryz.f46) (N := 16) Tryz.func46 rfl Tryz.ntmps46 rfl fun B => ?_
 refine XK.seq (XK.region rfl ?_)
 refine XO.box rfl fun b4 => ?_
 refine XO.box rfl fun b5 => ?_
 refine XO.q (Q.assign rfl) (XO.done (XK.seq (XK.region rfl ?_)))
 refine XO.q (Q.ldA [_, _, _, _, _] rfl rfl rfl) ?_
 refine XO.q (Q.move rfl) (XO.q (Q.move rfl) ?_)
 refine XO.call Tryz.call102 rfl rfl rfl (leads_spec S C K next good ok vn vg hn s u hs hu) fun v12 s12 R12 => ?_
 obtain ⟨rfl, A12⟩ := R12
 dsimp only [lcA, lnA]
 refine XO.q (Q.func (fun _ he => rfl) (fun _ he => evs_rel he rfl)) ?_
 refine XO.call Tryz.call97 rfl rfl rfl (containsFuncI v12 hn (leads next C K s u) 103 [ptr b4 0] [blk b4 [vi, vc, vr] 48, hi] _ Tryz.call103 (fun x hx => keeps1 b4 vi vc vr hi ins x (hmem x hx))) fun v14 s14 R14 => ?_
 obtain ⟨rfl, rfl⟩ := R14
 dsimp only [lcA, lnA]
 refine XO.q (Q.not rfl) ?_
 refine XO.q (Q.assign rfl) (XO.done ?_)
 refine XK.rt [] Tryz.func46 Tryz.results46 (.t rfl .n) ?_
 exact ⟨rfl, rfl⟩
theorem safe1 (b : Nat) (vi vc vr : Value) (hi : PHeap) (ins : List Bool) [si : Arr vi encB 1 hi ins] :
  It Tryz.prog (.func (.func 161) #[] #[ptr b 0]) ((insL ins).map fun s => [.int .i64 (s : Nat)]) [blk b [vi, vc, vr] 48, hi] := by
 intro f Hr QQ X hy q hq
 have hcl : ∀ args w, (callFunc 161 args).run Tryz.prog w = .ok (.enter 161 args) w := Tryz.call161
 have hap : [] ++ [f] ++ [ptr b 0] = [f, ptr b 0] := rfl
 refine VSpec.fn (P := Tryz.prog) (g := 161) (fst := []) (vs := [f]) (cap := [ptr b 0]) (A := [f, ptr b 0]) (Hm := [q]) hcl hap ?_
 dsimp only [lcA, lnA]
 have hle := si.le
 rw [List.length_map] at *
 have hcall : ∀ s, s < ins.length → ins.getD s default = true → ∀ q, QQ ((List.range s).filter fun s => ins.getD s false).length q →
   VSpec Tryz.prog f [.int .i64 (s : Nat)] [q] Hr (fun v hs => ∃ bb q', v = .bool bb ∧ hs = [q'] ∧ (bb = true → QQ (((List.range s).filter fun s => ins.getD s false).length + 1) q') ∧ (bb = false → X q')) := by
  intro s hs hp q hq
  obtain ⟨h1, h2⟩ := filter_at (p := fun s => ins.getD s false) hs hp
  have := hy _ (by exact h1) q hq
  rw [List.getD_eq_getElem?_getD, List.getElem?_map] at this
  unfold insL at this
  rw [h2] at this
  exact this
 refine Spec.intro (fn := Tryz.f161) (N := 21) Tryz.func161 rfl Tryz.ntmps161 rfl fun B => ?_
 refine XK.seq (XK.region rfl ?_)
 refine XO.q (Q.fieldAddr rfl) ?_
 refine XO.q (Q.ld rfl rfl) ?_
 refine XO.len rfl fun l7 => ?_
 refine XO.q (Q.move rfl) (XO.done (XK.block ?_))
 refine XK.while (X := Nat × PHeap) [3, 4, 8, 9, 10, 11, 12, 13, 14, 15, 16, 17, 18, 19, 20] (fun ⟨s, q1⟩ => [(8, some (.int .i64 (s : Nat)))]) (fun ⟨s, q1⟩ => [q1]) (fun ⟨s, q1⟩ => s ≤ ins.length ∧ QQ ((List.range s).filter fun s => ins.getD s false).length q1) (fun ⟨s, q1⟩ => ins.length - s) (0, q) [q] rfl ⟨by omega, hq⟩ (.c rfl (.base 0 rfl rfl)) ?_
 rintro ⟨s, q1⟩ ⟨hs, hQ⟩ ih0
 dsimp only [lcA, lnA] at ih0 ⊢
 refine XK.seq (XK.region rfl ?_)
 refine XO.q (Q.lss rfl rfl) ?_
 refine XO.done (XK.seq ?_)
 refine XK.if rfl (fun c0 => ?_) (fun c0 => ?_)
 ·skip
  refine XK.skip (XK.seq (XK.block (XK.seq (XK.region rfl (XO.q (Q.move rfl) ?_)))))
  refine XO.ix rfl rfl (by omega) (by omega) fun i11 => ?_
  refine XO.q (Q.ldE rfl (by first | assumption | omega) rfl) ?_
  refine XO.q (Q.assign rfl) (XO.q (Q.assign rfl) (XO.done (XK.seq (XK.region rfl (XO.q (Q.move rfl) ?_)))))
  refine XO.q (Q.move rfl) ?_
  refine XO.q (Quiet.guardT rfl rfl fun g15 p15 => Q.move rfl) ?_
  refine XO.q (Quiet.guardT rfl rfl fun g16 p16 => Q.move rfl) ?_
  refine XO.gvcall rfl rfl (fun g17 => lzv g17 rfl) (fun g17 => .c (lzv g17 rfl) .n) (fun g17 => hcall s (by omega) g17 q1 hQ) (fun g17 v17 s17 R17 => ?_) (fun g17 => ?_)
  ·have _tb := True.intro
   obtain ⟨bb, q2, rfl, rfl, hT, hF⟩ := R17
   dsimp only [lcA, lnA]
   refine XO.q (Quiet.guardT rfl rfl fun g18 p18 => Q.not rfl) ?_
   refine XO.q (Q.and rfl (fun hp => lzv hp rfl)) ?_
   refine XO.done ?_
   refine XK.if rfl (fun c1 => ?_) (fun c1 => ?_)
   ·skip
    refine XK.rt [q2] Tryz.func161 Tryz.results161 (.n) ?_
    exact ⟨q2, rfl, .inr (hF (by cases bb <;> simp_all))⟩
   ·skip
    refine XK.skip ?_
    refine XK.inBlock ?_
    refine XK.region rfl ?_
    refine XO.q (Q.add rfl rfl ⟨by omega, by omega⟩) ?_
    refine XO.q (Q.move rfl) (XO.done ?_)
    exact ih0 (s + 1, q2) _ _ (by refine ⟨by dsimp only; omega, ?_⟩; dsimp only; rw [filter_succ, if_pos (show ins.getD s false = true from g17)]; refine hT ?_; cases bb <;> simp_all) (by first | omega | (dsimp only; omega)) (.c rfl (.base 31 rfl rfl)) inferInstance
  ·have _tb := True.intro
   refine XO.q (Quiet.guardT (v := .bool false) rfl rfl fun g18 p18 => absurd g18 g17) ?_
   refine XO.q (Q.and rfl (fun hp => lzv hp rfl)) ?_
   refine XO.done ?_
   refine XK.if rfl (fun c2 => ?_) (fun c2 => ?_)
   ·skip
    refine XK.rt [q1] Tryz.func161 Tryz.results161 (.n) ?_
    exact absurd c2.1 g17
   ·skip
    refine XK.skip ?_
    refine XK.inBlock ?_
    refine XK.region rfl ?_
    refine XO.q (Q.add rfl rfl ⟨by omega, by omega⟩) ?_
    refine XO.q (Q.move rfl) (XO.done ?_)
    exact ih0 (s + 1, q1) _ _ (by refine ⟨by dsimp only; omega, ?_⟩; dsimp only; rw [filter_succ, if_neg (show ¬ ins.getD s false = true from g17)]; exact hQ) (by first | omega | (dsimp only; omega)) (.c rfl (.base 31 rfl rfl)) inferInstance
 ·skip
  refine XK.exit rfl ?_
  refine XK.fn [q1] Tryz.func161 Tryz.results161 (.n) ?_
  have hss : s = ins.length := by omega
  subst hss
  exact ⟨q1, rfl, .inl hQ⟩
theorem safe_spec (vi vc vr : Value) [oi : One vi] [oc : One vc] [orr : One vr] : Spec Tryz.prog 101 #[.agg #[vi, vc, vr]] [] [] (fun v hs => ∃ b, v = .func (.func 161) #[] #[ptr b 0] ∧ hs = [blk b [vi, vc, vr] 48]) := by
 refine Spec.intro (fn := Tryz.f101) (N := 4) Tryz.func101 rfl Tryz.ntmps101 rfl fun B => ?_
 refine XK.seq (XK.region rfl ?_)
 refine XO.box rfl fun b1 => ?_
 refine XO.q (Q.assign rfl) (XO.done (XK.seq (XK.region rfl ?_)))
 refine XO.q (Q.func (fun _ he => rfl) (fun _ he => evs_rel he rfl)) ?_
 refine XO.q (Q.assign rfl) (XO.done ?_)
 refine XK.rt [blk b1 [vi, vc, vr] 48] Tryz.func101 Tryz.results101 (.t rfl .n) ?_
 exact ⟨b1, rfl, rfl⟩
end Go.X.Ke

set_option linter.unusedSimpArgs false
set_option maxRecDepth 20000
set_option linter.unusedVariables false
set_option maxRecDepth 20000
namespace Go.X.Ke
open Go.Proofs
theorem solve_spec (S C K : Nat) (next : List Int) (good : List Bool) (ok : Ok S C K next good) (vn vg : Value) (hn : PHeap) [sn : Arr vn encI 1 hn next] (hg : PHeap) [sg : Arr vg encB 1 hg good] : Spec Tryz.prog 45 #[.agg #[.int .i64 (S : Nat), .int .i64 (C : Nat), .int .i64 (K : Nat), vn, vg]] [] [hn, hg]
  (fun v hs => ∃ v1 v2 v3 k1 k2 k3, v = .agg #[v1, v2, v3] ∧ hs = [k1, k2, k3] ∧ OArr v1 encB 1 4 k1 (solved S C K next good).1 ∧ OArr v2 encI 1 3 k2 (solved S C K next good).2.1 ∧ OArr v3 encI 1 3 k3 (solved S C K next good).2.2) := by
 refine Spec.intro (fn := Tryz.f45) (N := 87) Tryz.func45 rfl Tryz.ntmps45 rfl fun B => ?_
 have hnil : OArr (.slice none 0 0) encI 1 3 emp ([] : List Int) := OArr.nil (fun _ => rfl)
 have okg := ok.glen
 have oks := ok.s2
 have hcg := List.count_le_length (a := true) (l := good)
 have okc2 := ok.c2
 refine XK.seq (XK.region rfl ?_)
 refine XO.box rfl fun b1 => ?_
 refine XO.alloc fun b2 => ?_
 refine XO.done ?_
 refine XK.scope ?_
 refine XK.seq ?_
 refine XK.meet (X := Nat × Value × PHeap × Value × PHeap × Value × PHeap) [3, 12, 13, 14, 15, 16, 17, 18, 19, 20, 21, 22] (fun ⟨b3, v14, h14, v18, h18, v21, h21⟩ => [(3, some (ptr b3 0))]) (fun ⟨b3, v14, h14, v18, h18, v21, h21⟩ => [blk b3 [v14, v18, v21] 48, h14, h18, h21]) (fun ⟨b3, v14, h14, v18, h18, v21, h21⟩ => OArr v14 encB 1 4 h14 good ∧ OArr v18 encI 1 3 h18 (List.replicate S (-1)) ∧ OArr v21 encI 1 3 h21 (List.replicate S 0)) [] ?_ ?_
 ·rintro ⟨b3, v14, h14, v18, h18, v21, h21⟩ ⟨O14, O18, O21⟩
  dsimp only [lcA, lnA]
  refine XK.seq (XK.region rfl ?_)
  refine XO.q (Q.ldA [_, _, _] rfl rfl rfl) ?_
  refine XO.q (Q.func (fun _ he => evs_rel he rfl) (fun _ he => rfl)) ?_
  refine XO.alloc fun b4 => ?_
  refine XO.st rfl rfl rfl ?_
  refine XO.done (XK.seq ?_)
  refine XK.label ?_
  refine XK.seq (XK.seq (XK.region rfl (XO.q (Q.assign rfl) (XO.done (XK.block ?_)))))
  refine XK.while (X := Int × List Bool × PHeap × List Int × PHeap × List Int × PHeap) [5, 6, 7, 8, 10, 25, 26, 27, 28, 30, 31, 32, 33, 34, 35, 36, 37, 38, 39, 40, 41, 42, 43, 44, 45, 46, 47, 48, 49, 50, 51, 52, 53, 54, 55, 56, 57, 58, 59, 60, 61, 62, 63, 64, 65, 66, 67, 68, 69, 70, 71, 72, 73, 74, 75, 76, 77, 78] (fun ⟨rank, ins, hI, ctl, hC, rnk, hR⟩ => [(5, some (.int .i64 rank))]) (fun ⟨rank, ins, hI, ctl, hC, rnk, hR⟩ => [hI, hC, hR]) (fun ⟨rank, ins, hI, ctl, hC, rnk, hR⟩ => 1 ≤ rank ∧ rank + ins.count true ≤ 401 ∧ ins.length = S ∧ ctl.length = S ∧ rnk.length = S ∧ (∃ f, ins.count true < f ∧ rounds next C K f rank ins ctl rnk = rounds next C K (S + 1) 1 good (List.replicate S (-1)) (List.replicate S 0)) ∧ OArr v14 encB 1 4 hI ins ∧ OArr v18 encI 1 3 hC ctl ∧ OArr v21 encI 1 3 hR rnk) (fun ⟨rank, ins, hI, ctl, hC, rnk, hR⟩ => ins.count true) (1, good, h14, List.replicate S (-1), h18, List.replicate S 0, h21) [h14, h18, h21] rfl ⟨by omega, by omega, okg, by simp, by simp, ⟨S + 1, by omega, rfl⟩, O14, O18, O21⟩ (.c rfl (.base 0 rfl rfl)) ?_
  rintro ⟨rank, ins, hI, ctl, hC, rnk, hR⟩ ⟨hr1, hr2, hli, hlc, hlr, ⟨fu, hfu, hro⟩, OI, OC, OR⟩ ih0
  dsimp only [lcA, lnA] at ih0 ⊢
  refine XK.seq (XK.block (XK.seq (XK.region rfl ?_)))
  refine XO.alloc fun b6 => ?_
  refine XO.done (XK.seq (XK.seq (XK.region rfl ?_)))
  refine XO.q (Q.ldA [_, _, _] rfl rfl rfl) ?_
  refine XO.call Tryz.call101 rfl rfl rfl (safe_spec _ _ _) fun v28 s28 R28 => ?_
  obtain ⟨b28, rfl, rfl⟩ := R28
  dsimp only [lcA, lnA]
  refine XO.done (XK.block ?_)
  refine XK.range (X := List Int × PHeap × Value × PHeap) (ps := [29]) ((insL ins).map fun s => [Value.int .i64 ((s : Nat) : Int)]) (fun ⟨ctl2, hC2, vo, hO⟩ => [hC2, blk b6 [vo] 29, hO]) (fun i ⟨ctl2, hC2, vo, hO⟩ => ctl2 = ctlAt next C K ins ctl ((insL ins).take i) ∧ OArr v18 encI 1 3 hC2 ctl2 ∧ OArr vo encI 1 3 hO ((outsAt next C K ins ((insL ins).take i)).map fun s : Nat => (s : Int))) (fun _ _ => False) (ctl, hC, .slice none 0 0, emp) [hC, blk b6 [.slice none 0 0] 29, emp] rfl ⟨by simp [ctlAt], OC, by simpa [outsAt] using hnil⟩ rfl (safe1 b28 v14 v18 v21 hI ins) rfl (by intro i hi; rw [List.getD_eq_getElem?_getD, List.getElem?_eq_getElem hi]; simp) ?_ ?_ (fun _ _ hJ => hJ.elim)
  ·rintro lq rec B' i ⟨ctl2, hC2, vo, hO⟩ hi ⟨e2, OC2, OO⟩
   dsimp only [lcA, lnA]
   have hi2 : i < (insL ins).length := by rw [List.length_map] at hi; exact hi
   obtain ⟨s, hsL⟩ : ∃ s, (insL ins)[i]? = some s := ⟨_, List.getElem?_eq_getElem hi2⟩
   have hit : ((insL ins).map fun s => [Value.int .i64 ((s : Nat) : Int)]).getD i [] = [.int .i64 (s : Nat)] := by rw [List.getD_eq_getElem?_getD, List.getElem?_map, hsL]; rfl
   rw [hit]
   dsimp only [pars]
   obtain ⟨hsS, hsI⟩ := insL_mem hsL
   rw [hli] at hsS
   have hlc2 : ctl2.length = S := by rw [e2, ctlAt_len]; exact hlc
   have hol := outs_le (next := next) (C := C) (K := K) (ins := ins) (i := i)
   refine XK.region rfl (XO.q (Q.assign rfl) (XO.done ?_))
   refine XK.beginRound ?_
   refine XK.block (XK.seq (XK.region rfl ?_))
   refine XO.q (Q.fieldAddr rfl) ?_
   refine XO.q (Q.ld rfl rfl) ?_
   refine XO.q (Q.move rfl) ?_
   refine XO.ix rfl rfl (by omega) (by omega) fun i33 => ?_
   refine XO.stE _ rfl rfl rfl (by assumption) rfl rfl fun h8_4 O8_4 => ?_
   refine XO.done (XK.seq (XK.seq (XK.region rfl ?_)))
   refine XO.q (Q.fieldAddr rfl) ?_
   refine XO.q (Q.ld rfl rfl) ?_
   refine XO.q (Q.move rfl) (XO.done (XK.block ?_))
   refine XK.while (X := Nat) [8, 36, 37, 38, 39, 40, 41, 42, 43, 44, 45, 46, 47, 48, 49] (fun u => [(36, some (.int .i64 (u : Nat)))]) (fun u => []) (fun u => u ≤ C ∧ ∀ u2 < u, keepsP next C K ins s u2 = false) (fun u => C - u) (0) [] rfl ⟨by omega, fun _ h => by omega⟩ (.c rfl (.base 0 rfl rfl)) ?_
   rintro u ⟨hu, hno⟩ ih1
   dsimp only [lcA, lnA] at ih1 ⊢
   refine XK.seq (XK.region rfl ?_)
   refine XO.q (Q.lss rfl rfl) ?_
   refine XO.done (XK.seq ?_)
   refine XK.if rfl (fun c0 => ?_) (fun c0 => ?_)
   ·skip
    refine XK.skip (XK.seq (XK.block (XK.seq (XK.region rfl (XO.q (Q.move rfl) ?_)))))
    refine XO.q (Q.assign rfl) (XO.done (XK.seq (XK.region rfl ?_)))
    refine XO.q (Q.ld rfl rfl) ?_
    refine XO.q (Q.ldA [_, _, _, _, _] rfl rfl rfl) ?_
    refine XO.q (Q.move rfl) (XO.q (Q.move rfl) ?_)
    refine XO.call Tryz.call46 rfl rfl rfl (keeps_spec S C K next good ok vn vg hn v14 v18 v21 hI ins hli s u (by omega) (by omega)) fun v43 s43 R43 => ?_
    obtain ⟨rfl, rfl⟩ := R43
    dsimp only [lcA, lnA]
    refine XO.done ?_
    refine XK.if rfl (fun c1 => ?_) (fun c1 => ?_)
    ·skip
     refine XK.seq (XK.region rfl ?_)
     refine XO.q (Q.fieldAddr rfl) ?_
     refine XO.q (Q.ld rfl rfl) ?_
     refine XO.q (Q.move rfl) (XO.q (Q.move rfl) ?_)
     refine XO.ix rfl rfl (by omega) (by simp only [List.length_set]; omega) fun i48 => ?_
     refine XO.stE _ rfl rfl rfl (by assumption) rfl rfl fun h13_5 O13_5 => ?_
     refine XO.done ?_
     refine XK.exit rfl ?_
     refine XK.seq (XK.region rfl ?_)
     refine XO.q (Q.fieldAddr rfl) ?_
     refine XO.q (Q.ld rfl rfl) ?_
     refine XO.q (Q.move rfl) ?_
     refine XO.ix rfl rfl (by omega) (by simp only [List.length_set]; omega) fun i53 => ?_
     refine XO.q (Q.ldE rfl (by first | assumption | omega) rfl) ?_
     refine XO.q (Q.lss rfl rfl) ?_
     refine XO.done ?_
     refine XK.if rfl (fun c2 => ?_) (fun c2 => ?_)
     ·skip
      have hg : ((ctl2.set s (-1)).set s (u : Int)).getD s default = (u : Int) := by rw [List.getD_eq_getElem?_getD]; simp [hlc2, hsS]
      exact absurd c2 (by rw [hg]; omega)
     ·skip
      refine XK.skip ?_
      refine XK.inBlock ?_
      have hct := ctlOf_at (by omega) c1 hno
      exact XK.leave (j := none) [h13_5, blk b6 [vo] 29, hO] trivial ⟨((ctl2.set s (-1)).set s (u : Int), h13_5, vo, hO), ⟨by rw [take_snoc hsL, ctlAt_snoc, hct, ← e2, List.set_set], O13_5, by rw [take_snoc hsL, outs_no (by rw [hct]; omega)]; exact OO⟩, rfl⟩
    ·skip
     refine XK.skip ?_
     refine XK.inBlock ?_
     refine XK.region rfl ?_
     refine XO.q (Q.add rfl rfl ⟨by omega, by omega⟩) ?_
     refine XO.q (Q.move rfl) (XO.done ?_)
     exact ih1 (u + 1) _ _ ⟨by omega, fun u2 h2 => by rcases Nat.lt_or_ge u2 u with h3 | h3; exact hno u2 h3; rw [show u2 = u by omega]; simpa using c1⟩ (by first | omega | (dsimp only; omega)) (.c rfl (.base 26 rfl rfl)) inferInstance
   ·skip
    refine XK.exit rfl ?_
    refine XK.seq (XK.region rfl ?_)
    refine XO.q (Q.fieldAddr rfl) ?_
    refine XO.q (Q.ld rfl rfl) ?_
    refine XO.q (Q.move rfl) ?_
    refine XO.ix rfl rfl (by omega) (by simp only [List.length_set]; omega) fun i53 => ?_
    refine XO.q (Q.ldE rfl (by first | assumption | omega) rfl) ?_
    refine XO.q (Q.lss rfl rfl) ?_
    refine XO.done ?_
    refine XK.if rfl (fun c3 => ?_) (fun c3 => ?_)
    ·skip
     refine XK.region rfl ?_
     refine XO.q (Q.ld rfl rfl) ?_
     refine XO.q (Q.move rfl) ?_
     refine XO.lit [_] [_] [_] encI (by rfl) (by rfl) rfl (by rfl) (by exact .c 0 1 rfl rfl rfl (.n _)) (fun _ => rfl) (by rfl) rfl (by infer_instance) rfl fun v58 h58 O58 => ?_
     refine XO.append rfl rfl rfl rfl (by simp only [List.length_map, List.length_cons, List.length_nil]; omega) fun v59 h59 O59 => ?_
     refine XO.st rfl rfl rfl ?_
     refine XO.done ?_
     refine XK.inBlock ?_
     have hct := ctlOf_none (fun u2 h2 => hno u2 (by omega))
     exact XK.leave (j := none) [h8_4, blk b6 [v59] 29, h59] trivial ⟨(ctl2.set s (-1), h8_4, v59, h59), ⟨by rw [take_snoc hsL, ctlAt_snoc, hct, ← e2], O8_4, by rw [take_snoc hsL, outs_yes (by rw [hct]; omega), List.map_append]; exact O59⟩, rfl⟩
    ·skip
     have hg : (ctl2.set s (-1)).getD s default = -1 := by rw [List.getD_eq_getElem?_getD]; simp [hlc2, hsS]
     exact absurd (by rw [hg]; omega) c3
  ·rintro ⟨ctl2, hC2, vo, hO⟩ ⟨e2, OC2, OO⟩
   dsimp only [lcA, lnA]
   rw [List.length_map, List.take_length] at e2 OO
   refine XK.inBlock ?_
   refine XK.seq (XK.seq (XK.region rfl ?_))
   refine XO.q (Q.ld rfl rfl) ?_
   refine XO.len rfl fun l61 => ?_
   refine XO.q (Q.eql rfl rfl) ?_
   refine XO.done ?_
   refine XK.if rfl (fun c4 => ?_) (fun c4 => ?_)
   ·skip
    have h0 : (outsAt next C K ins (insL ins)).length = 0 := by rw [List.length_map] at c4; omega
    have hout := List.length_eq_zero_iff.1 h0
    obtain ⟨f2, rfl⟩ : ∃ f2, fu = f2 + 1 := ⟨fu - 1, by omega⟩
    rw [rounds, if_pos hout, ← e2] at hro
    refine XK.exit rfl ?_
    refine XK.seq (XK.seq (XK.region rfl ?_))
    refine XO.q (Q.ldA [_, _, _] rfl rfl rfl) ?_
    refine XO.call Tryz.call101 rfl rfl rfl (safe_spec _ _ _) fun v80 s80 R80 => ?_
    obtain ⟨b80, rfl, rfl⟩ := R80
    dsimp only [lcA, lnA]
    refine XO.done (XK.block ?_)
    refine XK.range (X := List Int × PHeap) (ps := [81]) ((insL ins).map fun s => [Value.int .i64 ((s : Nat) : Int)]) (fun ⟨rn2, hR2⟩ => [hR2]) (fun i ⟨rn2, hR2⟩ => rn2 = setAll rnk ((insL ins).take i) (-1) ∧ OArr v21 encI 1 3 hR2 rn2) (fun _ _ => False) (rnk, hR) [hR] rfl ⟨by simp [setAll], OR⟩ rfl (safe1 b80 v14 v18 v21 hI ins) rfl (by intro i hi; rw [List.getD_eq_getElem?_getD, List.getElem?_eq_getElem hi]; simp) ?_ ?_ (fun _ _ hJ => hJ.elim)
    ·rintro lq rec B' i ⟨rn2, hR2⟩ hi ⟨e3, OR2⟩
     dsimp only [lcA, lnA]
     have hi2 : i < (insL ins).length := by rw [List.length_map] at hi; exact hi
     obtain ⟨s, hsL⟩ : ∃ s, (insL ins)[i]? = some s := ⟨_, List.getElem?_eq_getElem hi2⟩
     have hit : ((insL ins).map fun s => [Value.int .i64 ((s : Nat) : Int)]).getD i [] = [.int .i64 (s : Nat)] := by rw [List.getD_eq_getElem?_getD, List.getElem?_map, hsL]; rfl
     rw [hit]
     dsimp only [pars]
     obtain ⟨hsS, hsI⟩ := insL_mem hsL
     rw [hli] at hsS
     have hlr2 : rn2.length = S := by rw [e3, setAll_len]; exact hlr
     refine XK.region rfl (XO.q (Q.assign rfl) (XO.done ?_))
     refine XK.beginRound ?_
     refine XK.block (XK.region rfl ?_)
     refine XO.q (Q.fieldAddr rfl) ?_
     refine XO.q (Q.ld rfl rfl) ?_
     refine XO.q (Q.move rfl) ?_
     refine XO.ix rfl rfl (by omega) (by omega) fun i85 => ?_
     refine XO.stE _ rfl rfl rfl (by assumption) rfl rfl fun h25_4 O25_4 => ?_
     refine XO.done ?_
     refine XK.inBlock ?_
     exact XK.leave (j := none) [h25_4] trivial ⟨(rn2.set s (-1), h25_4), ⟨by rw [take_snoc hsL, setAll_snoc, ← e3], O25_4⟩, rfl⟩
    ·rintro ⟨rn2, hR2⟩ ⟨e3, OR2⟩
     dsimp only [lcA, lnA]
     rw [List.length_map, List.take_length] at e3
     refine XK.inBlock ?_
     refine XK.seq (XK.region rfl ?_)
     refine XO.q (Q.ldA [_, _, _] rfl rfl rfl) ?_
     refine XO.st rfl rfl rfl ?_
     refine XO.done ?_
     refine XK.rt [hI, hC2, hR2] Tryz.func45 Tryz.results45 (.cell [_, _, _] rfl rfl rfl (.n)) ?_
     have hsol : solved S C K next good = (ins, ctl2, setAll rnk (insL ins) (-1)) := by unfold solved; rw [← hro]
     rw [hsol]
     exact ⟨v14, v18, v21, hI, hC2, hR2, rfl, rfl, OI, OC2, by rw [← e3]; exact OR2⟩
   ·skip
    have hne : outsAt next C K ins (insL ins) ≠ [] := by intro h0; rw [h0] at c4; exact c4 rfl
    obtain ⟨f2, rfl⟩ : ∃ f2, fu = f2 + 1 := ⟨fu - 1, by omega⟩
    have hlc2 : ctl2.length = S := by rw [e2, ctlAt_len]; exact hlc
    rw [rounds, if_neg hne, ← e2] at hro
    have hmem : ∀ s ∈ outsAt next C K ins (insL ins), s < ins.length ∧ ins.getD s false = true := fun s hs => by
     have h1 := List.mem_filter.1 (List.mem_filter.1 hs).1
     exact ⟨List.mem_range.1 h1.1, h1.2⟩
    have hlt := count_setAll_lt hne hmem
    obtain ⟨outs, hou⟩ : ∃ outs, outs = outsAt next C K ins (insL ins) := ⟨_, rfl⟩
    rw [← hou] at hro hlt OO hne hmem
    refine XK.skip (XK.seq (XK.region rfl ?_))
    refine XO.q (Q.ld rfl rfl) ?_
    refine XO.len rfl fun l64 => ?_
    refine XO.q (Q.move rfl) (XO.done (XK.block ?_))
    refine XK.while (X := Nat × PHeap × PHeap) [10, 65, 66, 67, 68, 69, 70, 71, 72, 73, 74, 75, 76, 77, 78] (fun ⟨j, hI2, hR2⟩ => [(65, some (.int .i64 (j : Nat)))]) (fun ⟨j, hI2, hR2⟩ => [hI2, hR2]) (fun ⟨j, hI2, hR2⟩ => j ≤ outs.length ∧ OArr v14 encB 1 4 hI2 (setAll ins (outs.take j) false) ∧ OArr v21 encI 1 3 hR2 (setAll rnk (outs.take j) rank)) (fun ⟨j, hI2, hR2⟩ => outs.length - j) (0, hI, hR) [hI, hR] rfl ⟨by omega, by simpa [setAll] using OI, by simpa [setAll] using OR⟩ (.c rfl (.base 0 rfl rfl)) ?_
    rintro ⟨j, hI2, hR2⟩ ⟨hj, OI2, OR2⟩ ih2
    dsimp only [lcA, lnA] at ih2 ⊢
    refine XK.seq (XK.region rfl ?_)
    refine XO.q (Q.lss rfl rfl) ?_
    refine XO.done (XK.seq ?_)
    refine XK.if rfl (fun c5 => ?_) (fun c5 => ?_)
    ·skip
     have hj2 : j < outs.length := by simp only [List.length_map] at c5; omega
     obtain ⟨s, hsO⟩ : ∃ s, outs[j]? = some s := ⟨_, List.getElem?_eq_getElem hj2⟩
     have hsm := (hmem s (List.mem_of_getElem? hsO)).1
     rw [hli] at hsm
     have hgs : (outs.map fun s : Nat => (s : Int)).getD j default = (s : Int) := by rw [List.getD_eq_getElem?_getD, List.getElem?_map, hsO]; rfl
     refine XK.skip (XK.seq (XK.block (XK.seq (XK.region rfl ?_))))
     refine XO.ix rfl rfl (by omega) (by omega) fun i67 => ?_
     refine XO.q (Q.ldE rfl (by first | assumption | omega) rfl) ?_
     rw [hgs]
     refine XO.q (Q.assign rfl) (XO.done ?_)
     refine XK.drawn [0, 1, 2, 3, 4, 5, 6, 7, 9] [b3] [] (.q 0 (.q 1 (.q 2 (.q 3 (.q 4 (.q 5 (.q 6 (.q 7 (.br 8 true (.q 9 (.br 10 false .done .stop)) .stop))))))))) Tryz.mixed rfl (by kernel_rfl) ?_
     refine XT.q rfl rfl (Q.fieldAddr rfl) ?_
     refine XT.q rfl rfl (Q.ld rfl rfl) ?_
     refine XT.q rfl rfl (Q.move rfl) ?_
     refine XT.q rfl rfl (Q.fieldAddr rfl) ?_
     refine XT.q rfl rfl (Q.ld rfl rfl) ?_
     refine XT.q rfl rfl (Q.move rfl) ?_
     refine XT.q rfl rfl (Q.move rfl) ?_
     refine XT.ix rfl rfl rfl rfl (by omega) (by rw [setAll_len]; omega) fun i76 => ?_
     refine XT.stE _ rfl rfl rfl rfl rfl (by assumption) rfl rfl (fun h21_8 O21_8 => ⟨inferInstance, ?_⟩) XT.stop
     refine XT.ix rfl rfl rfl rfl (by omega) (by rw [setAll_len]; omega) fun i77 => ?_
     refine XT.stE _ rfl rfl rfl rfl rfl (by assumption) rfl rfl (fun h21_10 O21_10 => ⟨inferInstance, ?_⟩) XT.stop
     refine XT.done ?_
     refine XK.inBlock ?_
     refine XK.region rfl ?_
     refine XO.q (Q.add rfl rfl ⟨by omega, by omega⟩) ?_
     refine XO.q (Q.move rfl) (XO.done ?_)
     exact ih2 (j + 1, h21_8, h21_10) _ _ ⟨by dsimp only; omega, by dsimp only; rw [take_snoc hsO, setAll_snoc]; exact O21_8, by dsimp only; rw [take_snoc hsO, setAll_snoc]; exact O21_10⟩ (by first | omega | (dsimp only; omega)) (.c rfl (.base 31 rfl rfl)) inferInstance
    ·skip
     simp only [List.length_map] at c5
     refine XK.exit rfl ?_
     refine XK.inBlock ?_
     refine XK.region rfl (XO.q (Q.move rfl) ?_)
     refine XO.q (Q.add rfl rfl ⟨by omega, by omega⟩) ?_
     refine XO.q (Q.assign rfl) (XO.done ?_)
     have hj2 : outs.take j = outs := List.take_of_length_le (by omega)
     rw [hj2] at OI2 OR2
     exact ih0 (rank + 1, setAll ins outs false, hI2, ctl2, hC2, setAll rnk outs rank, hR2) _ _ ⟨by dsimp only; omega, by dsimp only; omega, by dsimp only; rw [setAll_len]; exact hli, hlc2, by dsimp only; rw [setAll_len]; exact hlr, ⟨f2, by dsimp only; omega, hro⟩, OI2, OC2, OR2⟩ hlt (.c rfl (.base 88 rfl rfl)) inferInstance
 ·intro mtr1
  dsimp only [lcA, lnA] at mtr1
  refine XK.drawn [0, 1, 4, 5, 7, 8, 10] [b1] [] (.q 0 (.q 1 (.q 4 (.q 5 (.q 7 (.q 8 (.br 2 true (.br 3 true (.br 6 true (.br 9 true (.q 10 (.br 11 true (.br 12 false .done .stop) .stop)) (.br 11 true (.br 9 true (.q 10 (.br 12 false .done .stop)) .stop) .stop)) (.br 9 true (.br 6 true (.q 10 (.br 11 true (.br 12 false .done .stop) .stop)) (.br 11 true (.br 6 true (.q 10 (.br 12 false .done .stop)) .stop) .stop)) (.br 11 true (.br 6 true (.br 9 true (.q 10 (.br 12 false .done .stop)) .stop) (.br 9 true (.br 6 true (.q 10 (.br 12 false .done .stop)) .stop) .stop)) .stop))) (.br 9 true (.br 3 true (.br 6 true (.q 10 (.br 11 true (.br 12 false .done .stop) .stop)) (.br 11 true (.br 6 true (.q 10 (.br 12 false .done .stop)) .stop) .stop)) (.br 11 true (.br 3 true (.br 6 true (.q 10 (.br 12 false .done .stop)) .stop) .stop) .stop)) (.br 11 true (.br 3 true (.br 6 true (.br 9 true (.q 10 (.br 12 false .done .stop)) .stop) (.br 9 true (.br 6 true (.q 10 (.br 12 false .done .stop)) .stop) .stop)) (.br 9 true (.br 3 true (.br 6 true (.q 10 (.br 12 false .done .stop)) .stop) .stop) .stop)) .stop))) (.br 3 true (.br 2 true (.br 6 true (.br 9 true (.q 10 (.br 11 true (.br 12 false .done .stop) .stop)) (.br 11 true (.br 9 true (.q 10 (.br 12 false .done .stop)) .stop) .stop)) (.br 9 true (.br 6 true (.q 10 (.br 11 true (.br 12 false .done .stop) .stop)) (.br 11 true (.br 6 true (.q 10 (.br 12 false .done .stop)) .stop) .stop)) (.br 11 true (.br 6 true (.br 9 true (.q 10 (.br 12 false .done .stop)) .stop) (.br 9 true (.br 6 true (.q 10 (.br 12 false .done .stop)) .stop) .stop)) .stop))) (.br 9 true (.br 2 true (.br 6 true (.q 10 (.br 11 true (.br 12 false .done .stop) .stop)) (.br 11 true (.br 6 true (.q 10 (.br 12 false .done .stop)) .stop) .stop)) (.br 11 true (.br 2 true (.br 6 true (.q 10 (.br 12 false .done .stop)) .stop) .stop) .stop)) (.br 11 true (.br 2 true (.br 6 true (.br 9 true (.q 10 (.br 12 false .done .stop)) .stop) (.br 9 true (.br 6 true (.q 10 (.br 12 false .done .stop)) .stop) .stop)) (.br 9 true (.br 2 true (.br 6 true (.q 10 (.br 12 false .done .stop)) .stop) .stop) .stop)) .stop))) (.br 9 true (.br 2 true (.br 3 true (.br 6 true (.q 10 (.br 11 true (.br 12 false .done .stop) .stop)) (.br 11 true (.br 6 true (.q 10 (.br 12 false .done .stop)) .stop) .stop)) (.br 11 true (.br 3 true (.br 6 true (.q 10 (.br 12 false .done .stop)) .stop) .stop) .stop)) (.br 3 true (.br 2 true (.br 6 true (.q 10 (.br 11 true (.br 12 false .done .stop) .stop)) (.br 11 true (.br 6 true (.q 10 (.br 12 false .done .stop)) .stop) .stop)) (.br 11 true (.br 2 true (.br 6 true (.q 10 (.br 12 false .done .stop)) .stop) .stop) .stop)) (.br 11 true (.br 2 true (.br 3 true (.br 6 true (.q 10 (.br 12 false .done .stop)) .stop) .stop) (.br 3 true (.br 2 true (.br 6 true (.q 10 (.br 12 false .done .stop)) .stop) .stop) .stop)) .stop))) (.br 11 true (.br 2 true (.br 3 true (.br 6 true (.br 9 true (.q 10 (.br 12 false .done .stop)) .stop) (.br 9 true (.br 6 true (.q 10 (.br 12 false .done .stop)) .stop) .stop)) (.br 9 true (.br 3 true (.br 6 true (.q 10 (.br 12 false .done .stop)) .stop) .stop) .stop)) (.br 3 true (.br 2 true (.br 6 true (.br 9 true (.q 10 (.br 12 false .done .stop)) .stop) (.br 9 true (.br 6 true (.q 10 (.br 12 false .done .stop)) .stop) .stop)) (.br 9 true (.br 2 true (.br 6 true (.q 10 (.br 12 false .done .stop)) .stop) .stop) .stop)) (.br 9 true (.br 2 true (.br 3 true (.br 6 true (.q 10 (.br 12 false .done .stop)) .stop) .stop) (.br 3 true (.br 2 true (.br 6 true (.q 10 (.br 12 false .done .stop)) .stop) .stop) .stop)) .stop))) .stop)))))))))) Tryz.mixed rfl (by kernel_rfl) ?_
  refine XT.q rfl rfl (Q.fieldAddr rfl) ?_
  refine XT.q rfl rfl (Q.ld rfl rfl) ?_
  refine XT.q rfl rfl (Q.fieldAddr rfl) ?_
  refine XT.q rfl rfl (Q.ld rfl rfl) ?_
  refine XT.q rfl rfl (Q.fieldAddr rfl) ?_
  refine XT.q rfl rfl (Q.ld rfl rfl) ?_
  refine XT.call rfl rfl Tryz.call99 rfl rfl rfl (cloneB _ _ _ (by omega)) (fun v14 s14 R14 => ?_) ?_
  ·skip
   obtain ⟨h14, rfl, O14⟩ := R14
   dsimp only [lcA, lnA]
   refine ⟨inferInstance, ?_⟩
   refine XT.lit [_] [_] [-1] encI rfl rfl (by rfl) (by rfl) rfl (by rfl) (by exact .c 0 1 rfl rfl rfl (.n _)) (fun _ => rfl) (by rfl) rfl (by infer_instance) rfl (fun v15 h15 O15 => ⟨inferInstance, ?_⟩) ?_
   ·skip
    refine XT.call rfl rfl Tryz.call100 rfl rfl rfl (repeatI _ _ _ S (by omega)) (fun v18 s18 R18 => ?_) ?_
    ·skip
     obtain ⟨h18, rfl, O18⟩ := R18
     dsimp only [lcA, lnA]
     refine ⟨inferInstance, ?_⟩
     refine XT.make encI (0) rfl rfl rfl rfl rfl (by omega) (by omega) (fun _ => rfl) rfl rfl rfl (by dsimp only [encI]; infer_instance) (fun v21 h21 O21 => ⟨inferInstance, ?_⟩) ?_
     ·skip
      refine XT.q rfl rfl (Q.build [_, _, _] (.c 0 1 rfl rfl rfl (.c 1 1 rfl rfl rfl (.c 2 1 rfl rfl rfl (.n _))))) ?_
      refine XT.alloc rfl rfl (fun b3 => ⟨inferInstance, ?_⟩) XT.stop
      refine XT.st rfl rfl rfl rfl rfl ⟨inferInstance, ?_⟩ XT.stop
      refine XT.done ?_
      exact mtr1 ((b3, v14, h14, v18, h18, v21, h21)) _ _ ⟨O14, O18, O21⟩ (.c rfl (.base 12 rfl rfl)) inferInstance
     ·skip
      refine XT.alloc rfl rfl (fun b3 => ⟨inferInstance, ?_⟩) XT.stop
      refine XT.make encI (0) rfl rfl rfl rfl rfl (by omega) (by omega) (fun _ => rfl) rfl rfl rfl (by dsimp only [encI]; infer_instance) (fun v21 h21 O21 => ⟨inferInstance, ?_⟩) XT.stop
      refine XT.q rfl rfl (Q.build [_, _, _] (.c 0 1 rfl rfl rfl (.c 1 1 rfl rfl rfl (.c 2 1 rfl rfl rfl (.n _))))) ?_
      refine XT.st rfl rfl rfl rfl rfl ⟨inferInstance, ?_⟩ XT.stop
      refine XT.done ?_
      exact mtr1 ((b3, v14, h14, v18, h18, v21, h21)) _ _ ⟨O14, O18, O21⟩ (.c rfl (.base 12 rfl rfl)) inferInstance
    ·skip
     refine XT.make encI (0) rfl rfl rfl rfl rfl (by omega) (by omega) (fun _ => rfl) rfl rfl rfl (by dsimp only [encI]; infer_instance) (fun v21 h21 O21 => ⟨inferInstance, ?_⟩) ?_
     ·skip
      refine XT.call rfl rfl Tryz.call100 rfl rfl rfl (repeatI _ _ _ S (by omega)) (fun v18 s18 R18 => ?_) ?_
      ·skip
       obtain ⟨h18, rfl, O18⟩ := R18
       dsimp only [lcA, lnA]
       refine ⟨inferInstance, ?_⟩
       refine XT.q rfl rfl (Q.build [_, _, _] (.c 0 1 rfl rfl rfl (.c 1 1 rfl rfl rfl (.c 2 1 rfl rfl rfl (.n _))))) ?_
       refine XT.alloc rfl rfl (fun b3 => ⟨inferInstance, ?_⟩) XT.stop
       refine XT.st rfl rfl rfl rfl rfl ⟨inferInstance, ?_⟩ XT.stop
       refine XT.done ?_
       exact mtr1 ((b3, v14, h14, v18, h18, v21, h21)) _ _ ⟨O14, O18, O21⟩ (.c rfl (.base 12 rfl rfl)) inferInstance
      ·skip
       refine XT.alloc rfl rfl (fun b3 => ⟨inferInstance, ?_⟩) XT.stop
       refine XT.call rfl rfl Tryz.call100 rfl rfl rfl (repeatI _ _ _ S (by omega)) (fun v18 s18 R18 => ?_) XT.stop
       obtain ⟨h18, rfl, O18⟩ := R18
       dsimp only [lcA, lnA]
       refine ⟨inferInstance, ?_⟩
       refine XT.q rfl rfl (Q.build [_, _, _] (.c 0 1 rfl rfl rfl (.c 1 1 rfl rfl rfl (.c 2 1 rfl rfl rfl (.n _))))) ?_
       refine XT.st rfl rfl rfl rfl rfl ⟨inferInstance, ?_⟩ XT.stop
       refine XT.done ?_
       exact mtr1 ((b3, v14, h14, v18, h18, v21, h21)) _ _ ⟨O14, O18, O21⟩ (.c rfl (.base 12 rfl rfl)) inferInstance
     ·skip
      refine XT.alloc rfl rfl (fun b3 => ⟨inferInstance, ?_⟩) XT.stop
      refine XT.call rfl rfl Tryz.call100 rfl rfl rfl (repeatI _ _ _ S (by omega)) (fun v18 s18 R18 => ?_) ?_
      ·skip
       obtain ⟨h18, rfl, O18⟩ := R18
       dsimp only [lcA, lnA]
       refine ⟨inferInstance, ?_⟩
       refine XT.make encI (0) rfl rfl rfl rfl rfl (by omega) (by omega) (fun _ => rfl) rfl rfl rfl (by dsimp only [encI]; infer_instance) (fun v21 h21 O21 => ⟨inferInstance, ?_⟩) XT.stop
       refine XT.q rfl rfl (Q.build [_, _, _] (.c 0 1 rfl rfl rfl (.c 1 1 rfl rfl rfl (.c 2 1 rfl rfl rfl (.n _))))) ?_
       refine XT.st rfl rfl rfl rfl rfl ⟨inferInstance, ?_⟩ XT.stop
       refine XT.done ?_
       exact mtr1 ((b3, v14, h14, v18, h18, v21, h21)) _ _ ⟨O14, O18, O21⟩ (.c rfl (.base 12 rfl rfl)) inferInstance
      ·skip
       refine XT.make encI (0) rfl rfl rfl rfl rfl (by omega) (by omega) (fun _ => rfl) rfl rfl rfl (by dsimp only [encI]; infer_instance) (fun v21 h21 O21 => ⟨inferInstance, ?_⟩) XT.stop
       refine XT.call rfl rfl Tryz.call100 rfl rfl rfl (repeatI _ _ _ S (by omega)) (fun v18 s18 R18 => ?_) XT.stop
       obtain ⟨h18, rfl, O18⟩ := R18
       dsimp only [lcA, lnA]
       refine ⟨inferInstance, ?_⟩
       refine XT.q rfl rfl (Q.build [_, _, _] (.c 0 1 rfl rfl rfl (.c 1 1 rfl rfl rfl (.c 2 1 rfl rfl rfl (.n _))))) ?_
       refine XT.st rfl rfl rfl rfl rfl ⟨inferInstance, ?_⟩ XT.stop
       refine XT.done ?_
       exact mtr1 ((b3, v14, h14, v18, h18, v21, h21)) _ _ ⟨O14, O18, O21⟩ (.c rfl (.base 12 rfl rfl)) inferInstance
   ·skip
    refine XT.make encI (0) rfl rfl rfl rfl rfl (by omega) (by omega) (fun _ => rfl) rfl rfl rfl (by dsimp only [encI]; infer_instance) (fun v21 h21 O21 => ⟨inferInstance, ?_⟩) ?_
    ·skip
     refine XT.lit [_] [_] [-1] encI rfl rfl (by rfl) (by rfl) rfl (by rfl) (by exact .c 0 1 rfl rfl rfl (.n _)) (fun _ => rfl) (by rfl) rfl (by infer_instance) rfl (fun v15 h15 O15 => ⟨inferInstance, ?_⟩) ?_
     ·skip
      refine XT.call rfl rfl Tryz.call100 rfl rfl rfl (repeatI _ _ _ S (by omega)) (fun v18 s18 R18 => ?_) ?_
      ·skip
       obtain ⟨h18, rfl, O18⟩ := R18
       dsimp only [lcA, lnA]
       refine ⟨inferInstance, ?_⟩
       refine XT.q rfl rfl (Q.build [_, _, _] (.c 0 1 rfl rfl rfl (.c 1 1 rfl rfl rfl (.c 2 1 rfl rfl rfl (.n _))))) ?_
       refine XT.alloc rfl rfl (fun b3 => ⟨inferInstance, ?_⟩) XT.stop
       refine XT.st rfl rfl rfl rfl rfl ⟨inferInstance, ?_⟩ XT.stop
       refine XT.done ?_
       exact mtr1 ((b3, v14, h14, v18, h18, v21, h21)) _ _ ⟨O14, O18, O21⟩ (.c rfl (.base 12 rfl rfl)) inferInstance
      ·skip
       refine XT.alloc rfl rfl (fun b3 => ⟨inferInstance, ?_⟩) XT.stop
       refine XT.call rfl rfl Tryz.call100 rfl rfl rfl (repeatI _ _ _ S (by omega)) (fun v18 s18 R18 => ?_) XT.stop
       obtain ⟨h18, rfl, O18⟩ := R18
       dsimp only [lcA, lnA]
       refine ⟨inferInstance, ?_⟩
       refine XT.q rfl rfl (Q.build [_, _, _] (.c 0 1 rfl rfl rfl (.c 1 1 rfl rfl rfl (.c 2 1 rfl rfl rfl (.n _))))) ?_
       refine XT.st rfl rfl rfl rfl rfl ⟨inferInstance, ?_⟩ XT.stop
       refine XT.done ?_
       exact mtr1 ((b3, v14, h14, v18, h18, v21, h21)) _ _ ⟨O14, O18, O21⟩ (.c rfl (.base 12 rfl rfl)) inferInstance
     ·skip
      refine XT.alloc rfl rfl (fun b3 => ⟨inferInstance, ?_⟩) XT.stop
      refine XT.lit [_] [_] [-1] encI rfl rfl (by rfl) (by rfl) rfl (by rfl) (by exact .c 0 1 rfl rfl rfl (.n _)) (fun _ => rfl) (by rfl) rfl (by infer_instance) rfl (fun v15 h15 O15 => ⟨inferInstance, ?_⟩) XT.stop
      refine XT.call rfl rfl Tryz.call100 rfl rfl rfl (repeatI _ _ _ S (by omega)) (fun v18 s18 R18 => ?_) XT.stop
      obtain ⟨h18, rfl, O18⟩ := R18
      dsimp only [lcA, lnA]
      refine ⟨inferInstance, ?_⟩
      refine XT.q rfl rfl (Q.build [_, _, _] (.c 0 1 rfl rfl rfl (.c 1 1 rfl rfl rfl (.c 2 1 rfl rfl rfl (.n _))))) ?_
      refine XT.st rfl rfl rfl rfl rfl ⟨inferInstance, ?_⟩ XT.stop
      refine XT.done ?_
      exact mtr1 ((b3, v14, h14, v18, h18, v21, h21)) _ _ ⟨O14, O18, O21⟩ (.c rfl (.base 12 rfl rfl)) inferInstance
    ·skip
     refine XT.alloc rfl rfl (fun b3 => ⟨inferInstance, ?_⟩) XT.stop
     refine XT.lit [_] [_] [-1] encI rfl rfl (by rfl) (by rfl) rfl (by rfl) (by exact .c 0 1 rfl rfl rfl (.n _)) (fun _ => rfl) (by rfl) rfl (by infer_instance) rfl (fun v15 h15 O15 => ⟨inferInstance, ?_⟩) ?_
     ·skip
      refine XT.call rfl rfl Tryz.call100 rfl rfl rfl (repeatI _ _ _ S (by omega)) (fun v18 s18 R18 => ?_) ?_
      ·skip
       obtain ⟨h18, rfl, O18⟩ := R18
       dsimp only [lcA, lnA]
       refine ⟨inferInstance, ?_⟩
       refine XT.make encI (0) rfl rfl rfl rfl rfl (by omega) (by omega) (fun _ => rfl) rfl rfl rfl (by dsimp only [encI]; infer_instance) (fun v21 h21 O21 => ⟨inferInstance, ?_⟩) XT.stop
       refine XT.q rfl rfl (Q.build [_, _, _] (.c 0 1 rfl rfl rfl (.c 1 1 rfl rfl rfl (.c 2 1 rfl rfl rfl (.n _))))) ?_
       refine XT.st rfl rfl rfl rfl rfl ⟨inferInstance, ?_⟩ XT.stop
       refine XT.done ?_
       exact mtr1 ((b3, v14, h14, v18, h18, v21, h21)) _ _ ⟨O14, O18, O21⟩ (.c rfl (.base 12 rfl rfl)) inferInstance
      ·skip
       refine XT.make encI (0) rfl rfl rfl rfl rfl (by omega) (by omega) (fun _ => rfl) rfl rfl rfl (by dsimp only [encI]; infer_instance) (fun v21 h21 O21 => ⟨inferInstance, ?_⟩) XT.stop
       refine XT.call rfl rfl Tryz.call100 rfl rfl rfl (repeatI _ _ _ S (by omega)) (fun v18 s18 R18 => ?_) XT.stop
       obtain ⟨h18, rfl, O18⟩ := R18
       dsimp only [lcA, lnA]
       refine ⟨inferInstance, ?_⟩
       refine XT.q rfl rfl (Q.build [_, _, _] (.c 0 1 rfl rfl rfl (.c 1 1 rfl rfl rfl (.c 2 1 rfl rfl rfl (.n _))))) ?_
       refine XT.st rfl rfl rfl rfl rfl ⟨inferInstance, ?_⟩ XT.stop
       refine XT.done ?_
       exact mtr1 ((b3, v14, h14, v18, h18, v21, h21)) _ _ ⟨O14, O18, O21⟩ (.c rfl (.base 12 rfl rfl)) inferInstance
     ·skip
      refine XT.make encI (0) rfl rfl rfl rfl rfl (by omega) (by omega) (fun _ => rfl) rfl rfl rfl (by dsimp only [encI]; infer_instance) (fun v21 h21 O21 => ⟨inferInstance, ?_⟩) XT.stop
      refine XT.lit [_] [_] [-1] encI rfl rfl (by rfl) (by rfl) rfl (by rfl) (by exact .c 0 1 rfl rfl rfl (.n _)) (fun _ => rfl) (by rfl) rfl (by infer_instance) rfl (fun v15 h15 O15 => ⟨inferInstance, ?_⟩) XT.stop
      refine XT.call rfl rfl Tryz.call100 rfl rfl rfl (repeatI _ _ _ S (by omega)) (fun v18 s18 R18 => ?_) XT.stop
      obtain ⟨h18, rfl, O18⟩ := R18
      dsimp only [lcA, lnA]
      refine ⟨inferInstance, ?_⟩
      refine XT.q rfl rfl (Q.build [_, _, _] (.c 0 1 rfl rfl rfl (.c 1 1 rfl rfl rfl (.c 2 1 rfl rfl rfl (.n _))))) ?_
      refine XT.st rfl rfl rfl rfl rfl ⟨inferInstance, ?_⟩ XT.stop
      refine XT.done ?_
      exact mtr1 ((b3, v14, h14, v18, h18, v21, h21)) _ _ ⟨O14, O18, O21⟩ (.c rfl (.base 12 rfl rfl)) inferInstance
  ·skip
   refine XT.lit [_] [_] [-1] encI rfl rfl (by rfl) (by rfl) rfl (by rfl) (by exact .c 0 1 rfl rfl rfl (.n _)) (fun _ => rfl) (by rfl) rfl (by infer_instance) rfl (fun v15 h15 O15 => ⟨inferInstance, ?_⟩) ?_
   ·skip
    refine XT.call rfl rfl Tryz.call99 rfl rfl rfl (cloneB _ _ _ (by omega)) (fun v14 s14 R14 => ?_) ?_
    ·skip
     obtain ⟨h14, rfl, O14⟩ := R14
     dsimp only [lcA, lnA]
     refine ⟨inferInstance, ?_⟩
     refine XT.call rfl rfl Tryz.call100 rfl rfl rfl (repeatI _ _ _ S (by omega)) (fun v18 s18 R18 => ?_) ?_
     ·skip
      obtain ⟨h18, rfl, O18⟩ := R18
      dsimp only [lcA, lnA]
      refine ⟨inferInstance, ?_⟩
      refine XT.make encI (0) rfl rfl rfl rfl rfl (by omega) (by omega) (fun _ => rfl) rfl rfl rfl (by dsimp only [encI]; infer_instance) (fun v21 h21 O21 => ⟨inferInstance, ?_⟩) ?_
      ·skip
       refine XT.q rfl rfl (Q.build [_, _, _] (.c 0 1 rfl rfl rfl (.c 1 1 rfl rfl rfl (.c 2 1 rfl rfl rfl (.n _))))) ?_
       refine XT.alloc rfl rfl (fun b3 => ⟨inferInstance, ?_⟩) XT.stop
       refine XT.st rfl rfl rfl rfl rfl ⟨inferInstance, ?_⟩ XT.stop
       refine XT.done ?_
       exact mtr1 ((b3, v14, h14, v18, h18, v21, h21)) _ _ ⟨O14, O18, O21⟩ (.c rfl (.base 12 rfl rfl)) inferInstance
      ·skip
       refine XT.alloc rfl rfl (fun b3 => ⟨inferInstance, ?_⟩) XT.stop
       refine XT.make encI (0) rfl rfl rfl rfl rfl (by omega) (by omega) (fun _ => rfl) rfl rfl rfl (by dsimp only [encI]; infer_instance) (fun v21 h21 O21 => ⟨inferInstance, ?_⟩) XT.stop
       refine XT.q rfl rfl (Q.build [_, _, _] (.c 0 1 rfl rfl rfl (.c 1 1 rfl rfl rfl (.c 2 1 rfl rfl rfl (.n _))))) ?_
       refine XT.st rfl rfl rfl rfl rfl ⟨inferInstance, ?_⟩ XT.stop
       refine XT.done ?_
       exact mtr1 ((b3, v14, h14, v18, h18, v21, h21)) _ _ ⟨O14, O18, O21⟩ (.c rfl (.base 12 rfl rfl)) inferInstance
     ·skip
      refine XT.make encI (0) rfl rfl rfl rfl rfl (by omega) (by omega) (fun _ => rfl) rfl rfl rfl (by dsimp only [encI]; infer_instance) (fun v21 h21 O21 => ⟨inferInstance, ?_⟩) ?_
      ·skip
       refine XT.call rfl rfl Tryz.call100 rfl rfl rfl (repeatI _ _ _ S (by omega)) (fun v18 s18 R18 => ?_) ?_
       ·skip
        obtain ⟨h18, rfl, O18⟩ := R18
        dsimp only [lcA, lnA]
        refine ⟨inferInstance, ?_⟩
        refine XT.q rfl rfl (Q.build [_, _, _] (.c 0 1 rfl rfl rfl (.c 1 1 rfl rfl rfl (.c 2 1 rfl rfl rfl (.n _))))) ?_
        refine XT.alloc rfl rfl (fun b3 => ⟨inferInstance, ?_⟩) XT.stop
        refine XT.st rfl rfl rfl rfl rfl ⟨inferInstance, ?_⟩ XT.stop
        refine XT.done ?_
        exact mtr1 ((b3, v14, h14, v18, h18, v21, h21)) _ _ ⟨O14, O18, O21⟩ (.c rfl (.base 12 rfl rfl)) inferInstance
       ·skip
        refine XT.alloc rfl rfl (fun b3 => ⟨inferInstance, ?_⟩) XT.stop
        refine XT.call rfl rfl Tryz.call100 rfl rfl rfl (repeatI _ _ _ S (by omega)) (fun v18 s18 R18 => ?_) XT.stop
        obtain ⟨h18, rfl, O18⟩ := R18
        dsimp only [lcA, lnA]
        refine ⟨inferInstance, ?_⟩
        refine XT.q rfl rfl (Q.build [_, _, _] (.c 0 1 rfl rfl rfl (.c 1 1 rfl rfl rfl (.c 2 1 rfl rfl rfl (.n _))))) ?_
        refine XT.st rfl rfl rfl rfl rfl ⟨inferInstance, ?_⟩ XT.stop
        refine XT.done ?_
        exact mtr1 ((b3, v14, h14, v18, h18, v21, h21)) _ _ ⟨O14, O18, O21⟩ (.c rfl (.base 12 rfl rfl)) inferInstance
      ·skip
       refine XT.alloc rfl rfl (fun b3 => ⟨inferInstance, ?_⟩) XT.stop
       refine XT.call rfl rfl Tryz.call100 rfl rfl rfl (repeatI _ _ _ S (by omega)) (fun v18 s18 R18 => ?_) ?_
       ·skip
        obtain ⟨h18, rfl, O18⟩ := R18
        dsimp only [lcA, lnA]
        refine ⟨inferInstance, ?_⟩
        refine XT.make encI (0) rfl rfl rfl rfl rfl (by omega) (by omega) (fun _ => rfl) rfl rfl rfl (by dsimp only [encI]; infer_instance) (fun v21 h21 O21 => ⟨inferInstance, ?_⟩) XT.stop
        refine XT.q rfl rfl (Q.build [_, _, _] (.c 0 1 rfl rfl rfl (.c 1 1 rfl rfl rfl (.c 2 1 rfl rfl rfl (.n _))))) ?_
        refine XT.st rfl rfl rfl rfl rfl ⟨inferInstance, ?_⟩ XT.stop
        refine XT.done ?_
        exact mtr1 ((b3, v14, h14, v18, h18, v21, h21)) _ _ ⟨O14, O18, O21⟩ (.c rfl (.base 12 rfl rfl)) inferInstance
       ·skip
        refine XT.make encI (0) rfl rfl rfl rfl rfl (by omega) (by omega) (fun _ => rfl) rfl rfl rfl (by dsimp only [encI]; infer_instance) (fun v21 h21 O21 => ⟨inferInstance, ?_⟩) XT.stop
        refine XT.call rfl rfl Tryz.call100 rfl rfl rfl (repeatI _ _ _ S (by omega)) (fun v18 s18 R18 => ?_) XT.stop
        obtain ⟨h18, rfl, O18⟩ := R18
        dsimp only [lcA, lnA]
        refine ⟨inferInstance, ?_⟩
        refine XT.q rfl rfl (Q.build [_, _, _] (.c 0 1 rfl rfl rfl (.c 1 1 rfl rfl rfl (.c 2 1 rfl rfl rfl (.n _))))) ?_
        refine XT.st rfl rfl rfl rfl rfl ⟨inferInstance, ?_⟩ XT.stop
        refine XT.done ?_
        exact mtr1 ((b3, v14, h14, v18, h18, v21, h21)) _ _ ⟨O14, O18, O21⟩ (.c rfl (.base 12 rfl rfl)) inferInstance
    ·skip
     refine XT.make encI (0) rfl rfl rfl rfl rfl (by omega) (by omega) (fun _ => rfl) rfl rfl rfl (by dsimp only [encI]; infer_instance) (fun v21 h21 O21 => ⟨inferInstance, ?_⟩) ?_
     ·skip
      refine XT.call rfl rfl Tryz.call99 rfl rfl rfl (cloneB _ _ _ (by omega)) (fun v14 s14 R14 => ?_) ?_
      ·skip
       obtain ⟨h14, rfl, O14⟩ := R14
       dsimp only [lcA, lnA]
       refine ⟨inferInstance, ?_⟩
       refine XT.call rfl rfl Tryz.call100 rfl rfl rfl (repeatI _ _ _ S (by omega)) (fun v18 s18 R18 => ?_) ?_
       ·skip
        obtain ⟨h18, rfl, O18⟩ := R18
        dsimp only [lcA, lnA]
        refine ⟨inferInstance, ?_⟩
        refine XT.q rfl rfl (Q.build [_, _, _] (.c 0 1 rfl rfl rfl (.c 1 1 rfl rfl rfl (.c 2 1 rfl rfl rfl (.n _))))) ?_
        refine XT.alloc rfl rfl (fun b3 => ⟨inferInstance, ?_⟩) XT.stop
        refine XT.st rfl rfl rfl rfl rfl ⟨inferInstance, ?_⟩ XT.stop
        refine XT.done ?_
        exact mtr1 ((b3, v14, h14, v18, h18, v21, h21)) _ _ ⟨O14, O18, O21⟩ (.c rfl (.base 12 rfl rfl)) inferInstance
       ·skip
        refine XT.alloc rfl rfl (fun b3 => ⟨inferInstance, ?_⟩) XT.stop
        refine XT.call rfl rfl Tryz.call100 rfl rfl rfl (repeatI _ _ _ S (by omega)) (fun v18 s18 R18 => ?_) XT.stop
        obtain ⟨h18, rfl, O18⟩ := R18
        dsimp only [lcA, lnA]
        refine ⟨inferInstance, ?_⟩
        refine XT.q rfl rfl (Q.build [_, _, _] (.c 0 1 rfl rfl rfl (.c 1 1 rfl rfl rfl (.c 2 1 rfl rfl rfl (.n _))))) ?_
        refine XT.st rfl rfl rfl rfl rfl ⟨inferInstance, ?_⟩ XT.stop
        refine XT.done ?_
        exact mtr1 ((b3, v14, h14, v18, h18, v21, h21)) _ _ ⟨O14, O18, O21⟩ (.c rfl (.base 12 rfl rfl)) inferInstance
      ·skip
       refine XT.alloc rfl rfl (fun b3 => ⟨inferInstance, ?_⟩) XT.stop
       refine XT.call rfl rfl Tryz.call99 rfl rfl rfl (cloneB _ _ _ (by omega)) (fun v14 s14 R14 => ?_) XT.stop
       obtain ⟨h14, rfl, O14⟩ := R14
       dsimp only [lcA, lnA]
       refine ⟨inferInstance, ?_⟩
       refine XT.call rfl rfl Tryz.call100 rfl rfl rfl (repeatI _ _ _ S (by omega)) (fun v18 s18 R18 => ?_) XT.stop
       obtain ⟨h18, rfl, O18⟩ := R18
       dsimp only [lcA, lnA]
       refine ⟨inferInstance, ?_⟩
       refine XT.q rfl rfl (Q.build [_, _, _] (.c 0 1 rfl rfl rfl (.c 1 1 rfl rfl rfl (.c 2 1 rfl rfl rfl (.n _))))) ?_
       refine XT.st rfl rfl rfl rfl rfl ⟨inferInstance, ?_⟩ XT.stop
       refine XT.done ?_
       exact mtr1 ((b3, v14, h14, v18, h18, v21, h21)) _ _ ⟨O14, O18, O21⟩ (.c rfl (.base 12 rfl rfl)) inferInstance
     ·skip
      refine XT.alloc rfl rfl (fun b3 => ⟨inferInstance, ?_⟩) XT.stop
      refine XT.call rfl rfl Tryz.call99 rfl rfl rfl (cloneB _ _ _ (by omega)) (fun v14 s14 R14 => ?_) ?_
      ·skip
       obtain ⟨h14, rfl, O14⟩ := R14
       dsimp only [lcA, lnA]
       refine ⟨inferInstance, ?_⟩
       refine XT.call rfl rfl Tryz.call100 rfl rfl rfl (repeatI _ _ _ S (by omega)) (fun v18 s18 R18 => ?_) ?_
       ·skip
        obtain ⟨h18, rfl, O18⟩ := R18
        dsimp only [lcA, lnA]
        refine ⟨inferInstance, ?_⟩
        refine XT.make encI (0) rfl rfl rfl rfl rfl (by omega) (by omega) (fun _ => rfl) rfl rfl rfl (by dsimp only [encI]; infer_instance) (fun v21 h21 O21 => ⟨inferInstance, ?_⟩) XT.stop
        refine XT.q rfl rfl (Q.build [_, _, _] (.c 0 1 rfl rfl rfl (.c 1 1 rfl rfl rfl (.c 2 1 rfl rfl rfl (.n _))))) ?_
        refine XT.st rfl rfl rfl rfl rfl ⟨inferInstance, ?_⟩ XT.stop
        refine XT.done ?_
        exact mtr1 ((b3, v14, h14, v18, h18, v21, h21)) _ _ ⟨O14, O18, O21⟩ (.c rfl (.base 12 rfl rfl)) inferInstance
       ·skip
        refine XT.make encI (0) rfl rfl rfl rfl rfl (by omega) (by omega) (fun _ => rfl) rfl rfl rfl (by dsimp only [encI]; infer_instance) (fun v21 h21 O21 => ⟨inferInstance, ?_⟩) XT.stop
        refine XT.call rfl rfl Tryz.call100 rfl rfl rfl (repeatI _ _ _ S (by omega)) (fun v18 s18 R18 => ?_) XT.stop
        obtain ⟨h18, rfl, O18⟩ := R18
        dsimp only [lcA, lnA]
        refine ⟨inferInstance, ?_⟩
        refine XT.q rfl rfl (Q.build [_, _, _] (.c 0 1 rfl rfl rfl (.c 1 1 rfl rfl rfl (.c 2 1 rfl rfl rfl (.n _))))) ?_
        refine XT.st rfl rfl rfl rfl rfl ⟨inferInstance, ?_⟩ XT.stop
        refine XT.done ?_
        exact mtr1 ((b3, v14, h14, v18, h18, v21, h21)) _ _ ⟨O14, O18, O21⟩ (.c rfl (.base 12 rfl rfl)) inferInstance
      ·skip
       refine XT.make encI (0) rfl rfl rfl rfl rfl (by omega) (by omega) (fun _ => rfl) rfl rfl rfl (by dsimp only [encI]; infer_instance) (fun v21 h21 O21 => ⟨inferInstance, ?_⟩) XT.stop
       refine XT.call rfl rfl Tryz.call99 rfl rfl rfl (cloneB _ _ _ (by omega)) (fun v14 s14 R14 => ?_) XT.stop
       obtain ⟨h14, rfl, O14⟩ := R14
       dsimp only [lcA, lnA]
       refine ⟨inferInstance, ?_⟩
       refine XT.call rfl rfl Tryz.call100 rfl rfl rfl (repeatI _ _ _ S (by omega)) (fun v18 s18 R18 => ?_) XT.stop
       obtain ⟨h18, rfl, O18⟩ := R18
       dsimp only [lcA, lnA]
       refine ⟨inferInstance, ?_⟩
       refine XT.q rfl rfl (Q.build [_, _, _] (.c 0 1 rfl rfl rfl (.c 1 1 rfl rfl rfl (.c 2 1 rfl rfl rfl (.n _))))) ?_
       refine XT.st rfl rfl rfl rfl rfl ⟨inferInstance, ?_⟩ XT.stop
       refine XT.done ?_
       exact mtr1 ((b3, v14, h14, v18, h18, v21, h21)) _ _ ⟨O14, O18, O21⟩ (.c rfl (.base 12 rfl rfl)) inferInstance
   ·skip
    refine XT.make encI (0) rfl rfl rfl rfl rfl (by omega) (by omega) (fun _ => rfl) rfl rfl rfl (by dsimp only [encI]; infer_instance) (fun v21 h21 O21 => ⟨inferInstance, ?_⟩) ?_
    ·skip
     refine XT.call rfl rfl Tryz.call99 rfl rfl rfl (cloneB _ _ _ (by omega)) (fun v14 s14 R14 => ?_) ?_
     ·skip
      obtain ⟨h14, rfl, O14⟩ := R14
      dsimp only [lcA, lnA]
      refine ⟨inferInstance, ?_⟩
      refine XT.lit [_] [_] [-1] encI rfl rfl (by rfl) (by rfl) rfl (by rfl) (by exact .c 0 1 rfl rfl rfl (.n _)) (fun _ => rfl) (by rfl) rfl (by infer_instance) rfl (fun v15 h15 O15 => ⟨inferInstance, ?_⟩) ?_
      ·skip
       refine XT.call rfl rfl Tryz.call100 rfl rfl rfl (repeatI _ _ _ S (by omega)) (fun v18 s18 R18 => ?_) ?_
       ·skip
        obtain ⟨h18, rfl, O18⟩ := R18
        dsimp only [lcA, lnA]
        refine ⟨inferInstance, ?_⟩
        refine XT.q rfl rfl (Q.build [_, _, _] (.c 0 1 rfl rfl rfl (.c 1 1 rfl rfl rfl (.c 2 1 rfl rfl rfl (.n _))))) ?_
        refine XT.alloc rfl rfl (fun b3 => ⟨inferInstance, ?_⟩) XT.stop
        refine XT.st rfl rfl rfl rfl rfl ⟨inferInstance, ?_⟩ XT.stop
        refine XT.done ?_
        exact mtr1 ((b3, v14, h14, v18, h18, v21, h21)) _ _ ⟨O14, O18, O21⟩ (.c rfl (.base 12 rfl rfl)) inferInstance
       ·skip
        refine XT.alloc rfl rfl (fun b3 => ⟨inferInstance, ?_⟩) XT.stop
        refine XT.call rfl rfl Tryz.call100 rfl rfl rfl (repeatI _ _ _ S (by omega)) (fun v18 s18 R18 => ?_) XT.stop
        obtain ⟨h18, rfl, O18⟩ := R18
        dsimp only [lcA, lnA]
        refine ⟨inferInstance, ?_⟩
        refine XT.q rfl rfl (Q.build [_, _, _] (.c 0 1 rfl rfl rfl (.c 1 1 rfl rfl rfl (.c 2 1 rfl rfl rfl (.n _))))) ?_
        refine XT.st rfl rfl rfl rfl rfl ⟨inferInstance, ?_⟩ XT.stop
        refine XT.done ?_
        exact mtr1 ((b3, v14, h14, v18, h18, v21, h21)) _ _ ⟨O14, O18, O21⟩ (.c rfl (.base 12 rfl rfl)) inferInstance
      ·skip
       refine XT.alloc rfl rfl (fun b3 => ⟨inferInstance, ?_⟩) XT.stop
       refine XT.lit [_] [_] [-1] encI rfl rfl (by rfl) (by rfl) rfl (by rfl) (by exact .c 0 1 rfl rfl rfl (.n _)) (fun _ => rfl) (by rfl) rfl (by infer_instance) rfl (fun v15 h15 O15 => ⟨inferInstance, ?_⟩) XT.stop
       refine XT.call rfl rfl Tryz.call100 rfl rfl rfl (repeatI _ _ _ S (by omega)) (fun v18 s18 R18 => ?_) XT.stop
       obtain ⟨h18, rfl, O18⟩ := R18
       dsimp only [lcA, lnA]
       refine ⟨inferInstance, ?_⟩
       refine XT.q rfl rfl (Q.build [_, _, _] (.c 0 1 rfl rfl rfl (.c 1 1 rfl rfl rfl (.c 2 1 rfl rfl rfl (.n _))))) ?_
       refine XT.st rfl rfl rfl rfl rfl ⟨inferInstance, ?_⟩ XT.stop
       refine XT.done ?_
       exact mtr1 ((b3, v14, h14, v18, h18, v21, h21)) _ _ ⟨O14, O18, O21⟩ (.c rfl (.base 12 rfl rfl)) inferInstance
     ·skip
      refine XT.lit [_] [_] [-1] encI rfl rfl (by rfl) (by rfl) rfl (by rfl) (by exact .c 0 1 rfl rfl rfl (.n _)) (fun _ => rfl) (by rfl) rfl (by infer_instance) rfl (fun v15 h15 O15 => ⟨inferInstance, ?_⟩) ?_
      ·skip
       refine XT.call rfl rfl Tryz.call99 rfl rfl rfl (cloneB _ _ _ (by omega)) (fun v14 s14 R14 => ?_) ?_
       ·skip
        obtain ⟨h14, rfl, O14⟩ := R14
        dsimp only [lcA, lnA]
        refine ⟨inferInstance, ?_⟩
        refine XT.call rfl rfl Tryz.call100 rfl rfl rfl (repeatI _ _ _ S (by omega)) (fun v18 s18 R18 => ?_) ?_
        ·skip
         obtain ⟨h18, rfl, O18⟩ := R18
         dsimp only [lcA, lnA]
         refine ⟨inferInstance, ?_⟩
         refine XT.q rfl rfl (Q.build [_, _, _] (.c 0 1 rfl rfl rfl (.c 1 1 rfl rfl rfl (.c 2 1 rfl rfl rfl (.n _))))) ?_
         refine XT.alloc rfl rfl (fun b3 => ⟨inferInstance, ?_⟩) XT.stop
         refine XT.st rfl rfl rfl rfl rfl ⟨inferInstance, ?_⟩ XT.stop
         refine XT.done ?_
         exact mtr1 ((b3, v14, h14, v18, h18, v21, h21)) _ _ ⟨O14, O18, O21⟩ (.c rfl (.base 12 rfl rfl)) inferInstance
        ·skip
         refine XT.alloc rfl rfl (fun b3 => ⟨inferInstance, ?_⟩) XT.stop
         refine XT.call rfl rfl Tryz.call100 rfl rfl rfl (repeatI _ _ _ S (by omega)) (fun v18 s18 R18 => ?_) XT.stop
         obtain ⟨h18, rfl, O18⟩ := R18
         dsimp only [lcA, lnA]
         refine ⟨inferInstance, ?_⟩
         refine XT.q rfl rfl (Q.build [_, _, _] (.c 0 1 rfl rfl rfl (.c 1 1 rfl rfl rfl (.c 2 1 rfl rfl rfl (.n _))))) ?_
         refine XT.st rfl rfl rfl rfl rfl ⟨inferInstance, ?_⟩ XT.stop
         refine XT.done ?_
         exact mtr1 ((b3, v14, h14, v18, h18, v21, h21)) _ _ ⟨O14, O18, O21⟩ (.c rfl (.base 12 rfl rfl)) inferInstance
       ·skip
        refine XT.alloc rfl rfl (fun b3 => ⟨inferInstance, ?_⟩) XT.stop
        refine XT.call rfl rfl Tryz.call99 rfl rfl rfl (cloneB _ _ _ (by omega)) (fun v14 s14 R14 => ?_) XT.stop
        obtain ⟨h14, rfl, O14⟩ := R14
        dsimp only [lcA, lnA]
        refine ⟨inferInstance, ?_⟩
        refine XT.call rfl rfl Tryz.call100 rfl rfl rfl (repeatI _ _ _ S (by omega)) (fun v18 s18 R18 => ?_) XT.stop
        obtain ⟨h18, rfl, O18⟩ := R18
        dsimp only [lcA, lnA]
        refine ⟨inferInstance, ?_⟩
        refine XT.q rfl rfl (Q.build [_, _, _] (.c 0 1 rfl rfl rfl (.c 1 1 rfl rfl rfl (.c 2 1 rfl rfl rfl (.n _))))) ?_
        refine XT.st rfl rfl rfl rfl rfl ⟨inferInstance, ?_⟩ XT.stop
        refine XT.done ?_
        exact mtr1 ((b3, v14, h14, v18, h18, v21, h21)) _ _ ⟨O14, O18, O21⟩ (.c rfl (.base 12 rfl rfl)) inferInstance
      ·skip
       refine XT.alloc rfl rfl (fun b3 => ⟨inferInstance, ?_⟩) XT.stop
       refine XT.call rfl rfl Tryz.call99 rfl rfl rfl (cloneB _ _ _ (by omega)) (fun v14 s14 R14 => ?_) ?_
       ·skip
        obtain ⟨h14, rfl, O14⟩ := R14
        dsimp only [lcA, lnA]
        refine ⟨inferInstance, ?_⟩
        refine XT.lit [_] [_] [-1] encI rfl rfl (by rfl) (by rfl) rfl (by rfl) (by exact .c 0 1 rfl rfl rfl (.n _)) (fun _ => rfl) (by rfl) rfl (by infer_instance) rfl (fun v15 h15 O15 => ⟨inferInstance, ?_⟩) XT.stop
        refine XT.call rfl rfl Tryz.call100 rfl rfl rfl (repeatI _ _ _ S (by omega)) (fun v18 s18 R18 => ?_) XT.stop
        obtain ⟨h18, rfl, O18⟩ := R18
        dsimp only [lcA, lnA]
        refine ⟨inferInstance, ?_⟩
        refine XT.q rfl rfl (Q.build [_, _, _] (.c 0 1 rfl rfl rfl (.c 1 1 rfl rfl rfl (.c 2 1 rfl rfl rfl (.n _))))) ?_
        refine XT.st rfl rfl rfl rfl rfl ⟨inferInstance, ?_⟩ XT.stop
        refine XT.done ?_
        exact mtr1 ((b3, v14, h14, v18, h18, v21, h21)) _ _ ⟨O14, O18, O21⟩ (.c rfl (.base 12 rfl rfl)) inferInstance
       ·skip
        refine XT.lit [_] [_] [-1] encI rfl rfl (by rfl) (by rfl) rfl (by rfl) (by exact .c 0 1 rfl rfl rfl (.n _)) (fun _ => rfl) (by rfl) rfl (by infer_instance) rfl (fun v15 h15 O15 => ⟨inferInstance, ?_⟩) XT.stop
        refine XT.call rfl rfl Tryz.call99 rfl rfl rfl (cloneB _ _ _ (by omega)) (fun v14 s14 R14 => ?_) XT.stop
        obtain ⟨h14, rfl, O14⟩ := R14
        dsimp only [lcA, lnA]
        refine ⟨inferInstance, ?_⟩
        refine XT.call rfl rfl Tryz.call100 rfl rfl rfl (repeatI _ _ _ S (by omega)) (fun v18 s18 R18 => ?_) XT.stop
        obtain ⟨h18, rfl, O18⟩ := R18
        dsimp only [lcA, lnA]
        refine ⟨inferInstance, ?_⟩
        refine XT.q rfl rfl (Q.build [_, _, _] (.c 0 1 rfl rfl rfl (.c 1 1 rfl rfl rfl (.c 2 1 rfl rfl rfl (.n _))))) ?_
        refine XT.st rfl rfl rfl rfl rfl ⟨inferInstance, ?_⟩ XT.stop
        refine XT.done ?_
        exact mtr1 ((b3, v14, h14, v18, h18, v21, h21)) _ _ ⟨O14, O18, O21⟩ (.c rfl (.base 12 rfl rfl)) inferInstance
    ·skip
     refine XT.alloc rfl rfl (fun b3 => ⟨inferInstance, ?_⟩) XT.stop
     refine XT.call rfl rfl Tryz.call99 rfl rfl rfl (cloneB _ _ _ (by omega)) (fun v14 s14 R14 => ?_) ?_
     ·skip
      obtain ⟨h14, rfl, O14⟩ := R14
      dsimp only [lcA, lnA]
      refine ⟨inferInstance, ?_⟩
      refine XT.lit [_] [_] [-1] encI rfl rfl (by rfl) (by rfl) rfl (by rfl) (by exact .c 0 1 rfl rfl rfl (.n _)) (fun _ => rfl) (by rfl) rfl (by infer_instance) rfl (fun v15 h15 O15 => ⟨inferInstance, ?_⟩) ?_
      ·skip
       refine XT.call rfl rfl Tryz.call100 rfl rfl rfl (repeatI _ _ _ S (by omega)) (fun v18 s18 R18 => ?_) ?_
       ·skip
        obtain ⟨h18, rfl, O18⟩ := R18
        dsimp only [lcA, lnA]
        refine ⟨inferInstance, ?_⟩
        refine XT.make encI (0) rfl rfl rfl rfl rfl (by omega) (by omega) (fun _ => rfl) rfl rfl rfl (by dsimp only [encI]; infer_instance) (fun v21 h21 O21 => ⟨inferInstance, ?_⟩) XT.stop
        refine XT.q rfl rfl (Q.build [_, _, _] (.c 0 1 rfl rfl rfl (.c 1 1 rfl rfl rfl (.c 2 1 rfl rfl rfl (.n _))))) ?_
        refine XT.st rfl rfl rfl rfl rfl ⟨inferInstance, ?_⟩ XT.stop
        refine XT.done ?_
        exact mtr1 ((b3, v14, h14, v18, h18, v21, h21)) _ _ ⟨O14, O18, O21⟩ (.c rfl (.base 12 rfl rfl)) inferInstance
       ·skip
        refine XT.make encI (0) rfl rfl rfl rfl rfl (by omega) (by omega) (fun _ => rfl) rfl rfl rfl (by dsimp only [encI]; infer_instance) (fun v21 h21 O21 => ⟨inferInstance, ?_⟩) XT.stop
        refine XT.call rfl rfl Tryz.call100 rfl rfl rfl (repeatI _ _ _ S (by omega)) (fun v18 s18 R18 => ?_) XT.stop
        obtain ⟨h18, rfl, O18⟩ := R18
        dsimp only [lcA, lnA]
        refine ⟨inferInstance, ?_⟩
        refine XT.q rfl rfl (Q.build [_, _, _] (.c 0 1 rfl rfl rfl (.c 1 1 rfl rfl rfl (.c 2 1 rfl rfl rfl (.n _))))) ?_
        refine XT.st rfl rfl rfl rfl rfl ⟨inferInstance, ?_⟩ XT.stop
        refine XT.done ?_
        exact mtr1 ((b3, v14, h14, v18, h18, v21, h21)) _ _ ⟨O14, O18, O21⟩ (.c rfl (.base 12 rfl rfl)) inferInstance
      ·skip
       refine XT.make encI (0) rfl rfl rfl rfl rfl (by omega) (by omega) (fun _ => rfl) rfl rfl rfl (by dsimp only [encI]; infer_instance) (fun v21 h21 O21 => ⟨inferInstance, ?_⟩) XT.stop
       refine XT.lit [_] [_] [-1] encI rfl rfl (by rfl) (by rfl) rfl (by rfl) (by exact .c 0 1 rfl rfl rfl (.n _)) (fun _ => rfl) (by rfl) rfl (by infer_instance) rfl (fun v15 h15 O15 => ⟨inferInstance, ?_⟩) XT.stop
       refine XT.call rfl rfl Tryz.call100 rfl rfl rfl (repeatI _ _ _ S (by omega)) (fun v18 s18 R18 => ?_) XT.stop
       obtain ⟨h18, rfl, O18⟩ := R18
       dsimp only [lcA, lnA]
       refine ⟨inferInstance, ?_⟩
       refine XT.q rfl rfl (Q.build [_, _, _] (.c 0 1 rfl rfl rfl (.c 1 1 rfl rfl rfl (.c 2 1 rfl rfl rfl (.n _))))) ?_
       refine XT.st rfl rfl rfl rfl rfl ⟨inferInstance, ?_⟩ XT.stop
       refine XT.done ?_
       exact mtr1 ((b3, v14, h14, v18, h18, v21, h21)) _ _ ⟨O14, O18, O21⟩ (.c rfl (.base 12 rfl rfl)) inferInstance
     ·skip
      refine XT.lit [_] [_] [-1] encI rfl rfl (by rfl) (by rfl) rfl (by rfl) (by exact .c 0 1 rfl rfl rfl (.n _)) (fun _ => rfl) (by rfl) rfl (by infer_instance) rfl (fun v15 h15 O15 => ⟨inferInstance, ?_⟩) ?_
      ·skip
       refine XT.call rfl rfl Tryz.call99 rfl rfl rfl (cloneB _ _ _ (by omega)) (fun v14 s14 R14 => ?_) ?_
       ·skip
        obtain ⟨h14, rfl, O14⟩ := R14
        dsimp only [lcA, lnA]
        refine ⟨inferInstance, ?_⟩
        refine XT.call rfl rfl Tryz.call100 rfl rfl rfl (repeatI _ _ _ S (by omega)) (fun v18 s18 R18 => ?_) ?_
        ·skip
         obtain ⟨h18, rfl, O18⟩ := R18
         dsimp only [lcA, lnA]
         refine ⟨inferInstance, ?_⟩
         refine XT.make encI (0) rfl rfl rfl rfl rfl (by omega) (by omega) (fun _ => rfl) rfl rfl rfl (by dsimp only [encI]; infer_instance) (fun v21 h21 O21 => ⟨inferInstance, ?_⟩) XT.stop
         refine XT.q rfl rfl (Q.build [_, _, _] (.c 0 1 rfl rfl rfl (.c 1 1 rfl rfl rfl (.c 2 1 rfl rfl rfl (.n _))))) ?_
         refine XT.st rfl rfl rfl rfl rfl ⟨inferInstance, ?_⟩ XT.stop
         refine XT.done ?_
         exact mtr1 ((b3, v14, h14, v18, h18, v21, h21)) _ _ ⟨O14, O18, O21⟩ (.c rfl (.base 12 rfl rfl)) inferInstance
        ·skip
         refine XT.make encI (0) rfl rfl rfl rfl rfl (by omega) (by omega) (fun _ => rfl) rfl rfl rfl (by dsimp only [encI]; infer_instance) (fun v21 h21 O21 => ⟨inferInstance, ?_⟩) XT.stop
         refine XT.call rfl rfl Tryz.call100 rfl rfl rfl (repeatI _ _ _ S (by omega)) (fun v18 s18 R18 => ?_) XT.stop
         obtain ⟨h18, rfl, O18⟩ := R18
         dsimp only [lcA, lnA]
         refine ⟨inferInstance, ?_⟩
         refine XT.q rfl rfl (Q.build [_, _, _] (.c 0 1 rfl rfl rfl (.c 1 1 rfl rfl rfl (.c 2 1 rfl rfl rfl (.n _))))) ?_
         refine XT.st rfl rfl rfl rfl rfl ⟨inferInstance, ?_⟩ XT.stop
         refine XT.done ?_
         exact mtr1 ((b3, v14, h14, v18, h18, v21, h21)) _ _ ⟨O14, O18, O21⟩ (.c rfl (.base 12 rfl rfl)) inferInstance
       ·skip
        refine XT.make encI (0) rfl rfl rfl rfl rfl (by omega) (by omega) (fun _ => rfl) rfl rfl rfl (by dsimp only [encI]; infer_instance) (fun v21 h21 O21 => ⟨inferInstance, ?_⟩) XT.stop
        refine XT.call rfl rfl Tryz.call99 rfl rfl rfl (cloneB _ _ _ (by omega)) (fun v14 s14 R14 => ?_) XT.stop
        obtain ⟨h14, rfl, O14⟩ := R14
        dsimp only [lcA, lnA]
        refine ⟨inferInstance, ?_⟩
        refine XT.call rfl rfl Tryz.call100 rfl rfl rfl (repeatI _ _ _ S (by omega)) (fun v18 s18 R18 => ?_) XT.stop
        obtain ⟨h18, rfl, O18⟩ := R18
        dsimp only [lcA, lnA]
        refine ⟨inferInstance, ?_⟩
        refine XT.q rfl rfl (Q.build [_, _, _] (.c 0 1 rfl rfl rfl (.c 1 1 rfl rfl rfl (.c 2 1 rfl rfl rfl (.n _))))) ?_
        refine XT.st rfl rfl rfl rfl rfl ⟨inferInstance, ?_⟩ XT.stop
        refine XT.done ?_
        exact mtr1 ((b3, v14, h14, v18, h18, v21, h21)) _ _ ⟨O14, O18, O21⟩ (.c rfl (.base 12 rfl rfl)) inferInstance
      ·skip
       refine XT.make encI (0) rfl rfl rfl rfl rfl (by omega) (by omega) (fun _ => rfl) rfl rfl rfl (by dsimp only [encI]; infer_instance) (fun v21 h21 O21 => ⟨inferInstance, ?_⟩) XT.stop
       refine XT.call rfl rfl Tryz.call99 rfl rfl rfl (cloneB _ _ _ (by omega)) (fun v14 s14 R14 => ?_) ?_
       ·skip
        obtain ⟨h14, rfl, O14⟩ := R14
        dsimp only [lcA, lnA]
        refine ⟨inferInstance, ?_⟩
        refine XT.lit [_] [_] [-1] encI rfl rfl (by rfl) (by rfl) rfl (by rfl) (by exact .c 0 1 rfl rfl rfl (.n _)) (fun _ => rfl) (by rfl) rfl (by infer_instance) rfl (fun v15 h15 O15 => ⟨inferInstance, ?_⟩) XT.stop
        refine XT.call rfl rfl Tryz.call100 rfl rfl rfl (repeatI _ _ _ S (by omega)) (fun v18 s18 R18 => ?_) XT.stop
        obtain ⟨h18, rfl, O18⟩ := R18
        dsimp only [lcA, lnA]
        refine ⟨inferInstance, ?_⟩
        refine XT.q rfl rfl (Q.build [_, _, _] (.c 0 1 rfl rfl rfl (.c 1 1 rfl rfl rfl (.c 2 1 rfl rfl rfl (.n _))))) ?_
        refine XT.st rfl rfl rfl rfl rfl ⟨inferInstance, ?_⟩ XT.stop
        refine XT.done ?_
        exact mtr1 ((b3, v14, h14, v18, h18, v21, h21)) _ _ ⟨O14, O18, O21⟩ (.c rfl (.base 12 rfl rfl)) inferInstance
       ·skip
        refine XT.lit [_] [_] [-1] encI rfl rfl (by rfl) (by rfl) rfl (by rfl) (by exact .c 0 1 rfl rfl rfl (.n _)) (fun _ => rfl) (by rfl) rfl (by infer_instance) rfl (fun v15 h15 O15 => ⟨inferInstance, ?_⟩) XT.stop
        refine XT.call rfl rfl Tryz.call99 rfl rfl rfl (cloneB _ _ _ (by omega)) (fun v14 s14 R14 => ?_) XT.stop
        obtain ⟨h14, rfl, O14⟩ := R14
        dsimp only [lcA, lnA]
        refine ⟨inferInstance, ?_⟩
        refine XT.call rfl rfl Tryz.call100 rfl rfl rfl (repeatI _ _ _ S (by omega)) (fun v18 s18 R18 => ?_) XT.stop
        obtain ⟨h18, rfl, O18⟩ := R18
        dsimp only [lcA, lnA]
        refine ⟨inferInstance, ?_⟩
        refine XT.q rfl rfl (Q.build [_, _, _] (.c 0 1 rfl rfl rfl (.c 1 1 rfl rfl rfl (.c 2 1 rfl rfl rfl (.n _))))) ?_
        refine XT.st rfl rfl rfl rfl rfl ⟨inferInstance, ?_⟩ XT.stop
        refine XT.done ?_
        exact mtr1 ((b3, v14, h14, v18, h18, v21, h21)) _ _ ⟨O14, O18, O21⟩ (.c rfl (.base 12 rfl rfl)) inferInstance
end Go.X.Ke

set_option linter.unusedSimpArgs false
set_option maxRecDepth 20000
set_option linter.unusedVariables false
set_option maxRecDepth 20000
namespace Go.X.Ke
open Go.Proofs
theorem Solve_spec (g : G) (vn vg : Value) (hn hg : PHeap) [sn : Arr vn encI 1 hn g.next] [sg : Arr vg encB 1 hg g.good] : Spec Tryz.prog 12 #[.agg #[.int .i64 g.S, .int .i64 g.C, .int .i64 g.K, vn, vg]] [] [hn, hg] (fun v hs => ∃ v1 v2 v3 k1 k2 k3, v = .tuple #[.agg #[v1, v2, v3], .int .i64 (gcheck g)] ∧ hs = [k1, k2, k3] ∧ OArr v1 encB 1 4 k1 (solveG g).1 ∧ OArr v2 encI 1 3 k2 (solveG g).2.1 ∧ OArr v3 encI 1 3 k3 (solveG g).2.2) := by
 refine Spec.intro (fn := Tryz.f12) (N := 13) Tryz.func12 rfl Tryz.ntmps12 rfl fun B => ?_
 refine XK.seq (XK.region rfl ?_)
 refine XO.box rfl fun b1 => ?_
 refine XO.alloc fun b2 => ?_
 refine XO.q (Q.assign rfl) (XO.done (XK.seq (XK.seq (XK.region rfl ?_))))
 refine XO.q (Q.ldA [_, _, _, _, _] rfl rfl rfl) ?_
 refine XO.call Tryz.call44 rfl rfl rfl (check _ _ _ _ _) fun v6 s6 R6 => ?_
 obtain ⟨rfl, rfl⟩ := R6
 dsimp only [lcA, lnA]
 refine XO.q (Q.assign rfl) (XO.done (XK.seq (XK.region rfl (XO.q (Q.move rfl) ?_))))
 refine XO.q (Q.neq rfl rfl) ?_
 refine XO.done ?_
 refine XK.if rfl (fun c0 => ?_) (fun c0 => ?_)
 ·skip
  refine XK.seq (XK.region rfl ?_)
  refine XO.q (Q.build [_, _, _] (.n _)) ?_
  refine XO.q (Q.move rfl) ?_
  refine XO.st rfl rfl rfl ?_
  refine XO.q (Q.assign rfl) (XO.done ?_)
  refine XK.rt [emp, emp, emp] Tryz.func12 Tryz.results12 (.cell [_, _, _] rfl rfl rfl (.t rfl .n)) ?_
  have hw : solveG g = ([], [], []) := by rw [solveG, if_pos c0]
  rw [hw]
  exact ⟨.slice none 0 0, .slice none 0 0, .slice none 0 0, emp, emp, emp, rfl, rfl, OArr.nil (fun _ => rfl), OArr.nil (fun _ => rfl), OArr.nil (fun _ => rfl)⟩
 ·skip
  obtain ⟨S, C, K, hS, hC, hK, ok⟩ := gcheck_ok (Decidable.of_not_not c0)
  obtain ⟨gS, gC, gK, next, good⟩ := g
  dsimp only at hS hC hK ok sn sg ⊢
  subst hS hC hK
  refine XK.skip (XK.seq (XK.region rfl ?_))
  refine XO.q (Q.ldA [_, _, _, _, _] rfl rfl rfl) ?_
  refine XO.call Tryz.call45 rfl rfl rfl (solve_spec S C K next good ok vn vg hn hg) fun v12 s12 R12 => ?_
  obtain ⟨v1, v2, v3, k1, k2, k3, rfl, rfl, O1, O2, O3⟩ := R12
  dsimp only [lcA, lnA]
  refine XO.st rfl rfl rfl ?_
  refine XO.q (Q.assign rfl) (XO.done ?_)
  refine XK.rt [k1, k2, k3] Tryz.func12 Tryz.results12 (.cell [_, _, _] rfl rfl rfl (.t rfl .n)) ?_
  have hw : solveG ⟨S, C, K, next, good⟩ = solved S C K next good := by rw [solveG, if_neg c0]; simp
  have hw0 : gcheck ⟨S, C, K, next, good⟩ = 0 := Decidable.of_not_not c0
  rw [hw, hw0]
  exact ⟨v1, v2, v3, k1, k2, k3, rfl, rfl, O1, O2, O3⟩
end Go.X.Ke

set_option linter.unusedSimpArgs false
set_option linter.unusedVariables false
set_option maxRecDepth 20000
namespace Go.X.Pl
open Go.Proofs
def encDraw (x : PDraw) : List Value := [.int .i64 x.power, .int .i64 x.count]
def encPJ (x : Value × PJob) : List Value := [.int .i64 x.2.n0, .int .i64 x.2.n1, .int .i64 x.2.n2, x.1, .int .i64 x.2.group, .int .i64 x.2.worth]
def encRack (x : PRack) : List Value := [.int .i64 x.r0, .int .i64 x.r1, .int .i64 x.r2, .int .i64 x.cap, .int .i64 x.domain]
/-- The draws of jobs lie in one heap. -/
def JobsK (ms : List (Value × PJob)) (K : PHeap) : Prop := ∀ i, i < ms.length → Arr (ms.getD i default).1 encDraw 2 K (ms.getD i default).2.draws
theorem map_snd_atP (l : List (Value × PJob)) (i : Nat) : (l.map Prod.snd).getD i default = (l.getD i default).2 := by
 rw [List.getD_eq_getElem?_getD, List.getD_eq_getElem?_getD, List.getElem?_map]
 cases l[i]? <;> rfl
theorem indexFuncI (v : Value) (h : PHeap) (xs : List Int) [s : Arr v encI 1 h xs] (gid : FuncId) (cap : List Value) (Hr : List PHeap) (p : Int → Bool)
  (hc : ∀ args w, (callFunc gid args).run Tryz.prog w = .ok (.enter gid args) w) (hS : ∀ x ∈ xs, Spec Tryz.prog gid (.int .i64 x :: cap).toArray [] Hr (fun v hs => v = .bool (p x) ∧ hs = [])) :
  Spec Tryz.prog 159 #[v, .func (.func gid) #[] cap.toArray] [] (h :: Hr) (fun v hs => v = .int .i64 (findFirst p xs) ∧ hs = []) := by apply Go.X.Bk.indexFuncI <;> assumption
theorem containsFuncI (v : Value) (h : PHeap) (xs : List Int) [s : Arr v encI 1 h xs] (gid : FuncId) (cap : List Value) (Hr : List PHeap) (p : Int → Bool)
  (hc : ∀ args w, (callFunc gid args).run Tryz.prog w = .ok (.enter gid args) w) (hS : ∀ x ∈ xs, Spec Tryz.prog gid (.int .i64 x :: cap).toArray [] Hr (fun v hs => v = .bool (p x) ∧ hs = [])) :
  Spec Tryz.prog 97 #[v, .func (.func gid) #[] cap.toArray] [] (h :: Hr) (fun v hs => v = .bool (xs.any p) ∧ hs = []) := by apply Go.X.Bk.containsFuncI <;> assumption
theorem indexFuncPJ (v : Value) (h : PHeap) (xs : List (Value × PJob)) [s : Arr v encPJ 6 h xs] (gid : FuncId) (cap : List Value) (Hr : List PHeap) (p : (Value × PJob) → Bool)
  (hc : ∀ args w, (callFunc gid args).run Tryz.prog w = .ok (.enter gid args) w) (hS : ∀ x ∈ xs, Spec Tryz.prog gid (.agg #[.int .i64 x.2.n0, .int .i64 x.2.n1, .int .i64 x.2.n2, x.1, .int .i64 x.2.group, .int .i64 x.2.worth] :: cap).toArray [] Hr (fun v hs => v = .bool (p x) ∧ hs = [])) :
  Spec Tryz.prog 173 #[v, .func (.func gid) #[] cap.toArray] [] (h :: Hr) (fun v hs => v = .int .i64 (findFirst p xs) ∧ hs = []) := by
 refine Spec.intro (fn := Tryz.f173) (N := 19) Tryz.func173 rfl Tryz.ntmps173 rfl fun B => ?_
 refine XK.seq (XK.region rfl (XO.q (Q.assign rfl) (XO.done (XK.seq (XK.seq ?_)))))
 refine XK.region rfl (XO.q (Q.move rfl) ?_)
 refine XO.len rfl fun l7 => ?_
 refine XO.q (Q.move rfl) (XO.done (XK.block ?_))
 refine XK.while (X := Nat) [4, 5, 8, 9, 10, 11, 12, 13, 14, 15, 16, 17, 18] (fun i => [(8, some (.int .i64 (i : Nat)))]) (fun i => []) (fun i => i ≤ xs.length ∧ (xs.take i).any p = false) (fun i => xs.length - i) (0) [] rfl ⟨by omega, rfl⟩ (.c rfl (.base 0 rfl rfl)) ?_
 rintro i ⟨hi, ht⟩ ih0
 dsimp only [lcA, lnA] at ih0 ⊢
 refine XK.seq (XK.region rfl ?_)
 refine XO.q (Q.lss rfl rfl) ?_
 refine XO.done (XK.seq ?_)
 refine XK.if rfl (fun c0 => ?_) (fun c0 => ?_)
 ·skip
  refine XK.skip (XK.seq (XK.block (XK.seq (XK.region rfl (XO.q (Q.move rfl) ?_)))))
  refine XO.q (Q.assign rfl) (XO.done (XK.seq (XK.region rfl (XO.q (Q.move rfl) (XO.q (Q.move rfl) ?_)))))
  refine XO.q (Q.move rfl) ?_
  refine XO.ix rfl rfl (by omega) (by omega) fun i14 => ?_
  refine XO.q (Q.ldEA [_, _, _, _, _, _] rfl (by first | assumption | omega) rfl rfl) ?_
  refine XO.call hc rfl rfl rfl (hS _ (getD_mem (by omega))) fun v16 s16 R16 => ?_
  obtain ⟨rfl, rfl⟩ := R16
  dsimp only [lcA, lnA]
  refine XO.done ?_
  refine XK.if rfl (fun c1 => ?_) (fun c1 => ?_)
  ·skip
   refine XK.seq (XK.region rfl (XO.q (Q.move rfl) (XO.q (Q.assign rfl) (XO.done ?_))))
   refine XK.rt [] Tryz.func173 Tryz.results173 (.t rfl .n) ?_
   exact ⟨by rw [findFirst_here ht (by omega) c1], rfl⟩
  ·skip
   refine XK.skip ?_
   refine XK.inBlock ?_
   refine XK.region rfl ?_
   refine XO.q (Q.add rfl rfl ⟨by omega, by omega⟩) ?_
   refine XO.q (Q.move rfl) (XO.done ?_)
   exact ih0 (i + 1) _ _ ⟨by omega, any_step ht (by omega) (Bool.eq_false_iff.2 c1)⟩ (by first | omega | (dsimp only; omega)) (.c rfl (.base 25 rfl rfl)) inferInstance
 ·skip
  refine XK.exit rfl ?_
  refine XK.seq (XK.region rfl (XO.q (Q.assign rfl) (XO.done ?_)))
  refine XK.rt [] Tryz.func173 Tryz.results173 (.t rfl .n) ?_
  exact ⟨by rw [findFirst_none ht c0], rfl⟩
theorem containsFuncPJ (v : Value) (h : PHeap) (xs : List (Value × PJob)) [s : Arr v encPJ 6 h xs] (gid : FuncId) (cap : List Value) (Hr : List PHeap) (p : (Value × PJob) → Bool)
  (hc : ∀ args w, (callFunc gid args).run Tryz.prog w = .ok (.enter gid args) w) (hS : ∀ x ∈ xs, Spec Tryz.prog gid (.agg #[.int .i64 x.2.n0, .int .i64 x.2.n1, .int .i64 x.2.n2, x.1, .int .i64 x.2.group, .int .i64 x.2.worth] :: cap).toArray [] Hr (fun v hs => v = .bool (p x) ∧ hs = [])) :
  Spec Tryz.prog 124 #[v, .func (.func gid) #[] cap.toArray] [] (h :: Hr) (fun v hs => v = .bool (xs.any p) ∧ hs = []) := by
 refine Spec.intro (fn := Tryz.f124) (N := 9) Tryz.func124 rfl Tryz.ntmps124 rfl fun B => ?_
 refine XK.seq (XK.region rfl (XO.q (Q.assign rfl) (XO.done (XK.seq (XK.region rfl ?_)))))
 refine XO.q (Q.move rfl) (XO.q (Q.move rfl) ?_)
 refine XO.call Tryz.call173 rfl rfl rfl (indexFuncPJ v h xs gid cap Hr p hc hS) fun v7 s7 R7 => ?_
 obtain ⟨rfl, rfl⟩ := R7
 dsimp only [lcA, lnA]
 refine XO.q (Q.geq rfl rfl) ?_
 refine XO.q (Q.assign rfl) (XO.done ?_)
 refine XK.rt [] Tryz.func124 Tryz.results124 (.t rfl .n) ?_
 exact ⟨by rw [← findFirst_any], rfl⟩
theorem indexFuncPR (v : Value) (h : PHeap) (xs : List PRack) [s : Arr v encRack 5 h xs] (gid : FuncId) (cap : List Value) (Hr : List PHeap) (p : PRack → Bool)
  (hc : ∀ args w, (callFunc gid args).run Tryz.prog w = .ok (.enter gid args) w) (hS : ∀ x ∈ xs, Spec Tryz.prog gid (.agg #[.int .i64 x.r0, .int .i64 x.r1, .int .i64 x.r2, .int .i64 x.cap, .int .i64 x.domain] :: cap).toArray [] Hr (fun v hs => v = .bool (p x) ∧ hs = [])) :
  Spec Tryz.prog 201 #[v, .func (.func gid) #[] cap.toArray] [] (h :: Hr) (fun v hs => v = .int .i64 (findFirst p xs) ∧ hs = []) := by
 refine Spec.intro (fn := Tryz.f201) (N := 19) Tryz.func201 rfl Tryz.ntmps201 rfl fun B => ?_
 refine XK.seq (XK.region rfl (XO.q (Q.assign rfl) (XO.done (XK.seq (XK.seq ?_)))))
 refine XK.region rfl (XO.q (Q.move rfl) ?_)
 refine XO.len rfl fun l7 => ?_
 refine XO.q (Q.move rfl) (XO.done (XK.block ?_))
 refine XK.while (X := Nat) [4, 5, 8, 9, 10, 11, 12, 13, 14, 15, 16, 17, 18] (fun i => [(8, some (.int .i64 (i : Nat)))]) (fun i => []) (fun i => i ≤ xs.length ∧ (xs.take i).any p = false) (fun i => xs.length - i) (0) [] rfl ⟨by omega, rfl⟩ (.c rfl (.base 0 rfl rfl)) ?_
 rintro i ⟨hi, ht⟩ ih0
 dsimp only [lcA, lnA] at ih0 ⊢
 refine XK.seq (XK.region rfl ?_)
 refine XO.q (Q.lss rfl rfl) ?_
 refine XO.done (XK.seq ?_)
 refine XK.if rfl (fun c0 => ?_) (fun c0 => ?_)
 ·skip
  refine XK.skip (XK.seq (XK.block (XK.seq (XK.region rfl (XO.q (Q.move rfl) ?_)))))
  refine XO.q (Q.assign rfl) (XO.done (XK.seq (XK.region rfl (XO.q (Q.move rfl) (XO.q (Q.move rfl) ?_)))))
  refine XO.q (Q.move rfl) ?_
  refine XO.ix rfl rfl (by omega) (by omega) fun i14 => ?_
  refine XO.q (Q.ldEA [_, _, _, _, _] rfl (by first | assumption | omega) rfl rfl) ?_
  refine XO.call hc rfl rfl rfl (hS _ (getD_mem (by omega))) fun v16 s16 R16 => ?_
  obtain ⟨rfl, rfl⟩ := R16
  dsimp only [lcA, lnA]
  refine XO.done ?_
  refine XK.if rfl (fun c1 => ?_) (fun c1 => ?_)
  ·skip
   refine XK.seq (XK.region rfl (XO.q (Q.move rfl) (XO.q (Q.assign rfl) (XO.done ?_))))
   refine XK.rt [] Tryz.func201 Tryz.results201 (.t rfl .n) ?_
   exact ⟨by rw [findFirst_here ht (by omega) c1], rfl⟩
  ·skip
   refine XK.skip ?_
   refine XK.inBlock ?_
   refine XK.region rfl ?_
   refine XO.q (Q.add rfl rfl ⟨by omega, by omega⟩) ?_
   refine XO.q (Q.move rfl) (XO.done ?_)
   exact ih0 (i + 1) _ _ ⟨by omega, any_step ht (by omega) (Bool.eq_false_iff.2 c1)⟩ (by first | omega | (dsimp only; omega)) (.c rfl (.base 25 rfl rfl)) inferInstance
 ·skip
  refine XK.exit rfl ?_
  refine XK.seq (XK.region rfl (XO.q (Q.assign rfl) (XO.done ?_)))
  refine XK.rt [] Tryz.func201 Tryz.results201 (.t rfl .n) ?_
  exact ⟨by rw [findFirst_none ht c0], rfl⟩
theorem containsFuncPR (v : Value) (h : PHeap) (xs : List PRack) [s : Arr v encRack 5 h xs] (gid : FuncId) (cap : List Value) (Hr : List PHeap) (p : PRack → Bool)
  (hc : ∀ args w, (callFunc gid args).run Tryz.prog w = .ok (.enter gid args) w) (hS : ∀ x ∈ xs, Spec Tryz.prog gid (.agg #[.int .i64 x.r0, .int .i64 x.r1, .int .i64 x.r2, .int .i64 x.cap, .int .i64 x.domain] :: cap).toArray [] Hr (fun v hs => v = .bool (p x) ∧ hs = [])) :
  Spec Tryz.prog 168 #[v, .func (.func gid) #[] cap.toArray] [] (h :: Hr) (fun v hs => v = .bool (xs.any p) ∧ hs = []) := by
 refine Spec.intro (fn := Tryz.f168) (N := 9) Tryz.func168 rfl Tryz.ntmps168 rfl fun B => ?_
 refine XK.seq (XK.region rfl (XO.q (Q.assign rfl) (XO.done (XK.seq (XK.region rfl ?_)))))
 refine XO.q (Q.move rfl) (XO.q (Q.move rfl) ?_)
 refine XO.call Tryz.call201 rfl rfl rfl (indexFuncPR v h xs gid cap Hr p hc hS) fun v7 s7 R7 => ?_
 obtain ⟨rfl, rfl⟩ := R7
 dsimp only [lcA, lnA]
 refine XO.q (Q.geq rfl rfl) ?_
 refine XO.q (Q.assign rfl) (XO.done ?_)
 refine XK.rt [] Tryz.func168 Tryz.results168 (.t rfl .n) ?_
 exact ⟨by rw [← findFirst_any], rfl⟩
theorem pin1 (b : Nat) (m x : Int) : Spec Tryz.prog 202 #[.int .i64 x, ptr b 0] [] [blk b [.int .i64 m] 3] (fun v hs => v = .bool (pout m x) ∧ hs = []) := by
 refine Spec.intro (fn := Tryz.f202) (N := 11) Tryz.func202 rfl Tryz.ntmps202 rfl fun B => ?_
 refine XK.seq (XK.region rfl (XO.q (Q.assign rfl) (XO.done (XK.seq (XK.region rfl ?_)))))
 refine XO.q (Q.move rfl) ?_
 refine XO.q (Q.lss rfl rfl) ?_
 refine XO.q (Q.move rfl) ?_
 refine XO.q (Quiet.guardF rfl rfl fun g7 p7 => Q.move rfl) ?_
 refine XO.q (Quiet.guardF rfl rfl fun g8 p8 => Q.ld rfl rfl) ?_
 refine XO.q (Quiet.guardF rfl rfl fun g9 p9 => Q.gtr (lzv g9 rfl) (lzv g9 rfl)) ?_
 refine XO.q (Q.or rfl (fun hp => lzv hp rfl)) ?_
 refine XO.q (Q.assign rfl) (XO.done ?_)
 refine XK.rt [] Tryz.func202 Tryz.results202 (.t rfl .n) ?_
 exact ⟨rfl, rfl⟩
theorem pin_spec (m : Int) (v : Value) (h : PHeap) (xs : List Int) [s : Arr v encI 1 h xs] : Spec Tryz.prog 174 #[.int .i64 m, v] [] [h] (fun v hs => v = .bool (pin m xs) ∧ hs = []) := by
 refine Spec.intro (fn := Tryz.f174) (N := 9) Tryz.func174 rfl Tryz.ntmps174 rfl fun B => ?_
 refine XK.seq (XK.region rfl ?_)
 refine XO.box rfl fun b2 => ?_
 refine XO.q (Q.assign rfl) (XO.done (XK.seq (XK.region rfl (XO.q (Q.move rfl) ?_))))
 refine XO.q (Q.func (fun _ he => rfl) (fun _ he => evs_rel he rfl)) ?_
 refine XO.call Tryz.call97 rfl rfl rfl (containsFuncI v h xs 202 [ptr b2 0] [blk b2 [.int .i64 m] 3] (pout m) Tryz.call202 (fun x hx => pin1 b2 m x)) fun v7 s7 R7 => ?_
 obtain ⟨rfl, rfl⟩ := R7
 dsimp only [lcA, lnA]
 refine XO.q (Q.not rfl) ?_
 refine XO.q (Q.assign rfl) (XO.done ?_)
 refine XK.rt [] Tryz.func174 Tryz.results174 (.t rfl .n) ?_
 exact ⟨rfl, rfl⟩
theorem divisor_spec (a b : Nat) (ha : (a : Int) ≤ 9223372036854775807) (hb : (b : Int) ≤ 9223372036854775807) : Spec Tryz.prog 128 #[.int .i64 (a : Nat), .int .i64 (b : Nat)] [] [] (fun v hs => v = .int .i64 (Nat.gcd a b : Nat) ∧ hs = []) := by
 refine Spec.intro (fn := Tryz.f128) (N := 12) Tryz.func128 rfl Tryz.ntmps128 rfl fun B => ?_
 refine XK.seq (XK.region rfl (XO.q (Q.assign rfl) (XO.done (XK.seq (XK.block ?_)))))
 refine XK.while (X := Nat × Nat) [0, 1, 5, 6, 7, 8, 9, 10] (fun ⟨x, y⟩ => [(0, some (.int .i64 (x : Nat))), (1, some (.int .i64 (y : Nat)))]) (fun ⟨x, y⟩ => []) (fun ⟨x, y⟩ => ((x : Int) ≤ 9223372036854775807 ∧ (y : Int) ≤ 9223372036854775807) ∧ Nat.gcd x y = Nat.gcd a b) (fun ⟨x, y⟩ => y) (a, b) [] rfl ⟨⟨ha, hb⟩, rfl⟩ (.c rfl (.c rfl (.base 0 rfl rfl))) ?_
 rintro ⟨x, y⟩ ⟨⟨hx, hyb⟩, hg⟩ ih0
 dsimp only [lcA, lnA] at ih0 ⊢
 refine XK.seq (XK.seq (XK.region rfl (XO.q (Q.move rfl) ?_)))
 refine XO.q (Q.neq rfl rfl) ?_
 refine XO.done ?_
 refine XK.if rfl (fun c0 => ?_) (fun c0 => ?_)
 ·skip
  have hy : 0 < y := by omega
  have hm := Nat.mod_lt x hy
  refine XK.skip (XK.block ?_)
  refine XK.drawn [0, 1, 2, 3, 4, 5] [] [] (.q 0 (.q 1 (.q 2 (.q 3 (.q 4 (.q 5 .done)))))) Tryz.mixed rfl (by kernel_rfl) ?_
  refine XT.q rfl rfl (Q.move rfl) ?_
  refine XT.q rfl rfl (Q.move rfl) ?_
  refine XT.q rfl rfl (Q.move rfl) ?_
  refine XT.q rfl rfl (Q.rem rfl rfl (by omega) (by omega)) ?_
  rw [show (x : Int) % (y : Int) = ((x % y : Nat) : Int) from rfl]
  refine XT.q rfl rfl (Q.assign rfl) ?_
  refine XT.q rfl rfl (Q.assign rfl) ?_
  refine XT.done ?_
  refine XK.inBlock ?_
  exact ih0 (y, x % y) _ _ ⟨⟨by dsimp only; omega, by dsimp only; omega⟩, by dsimp only; rw [← hg, Nat.gcd_comm y, ← Nat.gcd_rec, Nat.gcd_comm]⟩ (by first | omega | (dsimp only; omega)) (.c rfl (.c rfl (.base 18 rfl rfl))) inferInstance
 ·skip
  have hy : y = 0 := by omega
  subst hy
  refine XK.exit rfl ?_
  refine XK.seq (XK.region rfl (XO.q (Q.move rfl) (XO.q (Q.assign rfl) (XO.done ?_))))
  refine XK.rt [] Tryz.func128 Tryz.results128 (.t rfl .n) ?_
  exact ⟨by rw [← hg, Nat.gcd_zero_right], rfl⟩
theorem chance_spec (r : PRat) : Spec Tryz.prog 171 #[.agg #[.int .i64 r.n, .int .i64 r.d]] [] [] (fun v hs => v = .bool (chanceR r) ∧ hs = []) := by
 refine Spec.intro (fn := Tryz.f171) (N := 27) Tryz.func171 rfl Tryz.ntmps171 rfl fun B => ?_
 refine XK.seq (XK.region rfl ?_)
 refine XO.box rfl fun b1 => ?_
 refine XO.q (Q.assign rfl) (XO.done (XK.seq (XK.region rfl ?_)))
 refine XO.q (Q.fieldAddr rfl) ?_
 refine XO.q (Q.ld rfl rfl) ?_
 refine XO.q (Q.geq rfl rfl) ?_
 refine XO.q (Q.move rfl) ?_
 refine XO.q (Quiet.guardT rfl rfl fun g7 p7 => Q.fieldAddr rfl) ?_
 refine XO.q (Quiet.guardT rfl rfl fun g8 p8 => Q.ld (lzv g8 rfl) rfl) ?_
 refine XO.q (Quiet.guardT rfl rfl fun g9 p9 => Q.leq (lzv g9 rfl) rfl) ?_
 refine XO.q (Q.and rfl (fun hp => lzv hp rfl)) ?_
 refine XO.q (Q.move rfl) ?_
 refine XO.q (Quiet.guardT rfl rfl fun g12 p12 => Q.fieldAddr rfl) ?_
 refine XO.q (Quiet.guardT rfl rfl fun g13 p13 => Q.ld (lzv g13 rfl) rfl) ?_
 refine XO.q (Quiet.guardT rfl rfl fun g14 p14 => Q.fieldAddr rfl) ?_
 refine XO.q (Quiet.guardT rfl rfl fun g15 p15 => Q.ld (lzv g15 rfl) rfl) ?_
 refine XO.lit1 [_] [_] [r.n] encI rfl rfl (by rfl) (by rfl) rfl (by rfl) (fun g16 => by exact .c 0 1 (lzv g16 rfl) rfl rfl (.n _)) (fun _ => rfl) (by rfl) rfl (fun _ => by infer_instance) rfl (fun v16 h16 O16 => ?_)
 refine XO.gcallT rfl rfl Tryz.call174 rfl (fun g17 => .c (lzv g17 rfl) (.c (lzv g17 rfl) .n)) rfl (fun g17 p17 => by haveI := O16 g17; exact pin_spec r.d v16 h16 [r.n]) ?_
 refine XO.q (Q.and rfl (fun hp => lzv hp rfl)) ?_
 refine XO.q (Q.move rfl) ?_
 refine XO.q (Quiet.guardT rfl rfl fun g20 p20 => Q.fieldAddr rfl) ?_
 refine XO.q (Quiet.guardT rfl rfl fun g21 p21 => Q.ld (lzv g21 rfl) rfl) ?_
 refine XO.q (Quiet.guardT rfl rfl fun g22 p22 => Q.fieldAddr rfl) ?_
 refine XO.q (Quiet.guardT rfl rfl fun g23 p23 => Q.ld (lzv g23 rfl) rfl) ?_
 refine XO.gcallT rfl rfl Tryz.call128 rfl (fun g24 => .c (lzv g24 rfl) (.c (lzv g24 rfl) .n)) rfl (fun g24 p24 => (by
  have q := pin_one.1 p24.2
  have e1 : r.n = (r.n.toNat : Int) := by omega
  have e2 : r.d = (r.d.toNat : Int) := by omega
  have s := divisor_spec r.n.toNat r.d.toNat (by omega) (by omega)
  rw [← e1, ← e2] at s
  exact s)) ?_
 refine XO.q (Quiet.guardT rfl rfl fun g25 p25 => Q.eql (lzv g25 rfl) rfl) ?_
 refine XO.q (Q.and rfl (fun hp => lzv hp rfl)) ?_
 refine XO.q (Q.assign rfl) (XO.done ?_)
 refine XK.rt [] Tryz.func171 Tryz.results171 (.t rfl .n) ?_
 refine ⟨?_, rfl⟩
 unfold chanceR
 by_cases h : pin r.d [r.n] = true
 ·have q := pin_one.1 h
  have e : Int.gcd r.n r.d = r.n.toNat.gcd r.d.toNat := by
   unfold Int.gcd
   rw [show r.n.natAbs = r.n.toNat by omega, show r.d.natAbs = r.d.toNat by omega]
  have e3 : (((r.n.toNat.gcd r.d.toNat : Nat) : Int) = 1) ↔ (r.n.toNat.gcd r.d.toNat = 1) := by omega
  rw [e]
  simp only [e3]
 ·rw [Bool.eq_false_iff.2 h]; simp
end Go.X.Pl
