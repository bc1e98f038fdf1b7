/- A part of the proof: a small program logic, plain laws and contracts of functions, each proved by a walk through its operations. No condition but those that stand in each theorem. -/
import Derived.Test.YteofmoaloiaadaaA3
set_option linter.unusedSimpArgs false
set_option linter.unusedVariables false
set_option maxRecDepth 20000
namespace Go.X
open Go.Proofs
def secItems (pw : List Int) : List (List Value) := (List.range pw.length).map (fun k => [.int .i64 (k : Nat), .int .i64 (pw.getD k default)])
theorem secItems_len (pw : List Int) : (secItems pw).length = pw.length := by simp [secItems]
theorem secItems_at {pw : List Int} {i : Nat} (hi : i < pw.length) : (secItems pw).getD i [] = [.int .i64 (i : Nat), .int .i64 (pw.getD i default)] := by
  rw [List.getD_eq_getElem?_getD, secItems, List.getElem?_map, List.getElem?_range hi]; rfl
theorem secItems_two {pw : List Int} : ∀ i, i < (secItems pw).length → ((secItems pw).getD i []).length = 2 := fun i hi => by
  rw [secItems_len] at hi
  rw [secItems_at hi]; rfl
theorem seconds1 (b : Nat) (l : List BSpan) (vl : Value) (hl : PHeap) [il : Arr vl encSpan 2 hl l] (lk : LOk l) : It Try.prog (.func (.func 97) #[] #[ptr b 0]) (secItems (powers l)) [blk b [vl] 26, hl] := by
  intro f Hr QQ XX hy q hq
  refine VSpec.fn (P := Try.prog) (g := 97) (fst := []) (vs := [f]) (cap := [ptr b 0]) (A := [f, ptr b 0]) (Hm := [q]) Try.call97 rfl ?_
  dsimp only [List.cons_append, List.nil_append]
  rw [secItems_len] at *
  have ll := il.le
  have hpl := powers_len lk
  have ln := lk.n
  have hca := cnt_all l
  have hcall : ∀ i j : Nat, i < l.length → (j : Int) < (l.getD i default).seconds → ∀ q, QQ (cnt l i + j) q →
      VSpec Try.prog f [.int .i64 ((cnt l i + j : Nat) : Int), .int .i64 (l.getD i default).power] [q] Hr (fun v hs => ∃ bb q', v = .bool bb ∧ hs = [q'] ∧ (bb = true → QQ (cnt l i + j + 1) q') ∧ (bb = false → XX q')) := by
    intro i j hi hj q hq
    obtain ⟨h1, h2⟩ := powers_at l hi hj
    have := hy _ h1 q hq
    rwa [secItems_at h1, h2] at this
  refine Spec.intro (fn := Try.f97) (N := 26) Try.func97 rfl Try.ntmps97 rfl fun B => ?_
  refine XK.seq ?_
  refine XK.region rfl ?_
  refine XO.q (Q.assign rfl) ?_
  refine XO.done ?_
  refine XK.seq ?_
  refine XK.region rfl ?_
  refine XO.q (Q.ld rfl rfl) ?_
  refine XO.len rfl fun l7 => ?_
  refine XO.q (Q.move rfl) ?_
  refine XO.done ?_
  refine XK.block ?_
  refine XK.while (X := Nat × PHeap) [3, 5, 8, 9, 10, 11, 12, 13, 14, 15, 16, 17, 18, 19, 20, 21, 22, 23, 24, 25] (fun ⟨i, q1⟩ => [(3, some (.int .i64 ((cnt l i : Nat) : Int))), (8, some (.int .i64 (i : Nat)))]) (fun ⟨i, q1⟩ => [q1]) (fun ⟨i, q1⟩ => i ≤ l.length ∧ QQ (cnt l i) q1) (fun ⟨i, q1⟩ => l.length - i) (0, q) [q] rfl ⟨by omega, hq⟩ (.c rfl (.c rfl (.base 0 rfl rfl))) ?_
  rintro ⟨i, q1⟩ ⟨hi, hQ⟩ ih0
  dsimp only [List.cons_append, List.nil_append] at ih0 ⊢
  refine XK.seq ?_
  refine XK.region rfl ?_
  refine XO.q (Q.lss rfl rfl) ?_
  refine XO.done ?_
  refine XK.seq ?_
  refine XK.if rfl (fun c0 => ?_) (fun c0 => ?_)
  · have _t0 := True.intro
    have sk := lk.s _ (getD_memB (show i < l.length by omega))
    refine XK.skip ?_
    refine XK.seq ?_
    refine XK.block ?_
    refine XK.seq ?_
    refine XK.region rfl ?_
    refine XO.ix rfl rfl (by omega) (by omega) fun i10 => ?_
    refine XO.q (Q.ldEA [_, _] rfl (by first | assumption | omega) rfl rfl) ?_
    refine XO.alloc fun b5 => ?_
    refine XO.st rfl rfl rfl ?_
    refine XO.done ?_
    refine XK.seq ?_
    refine XK.region rfl ?_
    refine XO.q (Q.fieldAddr rfl) ?_
    refine XO.q (Q.ld rfl rfl) ?_
    refine XO.q (Q.move rfl) ?_
    refine XO.done ?_
    refine XK.block ?_
    refine XK.while (X := Nat × PHeap) [3, 14, 15, 16, 17, 18, 19, 20, 21, 22, 23, 24] (fun ⟨j, q2⟩ => [(3, some (.int .i64 ((cnt l i + j : Nat) : Int))), (14, some (.int .i64 (j : Nat)))]) (fun ⟨j, q2⟩ => [q2]) (fun ⟨j, q2⟩ => (j : Int) ≤ (l.getD i default).seconds ∧ QQ (cnt l i + j) q2) (fun ⟨j, q2⟩ => (l.getD i default).seconds.toNat - j) (0, q1) [q1] rfl ⟨by omega, hQ⟩ (.c rfl (.c rfl (.base 0 rfl rfl))) ?_
    rintro ⟨j, q2⟩ ⟨hj, hQ2⟩ ih1
    dsimp only [List.cons_append, List.nil_append] at ih1 ⊢
    refine XK.seq ?_
    refine XK.region rfl ?_
    refine XO.q (Q.lss rfl rfl) ?_
    refine XO.done ?_
    refine XK.seq ?_
    refine XK.if rfl (fun c1 => ?_) (fun c1 => ?_)
    · have _t1 := True.intro
      obtain ⟨hp1, hp2⟩ := powers_at l (i := i) (j := j) (by omega) (by omega)
      refine XK.skip ?_
      refine XK.seq ?_
      refine XK.block ?_
      refine XK.seq ?_
      refine XK.seq ?_
      refine XK.region rfl ?_
      refine XO.q (Q.move rfl) ?_
      refine XO.q (Q.move rfl) ?_
      refine XO.q (Q.fieldAddr rfl) ?_
      refine XO.q (Q.ld rfl rfl) ?_
      refine XO.vcall rfl rfl (hcall i j (by omega) (by omega) q2 hQ2) fun v20 s20 R20 => ?_
      obtain ⟨bb, q3, rfl, rfl, hT, hF⟩ := R20
      dsimp only [List.cons_append, List.nil_append]
      refine XO.q (Q.not rfl) ?_
      refine XO.done ?_
      refine XK.if rfl (fun c2 => ?_) (fun c2 => ?_)
      · have _t2 := True.intro
        refine XK.rt [q3] Try.func97 Try.results97 (.n) ?_
        exact ⟨q3, rfl, .inr (hF (by cases bb <;> simp_all))⟩
      · have _t2 := True.intro
        refine XK.skip ?_
        refine XK.region rfl ?_
        refine XO.q (Q.move rfl) ?_
        refine XO.q (Q.add rfl rfl ⟨by omega, by omega⟩) ?_
        rw [show ((cnt l i + j : Nat) : Int) + 1 = ((cnt l i + j + 1 : Nat) : Int) from rfl]
        refine XO.q (Q.assign rfl) ?_
        refine XO.done ?_
        refine XK.inBlock ?_
        refine XK.region rfl ?_
        refine XO.q (Q.add rfl rfl ⟨by omega, by omega⟩) ?_
        refine XO.q (Q.move rfl) ?_
        refine XO.done ?_
        exact ih1 (j + 1, q3) _ _ ⟨by dsimp only; omega, hT (by cases bb <;> simp_all)⟩ (by dsimp only; omega) (.c rfl (.c rfl (.base 26 rfl rfl))) inferInstance
    · have _t1 := True.intro
      refine XK.exit rfl ?_
      refine XK.inBlock ?_
      refine XK.region rfl ?_
      refine XO.q (Q.add rfl rfl ⟨by omega, by omega⟩) ?_
      refine XO.q (Q.move rfl) ?_
      refine XO.done ?_
      have hjn : cnt l i + j = cnt l (i + 1) := by rw [cnt]; omega
      rw [hjn] at hQ2 ⊢
      exact ih0 (i + 1, q2) _ _ ⟨by dsimp only; omega, hQ2⟩ (by first | omega | (dsimp only; omega)) (.c rfl (.c rfl (.base 46 rfl rfl))) inferInstance
  · have _t0 := True.intro
    refine XK.exit rfl ?_
    refine XK.fn [q1] Try.func97 Try.results97 (.n) ?_
    have hil : i = l.length := by omega
    subst hil
    rw [hca] at hQ
    exact ⟨q1, rfl, .inl hQ⟩
theorem seconds_spec (vl : Value) [ol : One vl] : Spec Try.prog 86 #[vl] [] [] (fun v hs => ∃ b, v = .func (.func 97) #[] #[ptr b 0] ∧ hs = [blk b [vl] 26]) := by
  refine Spec.intro (fn := Try.f86) (N := 4) Try.func86 rfl Try.ntmps86 rfl fun B => ?_
  refine XK.seq ?_
  refine XK.region rfl ?_
  refine XO.box rfl fun b1 => ?_
  refine XO.q (Q.assign rfl) ?_
  refine XO.done ?_
  refine XK.seq ?_
  refine XK.region rfl ?_
  refine XO.q (Q.func (fun _ he => rfl) (fun _ he => evs_rel he rfl)) ?_
  refine XO.q (Q.assign rfl) ?_
  refine XO.done ?_
  refine XK.rt [blk b1 [vl] 26] Try.func86 Try.results86 (.t rfl .n) ?_
  exact ⟨b1, rfl, rfl⟩
theorem trace1 (b : Nat) (vo : Value) (ho : PHeap) (us : List Value) [io : OArr vo encV 1 39 ho us] (v : Value) [ov : One v] (hu : us.length ≤ 20000) : Spec Try.prog 65 #[v, ptr b 0] [blk b [vo] 77, ho] [] (fun _ hs => ∃ vo' ho', hs = [blk b [vo'] 77, ho'] ∧ OArr vo' encV 1 39 ho' (us ++ [v])) := by
  refine Spec.intro (fn := Try.f65) (N := 7) Try.func65 rfl Try.ntmps65 rfl fun B => ?_
  refine XK.region rfl ?_
  refine XO.q (Q.ld rfl rfl) ?_
  refine XO.q (Q.move rfl) ?_
  refine XO.lit [_] [_] [v] encV (by rfl) (by rfl) rfl (by rfl) (by exact .c 0 1 rfl rfl rfl (.n _)) (fun _ => rfl) (by rfl) rfl (by infer_instance) rfl fun v5 h5 O5 => ?_
  refine XO.append rfl rfl rfl rfl (by first | omega | (simp; omega)) fun v6 h6 O6 => ?_
  refine XO.st rfl rfl rfl ?_
  refine XO.done ?_
  refine XK.fn [blk b [v6] 77, h6] Try.func65 Try.results65 (.n) ?_
  exact ⟨v6, h6, rfl, O6⟩
abbrev resV (r : BRes) (ve vn : Value) : Value := .agg #[.int .i64 r.dark, ve, vn, .int .i64 r.served]
theorem dark_second {gens : List BGen} {sts : List Int} {t load : Int} {s : BSt} (h : 0 < (secondP gens sts t load true s).1) : (secondP gens sts t load true s).2 = s := by
  unfold secondP at h ⊢
  split
  · rename_i h1
    rw [if_pos h1] at h
    split
    · rfl
    · rename_i h2
      rw [if_neg h2] at h
      exact absurd ⟨h, rfl⟩ h2
  · rename_i h1
    rw [if_neg h1] at h
    exact absurd h h1
theorem rowsTo_len (b : BBank) (pw fs : List Int) : ∀ i, (rowsTo b pw fs i).length = i
  | 0 => rfl
  | i + 1 => by rw [rowsTo, List.length_append, rowsTo_len b pw fs i]; rfl
set_option maxHeartbeats 1000000 in
theorem run_nil (b : BBank) (vb vg : Value) (hb hg : PHeap) [ib : Arr vb encBat 4 hb b.bats] [ig : Arr vg encGen 5 hg b.gens] (l : List BSpan) (vl : Value) (hl : PHeap) [il : Arr vl encSpan 2 hl l] (fs : List Int) (vf : Value) (hf : PHeap) [jf : Arr vf encI 1 hf fs] (ok : BOk b) (lk : LOk l) (fk : FOk b fs) : Spec Try.prog 64 #[.agg #[vb, vg], vl, vf, .nilFunc] [] [hb, hg, hl, hf]
    (fun v hs => ∃ ve vn ke kn, v = resV (runP b (powers l) fs) ve vn ∧ hs = [ke, kn] ∧ OArr ve encI 1 3 ke (runP b (powers l) fs).energy ∧ OArr vn encI 1 3 kn (runP b (powers l) fs).burnt) := by
  have ln := lk.n
  have hpw := pwOk lk
  have pk := playOk ok fk
  have b0 := begun_ok ok fk
  have hst : ∀ i, i ≤ (powers l).length → StOk (startsP b fs) b.bats.length i (stateP b (powers l) fs true i) := fun i hi => playTo_ok pk hpw b0 true i hi
  have hla := fun i hi => lackAt_ok (i := i) pk hpw b0 true hi
  have hn2 := hpw.n
  have n8 := ok.nb
  refine Spec.intro (fn := Try.f64) (N := 47) Try.func64 rfl Try.ntmps64 rfl fun B => ?_
  refine XK.seq ?_
  refine XK.region rfl ?_
  refine XO.box rfl fun b4 => ?_
  refine XO.box rfl fun b7 => ?_
  refine XO.alloc fun b8 => ?_
  refine XO.done ?_
  refine XK.seq ?_
  refine XK.region rfl ?_
  refine XO.q (Q.ldA [_, _] rfl rfl rfl) ?_
  refine XO.q (Q.move rfl) ?_
  refine XO.call Try.call85 rfl rfl rfl (begin_spec b vb vg hb hg fs vf hf ok fk) fun v16 s16 R16 => ?_
  obtain ⟨p, vs, vc, vn, ks, kc, kn, rfl, rfl, OS, OC, ON⟩ := R16
  dsimp only [List.cons_append, List.nil_append]
  refine XO.alloc fun b9 => ?_
  refine XO.st rfl rfl rfl ?_
  refine XO.done ?_
  refine XK.seq ?_
  refine XK.region rfl ?_
  refine XO.alloc fun b10 => ?_
  refine XO.st rfl rfl rfl ?_
  refine XO.done ?_
  refine XK.seq ?_
  refine XK.region rfl ?_
  refine XO.q (Q.ld rfl rfl) ?_
  refine XO.q (Q.func (fun _ he => evs_rel he rfl) (fun _ he => rfl)) ?_
  refine XO.alloc fun b11 => ?_
  refine XO.st rfl rfl rfl ?_
  refine XO.done ?_
  refine XK.seq ?_
  refine XK.seq ?_
  refine XK.region rfl ?_
  refine XO.q (Q.move rfl) ?_
  refine XO.call Try.call86 rfl rfl rfl (seconds_spec vl) fun v20 s20 R20 => ?_
  obtain ⟨bs, rfl, rfl⟩ := R20
  dsimp only [List.cons_append, List.nil_append]
  refine XO.done ?_
  refine XK.block ?_
  refine XK.range (X := Nat × Value × PHeap × PHeap × Int) (ps := [21, 22]) (secItems (powers l)) (fun ⟨m, vc1, kc1, kn1, dk⟩ => [blk p [vb, vg, vs, vc1, vn, .int .i64 (stateP b (powers l) fs true (m)).served] 153, kc1, kn1, blk b10 [.int .i64 dk] 3]) (fun i ⟨m, vc1, kc1, kn1, dk⟩ => m = i ∧ m ≤ (powers l).length ∧ dk = -1 ∧ OArr vc1 encCell 5 163 kc1 (stateP b (powers l) fs true (m)).cells ∧ OArr vn encI 1 3 kn1 (stateP b (powers l) fs true (m)).burnt ∧ (∀ j, j < m → isDark b (powers l) fs j = false)) (fun j0 ⟨m, vc1, kc1, kn1, dk⟩ => j0 = Code.exit 0 ∧ m < (powers l).length ∧ dk = m ∧ isDark b (powers l) fs m = true ∧ OArr vc1 encCell 5 163 kc1 (stateP b (powers l) fs true (m)).cells ∧ OArr vn encI 1 3 kn1 (stateP b (powers l) fs true (m)).burnt ∧ (∀ j, j < m → isDark b (powers l) fs j = false)) (0, vc, kc, kn, -1) [blk p [vb, vg, vs, vc, vn, .int .i64 0] 153, kc, kn, blk b10 [.int .i64 (-1)] 3] rfl ⟨rfl, by omega, rfl, OC, ON, fun j hj => by omega⟩ rfl (seconds1 bs l vl hl lk) rfl (secItems_two) ?_ ?_ ?_
  · rintro lq rec B' i ⟨m, vc1, kc1, kn1, dk⟩ hi ⟨hmi, hm, hdk, C1, N1, D1⟩
    dsimp only [List.cons_append, List.nil_append]
    rw [secItems_len] at hi
    subst hmi
    subst hdk
    rw [secItems_at hi]
    dsimp only [pars]
    refine XK.seq ?_
    refine XK.region rfl ?_
    refine XO.q (Q.assign rfl) ?_
    refine XO.done ?_
    refine XK.region rfl ?_
    refine XO.q (Q.assign rfl) ?_
    refine XO.done ?_
    refine XK.beginRound ?_
    refine XK.block ?_
    refine XK.seq ?_
    refine XK.seq ?_
    refine XK.region rfl ?_
    refine XO.q (Q.ld rfl rfl) ?_
    refine XO.q (Q.move rfl) ?_
    refine XO.q (Q.move rfl) ?_
    refine XO.vcall rfl rfl (VSpec.fn (fst := [ptr p 0]) (cap := []) Try.call87 rfl (second_spec p vb vg vs vc1 vn b.gens (startsP b fs) pk hg ks (stateP b (powers l) fs true (m)) kc1 kn1 (hst m (by omega)) (by omega) ((m : Nat) : Int) (by omega) (by omega) ((powers l).getD m default) (hpw.p m (by omega)).1 (hpw.p m (by omega)).2 true)) fun v26 s26 R26 => ?_
    obtain ⟨vc2, kc2, kn2, rfl, rfl, C2, N2⟩ := R26
    dsimp only [List.cons_append, List.nil_append]
    have hd : isDark b (powers l) fs m = decide (0 < (secondP b.gens (startsP b fs) ((m : Nat) : Int) ((powers l).getD m default) true (stateP b (powers l) fs true (m))).1) := rfl
    have es : (secondP b.gens (startsP b fs) ((m : Nat) : Int) ((powers l).getD m default) true (stateP b (powers l) fs true (m))).2 = (stateP b (powers l) fs true (m + 1)) := rfl
    rw [es] at C2 N2 ⊢
    refine XO.q (Q.gtr rfl rfl) ?_
    refine XO.done ?_
    refine XK.if rfl (fun c0 => ?_) (fun c0 => ?_)
    · have _t0 := True.intro
      refine XK.seq ?_
      refine XK.region rfl ?_
      refine XO.q (Q.move rfl) ?_
      refine XO.st rfl rfl rfl ?_
      refine XO.done ?_
      have e : (stateP b (powers l) fs true (m + 1)) = (stateP b (powers l) fs true (m)) := dark_second c0
      rw [e] at C2 N2 ⊢
      exact XK.leave (j := some (.exit 0)) [blk p [vb, vg, vs, vc2, vn, .int .i64 (stateP b (powers l) fs true (m)).served] 153, kc2, kn2, blk b10 [.int .i64 ((m : Nat) : Int)] 3] ⟨rfl, rfl⟩ ⟨(m, vc2, kc2, kn2, (m : Int)), ⟨rfl, hi, rfl, by rw [hd]; exact decide_eq_true c0, C2, N2, D1⟩, rfl⟩
    · have _t0 := True.intro
      refine XK.skip ?_
      refine XK.seq ?_
      refine XK.region rfl ?_
      refine XO.q (Q.ld rfl rfl) ?_
      refine XO.q (Q.neqNilN rfl) ?_
      refine XO.done ?_
      refine XK.if rfl (fun c1 => ?_) (fun c1 => ?_)
      · have _t1 := True.intro
        simp at c1
      · have _t1 := True.intro
        refine XK.skip ?_
        refine XK.inBlock ?_
        exact XK.leave (j := none) [blk p [vb, vg, vs, vc2, vn, .int .i64 (stateP b (powers l) fs true (m + 1)).served] 153, kc2, kn2, blk b10 [.int .i64 (-1)] 3] trivial ⟨(m + 1, vc2, kc2, kn2, -1), ⟨rfl, by dsimp only; omega, rfl, C2, N2, fun j hj => (by rcases Nat.lt_or_ge j m with h3 | h3; exact D1 j h3; rw [show j = m by dsimp only at hj; omega, hd]; exact decide_eq_false c0)⟩, rfl⟩
  · rintro ⟨m, vc1, kc1, kn1, dk⟩ ⟨hmi, hm, hdk, C1, N1, D1⟩
    dsimp only [List.cons_append, List.nil_append]
    rw [secItems_len] at hmi
    subst hdk
    refine XK.inBlock ?_
    refine XK.seq ?_
    refine XK.drawn [0, 1, 3, 4, 5, 6, 7, 8, 9, 10, 11] [b9, b10, p] [] (.q 0 (.q 1 (.q 3 (.q 4 (.q 5 (.q 6 (.q 7 (.q 8 (.q 9 (.q 10 (.br 2 true (.q 11 (.br 12 false .done .stop)) .stop))))))))))) Try.mixed rfl (by kernel_rfl) ?_
    refine XT.q rfl rfl (Q.ld rfl rfl) ?_
    refine XT.q rfl rfl (Q.ld rfl rfl) ?_
    refine XT.q rfl rfl (Q.ld rfl rfl) ?_
    refine XT.q rfl rfl (Q.nilCheck rfl) ?_
    refine XT.q rfl rfl (Q.fieldAddr rfl) ?_
    refine XT.q rfl rfl (Q.ld rfl rfl) ?_
    refine XT.q rfl rfl (Q.ld rfl rfl) ?_
    refine XT.q rfl rfl (Q.nilCheck rfl) ?_
    refine XT.q rfl rfl (Q.fieldAddr rfl) ?_
    refine XT.q rfl rfl (Q.ld rfl rfl) ?_
    refine XT.call rfl rfl Try.call91 rfl rfl rfl (energies_spec p vb vg vs vc1 vn (stateP b (powers l) fs true (m)).served kc1 (stateP b (powers l) fs true (m)).cells (by rw [(hst (m) (by omega)).c.len]; exact n8)) (fun v37 s37 R37 => ?_) XT.stop
    obtain ⟨k37, rfl, O37⟩ := R37
    dsimp only [List.cons_append, List.nil_append]
    refine ⟨inferInstance, ?_⟩
    refine XT.q rfl rfl (Q.build [_, _, _, _] (.c 0 1 rfl rfl rfl (.c 1 1 rfl rfl rfl (.c 2 1 rfl rfl rfl (.c 3 1 rfl rfl rfl (.n _)))))) ?_
    refine XT.st rfl rfl rfl rfl rfl ⟨inferInstance, ?_⟩ XT.stop
    refine XT.done ?_
    refine XK.rt [k37, kn1] Try.func64 Try.results64 (.cell [_, _, _, _] rfl rfl rfl (.n)) ?_
    subst hmi
    obtain ⟨er, ee⟩ := run_never D1
    rw [er]
    exact ⟨v37, vn, k37, kn1, rfl, rfl, O37, N1⟩
  · rintro _ ⟨m, vc1, kc1, kn1, dk⟩ ⟨rfl, hm, hdk, hdm, C1, N1, D1⟩
    dsimp only [List.cons_append, List.nil_append]
    subst hdk
    refine XK.exit rfl ?_
    refine XK.seq ?_
    refine XK.drawn [0, 1, 3, 4, 5, 6, 7, 8, 9, 10, 11] [b9, b10, p] [] (.q 0 (.q 1 (.q 3 (.q 4 (.q 5 (.q 6 (.q 7 (.q 8 (.q 9 (.q 10 (.br 2 true (.q 11 (.br 12 false .done .stop)) .stop))))))))))) Try.mixed rfl (by kernel_rfl) ?_
    refine XT.q rfl rfl (Q.ld rfl rfl) ?_
    refine XT.q rfl rfl (Q.ld rfl rfl) ?_
    refine XT.q rfl rfl (Q.ld rfl rfl) ?_
    refine XT.q rfl rfl (Q.nilCheck rfl) ?_
    refine XT.q rfl rfl (Q.fieldAddr rfl) ?_
    refine XT.q rfl rfl (Q.ld rfl rfl) ?_
    refine XT.q rfl rfl (Q.ld rfl rfl) ?_
    refine XT.q rfl rfl (Q.nilCheck rfl) ?_
    refine XT.q rfl rfl (Q.fieldAddr rfl) ?_
    refine XT.q rfl rfl (Q.ld rfl rfl) ?_
    refine XT.call rfl rfl Try.call91 rfl rfl rfl (energies_spec p vb vg vs vc1 vn (stateP b (powers l) fs true (m)).served kc1 (stateP b (powers l) fs true (m)).cells (by rw [(hst (m) (by omega)).c.len]; exact n8)) (fun v37 s37 R37 => ?_) XT.stop
    obtain ⟨k37, rfl, O37⟩ := R37
    dsimp only [List.cons_append, List.nil_append]
    refine ⟨inferInstance, ?_⟩
    refine XT.q rfl rfl (Q.build [_, _, _, _] (.c 0 1 rfl rfl rfl (.c 1 1 rfl rfl rfl (.c 2 1 rfl rfl rfl (.c 3 1 rfl rfl rfl (.n _)))))) ?_
    refine XT.st rfl rfl rfl rfl rfl ⟨inferInstance, ?_⟩ XT.stop
    refine XT.done ?_
    refine XK.rt [k37, kn1] Try.func64 Try.results64 (.cell [_, _, _, _] rfl rfl rfl (.n)) ?_
    obtain ⟨er, ee⟩ := run_here hm D1 hdm
    rw [er]
    exact ⟨v37, vn, k37, kn1, rfl, rfl, O37, N1⟩
set_option maxHeartbeats 1000000 in
theorem run_trace (b : BBank) (vb vg : Value) (hb hg : PHeap) [ib : Arr vb encBat 4 hb b.bats] [ig : Arr vg encGen 5 hg b.gens] (l : List BSpan) (vl : Value) (hl : PHeap) [il : Arr vl encSpan 2 hl l] (fs : List Int) (vf : Value) (hf : PHeap) [jf : Arr vf encI 1 hf fs] (ok : BOk b) (lk : LOk l) (fk : FOk b fs) (bt : Nat) : Spec Try.prog 64 #[.agg #[vb, vg], vl, vf, .func (.func 65) #[] #[ptr bt 0]] [blk bt [.slice none 0 0] 77] [hb, hg, hl, hf]
    (fun v hs => ∃ ve vn ke kn vo ho us K, v = resV (runP b (powers l) fs) ve vn ∧ hs = [blk bt [vo] 77, ho, K, ke, kn] ∧ OArr ve encI 1 3 ke (runP b (powers l) fs).energy ∧ OArr vn encI 1 3 kn (runP b (powers l) fs).burnt ∧ OArr vo encV 1 39 ho us ∧ RowsK us K (traceP b (powers l) fs)) := by
  have ln := lk.n
  have hpw := pwOk lk
  have pk := playOk ok fk
  have b0 := begun_ok ok fk
  have hst : ∀ i, i ≤ (powers l).length → StOk (startsP b fs) b.bats.length i (stateP b (powers l) fs true i) := fun i hi => playTo_ok pk hpw b0 true i hi
  have hla := fun i hi => lackAt_ok (i := i) pk hpw b0 true hi
  have hn2 := hpw.n
  have n8 := ok.nb
  refine Spec.intro (fn := Try.f64) (N := 47) Try.func64 rfl Try.ntmps64 rfl fun B => ?_
  refine XK.seq ?_
  refine XK.region rfl ?_
  refine XO.box rfl fun b4 => ?_
  refine XO.box rfl fun b7 => ?_
  refine XO.alloc fun b8 => ?_
  refine XO.done ?_
  refine XK.seq ?_
  refine XK.region rfl ?_
  refine XO.q (Q.ldA [_, _] rfl rfl rfl) ?_
  refine XO.q (Q.move rfl) ?_
  refine XO.call Try.call85 rfl rfl rfl (begin_spec b vb vg hb hg fs vf hf ok fk) fun v16 s16 R16 => ?_
  obtain ⟨p, vs, vc, vn, ks, kc, kn, rfl, rfl, OS, OC, ON⟩ := R16
  dsimp only [List.cons_append, List.nil_append]
  refine XO.alloc fun b9 => ?_
  refine XO.st rfl rfl rfl ?_
  refine XO.done ?_
  refine XK.seq ?_
  refine XK.region rfl ?_
  refine XO.alloc fun b10 => ?_
  refine XO.st rfl rfl rfl ?_
  refine XO.done ?_
  refine XK.seq ?_
  refine XK.region rfl ?_
  refine XO.q (Q.ld rfl rfl) ?_
  refine XO.q (Q.func (fun _ he => evs_rel he rfl) (fun _ he => rfl)) ?_
  refine XO.alloc fun b11 => ?_
  refine XO.st rfl rfl rfl ?_
  refine XO.done ?_
  refine XK.seq ?_
  refine XK.seq ?_
  refine XK.region rfl ?_
  refine XO.q (Q.move rfl) ?_
  refine XO.call Try.call86 rfl rfl rfl (seconds_spec vl) fun v20 s20 R20 => ?_
  obtain ⟨bs, rfl, rfl⟩ := R20
  dsimp only [List.cons_append, List.nil_append]
  refine XO.done ?_
  refine XK.block ?_
  refine XK.range (X := Nat × Value × PHeap × PHeap × Int × Value × PHeap × List Value × PHeap) (ps := [21, 22]) (secItems (powers l)) (fun ⟨m, vc1, kc1, kn1, dk, vo, ho, us, K⟩ => [blk p [vb, vg, vs, vc1, vn, .int .i64 (stateP b (powers l) fs true (m)).served] 153, kc1, kn1, blk b10 [.int .i64 dk] 3, blk bt [vo] 77, ho, K]) (fun i ⟨m, vc1, kc1, kn1, dk, vo, ho, us, K⟩ => m = i ∧ m ≤ (powers l).length ∧ dk = -1 ∧ OArr vc1 encCell 5 163 kc1 (stateP b (powers l) fs true (m)).cells ∧ OArr vn encI 1 3 kn1 (stateP b (powers l) fs true (m)).burnt ∧ (∀ j, j < m → isDark b (powers l) fs j = false) ∧ OArr vo encV 1 39 ho us ∧ RowsK us K (rowsTo b (powers l) fs m)) (fun j0 ⟨m, vc1, kc1, kn1, dk, vo, ho, us, K⟩ => j0 = Code.exit 0 ∧ m < (powers l).length ∧ dk = m ∧ isDark b (powers l) fs m = true ∧ OArr vc1 encCell 5 163 kc1 (stateP b (powers l) fs true (m)).cells ∧ OArr vn encI 1 3 kn1 (stateP b (powers l) fs true (m)).burnt ∧ (∀ j, j < m → isDark b (powers l) fs j = false) ∧ OArr vo encV 1 39 ho us ∧ RowsK us K (rowsTo b (powers l) fs m)) (0, vc, kc, kn, -1, .slice none 0 0, emp, [], emp) [blk p [vb, vg, vs, vc, vn, .int .i64 0] 153, kc, kn, blk b10 [.int .i64 (-1)] 3, blk bt [.slice none 0 0] 77, emp, emp] rfl ⟨rfl, by omega, rfl, OC, ON, fun j hj => by omega, OArr.nil (fun _ => rfl), RowsK.nil⟩ rfl (seconds1 bs l vl hl lk) rfl (secItems_two) ?_ ?_ ?_
  · rintro lq rec B' i ⟨m, vc1, kc1, kn1, dk, vo, ho, us, K⟩ hi ⟨hmi, hm, hdk, C1, N1, D1, OO, RR⟩
    dsimp only [List.cons_append, List.nil_append]
    rw [secItems_len] at hi
    subst hmi
    subst hdk
    rw [secItems_at hi]
    dsimp only [pars]
    refine XK.seq ?_
    refine XK.region rfl ?_
    refine XO.q (Q.assign rfl) ?_
    refine XO.done ?_
    refine XK.region rfl ?_
    refine XO.q (Q.assign rfl) ?_
    refine XO.done ?_
    refine XK.beginRound ?_
    refine XK.block ?_
    refine XK.seq ?_
    refine XK.seq ?_
    refine XK.region rfl ?_
    refine XO.q (Q.ld rfl rfl) ?_
    refine XO.q (Q.move rfl) ?_
    refine XO.q (Q.move rfl) ?_
    refine XO.vcall rfl rfl (VSpec.fn (fst := [ptr p 0]) (cap := []) Try.call87 rfl (second_spec p vb vg vs vc1 vn b.gens (startsP b fs) pk hg ks (stateP b (powers l) fs true (m)) kc1 kn1 (hst m (by omega)) (by omega) ((m : Nat) : Int) (by omega) (by omega) ((powers l).getD m default) (hpw.p m (by omega)).1 (hpw.p m (by omega)).2 true)) fun v26 s26 R26 => ?_
    obtain ⟨vc2, kc2, kn2, rfl, rfl, C2, N2⟩ := R26
    dsimp only [List.cons_append, List.nil_append]
    have hd : isDark b (powers l) fs m = decide (0 < (secondP b.gens (startsP b fs) ((m : Nat) : Int) ((powers l).getD m default) true (stateP b (powers l) fs true (m))).1) := rfl
    have es : (secondP b.gens (startsP b fs) ((m : Nat) : Int) ((powers l).getD m default) true (stateP b (powers l) fs true (m))).2 = (stateP b (powers l) fs true (m + 1)) := rfl
    rw [es] at C2 N2 ⊢
    refine XO.q (Q.gtr rfl rfl) ?_
    refine XO.done ?_
    refine XK.if rfl (fun c0 => ?_) (fun c0 => ?_)
    · have _t0 := True.intro
      refine XK.seq ?_
      refine XK.region rfl ?_
      refine XO.q (Q.move rfl) ?_
      refine XO.st rfl rfl rfl ?_
      refine XO.done ?_
      have e : (stateP b (powers l) fs true (m + 1)) = (stateP b (powers l) fs true (m)) := dark_second c0
      rw [e] at C2 N2 ⊢
      exact XK.leave (j := some (.exit 0)) [blk p [vb, vg, vs, vc2, vn, .int .i64 (stateP b (powers l) fs true (m)).served] 153, kc2, kn2, blk b10 [.int .i64 ((m : Nat) : Int)] 3, blk bt [vo] 77, ho, K] ⟨rfl, rfl⟩ ⟨(m, vc2, kc2, kn2, (m : Int), vo, ho, us, K), ⟨rfl, hi, rfl, by rw [hd]; exact decide_eq_true c0, C2, N2, D1, OO, RR⟩, rfl⟩
    · have _t0 := True.intro
      refine XK.skip ?_
      refine XK.seq ?_
      refine XK.region rfl ?_
      refine XO.q (Q.ld rfl rfl) ?_
      refine XO.q (Q.neqNilF rfl) ?_
      refine XO.done ?_
      refine XK.if rfl (fun c1 => ?_) (fun c1 => ?_)
      · have _t1 := True.intro
        refine XK.drawn [0, 1] [b7, b9] [] (.q 0 (.q 1 (.br 2 true (.br 3 true .done .stop) .stop))) Try.mixed rfl (by kernel_rfl) ?_
        refine XT.q rfl rfl (Q.ld rfl rfl) ?_
        refine XT.q rfl rfl (Q.ld rfl rfl) ?_
        refine XT.call rfl rfl Try.call91 rfl rfl rfl (energies_spec p vb vg vs vc2 vn (stateP b (powers l) fs true (m + 1)).served kc2 (stateP b (powers l) fs true (m + 1)).cells (by rw [(hst (m + 1) (by omega)).c.len]; exact n8)) (fun v33 s33 R33 => ?_) XT.stop
        obtain ⟨k33, rfl, O33⟩ := R33
        dsimp only [List.cons_append, List.nil_append]
        refine ⟨inferInstance, ?_⟩
        refine XT.vcall rfl rfl rfl rfl (VSpec.fn (fst := []) (cap := [ptr bt 0]) Try.call65 rfl (trace1 bt vo ho us v33 (by have := RR.1; have := rowsTo_len b (powers l) fs m; omega))) (fun v34 s34 R34 => ?_) XT.stop
        obtain ⟨vo2, ho2, rfl, OO2⟩ := R34
        dsimp only [List.cons_append, List.nil_append]
        refine ⟨inferInstance, ?_⟩
        refine XT.done ?_
        refine XK.inBlock ?_
        refine XK.cat K k33 fun l1 l2 => ?_
        exact XK.leave (j := none) [blk p [vb, vg, vs, vc2, vn, .int .i64 (stateP b (powers l) fs true (m + 1)).served] 153, kc2, kn2, blk b10 [.int .i64 (-1)] 3, blk bt [vo2] 77, ho2, cat K k33] trivial ⟨(m + 1, vc2, kc2, kn2, -1, vo2, ho2, us ++ [v33], cat K k33), ⟨rfl, by dsimp only; omega, rfl, C2, N2, fun j hj => (by rcases Nat.lt_or_ge j m with h3 | h3; exact D1 j h3; rw [show j = m by dsimp only at hj; omega, hd]; exact decide_eq_false c0), OO2, (RR.mono l1).snoc (Arr.le_heap (OArr.arr (s := O33)) l2)⟩, rfl⟩
      · have _t1 := True.intro
        simp at c1
  · rintro ⟨m, vc1, kc1, kn1, dk, vo, ho, us, K⟩ ⟨hmi, hm, hdk, C1, N1, D1, OO, RR⟩
    dsimp only [List.cons_append, List.nil_append]
    rw [secItems_len] at hmi
    subst hdk
    refine XK.inBlock ?_
    refine XK.seq ?_
    refine XK.drawn [0, 1, 3, 4, 5, 6, 7, 8, 9, 10, 11] [b9, b10, p] [] (.q 0 (.q 1 (.q 3 (.q 4 (.q 5 (.q 6 (.q 7 (.q 8 (.q 9 (.q 10 (.br 2 true (.q 11 (.br 12 false .done .stop)) .stop))))))))))) Try.mixed rfl (by kernel_rfl) ?_
    refine XT.q rfl rfl (Q.ld rfl rfl) ?_
    refine XT.q rfl rfl (Q.ld rfl rfl) ?_
    refine XT.q rfl rfl (Q.ld rfl rfl) ?_
    refine XT.q rfl rfl (Q.nilCheck rfl) ?_
    refine XT.q rfl rfl (Q.fieldAddr rfl) ?_
    refine XT.q rfl rfl (Q.ld rfl rfl) ?_
    refine XT.q rfl rfl (Q.ld rfl rfl) ?_
    refine XT.q rfl rfl (Q.nilCheck rfl) ?_
    refine XT.q rfl rfl (Q.fieldAddr rfl) ?_
    refine XT.q rfl rfl (Q.ld rfl rfl) ?_
    refine XT.call rfl rfl Try.call91 rfl rfl rfl (energies_spec p vb vg vs vc1 vn (stateP b (powers l) fs true (m)).served kc1 (stateP b (powers l) fs true (m)).cells (by rw [(hst (m) (by omega)).c.len]; exact n8)) (fun v37 s37 R37 => ?_) XT.stop
    obtain ⟨k37, rfl, O37⟩ := R37
    dsimp only [List.cons_append, List.nil_append]
    refine ⟨inferInstance, ?_⟩
    refine XT.q rfl rfl (Q.build [_, _, _, _] (.c 0 1 rfl rfl rfl (.c 1 1 rfl rfl rfl (.c 2 1 rfl rfl rfl (.c 3 1 rfl rfl rfl (.n _)))))) ?_
    refine XT.st rfl rfl rfl rfl rfl ⟨inferInstance, ?_⟩ XT.stop
    refine XT.done ?_
    refine XK.rt [blk bt [vo] 77, ho, K, k37, kn1] Try.func64 Try.results64 (.cell [_, _, _, _] rfl rfl rfl (.n)) ?_
    subst hmi
    obtain ⟨er, ee⟩ := run_never D1
    rw [er]
    exact ⟨v37, vn, k37, kn1, vo, ho, us, K, rfl, rfl, O37, N1, OO, by rw [traceP, ee]; exact RR⟩
  · rintro _ ⟨m, vc1, kc1, kn1, dk, vo, ho, us, K⟩ ⟨rfl, hm, hdk, hdm, C1, N1, D1, OO, RR⟩
    dsimp only [List.cons_append, List.nil_append]
    subst hdk
    refine XK.exit rfl ?_
    refine XK.seq ?_
    refine XK.drawn [0, 1, 3, 4, 5, 6, 7, 8, 9, 10, 11] [b9, b10, p] [] (.q 0 (.q 1 (.q 3 (.q 4 (.q 5 (.q 6 (.q 7 (.q 8 (.q 9 (.q 10 (.br 2 true (.q 11 (.br 12 false .done .stop)) .stop))))))))))) Try.mixed rfl (by kernel_rfl) ?_
    refine XT.q rfl rfl (Q.ld rfl rfl) ?_
    refine XT.q rfl rfl (Q.ld rfl rfl) ?_
    refine XT.q rfl rfl (Q.ld rfl rfl) ?_
    refine XT.q rfl rfl (Q.nilCheck rfl) ?_
    refine XT.q rfl rfl (Q.fieldAddr rfl) ?_
    refine XT.q rfl rfl (Q.ld rfl rfl) ?_
    refine XT.q rfl rfl (Q.ld rfl rfl) ?_
    refine XT.q rfl rfl (Q.nilCheck rfl) ?_
    refine XT.q rfl rfl (Q.fieldAddr rfl) ?_
    refine XT.q rfl rfl (Q.ld rfl rfl) ?_
    refine XT.call rfl rfl Try.call91 rfl rfl rfl (energies_spec p vb vg vs vc1 vn (stateP b (powers l) fs true (m)).served kc1 (stateP b (powers l) fs true (m)).cells (by rw [(hst (m) (by omega)).c.len]; exact n8)) (fun v37 s37 R37 => ?_) XT.stop
    obtain ⟨k37, rfl, O37⟩ := R37
    dsimp only [List.cons_append, List.nil_append]
    refine ⟨inferInstance, ?_⟩
    refine XT.q rfl rfl (Q.build [_, _, _, _] (.c 0 1 rfl rfl rfl (.c 1 1 rfl rfl rfl (.c 2 1 rfl rfl rfl (.c 3 1 rfl rfl rfl (.n _)))))) ?_
    refine XT.st rfl rfl rfl rfl rfl ⟨inferInstance, ?_⟩ XT.stop
    refine XT.done ?_
    refine XK.rt [blk bt [vo] 77, ho, K, k37, kn1] Try.func64 Try.results64 (.cell [_, _, _, _] rfl rfl rfl (.n)) ?_
    obtain ⟨er, ee⟩ := run_here hm D1 hdm
    rw [er]
    exact ⟨v37, vn, k37, kn1, vo, ho, us, K, rfl, rfl, O37, N1, OO, by rw [traceP, ee]; exact RR⟩
end Go.X

set_option linter.unusedSimpArgs false
set_option linter.unusedVariables false
set_option maxRecDepth 20000
namespace Go.X
open Go.Proofs
theorem lack_spec (b : BBank) (vb vg : Value) (hb hg : PHeap) [ib : Arr vb encBat 4 hb b.bats] [ig : Arr vg encGen 5 hg b.gens] (l : List BSpan) (vl : Value) (hl : PHeap) [il : Arr vl encSpan 2 hl l] (fs : List Int) (vf : Value) (hf : PHeap) [jf : Arr vf encI 1 hf fs] (ok : BOk b) (lk : LOk l) (fk : FOk b fs) : Spec Try.prog 58 #[.agg #[vb, vg], vl, vf] [] [hb, hg, hl, hf] (fun v hs => v = .int .i64 (lackP b (powers l) fs) ∧ hs = []) := by
  have ln := lk.n
  have hpw := pwOk lk
  have pk := playOk ok fk
  have b0 := begun_ok ok fk
  have hst : ∀ i, i ≤ (powers l).length → StOk (startsP b fs) b.bats.length i (stateP b (powers l) fs false i) := fun i hi => playTo_ok pk hpw b0 false i hi
  have hla := fun i hi => lackAt_ok (i := i) pk hpw b0 false hi
  have hn2 := hpw.n
  have n8 := ok.nb
  have hlk := fun i hi => lackTo_ok ok fk hpw i hi
  refine Spec.intro (fn := Try.f58) (N := 25) Try.func58 rfl Try.ntmps58 rfl fun B => ?_
  refine XK.seq ?_
  refine XK.region rfl ?_
  refine XO.box rfl fun b3 => ?_
  refine XO.q (Q.assign rfl) ?_
  refine XO.done ?_
  refine XK.seq ?_
  refine XK.region rfl ?_
  refine XO.q (Q.ldA [_, _] rfl rfl rfl) ?_
  refine XO.q (Q.move rfl) ?_
  refine XO.call Try.call85 rfl rfl rfl (begin_spec b vb vg hb hg fs vf hf ok fk) fun v13 s13 R13 => ?_
  obtain ⟨p, vs, vc, vn, ks, kc, kn, rfl, rfl, OS, OC, ON⟩ := R13
  dsimp only [List.cons_append, List.nil_append]
  refine XO.alloc fun b7 => ?_
  refine XO.st rfl rfl rfl ?_
  refine XO.done ?_
  refine XK.seq ?_
  refine XK.region rfl ?_
  refine XO.alloc fun b8 => ?_
  refine XO.st rfl rfl rfl ?_
  refine XO.done ?_
  refine XK.seq ?_
  refine XK.seq ?_
  refine XK.region rfl ?_
  refine XO.q (Q.move rfl) ?_
  refine XO.call Try.call86 rfl rfl rfl (seconds_spec vl) fun v15 s15 R15 => ?_
  obtain ⟨bs, rfl, rfl⟩ := R15
  dsimp only [List.cons_append, List.nil_append]
  refine XO.done ?_
  refine XK.block ?_
  refine XK.range (X := Nat × Value × PHeap × PHeap) (ps := [16, 17]) (secItems (powers l)) (fun ⟨m, vc1, kc1, kn1⟩ => [blk p [vb, vg, vs, vc1, vn, .int .i64 (stateP b (powers l) fs false (m)).served] 153, kc1, kn1, blk b8 [.int .i64 (lackTo b (powers l) fs m)] 3]) (fun i ⟨m, vc1, kc1, kn1⟩ => m = i ∧ OArr vc1 encCell 5 163 kc1 (stateP b (powers l) fs false (m)).cells ∧ OArr vn encI 1 3 kn1 (stateP b (powers l) fs false (m)).burnt) (fun _ _ => False) (0, vc, kc, kn) [blk p [vb, vg, vs, vc, vn, .int .i64 0] 153, kc, kn, blk b8 [.int .i64 0] 3] rfl ⟨rfl, OC, ON⟩ rfl (seconds1 bs l vl hl lk) rfl (secItems_two) ?_ ?_ (fun _ _ hJ => hJ.elim)
  · rintro lq rec B' i ⟨m, vc1, kc1, kn1⟩ hi ⟨hmi, C1, N1⟩
    dsimp only [List.cons_append, List.nil_append]
    rw [secItems_len] at hi
    subst hmi
    have lm := hlk m (by omega)
    have la := hla m (by omega)
    rw [secItems_at hi]
    dsimp only [pars]
    refine XK.seq ?_
    refine XK.region rfl ?_
    refine XO.q (Q.assign rfl) ?_
    refine XO.done ?_
    refine XK.region rfl ?_
    refine XO.q (Q.assign rfl) ?_
    refine XO.done ?_
    refine XK.beginRound ?_
    refine XK.block ?_
    refine XK.drawn [1, 2, 3, 5] [b7] [] (.q 1 (.q 2 (.q 3 (.br 0 true (.br 4 true (.q 5 (.br 6 false .done .stop)) .stop) (.br 4 true (.br 0 true (.q 5 (.br 6 false .done .stop)) .stop) .stop))))) Try.mixed rfl (by kernel_rfl) ?_
    refine XT.q rfl rfl (Q.ld rfl rfl) ?_
    refine XT.q rfl rfl (Q.move rfl) ?_
    refine XT.q rfl rfl (Q.move rfl) ?_
    refine XT.qs rfl rfl (Q.ld rfl rfl) ⟨inferInstance, ?_⟩ ?_
    · skip
      refine XT.call rfl rfl Try.call87 rfl rfl rfl (second_spec p vb vg vs vc1 vn b.gens (startsP b fs) pk hg ks (stateP b (powers l) fs false (m)) kc1 kn1 (hst m (by omega)) (by omega) ((m : Nat) : Int) (by omega) (by omega) ((powers l).getD m default) (hpw.p m (by omega)).1 (hpw.p m (by omega)).2 false) (fun v22 s22 R22 => ?_) XT.stop
      obtain ⟨vc2, kc2, kn2, rfl, rfl, C2, N2⟩ := R22
      dsimp only [List.cons_append, List.nil_append]
      refine ⟨inferInstance, ?_⟩
      have es : (secondP b.gens (startsP b fs) ((m : Nat) : Int) ((powers l).getD m default) false (stateP b (powers l) fs false (m))).2 = (stateP b (powers l) fs false (m + 1)) := rfl
      rw [es] at C2 N2 ⊢
      have el : (secondP b.gens (startsP b fs) ((m : Nat) : Int) ((powers l).getD m default) false (stateP b (powers l) fs false (m))).1 = lackAt b.gens (startsP b fs) false (powers l) (begun b) m := rfl
      rw [el]
      refine XT.q rfl rfl (Q.add rfl rfl ⟨by omega, by omega⟩) ?_
      refine XT.st rfl rfl rfl rfl rfl ⟨inferInstance, ?_⟩ XT.stop
      refine XT.done ?_
      refine XK.inBlock ?_
      exact XK.leave (j := none) [blk p [vb, vg, vs, vc2, vn, .int .i64 (stateP b (powers l) fs false (m + 1)).served] 153, kc2, kn2, blk b8 [.int .i64 (lackTo b (powers l) fs m + lackAt b.gens (startsP b fs) false (powers l) (begun b) m)] 3] trivial ⟨(m + 1, vc2, kc2, kn2), ⟨rfl, C2, N2⟩, rfl⟩
    · skip
      refine XT.call rfl rfl Try.call87 rfl rfl rfl (second_spec p vb vg vs vc1 vn b.gens (startsP b fs) pk hg ks (stateP b (powers l) fs false (m)) kc1 kn1 (hst m (by omega)) (by omega) ((m : Nat) : Int) (by omega) (by omega) ((powers l).getD m default) (hpw.p m (by omega)).1 (hpw.p m (by omega)).2 false) (fun v22 s22 R22 => ?_) XT.stop
      obtain ⟨vc2, kc2, kn2, rfl, rfl, C2, N2⟩ := R22
      dsimp only [List.cons_append, List.nil_append]
      refine ⟨inferInstance, ?_⟩
      have es : (secondP b.gens (startsP b fs) ((m : Nat) : Int) ((powers l).getD m default) false (stateP b (powers l) fs false (m))).2 = (stateP b (powers l) fs false (m + 1)) := rfl
      rw [es] at C2 N2 ⊢
      have el : (secondP b.gens (startsP b fs) ((m : Nat) : Int) ((powers l).getD m default) false (stateP b (powers l) fs false (m))).1 = lackAt b.gens (startsP b fs) false (powers l) (begun b) m := rfl
      rw [el]
      refine XT.qs rfl rfl (Q.ld rfl rfl) ⟨inferInstance, ?_⟩ XT.stop
      refine XT.q rfl rfl (Q.add rfl rfl ⟨by omega, by omega⟩) ?_
      refine XT.st rfl rfl rfl rfl rfl ⟨inferInstance, ?_⟩ XT.stop
      refine XT.done ?_
      refine XK.inBlock ?_
      exact XK.leave (j := none) [blk p [vb, vg, vs, vc2, vn, .int .i64 (stateP b (powers l) fs false (m + 1)).served] 153, kc2, kn2, blk b8 [.int .i64 (lackTo b (powers l) fs m + lackAt b.gens (startsP b fs) false (powers l) (begun b) m)] 3] trivial ⟨(m + 1, vc2, kc2, kn2), ⟨rfl, C2, N2⟩, rfl⟩
  · rintro ⟨m, vc1, kc1, kn1⟩ ⟨hmi, C1, N1⟩
    dsimp only [List.cons_append, List.nil_append]
    rw [secItems_len] at hmi
    subst hmi
    refine XK.inBlock ?_
    refine XK.seq ?_
    refine XK.region rfl ?_
    refine XO.q (Q.ld rfl rfl) ?_
    refine XO.q (Q.assign rfl) ?_
    refine XO.done ?_
    refine XK.rt [] Try.func58 Try.results58 (.t rfl .n) ?_
    exact ⟨rfl, rfl⟩
theorem Run_spec (b : BBank) (vb vg : Value) (hb hg : PHeap) [ib : Arr vb encBat 4 hb b.bats] [ig : Arr vg encGen 5 hg b.gens] (l : List BSpan) (vl : Value) (hl : PHeap) [il : Arr vl encSpan 2 hl l] (fs : List Int) (vf : Value) (hf : PHeap) [jf : Arr vf encI 1 hf fs] : Spec Try.prog 30 #[.agg #[vb, vg], vl, vf] [] [hb, hg, hl, hf] (fun v hs => ∃ ve vn ke kn, v = .tuple #[resV (if readyP b l fs = 0 then runP b (powers l) fs else ⟨0, [], [], 0⟩) ve vn, .int .i64 (readyP b l fs)] ∧ hs = [ke, kn] ∧ OArr ve encI 1 3 ke (if readyP b l fs = 0 then runP b (powers l) fs else ⟨0, [], [], 0⟩).energy ∧ OArr vn encI 1 3 kn (if readyP b l fs = 0 then runP b (powers l) fs else ⟨0, [], [], 0⟩).burnt) := by
  refine Spec.intro (fn := Try.f30) (N := 21) Try.func30 rfl Try.ntmps30 rfl fun B => ?_
  refine XK.seq ?_
  refine XK.region rfl ?_
  refine XO.box rfl fun b3 => ?_
  refine XO.alloc fun b6 => ?_
  refine XO.q (Q.assign rfl) ?_
  refine XO.done ?_
  refine XK.seq ?_
  refine XK.seq ?_
  refine XK.region rfl ?_
  refine XO.q (Q.ldA [_, _] rfl rfl rfl) ?_
  refine XO.q (Q.move rfl) ?_
  refine XO.q (Q.move rfl) ?_
  refine XO.call Try.call63 rfl rfl rfl (ready_spec b vb vg hb hg l vl hl fs vf hf) fun v12 s12 R12 => ?_
  obtain ⟨rfl, rfl⟩ := R12
  dsimp only [List.cons_append, List.nil_append]
  refine XO.q (Q.assign rfl) ?_
  refine XO.done ?_
  refine XK.seq ?_
  refine XK.region rfl ?_
  refine XO.q (Q.move rfl) ?_
  refine XO.q (Q.neq rfl rfl) ?_
  refine XO.done ?_
  refine XK.if rfl (fun c0 => ?_) (fun c0 => ?_)
  · have _t0 := True.intro
    refine XK.seq ?_
    refine XK.region rfl ?_
    refine XO.q (Q.build [_, _, _, _] (.n _)) ?_
    refine XO.q (Q.move rfl) ?_
    refine XO.st rfl rfl rfl ?_
    refine XO.q (Q.assign rfl) ?_
    refine XO.done ?_
    refine XK.rt [emp, emp] Try.func30 Try.results30 (.cell [_, _, _, _] rfl rfl rfl (.t rfl .n)) ?_
    rw [if_neg c0]
    exact ⟨.slice none 0 0, .slice none 0 0, emp, emp, rfl, rfl, OArr.nil (fun _ => rfl), OArr.nil (fun _ => rfl)⟩
  · have _t0 := True.intro
    refine XK.skip ?_
    refine XK.seq ?_
    refine XK.region rfl ?_
    refine XO.q (Q.ldA [_, _] rfl rfl rfl) ?_
    refine XO.q (Q.move rfl) ?_
    refine XO.q (Q.move rfl) ?_
    have rk := readyP_iff.1 (Decidable.of_not_not c0)
    refine XO.call Try.call64 rfl rfl rfl (run_nil b vb vg hb hg l vl hl fs vf hf rk.ob rk.ol rk.of) fun v20 s20 R20 => ?_
    obtain ⟨ve, vn, ke, kn, rfl, rfl, OE, OB⟩ := R20
    dsimp only [List.cons_append, List.nil_append]
    refine XO.st rfl rfl rfl ?_
    refine XO.q (Q.assign rfl) ?_
    refine XO.done ?_
    refine XK.rt [ke, kn] Try.func30 Try.results30 (.cell [_, _, _, _] rfl rfl rfl (.t rfl .n)) ?_
    have e0 := Decidable.of_not_not c0
    rw [if_pos e0, e0]
    exact ⟨ve, vn, ke, kn, rfl, rfl, OE, OB⟩
theorem Trace_spec (b : BBank) (vb vg : Value) (hb hg : PHeap) [ib : Arr vb encBat 4 hb b.bats] [ig : Arr vg encGen 5 hg b.gens] (l : List BSpan) (vl : Value) (hl : PHeap) [il : Arr vl encSpan 2 hl l] (fs : List Int) (vf : Value) (hf : PHeap) [jf : Arr vf encI 1 hf fs] : Spec Try.prog 36 #[.agg #[vb, vg], vl, vf] [] [hb, hg, hl, hf] (fun v hs => ∃ vo ho us K, v = .tuple #[vo, .int .i64 (readyP b l fs)] ∧ hs = [ho, K] ∧ OArr vo encV 1 39 ho us ∧ RowsK us K (if readyP b l fs = 0 then traceP b (powers l) fs else [])) := by
  refine Spec.intro (fn := Try.f36) (N := 23) Try.func36 rfl Try.ntmps36 rfl fun B => ?_
  refine XK.seq ?_
  refine XK.region rfl ?_
  refine XO.box rfl fun b3 => ?_
  refine XO.q (Q.assign rfl) ?_
  refine XO.q (Q.assign rfl) ?_
  refine XO.done ?_
  refine XK.seq ?_
  refine XK.seq ?_
  refine XK.region rfl ?_
  refine XO.q (Q.ldA [_, _] rfl rfl rfl) ?_
  refine XO.q (Q.move rfl) ?_
  refine XO.q (Q.move rfl) ?_
  refine XO.call Try.call63 rfl rfl rfl (ready_spec b vb vg hb hg l vl hl fs vf hf) fun v13 s13 R13 => ?_
  obtain ⟨rfl, rfl⟩ := R13
  dsimp only [List.cons_append, List.nil_append]
  refine XO.q (Q.assign rfl) ?_
  refine XO.done ?_
  refine XK.seq ?_
  refine XK.region rfl ?_
  refine XO.q (Q.move rfl) ?_
  refine XO.q (Q.neq rfl rfl) ?_
  refine XO.done ?_
  refine XK.if rfl (fun c0 => ?_) (fun c0 => ?_)
  · have _t0 := True.intro
    refine XK.seq ?_
    refine XK.region rfl ?_
    refine XO.q (Q.move rfl) ?_
    refine XO.q (Q.assign rfl) ?_
    refine XO.q (Q.assign rfl) ?_
    refine XO.done ?_
    refine XK.rt [emp, emp] Try.func36 Try.results36 (.t rfl (.t rfl .n)) ?_
    rw [if_neg c0]
    exact ⟨.slice none 0 0, emp, [], emp, rfl, rfl, OArr.nil (fun _ => rfl), RowsK.nil⟩
  · have _t0 := True.intro
    refine XK.skip ?_
    refine XK.seq ?_
    refine XK.region rfl ?_
    refine XO.alloc fun b9 => ?_
    refine XO.done ?_
    refine XK.seq ?_
    refine XK.region rfl ?_
    refine XO.q (Q.ldA [_, _] rfl rfl rfl) ?_
    refine XO.q (Q.move rfl) ?_
    refine XO.q (Q.move rfl) ?_
    refine XO.q (Q.func (fun _ he => rfl) (fun _ he => evs_rel he rfl)) ?_
    have rk := readyP_iff.1 (Decidable.of_not_not c0)
    refine XO.call Try.call64 rfl rfl rfl (run_trace b vb vg hb hg l vl hl fs vf hf rk.ob rk.ol rk.of b9) fun v21 s21 R21 => ?_
    obtain ⟨ve, vn, ke, kn, vo, ho, us, K, rfl, rfl, OE, OB, OO, RR⟩ := R21
    dsimp only [List.cons_append, List.nil_append]
    refine XO.done ?_
    refine XK.seq ?_
    refine XK.region rfl ?_
    refine XO.q (Q.ld rfl rfl) ?_
    refine XO.q (Q.assign rfl) ?_
    refine XO.q (Q.assign rfl) ?_
    refine XO.done ?_
    refine XK.rt [ho, K] Try.func36 Try.results36 (.t rfl (.t rfl .n)) ?_
    have e0 := Decidable.of_not_not c0
    rw [if_pos e0, e0]
    exact ⟨vo, ho, us, K, rfl, rfl, OO, RR⟩
theorem Lack_spec (b : BBank) (vb vg : Value) (hb hg : PHeap) [ib : Arr vb encBat 4 hb b.bats] [ig : Arr vg encGen 5 hg b.gens] (l : List BSpan) (vl : Value) (hl : PHeap) [il : Arr vl encSpan 2 hl l] (fs : List Int) (vf : Value) (hf : PHeap) [jf : Arr vf encI 1 hf fs] : Spec Try.prog 32 #[.agg #[vb, vg], vl, vf] [] [hb, hg, hl, hf] (fun v hs => v = .tuple #[.int .i64 (if readyP b l fs = 0 then lackP b (powers l) fs else 0), .int .i64 (readyP b l fs)] ∧ hs = []) := by
  refine Spec.intro (fn := Try.f32) (N := 20) Try.func32 rfl Try.ntmps32 rfl fun B => ?_
  refine XK.seq ?_
  refine XK.region rfl ?_
  refine XO.box rfl fun b3 => ?_
  refine XO.q (Q.assign rfl) ?_
  refine XO.q (Q.assign rfl) ?_
  refine XO.done ?_
  refine XK.seq ?_
  refine XK.seq ?_
  refine XK.region rfl ?_
  refine XO.q (Q.ldA [_, _] rfl rfl rfl) ?_
  refine XO.q (Q.move rfl) ?_
  refine XO.q (Q.move rfl) ?_
  refine XO.call Try.call63 rfl rfl rfl (ready_spec b vb vg hb hg l vl hl fs vf hf) fun v12 s12 R12 => ?_
  obtain ⟨rfl, rfl⟩ := R12
  dsimp only [List.cons_append, List.nil_append]
  refine XO.q (Q.assign rfl) ?_
  refine XO.done ?_
  refine XK.seq ?_
  refine XK.region rfl ?_
  refine XO.q (Q.move rfl) ?_
  refine XO.q (Q.neq rfl rfl) ?_
  refine XO.done ?_
  refine XK.if rfl (fun c0 => ?_) (fun c0 => ?_)
  · have _t0 := True.intro
    refine XK.seq ?_
    refine XK.region rfl ?_
    refine XO.q (Q.move rfl) ?_
    refine XO.q (Q.assign rfl) ?_
    refine XO.q (Q.assign rfl) ?_
    refine XO.done ?_
    refine XK.rt [] Try.func32 Try.results32 (.t rfl (.t rfl .n)) ?_
    exact ⟨by rw [if_neg c0], rfl⟩
  · have _t0 := True.intro
    refine XK.skip ?_
    refine XK.seq ?_
    refine XK.region rfl ?_
    refine XO.q (Q.ldA [_, _] rfl rfl rfl) ?_
    refine XO.q (Q.move rfl) ?_
    refine XO.q (Q.move rfl) ?_
    have rk := readyP_iff.1 (Decidable.of_not_not c0)
    refine XO.call Try.call58 rfl rfl rfl (lack_spec b vb vg hb hg l vl hl fs vf hf rk.ob rk.ol rk.of) fun v19 s19 R19 => ?_
    obtain ⟨rfl, rfl⟩ := R19
    dsimp only [List.cons_append, List.nil_append]
    refine XO.q (Q.assign rfl) ?_
    refine XO.q (Q.assign rfl) ?_
    refine XO.done ?_
    refine XK.rt [] Try.func32 Try.results32 (.t rfl (.t rfl .n)) ?_
    have e0 := Decidable.of_not_not c0
    exact ⟨by rw [if_pos e0, e0], rfl⟩
theorem search_spec (b : BBank) (vb vg : Value) (hb hg : PHeap) [ib : Arr vb encBat 4 hb b.bats] [ig : Arr vg encGen 5 hg b.gens] (l : List BSpan) (vl : Value) (hl : PHeap) [il : Arr vl encSpan 2 hl l] (most : Int) : Spec Try.prog 52 #[.agg #[vb, vg], vl, .int .i64 most] [] [hb, hg, hl] (fun v hs => v = .int .i64 (searchP b l most) ∧ hs = []) := by
  have lg := ig.le
  refine Spec.intro (fn := Try.f52) (N := 44) Try.func52 rfl Try.ntmps52 rfl fun B => ?_
  refine XK.seq ?_
  refine XK.region rfl ?_
  refine XO.box rfl fun b3 => ?_
  refine XO.q (Q.assign rfl) ?_
  refine XO.done ?_
  refine XK.seq ?_
  refine XK.seq ?_
  refine XK.region rfl ?_
  refine XO.q (Q.ldA [_, _] rfl rfl rfl) ?_
  refine XO.call Try.call38 rfl rfl rfl (Check_spec b vb vg hb hg) fun v13 s13 R13 => ?_
  obtain ⟨rfl, rfl⟩ := R13
  dsimp only [List.cons_append, List.nil_append]
  refine XO.q (Q.assign rfl) ?_
  refine XO.done ?_
  refine XK.seq ?_
  refine XK.region rfl ?_
  refine XO.q (Q.move rfl) ?_
  refine XO.q (Q.neq rfl rfl) ?_
  refine XO.done ?_
  refine XK.if rfl (fun c0 => ?_) (fun c0 => ?_)
  · have _t0 := True.intro
    refine XK.seq ?_
    refine XK.region rfl ?_
    refine XO.q (Q.move rfl) ?_
    refine XO.q (Q.assign rfl) ?_
    refine XO.done ?_
    refine XK.rt [] Try.func52 Try.results52 (.t rfl .n) ?_
    exact ⟨by rw [searchP, if_pos c0], rfl⟩
  · have _t0 := True.intro
    have bk := bcheck_iff.1 (Decidable.of_not_not c0)
    refine XK.skip ?_
    refine XK.seq ?_
    refine XK.region rfl ?_
    refine XO.q (Q.move rfl) ?_
    refine XO.call Try.call79 rfl rfl rfl (loaded_spec l vl hl) fun v19 s19 R19 => ?_
    obtain ⟨rfl, rfl⟩ := R19
    dsimp only [List.cons_append, List.nil_append]
    refine XO.q (Q.move rfl) ?_
    refine XO.q (Q.extract rfl rfl) ?_
    refine XO.q (Q.extract rfl rfl) ?_
    refine XO.q (Q.assign rfl) ?_
    refine XO.q (Q.assign rfl) ?_
    refine XO.done ?_
    refine XK.seq ?_
    refine XK.block ?_
    refine XK.seq ?_
    refine XK.region rfl ?_
    refine XO.q (Q.move rfl) ?_
    refine XO.q (Q.neq rfl rfl) ?_
    refine XO.q (Q.assign rfl) ?_
    refine XO.done ?_
    refine XK.if rfl (fun c1 => ?_) (fun c1 => ?_)
    · have _t1 := True.intro
      refine XK.seq ?_
      refine XK.region rfl ?_
      refine XO.q (Q.move rfl) ?_
      refine XO.q (Q.assign rfl) ?_
      refine XO.done ?_
      refine XK.rt [] Try.func52 Try.results52 (.t rfl .n) ?_
      exact ⟨by rw [searchP, if_neg c0, if_pos c1], rfl⟩
    · have _t1 := True.intro
      have lk := loadedP_iff.1 (Decidable.of_not_not c1)
      have lo := loaded_bound lk
      have cb := fun i hi => casesTo_bound bk lo.1 lo.2 i hi
      refine XK.seq ?_
      refine XK.region rfl ?_
      refine XO.q (Q.move rfl) ?_
      refine XO.q (Q.lss rfl rfl) ?_
      refine XO.q (Q.assign rfl) ?_
      refine XO.done ?_
      refine XK.if rfl (fun c2 => ?_) (fun c2 => ?_)
      · have _t2 := True.intro
        refine XK.seq ?_
        refine XK.region rfl ?_
        refine XO.q (Q.assign rfl) ?_
        refine XO.done ?_
        refine XK.rt [] Try.func52 Try.results52 (.t rfl .n) ?_
        exact ⟨by rw [searchP, if_neg c0, if_neg c1, if_pos c2], rfl⟩
      · have _t2 := True.intro
        refine XK.skip ?_
        refine XK.inBlock ?_
        refine XK.seq ?_
        refine XK.seq ?_
        refine XK.region rfl ?_
        refine XO.q (Q.fieldAddr rfl) ?_
        refine XO.q (Q.ld rfl rfl) ?_
        refine XO.len rfl fun l31 => ?_
        refine XO.q (Q.move rfl) ?_
        refine XO.done ?_
        refine XK.block ?_
        refine XK.while (X := Nat) [8, 11, 32, 33, 34, 35, 36, 37, 38, 39, 40, 41] (fun i => [(8, some (.int .i64 (casesTo b (loadedP l).1 i))), (32, some (.int .i64 (i : Nat)))]) (fun i => []) (fun i => i ≤ b.gens.length) (fun i => b.gens.length - i) (0) [] rfl (by omega) (.c rfl (.c rfl (.base 0 rfl rfl))) ?_
        rintro i hi ih0
        dsimp only [List.cons_append, List.nil_append] at ih0 ⊢
        refine XK.seq ?_
        refine XK.region rfl ?_
        refine XO.q (Q.lss rfl rfl) ?_
        refine XO.done ?_
        refine XK.seq ?_
        refine XK.if rfl (fun c3 => ?_) (fun c3 => ?_)
        · have _t3 := True.intro
          have ci := cb i (by omega)
          have gk := bk.gen _ (getD_memB (show i < b.gens.length by omega))
          have g0 := gk.t0
          have g1 := gk.t1
          have mu := mulLe (a := casesTo b (loadedP l).1 i) (b := (b.gens.getD i default).tries + 1) (m := 933120000) (n := 6) ci.1 ci.2 (by omega) (by omega)
          refine XK.skip ?_
          refine XK.seq ?_
          refine XK.block ?_
          refine XK.seq ?_
          refine XK.region rfl ?_
          refine XO.ix rfl rfl (by omega) (by omega) fun i34 => ?_
          refine XO.q (Q.ldEA [_, _, _, _, _] rfl (by first | assumption | omega) rfl rfl) ?_
          refine XO.alloc fun b11 => ?_
          refine XO.st rfl rfl rfl ?_
          refine XO.done ?_
          refine XK.region rfl ?_
          refine XO.q (Q.move rfl) ?_
          refine XO.q (Q.fieldAddr rfl) ?_
          refine XO.q (Q.ld rfl rfl) ?_
          refine XO.q (Q.add rfl rfl ⟨by omega, by omega⟩) ?_
          refine XO.q (Q.mul rfl rfl ⟨by omega, by omega⟩) ?_
          refine XO.q (Q.assign rfl) ?_
          refine XO.done ?_
          refine XK.inBlock ?_
          refine XK.region rfl ?_
          refine XO.q (Q.add rfl rfl ⟨by omega, by omega⟩) ?_
          refine XO.q (Q.move rfl) ?_
          refine XO.done ?_
          exact ih0 (i + 1) _ _ (by omega) (by first | omega | (dsimp only; omega)) (.c rfl (.c rfl (.base 26 rfl rfl))) inferInstance
        · have _t3 := True.intro
          refine XK.exit rfl ?_
          refine XK.seq ?_
          refine XK.seq ?_
          refine XK.region rfl ?_
          refine XO.q (Q.move rfl) ?_
          refine XO.q (Q.gtr rfl rfl) ?_
          refine XO.done ?_
          refine XK.if rfl (fun c4 => ?_) (fun c4 => ?_)
          · have _t4 := True.intro
            refine XK.seq ?_
            refine XK.region rfl ?_
            refine XO.q (Q.assign rfl) ?_
            refine XO.done ?_
            refine XK.rt [] Try.func52 Try.results52 (.t rfl .n) ?_
            have hil : i = b.gens.length := by omega
            subst hil
            exact ⟨by rw [searchP, if_neg c0, if_neg c1, if_neg c2, if_pos c4], rfl⟩
          · have _t4 := True.intro
            refine XK.skip ?_
            refine XK.seq ?_
            refine XK.region rfl ?_
            refine XO.q (Q.assign rfl) ?_
            refine XO.done ?_
            refine XK.rt [] Try.func52 Try.results52 (.t rfl .n) ?_
            have hil : i = b.gens.length := by omega
            subst hil
            exact ⟨by rw [searchP, if_neg c0, if_neg c1, if_neg c2, if_neg c4], rfl⟩
end Go.X

set_option linter.unusedSimpArgs false
set_option linter.unusedVariables false
set_option maxRecDepth 20000
namespace Go.X
open Go.Proofs
/-- What lists yields. -/
def ListY (items : List (List Int)) (i : Nat) (K : PHeap) (vs : List Value) : Prop := ∃ sl, vs = [sl] ∧ Arr sl encI 1 K (items.getD i default)
theorem lists1 (b : BBank) (vb vg : Value) (hb hg : PHeap) [ib : Arr vb encBat 4 hb b.bats] [ig : Arr vg encGen 5 hg b.gens] (ok : BOk b) (most : Int) (hm0 : 0 ≤ most) (hm1 : most ≤ 9223372036854775807) (b1 b2 : Nat) (f : Value) (Hr : List PHeap) (Qc : Nat → PHeap → PHeap → Prop) (Xc : PHeap → PHeap → Prop)
    (mono : ∀ i K K' q, leH K K' → Qc i K q → Qc i K' q)
    (round : ∀ i, i < (listsP b most).length → ∀ K vs q, ListY (listsP b most) i K vs → Qc i K q → VSpec Try.prog f vs [q] (K :: Hr) (fun v hs => ∃ b q', v = .bool b ∧ hs = [q'] ∧ (b = true → Qc (i + 1) K q') ∧ (b = false → Xc K q')))
    (q : PHeap) (hQ : Qc 0 emp q) : Spec Try.prog 84 #[f, ptr b1 0, ptr b2 0] [q, blk b1 [vb, vg] 25, blk b2 [.int .i64 most] 3] (hg :: Hr) (fun _ hs => ∃ q' K, hs = [q', K] ∧ (Qc (listsP b most).length K q' ∨ Xc K q')) := by
  have lg := ig.le
  have n6 := ok.ng
  have hne := listsP_ne ok hm0
  have hfirst := lists_first ok hm0
  have htl : (triesP b).length = b.gens.length := by simp [triesP]
  refine Spec.intro (fn := Try.f84) (N := 56) Try.func84 rfl Try.ntmps84 rfl fun B => ?_
  refine XK.scope ?_
  refine XK.seq ?_
  refine XK.region rfl ?_
  refine XO.q (Q.fieldAddr rfl) ?_
  refine XO.q (Q.ld rfl rfl) ?_
  refine XO.len rfl fun l9 => ?_
  refine XO.make encI (0) rfl rfl rfl (by omega) (by omega) (fun _ => rfl) rfl rfl rfl (by dsimp only [encI]; infer_instance) fun v10 h10 O10 => ?_
  refine XO.q (Q.assign rfl) ?_
  refine XO.done ?_
  refine XK.seq ?_
  refine XK.region rfl ?_
  refine XO.q (Q.ld rfl rfl) ?_
  refine XO.q (Q.assign rfl) ?_
  refine XO.done ?_
  refine XK.seq ?_
  refine XK.label ?_
  refine XK.block ?_
  refine XK.while (X := Nat × PHeap × PHeap × PHeap) [5, 6, 12, 13, 14, 15, 16, 17, 18, 19, 20, 21, 22, 23, 24, 25, 26, 27, 28, 29, 30, 31, 32, 33, 34, 35, 36, 37, 38, 39, 40, 41, 42, 43, 44, 45, 46, 47, 48, 49, 50, 51, 52, 53, 54, 55] (fun ⟨k, kn, K, q1⟩ => [(5, some (.int .i64 (leftK most (listsP b most) k)))]) (fun ⟨k, kn, K, q1⟩ => [q1, kn, K, blk b1 [vb, vg] 25, blk b2 [.int .i64 most] 3]) (fun ⟨k, kn, K, q1⟩ => k < (listsP b most).length ∧ OArr v10 encI 1 3 kn ((listsP b most).getD k default) ∧ Qc k K q1) (fun ⟨k, kn, K, q1⟩ => (listsP b most).length - k) (0, h10, emp, q) [q, h10, emp, blk b1 [vb, vg] 25, blk b2 [.int .i64 most] 3] rfl ⟨hne, by rw [hfirst]; exact O10, hQ⟩ (.c rfl (.base 0 rfl rfl)) ?_
  rintro ⟨k, kn, K, q1⟩ ⟨hk, ON, hq⟩ ih0
  dsimp only [List.cons_append, List.nil_append] at ih0 ⊢
  have fk := (lists_in ok hm0 hk).1
  have fs := (lists_in ok hm0 hk).2
  have fl := fk.n
  rw [leftK_eq ok hm0]
  refine XK.block ?_
  refine XK.seq ?_
  refine XK.seq ?_
  refine XK.region rfl ?_
  refine XO.q (Q.move rfl) ?_
  refine XO.q (Q.move rfl) ?_
  refine XO.call Try.call35 rfl rfl rfl (cloneI v10 kn ((listsP b most).getD k default) (by omega)) fun v14 s14 R14 => ?_
  obtain ⟨k14, rfl, O14⟩ := R14
  dsimp only [List.cons_append, List.nil_append]
  refine XO.cat K k14 fun leK le14 => ?_
  have A14 : Arr v14 encI 1 (cat K k14) ((listsP b most).getD k default) := Arr.le_heap (OArr.arr (s := O14)) le14
  clear O14
  refine XO.vcall rfl rfl (round k hk (cat K k14) _ q1 ⟨v14, rfl, A14⟩ (mono k K (cat K k14) q1 leK hq)) fun v15 s15 R15 => ?_
  obtain ⟨bb, q2, rfl, rfl, hT, hF⟩ := R15
  dsimp only [List.cons_append, List.nil_append]
  refine XO.q (Q.not rfl) ?_
  refine XO.done ?_
  refine XK.if rfl (fun c0 => ?_) (fun c0 => ?_)
  · have _t0 := True.intro
    refine XK.rt [q2, cat K k14] Try.func84 Try.results84 (.n) ?_
    exact ⟨q2, cat K k14, rfl, .inr (hF (by cases bb <;> simp_all))⟩
  · have _t0 := True.intro
    refine XK.skip ?_
    refine XK.seq ?_
    refine XK.seq ?_
    refine XK.region rfl ?_
    refine XO.q (Q.move rfl) ?_
    refine XO.len rfl fun l18 => ?_
    refine XO.q (Q.sub rfl rfl ⟨by omega, by omega⟩) ?_
    refine XO.q (Q.assign rfl) ?_
    refine XO.done ?_
    refine XK.block ?_
    refine XK.while (X := Nat × PHeap) [5, 6, 20, 21, 22, 23, 24, 25, 26, 27, 28, 29, 30, 31, 32, 33, 34, 35, 36, 37, 38, 39, 40, 41, 42, 43, 44, 45, 46, 47, 48, 49, 50, 51, 52, 53, 54, 55] (fun ⟨j, km⟩ => [(5, some (.int .i64 (most - sumL (((listsP b most).getD k default).take j)))), (6, some (.int .i64 ((j : Int) - 1)))]) (fun ⟨j, km⟩ => [km]) (fun ⟨j, km⟩ => j ≤ ((listsP b most).getD k default).length ∧ stepL ((triesP b).drop j) (most - sumL (((listsP b most).getD k default).take j)) (((listsP b most).getD k default).drop j) = none ∧ OArr v10 encI 1 3 km (((listsP b most).getD k default).take (j) ++ List.replicate (((listsP b most).getD k default).length - (j)) 0)) (fun ⟨j, km⟩ => j) (((listsP b most).getD k default).length, kn) [kn] rfl ⟨Nat.le_refl _, step_start (by omega) _, by rw [List.take_length, Nat.sub_self, List.replicate_zero, List.append_nil]; exact ON⟩ (.c rfl (.c rfl (.base 0 rfl rfl))) ?_
    rintro ⟨j, km⟩ ⟨hj, hn, OM⟩ ih1
    dsimp only [List.cons_append, List.nil_append] at ih1 ⊢
    refine XK.seq ?_
    refine XK.seq ?_
    refine XK.region rfl ?_
    refine XO.q (Q.move rfl) ?_
    refine XO.q (Q.geq rfl rfl) ?_
    refine XO.done ?_
    refine XK.if rfl (fun c1 => ?_) (fun c1 => ?_)
    · have _t1 := True.intro
      obtain ⟨i, rfl⟩ : ∃ i, j = i + 1 := ⟨j - 1, by omega⟩
      rw [show ((i + 1 : Nat) : Int) - 1 = (i : Int) by omega]
      have na := now_at (x := ((listsP b most).getD k default)) (i := i) (by omega)
      have nl := now_len (x := ((listsP b most).getD k default)) (i := i + 1) (by omega)
      have xi := fk.f i (by omega)
      have sp := sumL_nonneg (fun i hi => (fk.f i (by omega)).1) (i + 1) hj
      have sq := sumL_nonneg (fun i hi => (fk.f i (by omega)).1) i (by omega)
      have ss := sumL_take_succ (x := ((listsP b most).getD k default)) (i := i) (by omega)
      have tg := (ok.gen _ (getD_memB (show i < b.gens.length by omega))).t1
      refine XK.skip ?_
      refine XK.seq ?_
      refine XK.block ?_
      refine XK.seq ?_
      refine XK.seq ?_
      refine XK.drawn [0, 1, 2, 3, 4, 5, 6, 7, 8, 9, 10, 11, 12, 13, 14] [b1] [km] (.q 0 (.q 1 (.q 2 (.q 3 (.q 4 (.q 5 (.q 6 (.q 7 (.q 8 (.q 9 (.q 10 (.q 11 (.q 12 (.q 13 (.q 14 .done))))))))))))))) Try.mixed rfl (by kernel_rfl) ?_
      refine XT.q rfl rfl (Q.move rfl) ?_
      refine XT.q rfl rfl (Q.move rfl) ?_
      refine XT.ix rfl rfl rfl rfl (by omega) (by omega) fun i26 => ?_
      refine XT.q rfl rfl (Q.ldE rfl (by first | assumption | omega) rfl) ?_
      refine XT.q rfl rfl (Q.fieldAddr rfl) ?_
      refine XT.q rfl rfl (Q.ld rfl rfl) ?_
      refine XT.q rfl rfl (Q.move rfl) ?_
      refine XT.ix rfl rfl rfl rfl (by omega) (by omega) fun i31 => ?_
      refine XT.q rfl rfl (Q.fieldQ rfl (by first | assumption | omega)) ?_
      refine XT.q rfl rfl (Q.ldE rfl (by first | assumption | omega) rfl) ?_
      refine XT.q rfl rfl (Q.lss rfl rfl) ?_
      refine XT.q rfl rfl (Q.move rfl) ?_
      refine XT.q rfl rfl (Quiet.guardT rfl rfl fun g36 p36 => Q.move rfl) ?_
      refine XT.q rfl rfl (Quiet.guardT rfl rfl fun g37 p37 => Q.gtr (lzv g37 rfl) rfl) ?_
      refine XT.q rfl rfl (Q.and rfl (fun hp => lzv hp rfl)) ?_
      refine XT.done ?_
      refine XK.if rfl (fun c2 => ?_) (fun c2 => ?_)
      · have _t2 := True.intro
        obtain ⟨nk, ne, nf⟩ := next_found ok hm0 hk (by omega) hn (by rw [← na]; exact c2.1) (by have := c2.2; omega)
        refine XK.seq ?_
        refine XK.region rfl ?_
        refine XO.q (Q.move rfl) ?_
        refine XO.q (Q.move rfl) ?_
        refine XO.ix rfl rfl (by omega) (by omega) fun i41 => ?_
        refine XO.q (Q.ldE rfl (by first | assumption | omega) rfl) ?_
        refine XO.q (Q.add rfl rfl ⟨by omega, by omega⟩) ?_
        refine XO.ix rfl rfl (by omega) (by omega) fun i44 => ?_
        refine XO.stE _ rfl rfl rfl (by assumption) rfl rfl fun h7_6 O7_6 => ?_
        rw [na, now_set (by omega), ← ne] at O7_6
        refine XO.done ?_
        refine XK.seq ?_
        refine XK.region rfl ?_
        refine XO.q (Q.move rfl) ?_
        refine XO.q (Q.sub rfl rfl ⟨by omega, by omega⟩) ?_
        rw [nf]
        refine XO.q (Q.assign rfl) ?_
        refine XO.done ?_
        refine XK.exit rfl ?_
        exact ih0 (k + 1, h7_6, cat K k14, q2) _ _ ⟨nk, O7_6, hT (by cases bb <;> simp_all)⟩ (by first | omega | (dsimp only; omega)) (.c rfl (.base 122 rfl rfl)) inferInstance
      · have _t2 := True.intro
        obtain ⟨nn, nf⟩ := next_not ok hm0 hk (by omega) hn (fun hh => c2 ⟨by rw [na]; exact hh.1, by have := hh.2; omega⟩)
        refine XK.skip ?_
        refine XK.seq ?_
        refine XK.region rfl ?_
        refine XO.q (Q.move rfl) ?_
        refine XO.q (Q.move rfl) ?_
        refine XO.q (Q.move rfl) ?_
        refine XO.ix rfl rfl (by omega) (by omega) fun i50 => ?_
        refine XO.q (Q.ldE rfl (by first | assumption | omega) rfl) ?_
        refine XO.q (Q.add rfl rfl ⟨by omega, by omega⟩) ?_
        rw [na, nf]
        refine XO.q (Q.assign rfl) ?_
        refine XO.done ?_
        refine XK.region rfl ?_
        refine XO.q (Q.move rfl) ?_
        refine XO.q (Q.move rfl) ?_
        refine XO.ix rfl rfl (by omega) (by omega) fun i55 => ?_
        refine XO.stE _ rfl rfl rfl (by assumption) rfl rfl fun h10_3 O10_3 => ?_
        rw [now_zero (by omega)] at O10_3
        refine XO.done ?_
        refine XK.inBlock ?_
        refine XK.region rfl ?_
        refine XO.q (Q.move rfl) ?_
        refine XO.q (Q.sub rfl rfl ⟨by omega, by omega⟩) ?_
        refine XO.q (Q.assign rfl) ?_
        refine XO.done ?_
        exact ih1 (i, h10_3) _ _ ⟨by dsimp only; omega, nn, O10_3⟩ (by first | omega | (dsimp only; omega)) (.c rfl (.c rfl (.base 70 rfl rfl))) inferInstance
    · have _t1 := True.intro
      have hj0 : j = 0 := by omega
      subst hj0
      have hend := next_end ok hm0 hk hn
      refine XK.exit rfl ?_
      refine XK.rt [q2, cat K k14] Try.func84 Try.results84 (.n) ?_
      exact ⟨q2, cat K k14, rfl, .inl (by rw [← hend]; exact hT (by cases bb <;> simp_all))⟩
theorem lists_spec (b : BBank) (vb vg : Value) (hb hg : PHeap) [ib : Arr vb encBat 4 hb b.bats] [ig : Arr vg encGen 5 hg b.gens] (ok : BOk b) (most : Int) (hm0 : 0 ≤ most) (hm1 : most ≤ 9223372036854775807) : Spec Try.prog 57 #[.agg #[vb, vg], .int .i64 most] [] [] (fun v hs => ∃ k1 k2, hs = [k1, k2] ∧ ItK Try.prog v (listsP b most).length (ListY (listsP b most)) [k1, k2] [hg]) := by
  refine Spec.intro (fn := Try.f57) (N := 6) Try.func57 rfl Try.ntmps57 rfl fun B => ?_
  refine XK.seq ?_
  refine XK.region rfl ?_
  refine XO.box rfl fun b2 => ?_
  refine XO.box rfl fun b3 => ?_
  refine XO.q (Q.assign rfl) ?_
  refine XO.done ?_
  refine XK.seq ?_
  refine XK.region rfl ?_
  refine XO.q (Q.func (fun _ he => rfl) (fun _ he => evs_rel he rfl)) ?_
  refine XO.q (Q.assign rfl) ?_
  refine XO.done ?_
  refine XK.rt [blk b2 [vb, vg] 25, blk b3 [.int .i64 most] 3] Try.func57 Try.results57 (.t rfl .n) ?_
  exact ⟨_, _, rfl, fun f Hr Qc Xc mono round q hQ => VSpec.fn (fst := []) (cap := [ptr b2 0, ptr b3 0]) Try.call84 rfl (lists1 b vb vg hb hg ok most hm0 hm1 b2 b3 f Hr Qc Xc mono round q hQ)⟩
set_option maxHeartbeats 1000000 in
theorem worst_spec (b : BBank) (vb vg : Value) (hb hg : PHeap) [ib : Arr vb encBat 4 hb b.bats] [ig : Arr vg encGen 5 hg b.gens] (l : List BSpan) (vl : Value) (hl : PHeap) [il : Arr vl encSpan 2 hl l] (ok : BOk b) (lk : LOk l) (most : Int) (hm0 : 0 ≤ most) (hm1 : most ≤ 9223372036854775807) : Spec Try.prog 53 #[.agg #[vb, vg], vl, .int .i64 most] [] [hb, hg, hl]
    (fun v hs => ∃ vw ve vn K ke kn, v = .tuple #[vw, resV (worstP b (powers l) most).2 ve vn] ∧ hs = [K, ke, kn] ∧ One vw ∧ Arr vw encI 1 K (worstP b (powers l) most).1 ∧ OArr ve encI 1 3 ke (worstP b (powers l) most).2.energy ∧ OArr vn encI 1 3 kn (worstP b (powers l) most).2.burnt) := by
  have hfk := fun k hk => (lists_in ok hm0 (k := k) hk).1
  have hnil : OArr (.slice none 0 0) encI 1 3 emp ([] : List Int) := OArr.nil (fun _ => rfl)
  refine Spec.intro (fn := Try.f53) (N := 43) Try.func53 rfl Try.ntmps53 rfl fun B => ?_
  refine XK.seq ?_
  refine XK.region rfl ?_
  refine XO.box rfl fun b3 => ?_
  refine XO.box rfl fun b4 => ?_
  refine XO.q (Q.assign rfl) ?_
  refine XO.alloc fun b7 => ?_
  refine XO.done ?_
  refine XK.seq ?_
  refine XK.region rfl ?_
  refine XO.alloc fun b8 => ?_
  refine XO.done ?_
  refine XK.seq ?_
  refine XK.region rfl ?_
  refine XO.alloc fun b9 => ?_
  refine XO.done ?_
  refine XK.seq ?_
  refine XK.region rfl ?_
  refine XO.alloc fun b10 => ?_
  refine XO.st rfl rfl rfl ?_
  refine XO.done ?_
  refine XK.seq ?_
  refine XK.seq ?_
  refine XK.region rfl ?_
  refine XO.q (Q.ldA [_, _] rfl rfl rfl) ?_
  refine XO.q (Q.move rfl) ?_
  refine XO.call Try.call57 rfl rfl rfl (lists_spec b vb vg hb hg ok most hm0 hm1) fun v15 s15 R15 => ?_
  obtain ⟨k1, k2, rfl, hit⟩ := R15
  dsimp only [List.cons_append, List.nil_append]
  refine XO.done ?_
  refine XK.block ?_
  refine XK.rangeK (X := Nat × Value × Value × Value × PHeap × PHeap × (List Int × BRes)) (ps := [16]) (fun ⟨k, vw, ve, vn, ke, kn, w⟩ => [blk b8 [vw] 39, blk b9 [.int .i64 w.2.dark, ve, vn, .int .i64 w.2.served] 41, blk b10 [.bool (flagP k)] 4, ke, kn]) (fun i ⟨k, vw, ve, vn, ke, kn, w⟩ K0 => k = i ∧ w = (worstTo b (powers l) (listsP b most) (k)) ∧ One vw ∧ Arr vw encI 1 K0 w.1 ∧ OArr ve encI 1 3 ke w.2.energy ∧ OArr vn encI 1 3 kn w.2.burnt) (fun j0 ⟨k, vw, ve, vn, ke, kn, w⟩ K0 => False) (0, .slice none 0 0, .slice none 0 0, .slice none 0 0, emp, emp, ([], ⟨0, [], [], 0⟩)) [blk b8 [.slice none 0 0] 39, blk b9 [.int .i64 0, .slice none 0 0, .slice none 0 0, .int .i64 0] 41, blk b10 [.bool true] 4, emp, emp] rfl (hit) rfl (fun i x K K' hle hI => ⟨hI.1, hI.2.1, hI.2.2.1, Arr.le_heap hI.2.2.2.1 hle, hI.2.2.2.2⟩) (⟨rfl, rfl, inferInstance, OArr.arr (s := hnil), hnil, hnil⟩) rfl (fun i K vs hY => by obtain ⟨sl, rfl, _⟩ := hY; rfl) ?_ ?_ (fun _ _ _ hJ => hJ.elim)
  · rintro lq rec B' i ⟨k, vw, ve, vn, ke, kn, w⟩ K0 vs hi ⟨vx, rfl, ax⟩ ⟨hki, hw, ow, AW, OE, OB⟩
    dsimp only [List.cons_append, List.nil_append]
    subst hki
    have e1 := worstTo_succ b (powers l) (listsP b most) k
    rw [← hw] at e1
    refine XK.region rfl ?_
    refine XO.q (Q.assign rfl) ?_
    refine XO.done ?_
    refine XK.beginRound ?_
    refine XK.block ?_
    refine XK.seq ?_
    refine XK.region rfl ?_
    refine XO.q (Q.ldA [_, _] rfl rfl rfl) ?_
    refine XO.q (Q.ld rfl rfl) ?_
    refine XO.q (Q.move rfl) ?_
    refine XO.call Try.call64 rfl rfl rfl (run_nil b vb vg hb hg l vl hl ((listsP b most).getD k default) vx K0 ok lk (hfk k (by omega))) fun v20 s20 R20 => ?_
    obtain ⟨ve2, vn2, ke2, kn2, rfl, rfl, E2, N2⟩ := R20
    dsimp only [List.cons_append, List.nil_append]
    refine XO.alloc fun b12 => ?_
    refine XO.st rfl rfl rfl ?_
    refine XO.done ?_
    refine XK.seq ?_
    refine XK.region rfl ?_
    refine XO.q (Q.ld rfl rfl) ?_
    refine XO.q (Q.move rfl) ?_
    refine XO.q (Quiet.guardF rfl rfl fun g23 p23 => Q.fieldAddr rfl) ?_
    refine XO.q (Quiet.guardF rfl rfl fun g24 p24 => Q.ld (lzv g24 rfl) rfl) ?_
    refine XO.q (Quiet.guardF rfl rfl fun g25 p25 => Q.geq (lzv g25 rfl) rfl) ?_
    refine XO.q (Quiet.guardF rfl rfl fun g26 p26 => Q.move (lzv g26 rfl)) ?_
    refine XO.q (Quiet.guard2 rfl rfl fun g27a g27b => have p27a := bpF g27a; have p27b := bpT g27b; Q.fieldAddr rfl) ?_
    refine XO.q (Quiet.guard2 rfl rfl fun g28a g28b => have p28a := bpF g28a; have p28b := bpT g28b; Q.ld (lzv g28b (lzv g28a rfl)) rfl) ?_
    refine XO.q (Quiet.guard2 rfl rfl fun g29a g29b => have p29a := bpF g29a; have p29b := bpT g29b; Q.lss (lzv g29b (lzv g29a rfl)) rfl) ?_
    refine XO.q (Quiet.guard2 rfl rfl fun g30a g30b => have p30a := bpF g30a; have p30b := bpT g30b; Q.move (lzv g30b (lzv g30a rfl))) ?_
    refine XO.q (Quiet.guard3 rfl rfl fun g31a g31b g31c => have p31a := bpF g31a; have p31b := bpT g31b; have p31c := bpF g31c; Q.fieldAddr rfl) ?_
    refine XO.q (Quiet.guard3 rfl rfl fun g32a g32b g32c => have p32a := bpF g32a; have p32b := bpT g32b; have p32c := bpF g32c; Q.ld (lzv g32c (lzv g32b (lzv g32a rfl))) rfl) ?_
    refine XO.q (Quiet.guard3 rfl rfl fun g33a g33b g33c => have p33a := bpF g33a; have p33b := bpT g33b; have p33c := bpF g33c; Q.fieldAddr rfl) ?_
    refine XO.q (Quiet.guard3 rfl rfl fun g34a g34b g34c => have p34a := bpF g34a; have p34b := bpT g34b; have p34c := bpF g34c; Q.ld (lzv g34c (lzv g34b (lzv g34a rfl))) rfl) ?_
    refine XO.q (Quiet.guard3 rfl rfl fun g35a g35b g35c => have p35a := bpF g35a; have p35b := bpT g35b; have p35c := bpF g35c; Q.lss (lzv g35c (lzv g35b (lzv g35a rfl))) (lzv g35c (lzv g35b (lzv g35a rfl)))) ?_
    refine XO.q (Quiet.guard2 rfl rfl fun g36a g36b => have p36a := bpF g36a; have p36b := bpT g36b; Q.or (lzv g36b (lzv g36a rfl)) (fun hp => (lzv hp (lzv g36b (lzv g36a rfl))))) ?_
    refine XO.q (Quiet.guardF rfl rfl fun g37 p37 => Q.and (lzv g37 rfl) (fun hp => (lzv hp (lzv g37 rfl)))) ?_
    refine XO.q (Q.or rfl (fun hp => lzv hp rfl)) ?_
    refine XO.done ?_
    refine XK.if rfl (fun c0 => ?_) (fun c0 => ?_)
    · have _t0 := True.intro
      refine XK.drawn [0, 1] [b12] [] (.q 0 (.q 1 (.br 2 true (.br 3 false (.br 4 false .done .stop) .stop) .stop))) Try.mixed rfl (by kernel_rfl) ?_
      refine XT.q rfl rfl (Q.move rfl) ?_
      refine XT.q rfl rfl (Q.ldA [_, _, _, _] rfl rfl rfl) ?_
      refine XT.st rfl rfl rfl rfl rfl ⟨inferInstance, ?_⟩ XT.stop
      refine XT.st rfl rfl rfl rfl rfl ⟨inferInstance, ?_⟩ XT.stop
      refine XT.st rfl rfl rfl rfl rfl ⟨inferInstance, ?_⟩ XT.stop
      refine XT.done ?_
      refine XK.inBlock ?_
      have e2 : (worstTo b (powers l) (listsP b most) (k + 1)) = (((listsP b most).getD k default), (runP b (powers l) ((listsP b most).getD k default))) := by rw [e1, if_pos (better_iff.2 c0)]
      exact XK.leave (j := none) [blk b8 [vx] 39, blk b9 [.int .i64 (runP b (powers l) ((listsP b most).getD k default)).dark, ve2, vn2, .int .i64 (runP b (powers l) ((listsP b most).getD k default)).served] 41, blk b10 [.bool false] 4, ke2, kn2] trivial ⟨(k + 1, vx, ve2, vn2, ke2, kn2, (((listsP b most).getD k default), (runP b (powers l) ((listsP b most).getD k default)))), ⟨rfl, e2.symm, inferInstance, ax, E2, N2⟩, rfl⟩
    · have _t0 := True.intro
      refine XK.skip ?_
      refine XK.inBlock ?_
      have e2 : (worstTo b (powers l) (listsP b most) (k + 1)) = w := by rw [e1, if_neg (fun h => c0 (better_iff.1 h))]
      rw [show flagP k = false from Bool.eq_false_iff.2 (fun h => c0 (.inl h))]
      exact XK.leave (j := none) [blk b8 [vw] 39, blk b9 [.int .i64 w.2.dark, ve, vn, .int .i64 w.2.served] 41, blk b10 [.bool false] 4, ke, kn] trivial ⟨(k + 1, vw, ve, vn, ke, kn, w), ⟨rfl, e2.symm, ow, AW, OE, OB⟩, rfl⟩
  · rintro ⟨k, vw, ve, vn, ke, kn, w⟩ K0 ⟨hki, hw, ow, AW, OE, OB⟩
    dsimp only [List.cons_append, List.nil_append]
    subst hki
    refine XK.inBlock ?_
    refine XK.seq ?_
    refine XK.drawn [0, 1, 2] [b8, b9] [] (.q 0 (.q 1 (.q 2 (.br 3 false .done .stop)))) Try.mixed rfl (by kernel_rfl) ?_
    refine XT.q rfl rfl (Q.ld rfl rfl) ?_
    refine XT.q rfl rfl (Q.ldA [_, _, _, _] rfl rfl rfl) ?_
    refine XT.q rfl rfl (Q.assign rfl) ?_
    refine XT.st rfl rfl rfl rfl rfl ⟨inferInstance, ?_⟩ XT.stop
    refine XT.done ?_
    refine XK.rt [K0, ke, kn] Try.func53 Try.results53 (.t rfl (.cell [_, _, _, _] rfl rfl rfl (.n))) ?_
    subst hw
    exact ⟨vw, ve, vn, K0, ke, kn, rfl, rfl, ow, AW, OE, OB⟩
end Go.X

set_option linter.unusedSimpArgs false
set_option linter.unusedVariables false
set_option maxRecDepth 20000
namespace Go.X
open Go.Proofs
theorem Worst_spec (b : BBank) (vb vg : Value) (hb hg : PHeap) [ib : Arr vb encBat 4 hb b.bats] [ig : Arr vg encGen 5 hg b.gens] (l : List BSpan) (vl : Value) (hl : PHeap) [il : Arr vl encSpan 2 hl l] (most : Int) (hm1 : most ≤ 9223372036854775807) : Spec Try.prog 17 #[.agg #[vb, vg], vl, .int .i64 most] [] [hb, hg, hl]
    (fun v hs => ∃ vw ve vn K ke kn, v = .tuple #[vw, resV (if searchP b l most = 0 then worstP b (powers l) most else ([], ⟨0, [], [], 0⟩)).2 ve vn, .int .i64 (searchP b l most)] ∧ hs = [K, ke, kn] ∧ One vw ∧ Arr vw encI 1 K (if searchP b l most = 0 then worstP b (powers l) most else ([], ⟨0, [], [], 0⟩)).1 ∧ OArr ve encI 1 3 ke (if searchP b l most = 0 then worstP b (powers l) most else ([], ⟨0, [], [], 0⟩)).2.energy ∧ OArr vn encI 1 3 kn (if searchP b l most = 0 then worstP b (powers l) most else ([], ⟨0, [], [], 0⟩)).2.burnt) := by
  have hnil : OArr (.slice none 0 0) encI 1 3 emp ([] : List Int) := OArr.nil (fun _ => rfl)
  refine Spec.intro (fn := Try.f17) (N := 29) Try.func17 rfl Try.ntmps17 rfl fun B => ?_
  refine XK.seq ?_
  refine XK.region rfl ?_
  refine XO.box rfl fun b3 => ?_
  refine XO.q (Q.assign rfl) ?_
  refine XO.alloc fun b7 => ?_
  refine XO.q (Q.assign rfl) ?_
  refine XO.done ?_
  refine XK.seq ?_
  refine XK.seq ?_
  refine XK.region rfl ?_
  refine XO.q (Q.ldA [_, _] rfl rfl rfl) ?_
  refine XO.q (Q.move rfl) ?_
  refine XO.q (Q.move rfl) ?_
  refine XO.call Try.call52 rfl rfl rfl (search_spec b vb vg hb hg l vl hl most) fun v15 s15 R15 => ?_
  obtain ⟨rfl, rfl⟩ := R15
  dsimp only [List.cons_append, List.nil_append]
  refine XO.q (Q.assign rfl) ?_
  refine XO.done ?_
  refine XK.seq ?_
  refine XK.region rfl ?_
  refine XO.q (Q.move rfl) ?_
  refine XO.q (Q.neq rfl rfl) ?_
  refine XO.done ?_
  refine XK.if rfl (fun c0 => ?_) (fun c0 => ?_)
  · have _t0 := True.intro
    refine XK.seq ?_
    refine XK.region rfl ?_
    refine XO.q (Q.build [_, _, _, _] (.n _)) ?_
    refine XO.q (Q.move rfl) ?_
    refine XO.q (Q.assign rfl) ?_
    refine XO.st rfl rfl rfl ?_
    refine XO.q (Q.assign rfl) ?_
    refine XO.done ?_
    refine XK.rt [emp, emp, emp] Try.func17 Try.results17 (.t rfl (.cell [_, _, _, _] rfl rfl rfl (.t rfl .n))) ?_
    rw [if_neg c0]
    exact ⟨.slice none 0 0, .slice none 0 0, .slice none 0 0, emp, emp, emp, rfl, rfl, inferInstance, OArr.arr (s := hnil), hnil, hnil⟩
  · have _t0 := True.intro
    refine XK.skip ?_
    refine XK.seq ?_
    refine XK.region rfl ?_
    refine XO.q (Q.ldA [_, _] rfl rfl rfl) ?_
    refine XO.q (Q.move rfl) ?_
    refine XO.q (Q.move rfl) ?_
    have sk := searchP_iff.1 (Decidable.of_not_not c0)
    refine XO.call Try.call53 rfl rfl rfl (worst_spec b vb vg hb hg l vl hl sk.ob sk.ol most sk.m0 hm1) fun v24 s24 R24 => ?_
    obtain ⟨vw, ve, vn, K, ke, kn, rfl, rfl, ow, AW, OE, OB⟩ := R24
    dsimp only [List.cons_append, List.nil_append]
    refine XO.q (Q.move rfl) ?_
    refine XO.q (Q.extract rfl rfl) ?_
    refine XO.q (Q.extract rfl rfl) ?_
    refine XO.alloc fun b11 => ?_
    refine XO.q (Q.assign rfl) ?_
    refine XO.st rfl rfl rfl ?_
    refine XO.done ?_
    refine XK.seq ?_
    refine XK.drawn [0, 1, 2, 4] [b11] [] (.q 0 (.q 1 (.q 2 (.br 3 true (.q 4 .done) .stop)))) Try.mixed rfl (by kernel_rfl) ?_
    refine XT.q rfl rfl (Q.move rfl) ?_
    refine XT.q rfl rfl (Q.ldA [_, _, _, _] rfl rfl rfl) ?_
    refine XT.q rfl rfl (Q.assign rfl) ?_
    refine XT.st rfl rfl rfl rfl rfl ⟨inferInstance, ?_⟩ XT.stop
    refine XT.q rfl rfl (Q.assign rfl) ?_
    refine XT.done ?_
    refine XK.rt [K, ke, kn] Try.func17 Try.results17 (.t rfl (.cell [_, _, _, _] rfl rfl rfl (.t rfl .n))) ?_
    have e0 := Decidable.of_not_not c0
    rw [if_pos e0, e0]
    exact ⟨vw, ve, vn, K, ke, kn, rfl, rfl, ow, AW, OE, OB⟩
theorem Least_spec (b : BBank) (vb vg : Value) (hb hg : PHeap) [ib : Arr vb encBat 4 hb b.bats] [ig : Arr vg encGen 5 hg b.gens] (l : List BSpan) (vl : Value) (hl : PHeap) [il : Arr vl encSpan 2 hl l] (most : Int) (hm1 : most ≤ 9223372036854775807) : Spec Try.prog 20 #[.agg #[vb, vg], vl, .int .i64 most] [] [hb, hg, hl] (fun v hs => v = .tuple #[.int .i64 (if searchP b l most = 0 then leastP b (powers l) most else 0), .int .i64 (searchP b l most)] ∧ hs = []) := by
  refine Spec.intro (fn := Try.f20) (N := 29) Try.func20 rfl Try.ntmps20 rfl fun B => ?_
  refine XK.seq ?_
  refine XK.region rfl ?_
  refine XO.box rfl fun b3 => ?_
  refine XO.box rfl fun b4 => ?_
  refine XO.q (Q.assign rfl) ?_
  refine XO.q (Q.assign rfl) ?_
  refine XO.done ?_
  refine XK.seq ?_
  refine XK.seq ?_
  refine XK.region rfl ?_
  refine XO.q (Q.ldA [_, _] rfl rfl rfl) ?_
  refine XO.q (Q.ld rfl rfl) ?_
  refine XO.q (Q.move rfl) ?_
  refine XO.call Try.call52 rfl rfl rfl (search_spec b vb vg hb hg l vl hl most) fun v14 s14 R14 => ?_
  obtain ⟨rfl, rfl⟩ := R14
  dsimp only [List.cons_append, List.nil_append]
  refine XO.q (Q.assign rfl) ?_
  refine XO.done ?_
  refine XK.seq ?_
  refine XK.region rfl ?_
  refine XO.q (Q.move rfl) ?_
  refine XO.q (Q.neq rfl rfl) ?_
  refine XO.done ?_
  refine XK.if rfl (fun c0 => ?_) (fun c0 => ?_)
  · have _t0 := True.intro
    refine XK.seq ?_
    refine XK.region rfl ?_
    refine XO.q (Q.move rfl) ?_
    refine XO.q (Q.assign rfl) ?_
    refine XO.q (Q.assign rfl) ?_
    refine XO.done ?_
    refine XK.rt [] Try.func20 Try.results20 (.t rfl (.t rfl .n)) ?_
    exact ⟨by rw [if_neg c0], rfl⟩
  · have _t0 := True.intro
    refine XK.skip ?_
    refine XK.seq ?_
    refine XK.region rfl ?_
    refine XO.alloc fun b9 => ?_
    refine XO.st rfl rfl rfl ?_
    refine XO.done ?_
    refine XK.seq ?_
    refine XK.seq ?_
    refine XK.region rfl ?_
    refine XO.q (Q.ldA [_, _] rfl rfl rfl) ?_
    refine XO.q (Q.move rfl) ?_
    have sk := searchP_iff.1 (Decidable.of_not_not c0)
    refine XO.call Try.call57 rfl rfl rfl (lists_spec b vb vg hb hg sk.ob most sk.m0 hm1) fun v20 s20 R20 => ?_
    obtain ⟨k1, k2, rfl, hit⟩ := R20
    dsimp only [List.cons_append, List.nil_append]
    refine XO.done ?_
    refine XK.block ?_
    refine XK.rangeK (X := Nat) (ps := [21]) (fun k => [blk b9 [.int .i64 (leastTo b (powers l) (listsP b most) (k))] 3]) (fun i k K0 => k = i) (fun j0 k K0 => False) (0) [blk b9 [.int .i64 0] 3] rfl (hit) rfl (fun i x K K' hle hI => hI) (rfl) rfl (fun i K vs hY => by obtain ⟨sl, rfl, _⟩ := hY; rfl) ?_ ?_ (fun _ _ _ hJ => hJ.elim)
    · rintro lq rec B' i k K0 vs hi ⟨vx, rfl, ax⟩ hki
      dsimp only [List.cons_append, List.nil_append]
      subst hki
      refine XK.region rfl ?_
      refine XO.q (Q.assign rfl) ?_
      refine XO.done ?_
      refine XK.beginRound ?_
      refine XK.block ?_
      refine XK.drawn [1, 2, 3, 5] [b3, b4] [] (.q 1 (.q 2 (.q 3 (.br 0 true (.br 4 true (.q 5 (.br 6 false .done .stop)) .stop) (.br 4 true (.br 0 true (.q 5 (.br 6 false .done .stop)) .stop) .stop))))) Try.mixed rfl (by kernel_rfl) ?_
      refine XT.q rfl rfl (Q.ldA [_, _] rfl rfl rfl) ?_
      refine XT.q rfl rfl (Q.ld rfl rfl) ?_
      refine XT.q rfl rfl (Q.move rfl) ?_
      refine XT.qs rfl rfl (Q.ld rfl rfl) ⟨inferInstance, ?_⟩ ?_
      · skip
        refine XT.call rfl rfl Try.call58 rfl rfl rfl (lack_spec b vb vg hb hg l vl hl ((listsP b most).getD k default) vx K0 sk.ob sk.ol (lists_in sk.ob sk.m0 (k := k) (by omega)).1) (fun v26 s26 R26 => ?_) XT.stop
        obtain ⟨rfl, rfl⟩ := R26
        dsimp only [List.cons_append, List.nil_append]
        refine ⟨inferInstance, ?_⟩
        refine XT.q rfl rfl (Q.max rfl rfl) ?_
        refine XT.st rfl rfl rfl rfl rfl ⟨inferInstance, ?_⟩ XT.stop
        refine XT.done ?_
        refine XK.inBlock ?_
        exact XK.leave (j := none) [blk b9 [.int .i64 (max (leastTo b (powers l) (listsP b most) (k)) (lackP b (powers l) ((listsP b most).getD k default)))] 3] trivial ⟨(k + 1), rfl, rfl⟩
      · skip
        refine XT.call rfl rfl Try.call58 rfl rfl rfl (lack_spec b vb vg hb hg l vl hl ((listsP b most).getD k default) vx K0 sk.ob sk.ol (lists_in sk.ob sk.m0 (k := k) (by omega)).1) (fun v26 s26 R26 => ?_) XT.stop
        obtain ⟨rfl, rfl⟩ := R26
        dsimp only [List.cons_append, List.nil_append]
        refine ⟨inferInstance, ?_⟩
        refine XT.qs rfl rfl (Q.ld rfl rfl) ⟨inferInstance, ?_⟩ XT.stop
        refine XT.q rfl rfl (Q.max rfl rfl) ?_
        refine XT.st rfl rfl rfl rfl rfl ⟨inferInstance, ?_⟩ XT.stop
        refine XT.done ?_
        refine XK.inBlock ?_
        exact XK.leave (j := none) [blk b9 [.int .i64 (max (leastTo b (powers l) (listsP b most) (k)) (lackP b (powers l) ((listsP b most).getD k default)))] 3] trivial ⟨(k + 1), rfl, rfl⟩
    · rintro k K0 hki
      dsimp only [List.cons_append, List.nil_append]
      subst hki
      refine XK.inBlock ?_
      refine XK.seq ?_
      refine XK.region rfl ?_
      refine XO.q (Q.ld rfl rfl) ?_
      refine XO.q (Q.assign rfl) ?_
      refine XO.q (Q.assign rfl) ?_
      refine XO.done ?_
      refine XK.rt [] Try.func20 Try.results20 (.t rfl (.t rfl .n)) ?_
      have e0 := Decidable.of_not_not c0
      exact ⟨by rw [if_pos e0, e0]; rfl, rfl⟩
theorem Hold_spec (b : BBank) (vb vg : Value) (hb hg : PHeap) [ib : Arr vb encBat 4 hb b.bats] [ig : Arr vg encGen 5 hg b.gens] (power most : Int) (hm1 : most ≤ 9223372036854775807) : Spec Try.prog 22 #[.agg #[vb, vg], .int .i64 power, .int .i64 most] [] [hb, hg] (fun v hs => v = .tuple #[.int .i64 (holdP b power most).1, .int .i64 (holdP b power most).2] ∧ hs = []) := by
  refine Spec.intro (fn := Try.f22) (N := 46) Try.func22 rfl Try.ntmps22 rfl fun B => ?_
  refine XK.seq ?_
  refine XK.region rfl ?_
  refine XO.box rfl fun b3 => ?_
  refine XO.q (Q.assign rfl) ?_
  refine XO.q (Q.assign rfl) ?_
  refine XO.done ?_
  refine XK.seq ?_
  refine XK.seq ?_
  refine XK.region rfl ?_
  refine XO.q (Q.ldA [_, _] rfl rfl rfl) ?_
  refine XO.call Try.call38 rfl rfl rfl (Check_spec b vb vg hb hg) fun v14 s14 R14 => ?_
  obtain ⟨rfl, rfl⟩ := R14
  dsimp only [List.cons_append, List.nil_append]
  refine XO.q (Q.assign rfl) ?_
  refine XO.done ?_
  refine XK.seq ?_
  refine XK.region rfl ?_
  refine XO.q (Q.move rfl) ?_
  refine XO.q (Q.neq rfl rfl) ?_
  refine XO.done ?_
  refine XK.if rfl (fun c0 => ?_) (fun c0 => ?_)
  · have _t0 := True.intro
    refine XK.seq ?_
    refine XK.region rfl ?_
    refine XO.q (Q.move rfl) ?_
    refine XO.q (Q.assign rfl) ?_
    refine XO.q (Q.assign rfl) ?_
    refine XO.done ?_
    refine XK.rt [] Try.func22 Try.results22 (.t rfl (.t rfl .n)) ?_
    exact ⟨by rw [holdP, if_pos c0], rfl⟩
  · have _t0 := True.intro
    refine XK.skip ?_
    refine XK.seq ?_
    refine XK.seq ?_
    refine XK.region rfl ?_
    refine XO.q (Q.move rfl) ?_
    refine XO.lit [_] [_] [power] encI (by rfl) (by rfl) rfl (by rfl) (by exact .c 0 1 rfl rfl rfl (.n _)) (fun _ => rfl) (by rfl) rfl (by infer_instance) rfl fun v19 h19 O19 => ?_
    refine XO.call Try.call59 rfl rfl rfl (within_spec 1000000 v19 h19 [power]) fun v20 s20 R20 => ?_
    obtain ⟨rfl, rfl⟩ := R20
    dsimp only [List.cons_append, List.nil_append]
    refine XO.q (Q.not rfl) ?_
    refine XO.done ?_
    refine XK.if rfl (fun c1 => ?_) (fun c1 => ?_)
    · have _t1 := True.intro
      refine XK.seq ?_
      refine XK.region rfl ?_
      refine XO.q (Q.assign rfl) ?_
      refine XO.q (Q.assign rfl) ?_
      refine XO.done ?_
      refine XK.rt [] Try.func22 Try.results22 (.t rfl (.t rfl .n)) ?_
      exact ⟨by rw [holdP, if_neg c0, if_pos (by simpa using c1)], rfl⟩
    · have _t1 := True.intro
      refine XK.skip ?_
      refine XK.seq ?_
      refine XK.region rfl ?_
      refine XO.q (Q.move rfl) ?_
      refine XO.q (Q.build [_, _] (.c 0 1 rfl rfl rfl (.c 1 1 rfl rfl rfl (.n _)))) ?_
      refine XO.q (Q.move rfl) ?_
      refine XO.q (Q.build [_, _] (.c 0 1 rfl rfl rfl (.c 1 1 rfl rfl rfl (.n _)))) ?_
      refine XO.lit [_, _, _, _] [_, _, _, _] (holdLoad power) encSpan (by rfl) (by rfl) rfl (by rfl) (by exact .c 0 2 rfl rfl rfl (.c 2 2 rfl rfl rfl (.n _))) (fun _ => rfl) (by rfl) rfl (by infer_instance) rfl fun v26 h26 O26 => ?_
      refine XO.q (Q.assign rfl) ?_
      refine XO.done ?_
      refine XK.seq ?_
      refine XK.seq ?_
      refine XK.region rfl ?_
      refine XO.q (Q.ldA [_, _] rfl rfl rfl) ?_
      refine XO.q (Q.move rfl) ?_
      refine XO.q (Q.move rfl) ?_
      refine XO.call Try.call52 rfl rfl rfl (search_spec b vb vg hb hg (holdLoad power) v26 h26 most) fun v30 s30 R30 => ?_
      obtain ⟨rfl, rfl⟩ := R30
      dsimp only [List.cons_append, List.nil_append]
      refine XO.q (Q.assign rfl) ?_
      refine XO.done ?_
      refine XK.seq ?_
      refine XK.region rfl ?_
      refine XO.q (Q.move rfl) ?_
      refine XO.q (Q.neq rfl rfl) ?_
      refine XO.done ?_
      refine XK.if rfl (fun c2 => ?_) (fun c2 => ?_)
      · have _t2 := True.intro
        refine XK.seq ?_
        refine XK.region rfl ?_
        refine XO.q (Q.move rfl) ?_
        refine XO.q (Q.assign rfl) ?_
        refine XO.q (Q.assign rfl) ?_
        refine XO.done ?_
        refine XK.rt [] Try.func22 Try.results22 (.t rfl (.t rfl .n)) ?_
        exact ⟨by rw [holdP, if_neg c0, if_neg (by simpa using c1), if_pos c2], rfl⟩
      · have _t2 := True.intro
        refine XK.skip ?_
        refine XK.seq ?_
        refine XK.region rfl ?_
        refine XO.q (Q.ldA [_, _] rfl rfl rfl) ?_
        refine XO.q (Q.move rfl) ?_
        refine XO.q (Q.move rfl) ?_
        have sk := searchP_iff.1 (Decidable.of_not_not c2)
        refine XO.call Try.call53 rfl rfl rfl (worst_spec b vb vg hb hg (holdLoad power) v26 h26 sk.ob sk.ol most sk.m0 hm1) fun v38 s38 R38 => ?_
        obtain ⟨vw, ve, vn, K, ke, kn, rfl, rfl, ow, AW, OE, OB⟩ := R38
        dsimp only [List.cons_append, List.nil_append]
        refine XO.q (Q.move rfl) ?_
        refine XO.q (Q.extract rfl rfl) ?_
        refine XO.q (Q.extract rfl rfl) ?_
        refine XO.alloc fun b12 => ?_
        refine XO.q (Q.assign rfl) ?_
        refine XO.st rfl rfl rfl ?_
        refine XO.done ?_
        refine XK.seq ?_
        refine XK.seq ?_
        refine XK.region rfl ?_
        refine XO.q (Q.fieldAddr rfl) ?_
        refine XO.q (Q.ld rfl rfl) ?_
        refine XO.q (Q.lss rfl rfl) ?_
        refine XO.done ?_
        refine XK.if rfl (fun c3 => ?_) (fun c3 => ?_)
        · have _t3 := True.intro
          refine XK.seq ?_
          refine XK.region rfl ?_
          refine XO.q (Q.assign rfl) ?_
          refine XO.q (Q.assign rfl) ?_
          refine XO.done ?_
          refine XK.rt [] Try.func22 Try.results22 (.t rfl (.t rfl .n)) ?_
          exact ⟨by rw [holdP, if_neg c0, if_neg (by simpa using c1), if_neg c2, if_pos c3], rfl⟩
        · have _t3 := True.intro
          refine XK.skip ?_
          refine XK.seq ?_
          refine XK.region rfl ?_
          refine XO.q (Q.fieldAddr rfl) ?_
          refine XO.q (Q.ld rfl rfl) ?_
          refine XO.q (Q.assign rfl) ?_
          refine XO.q (Q.assign rfl) ?_
          refine XO.done ?_
          refine XK.rt [] Try.func22 Try.results22 (.t rfl (.t rfl .n)) ?_
          exact ⟨by rw [holdP, if_neg c0, if_neg (by simpa using c1), if_neg c2, if_neg c3], rfl⟩
theorem example06 : Spec Try.prog 47 #[] [] [] (fun v hs => ∃ vb vg vl kb kg kl, v = .tuple #[.agg #[vb, vg], vl] ∧ hs = [kb, kg, kl] ∧ OArr vb encBat 4 73 kb exB.bats ∧ OArr vg encGen 5 85 kg exB.gens ∧ OArr vl encSpan 2 38 kl exL) := by
  refine Spec.intro (fn := Try.f47) (N := 9) Try.func47 rfl Try.ntmps47 rfl fun B => ?_
  refine XK.seq ?_
  refine XK.region rfl ?_
  refine XO.alloc fun b0 => ?_
  refine XO.q (Q.assign rfl) ?_
  refine XO.done ?_
  refine XK.seq ?_
  refine XK.region rfl ?_
  refine XO.q (Q.build [_, _, _, _] (.c 0 1 rfl rfl rfl (.c 1 1 rfl rfl rfl (.c 2 1 rfl rfl rfl (.c 3 1 rfl rfl rfl (.n _)))))) ?_
  refine XO.lit [_, _, _, _] [_, _, _, _] [⟨1000, 1000, 100, 10⟩] encBat (by rfl) (by rfl) rfl (by rfl) (by exact .c 0 4 rfl rfl rfl (.n _)) (fun _ => rfl) (by rfl) rfl (by infer_instance) rfl fun v3 h3 O3 => ?_
  refine XO.q (Q.build [_, _, _, _, _] (.c 0 1 rfl rfl rfl (.c 1 1 rfl rfl rfl (.c 2 1 rfl rfl rfl (.c 3 1 rfl rfl rfl (.c 4 1 rfl rfl rfl (.n _))))))) ?_
  refine XO.lit [_, _, _, _, _] [_, _, _, _, _] [⟨100, 20, 5, 2, 2⟩] encGen (by rfl) (by rfl) rfl (by rfl) (by exact .c 0 5 rfl rfl rfl (.n _)) (fun _ => rfl) (by rfl) rfl (by infer_instance) rfl fun v5 h5 O5 => ?_
  refine XO.q (Q.build [_, _] (.c 0 1 rfl rfl rfl (.c 1 1 rfl rfl rfl (.n _)))) ?_
  refine XO.q (Q.build [_, _] (.c 0 1 rfl rfl rfl (.c 1 1 rfl rfl rfl (.n _)))) ?_
  refine XO.lit [_, _] [_, _] [⟨60, 100⟩] encSpan (by rfl) (by rfl) rfl (by rfl) (by exact .c 0 2 rfl rfl rfl (.n _)) (fun _ => rfl) (by rfl) rfl (by infer_instance) rfl fun v8 h8 O8 => ?_
  refine XO.st rfl rfl rfl ?_
  refine XO.q (Q.assign rfl) ?_
  refine XO.done ?_
  refine XK.rt [h3, h5, h8] Try.func47 Try.results47 (.cell [_, _] rfl rfl rfl (.t rfl .n)) ?_
  exact ⟨v3, v5, v8, h3, h5, h8, rfl, rfl, O3, O5, O8⟩
theorem awake06 : Spec Try.prog 14 #[] [] [] (fun v hs => v = .bool true ∧ hs = []) := by
  refine Spec.intro (fn := Try.f14) (N := 84) Try.func14 rfl Try.ntmps14 rfl fun B => ?_
  refine XK.seq ?_
  refine XK.region rfl ?_
  refine XO.q (Q.assign rfl) ?_
  refine XO.done ?_
  refine XK.seq ?_
  refine XK.region rfl ?_
  refine XO.call Try.call47 rfl rfl rfl (example06) fun v13 s13 R13 => ?_
  obtain ⟨vb, vg, vl, kb, kg, kl, rfl, rfl, Ob, Og, Ol⟩ := R13
  dsimp only [List.cons_append, List.nil_append]
  refine XO.q (Q.move rfl) ?_
  refine XO.q (Q.extract rfl rfl) ?_
  refine XO.q (Q.extract rfl rfl) ?_
  refine XO.alloc fun b1 => ?_
  refine XO.st rfl rfl rfl ?_
  refine XO.q (Q.assign rfl) ?_
  refine XO.done ?_
  refine XK.seq ?_
  refine XK.region rfl ?_
  refine XO.q (Q.ldA [_, _] rfl rfl rfl) ?_
  refine XO.q (Q.move rfl) ?_
  refine XO.lit [_] [_] [0] encI (by rfl) (by rfl) rfl (by rfl) (by exact .c 0 1 rfl rfl rfl (.n _)) (fun _ => rfl) (by rfl) rfl (by infer_instance) rfl fun v19 h19 O19 => ?_
  refine XO.call Try.call30 rfl rfl rfl (Run_spec exB vb vg kb kg exL vl kl [0] v19 h19) fun v20 s20 R20 => ?_
  obtain ⟨ve, vn, ke, kn, rfl, rfl, OE, OB⟩ := R20
  dsimp only [List.cons_append, List.nil_append]
  rw [if_pos ex_ready] at OE
  rw [ex_ready, if_pos rfl]
  rw [ex_energy] at OE
  dsimp only [resV]
  rw [show (runP exB (powers exL) [0]).dark = -1 from ex_dark]
  refine XO.q (Q.move rfl) ?_
  refine XO.q (Q.extract rfl rfl) ?_
  refine XO.q (Q.extract rfl rfl) ?_
  refine XO.alloc fun b3 => ?_
  refine XO.st rfl rfl rfl ?_
  refine XO.q (Q.assign rfl) ?_
  refine XO.done ?_
  refine XK.seq ?_
  refine XK.region rfl ?_
  refine XO.q (Q.ldA [_, _] rfl rfl rfl) ?_
  refine XO.q (Q.move rfl) ?_
  refine XO.call Try.call17 rfl rfl rfl (Worst_spec exB vb vg kb kg exL vl kl 1 (by decide)) fun v26 s26 R26 => ?_
  obtain ⟨vw, ve2, vn2, K, ke2, kn2, rfl, rfl, ow, AW, OE2, OB2⟩ := R26
  dsimp only [List.cons_append, List.nil_append]
  rw [if_pos ex_search] at AW
  rw [ex_search, if_pos rfl]
  rw [ex_worst.1] at AW
  dsimp only [resV]
  rw [ex_worst.2]
  refine XO.q (Q.move rfl) ?_
  refine XO.q (Q.extract rfl rfl) ?_
  refine XO.q (Q.extract rfl rfl) ?_
  refine XO.q (Q.extract rfl rfl) ?_
  refine XO.alloc fun b6 => ?_
  refine XO.q (Q.assign rfl) ?_
  refine XO.st rfl rfl rfl ?_
  refine XO.q (Q.assign rfl) ?_
  refine XO.done ?_
  refine XK.seq ?_
  refine XK.region rfl ?_
  refine XO.q (Q.ldA [_, _] rfl rfl rfl) ?_
  refine XO.call Try.call22 rfl rfl rfl (Hold_spec exB vb vg kb kg 100 1 (by decide)) fun v32 s32 R32 => ?_
  obtain ⟨rfl, rfl⟩ := R32
  dsimp only [List.cons_append, List.nil_append]
  rw [ex_hold]
  dsimp only
  refine XO.q (Q.move rfl) ?_
  refine XO.q (Q.extract rfl rfl) ?_
  refine XO.q (Q.extract rfl rfl) ?_
  refine XO.q (Q.assign rfl) ?_
  refine XO.q (Q.assign rfl) ?_
  refine XO.done ?_
  refine XK.seq ?_
  refine XK.region rfl ?_
  refine XO.q (Q.ldA [_, _] rfl rfl rfl) ?_
  refine XO.q (Q.move rfl) ?_
  refine XO.call Try.call20 rfl rfl rfl (Least_spec exB vb vg kb kg exL vl kl 1 (by decide)) fun v38 s38 R38 => ?_
  obtain ⟨rfl, rfl⟩ := R38
  dsimp only [List.cons_append, List.nil_append]
  rw [ex_search, if_pos rfl, ex_least]
  refine XO.q (Q.move rfl) ?_
  refine XO.q (Q.extract rfl rfl) ?_
  refine XO.q (Q.extract rfl rfl) ?_
  refine XO.q (Q.assign rfl) ?_
  refine XO.q (Q.assign rfl) ?_
  refine XO.done ?_
  refine XK.seq ?_
  refine XK.region rfl ?_
  refine XO.q (Q.move rfl) ?_
  refine XO.q (Q.eql rfl rfl) ?_
  refine XO.q (Q.move rfl) ?_
  refine XO.q (Quiet.guardT rfl rfl fun g44 p44 => Q.move rfl) ?_
  refine XO.q (Quiet.guardT rfl rfl fun g45 p45 => Q.eql (lzv rfl rfl) rfl) ?_
  refine XO.q (Q.and rfl (fun hp => lzv hp rfl)) ?_
  refine XO.q (Q.move rfl) ?_
  refine XO.q (Quiet.guardT rfl rfl fun g48 p48 => Q.move rfl) ?_
  refine XO.q (Quiet.guardT rfl rfl fun g49 p49 => Q.eql (lzv rfl rfl) rfl) ?_
  refine XO.q (Q.and rfl (fun hp => lzv hp rfl)) ?_
  refine XO.q (Q.move rfl) ?_
  refine XO.q (Quiet.guardT rfl rfl fun g52 p52 => Q.move rfl) ?_
  refine XO.q (Quiet.guardT rfl rfl fun g53 p53 => Q.eql (lzv rfl rfl) rfl) ?_
  refine XO.q (Q.and rfl (fun hp => lzv hp rfl)) ?_
  refine XO.q (Q.move rfl) ?_
  refine XO.q (Quiet.guardT rfl rfl fun g56 p56 => Q.fieldAddr rfl) ?_
  refine XO.q (Quiet.guardT rfl rfl fun g57 p57 => Q.ld (lzv rfl rfl) rfl) ?_
  refine XO.q (Quiet.guardT rfl rfl fun g58 p58 => Q.eql (lzv rfl rfl) rfl) ?_
  refine XO.q (Q.and rfl (fun hp => lzv hp rfl)) ?_
  refine XO.q (Q.move rfl) ?_
  refine XO.q (Quiet.guardT rfl rfl fun g61 p61 => Q.fieldAddr rfl) ?_
  refine XO.q (Quiet.guardT rfl rfl fun g62 p62 => Q.ld (lzv rfl rfl) rfl) ?_
  refine XO.litG [_] [_] [300] encI rfl rfl rfl (by rfl) (by rfl) rfl (by rfl) (by exact .c 0 1 rfl rfl rfl (.n _)) (fun _ => rfl) (by rfl) rfl (by infer_instance) rfl fun v63 h63 O63 => ?_
  refine XO.callS rfl rfl rfl Try.call24 rfl (.c (lzv rfl rfl) (.c rfl .n)) rfl (equalI ve v63 ke h63 [300] [300]) fun v64 s64 R64 => ?_
  obtain ⟨rfl, rfl⟩ := R64
  dsimp only [List.cons_append, List.nil_append]
  refine XO.q (Q.and rfl (fun _ => rfl)) ?_
  refine XO.q (Q.move rfl) ?_
  refine XO.q (Quiet.guardT rfl rfl fun g67 p67 => Q.move rfl) ?_
  refine XO.litG [_] [_] [1] encI rfl rfl rfl (by rfl) (by rfl) rfl (by rfl) (by exact .c 0 1 rfl rfl rfl (.n _)) (fun _ => rfl) (by rfl) rfl (by infer_instance) rfl fun v68 h68 O68 => ?_
  refine XO.callS rfl rfl rfl Try.call24 rfl (.c (lzv rfl rfl) (.c rfl .n)) rfl (equalI vw v68 K h68 [1] [1]) fun v69 s69 R69 => ?_
  obtain ⟨rfl, rfl⟩ := R69
  dsimp only [List.cons_append, List.nil_append]
  refine XO.q (Q.and rfl (fun _ => rfl)) ?_
  refine XO.q (Q.move rfl) ?_
  refine XO.q (Quiet.guardT rfl rfl fun g72 p72 => Q.fieldAddr rfl) ?_
  refine XO.q (Quiet.guardT rfl rfl fun g73 p73 => Q.ld (lzv rfl rfl) rfl) ?_
  refine XO.q (Quiet.guardT rfl rfl fun g74 p74 => Q.eql (lzv rfl rfl) rfl) ?_
  refine XO.q (Q.and rfl (fun hp => lzv hp rfl)) ?_
  refine XO.q (Q.move rfl) ?_
  refine XO.q (Quiet.guardT rfl rfl fun g77 p77 => Q.move rfl) ?_
  refine XO.q (Quiet.guardT rfl rfl fun g78 p78 => Q.eql (lzv rfl rfl) rfl) ?_
  refine XO.q (Q.and rfl (fun hp => lzv hp rfl)) ?_
  refine XO.q (Q.move rfl) ?_
  refine XO.q (Quiet.guardT rfl rfl fun g81 p81 => Q.move rfl) ?_
  refine XO.q (Quiet.guardT rfl rfl fun g82 p82 => Q.eql (lzv rfl rfl) rfl) ?_
  refine XO.q (Q.and rfl (fun hp => lzv hp rfl)) ?_
  refine XO.q (Q.assign rfl) ?_
  refine XO.done ?_
  refine XK.rt [] Try.func14 Try.results14 (.t rfl .n) ?_
  exact ⟨rfl, rfl⟩
end Go.X

set_option linter.unusedSimpArgs false
set_option linter.unusedVariables false
set_option maxRecDepth 20000
namespace Go.X
open Go.Proofs
theorem made06 (vx : Value) (hx : PHeap) (x : List UInt8) [jx : Arr vx encU8 1 hx x] : Spec Try.prog 28 #[vx] [] [hx] (fun v hs => ∃ vb vg kb kg, v = .agg #[vb, vg] ∧ hs = [kb, kg] ∧ OArr vb encBat 4 73 kb (madeP x).bats ∧ OArr vg encGen 5 85 kg (madeP x).gens) := by
  have hb := fun i => byt_ok x i
  unfold byt at hb
  have nB : OArr (.slice none 0 0) encBat 4 73 emp ([] : List BBat) := OArr.nil (fun _ => rfl)
  have nG : OArr (.slice none 0 0) encGen 5 85 emp ([] : List BGen) := OArr.nil (fun _ => rfl)
  refine Spec.intro (fn := Try.f28) (N := 97) Try.func28 rfl Try.ntmps28 rfl fun B => ?_
  refine XK.seq ?_
  refine XK.region rfl ?_
  refine XO.alloc fun b2 => ?_
  refine XO.done ?_
  refine XK.seq ?_
  refine XK.region rfl ?_
  refine XO.alloc fun b3 => ?_
  refine XO.done ?_
  refine XK.seq ?_
  refine XK.seq ?_
  refine XK.region rfl ?_
  refine XO.q (Q.assign rfl) ?_
  refine XO.done ?_
  refine XK.block ?_
  refine XK.while (X := Nat × Value × Value × PHeap × PHeap) [4, 5, 6, 7, 8, 9, 10, 11, 12, 13, 14, 15, 16, 17, 18, 19, 20, 21, 22, 23, 24, 25, 26, 27, 28, 29, 30, 31, 32, 33, 34, 35, 36, 37, 38, 39, 40, 41, 42, 43, 44, 45, 46, 47, 48, 49, 50, 51, 52, 53, 54, 55, 56, 57, 58, 59, 60, 61, 62, 63, 64, 65, 66, 67, 68, 69, 70, 71, 72, 73, 74, 75, 76, 77, 78, 79, 80, 81, 82, 83, 84, 85, 86, 87, 88, 89, 90, 91, 92, 93, 94, 95] (fun ⟨k, vb, vg, kb, kg⟩ => [(4, some (.int .i64 ((5 * k : Nat) : Int)))]) (fun ⟨k, vb, vg, kb, kg⟩ => [blk b3 [vb, vg] 25, kb, kg]) (fun ⟨k, vb, vg, kb, kg⟩ => 5 * k ≤ x.length ∧ k ≤ 7 ∧ OArr vb encBat 4 73 kb (madeTo x k).bats ∧ OArr vg encGen 5 85 kg (madeTo x k).gens) (fun ⟨k, vb, vg, kb, kg⟩ => 7 - k) (0, .slice none 0 0, .slice none 0 0, emp, emp) [blk b3 [.slice none 0 0, .slice none 0 0] 25, emp, emp] rfl ⟨by omega, by omega, nB, nG⟩ (.c rfl (.base 0 rfl rfl)) ?_
  rintro ⟨k, vb, vg, kb, kg⟩ ⟨hk, hk7, OB, OG⟩ ih0
  dsimp only [List.cons_append, List.nil_append] at ih0 ⊢
  refine XK.seq ?_
  refine XK.seq ?_
  refine XK.region rfl ?_
  refine XO.q (Q.move rfl) ?_
  refine XO.q (Q.add rfl rfl ⟨by omega, by omega⟩) ?_
  refine XO.q (Q.move rfl) ?_
  refine XO.len rfl fun l9 => ?_
  refine XO.q (Q.lss rfl rfl) ?_
  refine XO.q (Q.move rfl) ?_
  refine XO.q (Quiet.guardT rfl rfl fun g12 p12 => Q.move rfl) ?_
  refine XO.q (Quiet.guardT rfl rfl fun g13 p13 => Q.lss (lzv g13 rfl) rfl) ?_
  refine XO.q (Q.and rfl (fun hp => lzv hp rfl)) ?_
  refine XO.done ?_
  refine XK.if rfl (fun c0 => ?_) (fun c0 => ?_)
  · have _t0 := True.intro
    have hb0 := hb (5 * k)
    have hb1 := hb (5 * k + 1)
    have hb2 := hb (5 * k + 2)
    have hb3 := hb (5 * k + 3)
    have hb4 := hb (5 * k + 4)
    obtain ⟨_, _, lb, lg⟩ := madeTo_ok x k
    refine XK.skip ?_
    refine XK.seq ?_
    refine XK.block ?_
    refine XK.seq ?_
    refine XK.region rfl ?_
    refine XO.q (Q.move rfl) ?_
    refine XO.q (Q.rem rfl rfl (by omega) (by omega)) ?_
    refine XO.q (Q.eql rfl rfl) ?_
    refine XO.done ?_
    refine XK.if rfl (fun c1 => ?_) (fun c1 => ?_)
    · have _t1 := True.intro
      have e5 : madeTo x (k + 1) = ⟨(madeTo x k).bats ++ [batAt x (5 * k)], (madeTo x k).gens⟩ := by rw [madeTo, if_pos (by omega)]
      refine XK.seq ?_
      refine XK.region rfl ?_
      refine XO.q (Q.move rfl) ?_
      refine XO.q (Q.move rfl) ?_
      refine XO.ix rfl rfl (by omega) (by omega) fun i22 => ?_
      refine XO.q (Q.ldE rfl (by first | assumption | omega) rfl) ?_
      refine XO.q (Q.conv rfl) ?_
      rw [wrap64_of ⟨by omega, by omega⟩]
      refine XO.q (Q.mul rfl rfl ⟨by omega, by omega⟩) ?_
      refine XO.q (Q.assign rfl) ?_
      refine XO.done ?_
      refine XK.drawn [0, 2, 3, 4, 5, 6, 7, 8, 9, 10, 11, 12, 13, 14, 15, 16, 17, 18, 19, 20, 21, 22, 23, 24, 25, 28] [] [] (.q 0 (.q 2 (.q 3 (.q 4 (.q 5 (.q 6 (.q 7 (.q 8 (.q 9 (.q 10 (.q 11 (.q 12 (.q 13 (.q 14 (.q 15 (.q 16 (.q 17 (.q 18 (.q 19 (.q 20 (.q 21 (.q 22 (.q 23 (.q 24 (.q 25 (.br 1 true (.br 26 true (.br 27 true (.q 28 (.br 29 false .done .stop)) .stop) .stop) (.br 26 true (.br 1 true (.br 27 true (.q 28 (.br 29 false .done .stop)) .stop) .stop) .stop))))))))))))))))))))))))))) Try.mixed rfl (by kernel_rfl) ?_
      refine XT.q rfl rfl (Q.fieldAddr rfl) ?_
      refine XT.q rfl rfl (Q.move rfl) ?_
      refine XT.q rfl rfl (Q.move rfl) ?_
      refine XT.q rfl rfl (Q.move rfl) ?_
      refine XT.q rfl rfl (Q.add rfl rfl ⟨by omega, by omega⟩) ?_
      rw [show (((5 * k : Nat) : Int) + 1) = ((5 * k + 1 : Nat) : Int) from rfl]
      refine XT.ix rfl rfl rfl rfl (by omega) (by omega) fun i32 => ?_
      refine XT.q rfl rfl (Q.ldE rfl (by first | assumption | omega) rfl) ?_
      refine XT.q rfl rfl (Q.conv rfl) ?_
      rw [wrap64_of ⟨by omega, by omega⟩]
      have mq := mulLe (a := 40 * (((x.getD (5 * k) default).toNat : Nat) : Int)) (b := (((x.getD (5 * k + 1) default).toNat : Nat) : Int)) (m := 10200) (n := 255) (by omega) (by omega) (by omega) (by omega)
      refine XT.q rfl rfl (Q.mul rfl rfl ⟨by omega, by omega⟩) ?_
      refine XT.q rfl rfl (Q.quo rfl rfl (by omega) (by omega) (by omega)) ?_
      refine XT.q rfl rfl (Q.move rfl) ?_
      refine XT.q rfl rfl (Q.move rfl) ?_
      refine XT.q rfl rfl (Q.move rfl) ?_
      refine XT.q rfl rfl (Q.add rfl rfl ⟨by omega, by omega⟩) ?_
      rw [show (((5 * k : Nat) : Int) + 2) = ((5 * k + 2 : Nat) : Int) from rfl]
      refine XT.ix rfl rfl rfl rfl (by omega) (by omega) fun i41 => ?_
      refine XT.q rfl rfl (Q.ldE rfl (by first | assumption | omega) rfl) ?_
      refine XT.q rfl rfl (Q.conv rfl) ?_
      rw [wrap64_of ⟨by omega, by omega⟩]
      refine XT.q rfl rfl (Q.move rfl) ?_
      refine XT.q rfl rfl (Q.move rfl) ?_
      refine XT.q rfl rfl (Q.add rfl rfl ⟨by omega, by omega⟩) ?_
      rw [show (((5 * k : Nat) : Int) + 3) = ((5 * k + 3 : Nat) : Int) from rfl]
      refine XT.ix rfl rfl rfl rfl (by omega) (by omega) fun i47 => ?_
      refine XT.q rfl rfl (Q.ldE rfl (by first | assumption | omega) rfl) ?_
      refine XT.q rfl rfl (Q.rem rfl rfl (by omega) (by omega)) ?_
      refine XT.q rfl rfl (Q.conv rfl) ?_
      rw [wrap64_of ⟨by omega, by omega⟩]
      refine XT.q rfl rfl (Q.build [_, _, _, _] (.c 0 1 rfl rfl rfl (.c 1 1 rfl rfl rfl (.c 2 1 rfl rfl rfl (.c 3 1 rfl rfl rfl (.n _)))))) ?_
      refine XT.qs rfl rfl (Q.ld rfl rfl) ⟨inferInstance, ?_⟩ ?_
      · skip
        refine XT.lit [_, _, _, _] [_, _, _, _] [batAt x (5 * k)] encBat rfl rfl (by rfl) (by rfl) rfl (by rfl) (by exact .c 0 4 rfl rfl rfl (.n _)) (fun _ => rfl) (by rfl) rfl (by infer_instance) rfl (fun v52 h52 O52 => ⟨inferInstance, ?_⟩) XT.stop
        refine XT.append rfl rfl rfl rfl rfl rfl (by first | omega | (simp; omega)) (fun v53 h53 O53 => ⟨inferInstance, ?_⟩) XT.stop
        refine XT.q rfl rfl (Q.fieldAddr rfl) ?_
        refine XT.st rfl rfl rfl rfl rfl ⟨inferInstance, ?_⟩ XT.stop
        refine XT.done ?_
        refine XK.inBlock ?_
        refine XK.region rfl ?_
        refine XO.q (Q.move rfl) ?_
        refine XO.q (Q.add rfl rfl ⟨by omega, by omega⟩) ?_
        refine XO.q (Q.assign rfl) ?_
        refine XO.done ?_
        rw [show ((5 * k : Nat) : Int) + 5 = ((5 * (k + 1) : Nat) : Int) by omega]
        exact ih0 (k + 1, v53, vg, h53, kg) _ _ ⟨by dsimp only; omega, by dsimp only; omega, by dsimp only; rw [e5]; exact O53, by dsimp only; rw [e5]; exact OG⟩ (by first | omega | (dsimp only; omega)) (.c rfl (.base 144 rfl rfl)) inferInstance
      · skip
        refine XT.lit [_, _, _, _] [_, _, _, _] [batAt x (5 * k)] encBat rfl rfl (by rfl) (by rfl) rfl (by rfl) (by exact .c 0 4 rfl rfl rfl (.n _)) (fun _ => rfl) (by rfl) rfl (by infer_instance) rfl (fun v52 h52 O52 => ⟨inferInstance, ?_⟩) XT.stop
        refine XT.qs rfl rfl (Q.ld rfl rfl) ⟨inferInstance, ?_⟩ XT.stop
        refine XT.append rfl rfl rfl rfl rfl rfl (by first | omega | (simp; omega)) (fun v53 h53 O53 => ⟨inferInstance, ?_⟩) XT.stop
        refine XT.q rfl rfl (Q.fieldAddr rfl) ?_
        refine XT.st rfl rfl rfl rfl rfl ⟨inferInstance, ?_⟩ XT.stop
        refine XT.done ?_
        refine XK.inBlock ?_
        refine XK.region rfl ?_
        refine XO.q (Q.move rfl) ?_
        refine XO.q (Q.add rfl rfl ⟨by omega, by omega⟩) ?_
        refine XO.q (Q.assign rfl) ?_
        refine XO.done ?_
        rw [show ((5 * k : Nat) : Int) + 5 = ((5 * (k + 1) : Nat) : Int) by omega]
        exact ih0 (k + 1, v53, vg, h53, kg) _ _ ⟨by dsimp only; omega, by dsimp only; omega, by dsimp only; rw [e5]; exact O53, by dsimp only; rw [e5]; exact OG⟩ (by first | omega | (dsimp only; omega)) (.c rfl (.base 144 rfl rfl)) inferInstance
    · have _t1 := True.intro
      have e5 : madeTo x (k + 1) = ⟨(madeTo x k).bats, (madeTo x k).gens ++ [genAt x (5 * k)]⟩ := by rw [madeTo, if_neg (by omega)]
      refine XK.drawn [0, 2, 3, 4, 5, 6, 7, 8, 9, 10, 11, 12, 13, 14, 15, 16, 17, 18, 19, 20, 21, 22, 23, 24, 25, 26, 27, 28, 29, 30, 31, 32, 33, 34, 35, 36, 37, 40] [] [] (.q 0 (.q 2 (.q 3 (.q 4 (.q 5 (.q 6 (.q 7 (.q 8 (.q 9 (.q 10 (.q 11 (.q 12 (.q 13 (.q 14 (.q 15 (.q 16 (.q 17 (.q 18 (.q 19 (.q 20 (.q 21 (.q 22 (.q 23 (.q 24 (.q 25 (.q 26 (.q 27 (.q 28 (.q 29 (.q 30 (.q 31 (.q 32 (.q 33 (.q 34 (.q 35 (.q 36 (.q 37 (.br 1 true (.br 38 true (.br 39 true (.q 40 (.br 41 false .done .stop)) .stop) .stop) (.br 38 true (.br 1 true (.br 39 true (.q 40 (.br 41 false .done .stop)) .stop) .stop) .stop))))))))))))))))))))))))))))))))))))))) Try.mixed rfl (by kernel_rfl) ?_
      refine XT.q rfl rfl (Q.fieldAddr rfl) ?_
      refine XT.q rfl rfl (Q.move rfl) ?_
      refine XT.q rfl rfl (Q.move rfl) ?_
      refine XT.ix rfl rfl rfl rfl (by omega) (by omega) fun i59 => ?_
      refine XT.q rfl rfl (Q.ldE rfl (by first | assumption | omega) rfl) ?_
      refine XT.q rfl rfl (Q.conv rfl) ?_
      rw [wrap64_of ⟨by omega, by omega⟩]
      refine XT.q rfl rfl (Q.move rfl) ?_
      refine XT.q rfl rfl (Q.move rfl) ?_
      refine XT.q rfl rfl (Q.add rfl rfl ⟨by omega, by omega⟩) ?_
      rw [show (((5 * k : Nat) : Int) + 1) = ((5 * k + 1 : Nat) : Int) from rfl]
      refine XT.ix rfl rfl rfl rfl (by omega) (by omega) fun i65 => ?_
      refine XT.q rfl rfl (Q.ldE rfl (by first | assumption | omega) rfl) ?_
      refine XT.q rfl rfl (Q.rem rfl rfl (by omega) (by omega)) ?_
      refine XT.q rfl rfl (Q.conv rfl) ?_
      rw [wrap64_of ⟨by omega, by omega⟩]
      refine XT.q rfl rfl (Q.add rfl rfl ⟨by omega, by omega⟩) ?_
      refine XT.q rfl rfl (Q.move rfl) ?_
      refine XT.q rfl rfl (Q.move rfl) ?_
      refine XT.q rfl rfl (Q.add rfl rfl ⟨by omega, by omega⟩) ?_
      rw [show (((5 * k : Nat) : Int) + 2) = ((5 * k + 2 : Nat) : Int) from rfl]
      refine XT.ix rfl rfl rfl rfl (by omega) (by omega) fun i73 => ?_
      refine XT.q rfl rfl (Q.ldE rfl (by first | assumption | omega) rfl) ?_
      refine XT.q rfl rfl (Q.rem rfl rfl (by omega) (by omega)) ?_
      refine XT.q rfl rfl (Q.conv rfl) ?_
      rw [wrap64_of ⟨by omega, by omega⟩]
      refine XT.q rfl rfl (Q.move rfl) ?_
      refine XT.q rfl rfl (Q.move rfl) ?_
      refine XT.q rfl rfl (Q.add rfl rfl ⟨by omega, by omega⟩) ?_
      rw [show (((5 * k : Nat) : Int) + 3) = ((5 * k + 3 : Nat) : Int) from rfl]
      refine XT.ix rfl rfl rfl rfl (by omega) (by omega) fun i80 => ?_
      refine XT.q rfl rfl (Q.ldE rfl (by first | assumption | omega) rfl) ?_
      refine XT.q rfl rfl (Q.rem rfl rfl (by omega) (by omega)) ?_
      refine XT.q rfl rfl (Q.conv rfl) ?_
      rw [wrap64_of ⟨by omega, by omega⟩]
      refine XT.q rfl rfl (Q.move rfl) ?_
      refine XT.q rfl rfl (Q.move rfl) ?_
      refine XT.q rfl rfl (Q.add rfl rfl ⟨by omega, by omega⟩) ?_
      rw [show (((5 * k : Nat) : Int) + 4) = ((5 * k + 4 : Nat) : Int) from rfl]
      refine XT.ix rfl rfl rfl rfl (by omega) (by omega) fun i87 => ?_
      refine XT.q rfl rfl (Q.ldE rfl (by first | assumption | omega) rfl) ?_
      refine XT.q rfl rfl (Q.rem rfl rfl (by omega) (by omega)) ?_
      refine XT.q rfl rfl (Q.conv rfl) ?_
      rw [wrap64_of ⟨by omega, by omega⟩]
      refine XT.q rfl rfl (Q.add rfl rfl ⟨by omega, by omega⟩) ?_
      refine XT.q rfl rfl (Q.build [_, _, _, _, _] (.c 0 1 rfl rfl rfl (.c 1 1 rfl rfl rfl (.c 2 1 rfl rfl rfl (.c 3 1 rfl rfl rfl (.c 4 1 rfl rfl rfl (.n _))))))) ?_
      refine XT.qs rfl rfl (Q.ld rfl rfl) ⟨inferInstance, ?_⟩ ?_
      · skip
        refine XT.lit [_, _, _, _, _] [_, _, _, _, _] [genAt x (5 * k)] encGen rfl rfl (by rfl) (by rfl) rfl (by rfl) (by exact .c 0 5 rfl rfl rfl (.n _)) (fun _ => rfl) (by rfl) rfl (by infer_instance) rfl (fun v93 h93 O93 => ⟨inferInstance, ?_⟩) XT.stop
        refine XT.append rfl rfl rfl rfl rfl rfl (by first | omega | (simp; omega)) (fun v94 h94 O94 => ⟨inferInstance, ?_⟩) XT.stop
        refine XT.q rfl rfl (Q.fieldAddr rfl) ?_
        refine XT.st rfl rfl rfl rfl rfl ⟨inferInstance, ?_⟩ XT.stop
        refine XT.done ?_
        refine XK.inBlock ?_
        refine XK.region rfl ?_
        refine XO.q (Q.move rfl) ?_
        refine XO.q (Q.add rfl rfl ⟨by omega, by omega⟩) ?_
        refine XO.q (Q.assign rfl) ?_
        refine XO.done ?_
        rw [show ((5 * k : Nat) : Int) + 5 = ((5 * (k + 1) : Nat) : Int) by omega]
        exact ih0 (k + 1, vb, v94, kb, h94) _ _ ⟨by dsimp only; omega, by dsimp only; omega, by dsimp only; rw [e5]; exact OB, by dsimp only; rw [e5]; exact O94⟩ (by first | omega | (dsimp only; omega)) (.c rfl (.base 149 rfl rfl)) inferInstance
      · skip
        refine XT.lit [_, _, _, _, _] [_, _, _, _, _] [genAt x (5 * k)] encGen rfl rfl (by rfl) (by rfl) rfl (by rfl) (by exact .c 0 5 rfl rfl rfl (.n _)) (fun _ => rfl) (by rfl) rfl (by infer_instance) rfl (fun v93 h93 O93 => ⟨inferInstance, ?_⟩) XT.stop
        refine XT.qs rfl rfl (Q.ld rfl rfl) ⟨inferInstance, ?_⟩ XT.stop
        refine XT.append rfl rfl rfl rfl rfl rfl (by first | omega | (simp; omega)) (fun v94 h94 O94 => ⟨inferInstance, ?_⟩) XT.stop
        refine XT.q rfl rfl (Q.fieldAddr rfl) ?_
        refine XT.st rfl rfl rfl rfl rfl ⟨inferInstance, ?_⟩ XT.stop
        refine XT.done ?_
        refine XK.inBlock ?_
        refine XK.region rfl ?_
        refine XO.q (Q.move rfl) ?_
        refine XO.q (Q.add rfl rfl ⟨by omega, by omega⟩) ?_
        refine XO.q (Q.assign rfl) ?_
        refine XO.done ?_
        rw [show ((5 * k : Nat) : Int) + 5 = ((5 * (k + 1) : Nat) : Int) by omega]
        exact ih0 (k + 1, vb, v94, kb, h94) _ _ ⟨by dsimp only; omega, by dsimp only; omega, by dsimp only; rw [e5]; exact OB, by dsimp only; rw [e5]; exact O94⟩ (by first | omega | (dsimp only; omega)) (.c rfl (.base 149 rfl rfl)) inferInstance
  · have _t0 := True.intro
    have hkn : k = min 7 (x.length / 5) := by omega
    refine XK.exit rfl ?_
    refine XK.seq ?_
    refine XK.region rfl ?_
    refine XO.q (Q.ldA [_, _] rfl rfl rfl) ?_
    refine XO.st rfl rfl rfl ?_
    refine XO.done ?_
    refine XK.rt [kb, kg] Try.func28 Try.results28 (.cell [_, _] rfl rfl rfl (.n)) ?_
    subst hkn
    exact ⟨vb, vg, kb, kg, rfl, rfl, OB, OG⟩
theorem loaded06 (vx : Value) (hx : PHeap) (x : List UInt8) [jx : Arr vx encU8 1 hx x] : Spec Try.prog 31 #[vx] [] [hx] (fun v hs => ∃ kl, hs = [kl] ∧ OArr v encSpan 2 38 kl (loadP x)) := by
  have hb := fun i => byt_ok x i
  unfold byt at hb
  have nS : OArr (.slice none 0 0) encSpan 2 38 emp ([] : List BSpan) := OArr.nil (fun _ => rfl)
  refine Spec.intro (fn := Try.f31) (N := 34) Try.func31 rfl Try.ntmps31 rfl fun B => ?_
  refine XK.seq ?_
  refine XK.region rfl ?_
  refine XO.q (Q.assign rfl) ?_
  refine XO.done ?_
  refine XK.seq ?_
  refine XK.region rfl ?_
  refine XO.q (Q.assign rfl) ?_
  refine XO.done ?_
  refine XK.seq ?_
  refine XK.seq ?_
  refine XK.region rfl ?_
  refine XO.q (Q.assign rfl) ?_
  refine XO.done ?_
  refine XK.block ?_
  refine XK.while (X := Nat × Value × PHeap) [3, 4, 5, 6, 7, 8, 9, 10, 11, 12, 13, 14, 15, 16, 17, 18, 19, 20, 21, 22, 23, 24, 25, 26, 27, 28, 29, 30, 31, 32] (fun ⟨k, vl, kl⟩ => [(4, some (.int .i64 ((2 * k : Nat) : Int))), (3, some (vl))]) (fun ⟨k, vl, kl⟩ => [kl]) (fun ⟨k, vl, kl⟩ => 2 * k ≤ x.length ∧ k ≤ 8 ∧ OArr vl encSpan 2 38 kl (loadTo x k)) (fun ⟨k, vl, kl⟩ => 8 - k) (0, .slice none 0 0, emp) [emp] rfl ⟨by omega, by omega, nS⟩ (.c rfl (.c rfl (.base 0 rfl rfl))) ?_
  rintro ⟨k, vl, kl⟩ ⟨hk, hk8, OL⟩ ih0
  dsimp only [List.cons_append, List.nil_append] at ih0 ⊢
  refine XK.seq ?_
  refine XK.seq ?_
  refine XK.region rfl ?_
  refine XO.q (Q.move rfl) ?_
  refine XO.q (Q.add rfl rfl ⟨by omega, by omega⟩) ?_
  refine XO.q (Q.move rfl) ?_
  refine XO.len rfl fun l8 => ?_
  refine XO.q (Q.lss rfl rfl) ?_
  refine XO.q (Q.move rfl) ?_
  refine XO.q (Quiet.guardT rfl rfl fun g11 p11 => Q.move rfl) ?_
  refine XO.q (Quiet.guardT rfl rfl fun g12 p12 => Q.lss (lzv g12 rfl) rfl) ?_
  refine XO.q (Q.and rfl (fun hp => lzv hp rfl)) ?_
  refine XO.done ?_
  refine XK.if rfl (fun c0 => ?_) (fun c0 => ?_)
  · have _t0 := True.intro
    have hb0 := hb (2 * k)
    have hb1 := hb (2 * k + 1)
    have ll := (loadTo_ok x k).2
    refine XK.skip ?_
    refine XK.seq ?_
    refine XK.block ?_
    refine XK.drawn [0, 1, 2, 3, 4, 5, 6, 7, 8, 9, 10, 11, 12, 13, 14, 17] [] [] (.q 0 (.q 1 (.q 2 (.q 3 (.q 4 (.q 5 (.q 6 (.q 7 (.q 8 (.q 9 (.q 10 (.q 11 (.q 12 (.q 13 (.q 14 (.br 15 true (.br 16 true (.q 17 .done) .stop) .stop)))))))))))))))) Try.mixed rfl (by kernel_rfl) ?_
    refine XT.q rfl rfl (Q.move rfl) ?_
    refine XT.q rfl rfl (Q.move rfl) ?_
    refine XT.q rfl rfl (Q.move rfl) ?_
    refine XT.ix rfl rfl rfl rfl (by omega) (by omega) fun i19 => ?_
    refine XT.q rfl rfl (Q.ldE rfl (by first | assumption | omega) rfl) ?_
    refine XT.q rfl rfl (Q.rem rfl rfl (by omega) (by omega)) ?_
    refine XT.q rfl rfl (Q.conv rfl) ?_
    rw [wrap64_of ⟨by omega, by omega⟩]
    refine XT.q rfl rfl (Q.add rfl rfl ⟨by omega, by omega⟩) ?_
    refine XT.q rfl rfl (Q.move rfl) ?_
    refine XT.q rfl rfl (Q.move rfl) ?_
    refine XT.q rfl rfl (Q.add rfl rfl ⟨by omega, by omega⟩) ?_
    rw [show (((2 * k : Nat) : Int) + 1) = ((2 * k + 1 : Nat) : Int) from rfl]
    refine XT.ix rfl rfl rfl rfl (by omega) (by omega) fun i27 => ?_
    refine XT.q rfl rfl (Q.ldE rfl (by first | assumption | omega) rfl) ?_
    refine XT.q rfl rfl (Q.conv rfl) ?_
    rw [wrap64_of ⟨by omega, by omega⟩]
    refine XT.q rfl rfl (Q.build [_, _] (.c 0 1 rfl rfl rfl (.c 1 1 rfl rfl rfl (.n _)))) ?_
    refine XT.lit [_, _] [_, _] [spanAt x (2 * k)] encSpan rfl rfl (by rfl) (by rfl) rfl (by rfl) (by exact .c 0 2 rfl rfl rfl (.n _)) (fun _ => rfl) (by rfl) rfl (by infer_instance) rfl (fun v31 h31 O31 => ⟨inferInstance, ?_⟩) XT.stop
    refine XT.append rfl rfl rfl rfl rfl rfl (by first | omega | (simp; omega)) (fun v32 h32 O32 => ⟨inferInstance, ?_⟩) XT.stop
    refine XT.q rfl rfl (Q.assign rfl) ?_
    refine XT.done ?_
    refine XK.inBlock ?_
    refine XK.region rfl ?_
    refine XO.q (Q.move rfl) ?_
    refine XO.q (Q.add rfl rfl ⟨by omega, by omega⟩) ?_
    refine XO.q (Q.assign rfl) ?_
    refine XO.done ?_
    rw [show ((2 * k : Nat) : Int) + 2 = ((2 * (k + 1) : Nat) : Int) by omega]
    exact ih0 (k + 1, v32, h32) _ _ ⟨by dsimp only; omega, by dsimp only; omega, O32⟩ (by first | omega | (dsimp only; omega)) (.c rfl (.c rfl (.base 62 rfl rfl))) inferInstance
  · have _t0 := True.intro
    have hkn : k = min 8 (x.length / 2) := by omega
    refine XK.exit rfl ?_
    refine XK.seq ?_
    refine XK.region rfl ?_
    refine XO.q (Q.move rfl) ?_
    refine XO.q (Q.assign rfl) ?_
    refine XO.done ?_
    refine XK.rt [kl] Try.func31 Try.results31 (.t rfl .n) ?_
    subst hkn
    exact ⟨kl, rfl, OL⟩
theorem failed06 (b : BBank) (vb vg : Value) (hb hg : PHeap) [ib : Arr vb encBat 4 hb b.bats] [ig : Arr vg encGen 5 hg b.gens] (ok : BOk b) (vx : Value) (hx : PHeap) (x : List UInt8) [jx : Arr vx encU8 1 hx x] : Spec Try.prog 29 #[.agg #[vb, vg], vx] [] [hb, hg, hx] (fun v hs => ∃ kf, hs = [kf] ∧ OArr v encI 1 3 kf (failP b x)) := by
  have hby := fun i => byt_ok x i
  unfold byt at hby
  have n6 := ok.ng
  have lx := jx.le
  have nF : OArr (.slice none 0 0) encI 1 3 emp ([] : List Int) := OArr.nil (fun _ => rfl)
  refine Spec.intro (fn := Try.f29) (N := 36) Try.func29 rfl Try.ntmps29 rfl fun B => ?_
  refine XK.seq ?_
  refine XK.region rfl ?_
  refine XO.box rfl fun b2 => ?_
  refine XO.q (Q.assign rfl) ?_
  refine XO.done ?_
  refine XK.seq ?_
  refine XK.region rfl ?_
  refine XO.q (Q.assign rfl) ?_
  refine XO.done ?_
  refine XK.seq ?_
  refine XK.seq ?_
  refine XK.region rfl ?_
  refine XO.q (Q.fieldAddr rfl) ?_
  refine XO.q (Q.ld rfl rfl) ?_
  refine XO.len rfl fun l11 => ?_
  refine XO.q (Q.move rfl) ?_
  refine XO.done ?_
  refine XK.block ?_
  refine XK.while (X := Nat × Value × PHeap) [5, 6, 7, 8, 12, 13, 14, 15, 16, 17, 18, 19, 20, 21, 22, 23, 24, 25, 26, 27, 28, 29, 30, 31, 32, 33, 34] (fun ⟨i, vf, kf⟩ => [(12, some (.int .i64 (i : Nat))), (5, some (vf))]) (fun ⟨i, vf, kf⟩ => [kf]) (fun ⟨i, vf, kf⟩ => i ≤ b.gens.length ∧ OArr vf encI 1 3 kf (failTo b x i)) (fun ⟨i, vf, kf⟩ => b.gens.length - i) (0, .slice none 0 0, emp) [emp] rfl ⟨by omega, nF⟩ (.c rfl (.c rfl (.base 0 rfl rfl))) ?_
  rintro ⟨i, vf, kf⟩ ⟨hi, OF⟩ ih0
  dsimp only [List.cons_append, List.nil_append] at ih0 ⊢
  refine XK.seq ?_
  refine XK.region rfl ?_
  refine XO.q (Q.lss rfl rfl) ?_
  refine XO.done ?_
  refine XK.seq ?_
  refine XK.if rfl (fun c0 => ?_) (fun c0 => ?_)
  · have _t0 := True.intro
    have hb0 := hby i
    have fl := failTo_len b x i
    have gk := ok.gen _ (getD_memB (show i < b.gens.length by omega))
    have g0 := gk.t0
    have g1 := gk.t1
    refine XK.skip ?_
    refine XK.seq ?_
    refine XK.block ?_
    refine XK.seq ?_
    refine XK.region rfl ?_
    refine XO.q (Q.move rfl) ?_
    refine XO.ix rfl rfl (by omega) (by omega) fun i15 => ?_
    refine XO.q (Q.ldEA [_, _, _, _, _] rfl (by first | assumption | omega) rfl rfl) ?_
    refine XO.alloc fun b7 => ?_
    refine XO.q (Q.assign rfl) ?_
    refine XO.st rfl rfl rfl ?_
    refine XO.done ?_
    refine XK.seq ?_
    refine XK.region rfl ?_
    refine XO.q (Q.assign rfl) ?_
    refine XO.done ?_
    refine XK.seq ?_
    refine XK.seq ?_
    refine XK.region rfl ?_
    refine XO.q (Q.move rfl) ?_
    refine XO.q (Q.move rfl) ?_
    refine XO.len rfl fun l19 => ?_
    refine XO.q (Q.lss rfl rfl) ?_
    refine XO.done ?_
    refine XK.meet (X := Unit) [8, 21, 22, 23, 24, 25, 26, 27, 28, 29] (fun _u => [(8, some (.int .i64 (failAt b x i)))]) (fun _u => []) (fun _u => True) [] ?_ ?_
    · rintro _u _
      dsimp only [List.cons_append, List.nil_append]
      refine XK.region rfl ?_
      refine XO.q (Q.move rfl) ?_
      refine XO.q (Q.move rfl) ?_
      refine XO.lit [_] [_] [failAt b x i] encI (by rfl) (by rfl) rfl (by rfl) (by exact .c 0 1 rfl rfl rfl (.n _)) (fun _ => rfl) (by rfl) rfl (by infer_instance) rfl fun v32 h32 O32 => ?_
      refine XO.append rfl rfl rfl rfl (by first | omega | (simp; omega)) fun v33 h33 O33 => ?_
      refine XO.q (Q.assign rfl) ?_
      refine XO.done ?_
      refine XK.inBlock ?_
      refine XK.region rfl ?_
      refine XO.q (Q.add rfl rfl ⟨by omega, by omega⟩) ?_
      refine XO.q (Q.move rfl) ?_
      refine XO.done ?_
      exact ih0 (i + 1, v33, h33) _ _ ⟨by dsimp only; omega, O33⟩ (by first | omega | (dsimp only; omega)) (.c rfl (.c rfl (.base 58 rfl rfl))) inferInstance
    · intro mt1
      dsimp only [List.cons_append, List.nil_append] at mt1
      refine XK.if rfl (fun c1 => ?_) (fun c1 => ?_)
      · have _t1 := True.intro
        refine XK.drawn [0, 1, 2, 3, 4, 5, 6, 7, 8, 9] [b7] [] (.q 0 (.q 1 (.q 2 (.q 3 (.q 4 (.q 5 (.q 6 (.q 7 (.q 8 (.q 9 .done)))))))))) Try.mixed rfl (by kernel_rfl) ?_
        refine XT.q rfl rfl (Q.move rfl) ?_
        refine XT.q rfl rfl (Q.move rfl) ?_
        refine XT.ix rfl rfl rfl rfl (by omega) (by omega) fun i23 => ?_
        refine XT.q rfl rfl (Q.ldE rfl (by first | assumption | omega) rfl) ?_
        refine XT.q rfl rfl (Q.conv rfl) ?_
        rw [wrap64_of ⟨by omega, by omega⟩]
        refine XT.q rfl rfl (Q.fieldAddr rfl) ?_
        refine XT.q rfl rfl (Q.ld rfl rfl) ?_
        refine XT.q rfl rfl (Q.add rfl rfl ⟨by omega, by omega⟩) ?_
        refine XT.q rfl rfl (Q.rem rfl rfl (by omega) (by omega)) ?_
        rw [show (((x.getD i default).toNat : Nat) : Int) % ((b.gens.getD i default).tries + 1) = failAt b x i by rw [failAt, if_pos (by omega)]; rfl]
        refine XT.q rfl rfl (Q.assign rfl) ?_
        refine XT.done ?_
        exact mt1 (()) _ _ trivial (.c rfl (.base 10 rfl rfl)) inferInstance
      · have _t1 := True.intro
        refine XK.skip ?_
        rw [show failAt b x i = 0 by rw [failAt, if_neg (by omega)]] at mt1
        exact mt1 (()) _ _ trivial (.c rfl (.base 0 rfl rfl)) inferInstance
  · have _t0 := True.intro
    have hin : i = b.gens.length := by omega
    refine XK.exit rfl ?_
    refine XK.seq ?_
    refine XK.region rfl ?_
    refine XO.q (Q.move rfl) ?_
    refine XO.q (Q.assign rfl) ?_
    refine XO.done ?_
    refine XK.rt [kf] Try.func29 Try.results29 (.t rfl .n) ?_
    subst hin
    exact ⟨kf, rfl, OF⟩
theorem later06 (a c : Int) : Spec Try.prog 33 #[.int .i64 a, .int .i64 c] [] [] (fun v hs => v = .bool (laterP a c) ∧ hs = []) := by
  refine Spec.intro (fn := Try.f33) (N := 16) Try.func33 rfl Try.ntmps33 rfl fun B => ?_
  refine XK.seq ?_
  refine XK.region rfl ?_
  refine XO.q (Q.assign rfl) ?_
  refine XO.done ?_
  refine XK.seq ?_
  refine XK.region rfl ?_
  refine XO.q (Q.move rfl) ?_
  refine XO.q (Q.lss rfl rfl) ?_
  refine XO.q (Q.move rfl) ?_
  refine XO.q (Quiet.guardF rfl rfl fun g8 p8 => Q.move rfl) ?_
  refine XO.q (Quiet.guardF rfl rfl fun g9 p9 => Q.geq (lzv g9 rfl) rfl) ?_
  refine XO.q (Quiet.guardF rfl rfl fun g10 p10 => Q.move (lzv g10 rfl)) ?_
  refine XO.q (Quiet.guard2 rfl rfl fun g11a g11b => have p11a := bpF g11a; have p11b := bpT g11b; Q.move rfl) ?_
  refine XO.q (Quiet.guard2 rfl rfl fun g12a g12b => have p12a := bpF g12a; have p12b := bpT g12b; Q.move rfl) ?_
  refine XO.q (Quiet.guard2 rfl rfl fun g13a g13b => have p13a := bpF g13a; have p13b := bpT g13b; Q.geq (lzv g13b (lzv g13a rfl)) (lzv g13b (lzv g13a rfl))) ?_
  refine XO.q (Quiet.guardF rfl rfl fun g14 p14 => Q.and (lzv g14 rfl) (fun hp => (lzv hp (lzv g14 rfl)))) ?_
  refine XO.q (Q.or rfl (fun hp => lzv hp rfl)) ?_
  refine XO.q (Q.assign rfl) ?_
  refine XO.done ?_
  refine XK.rt [] Try.func33 Try.results33 (.t rfl .n) ?_
  exact ⟨rfl, rfl⟩
end Go.X

set_option linter.unusedSimpArgs false
set_option linter.unusedVariables false
set_option maxRecDepth 20000
namespace Go.X
open Go.Proofs
theorem in06 (n m : Int) : Spec Try.prog 60 #[.int .i64 n, .int .i64 m] [] [] (fun v hs => v = .bool (inR n m) ∧ hs = []) := by
  refine Spec.intro (fn := Try.f60) (N := 12) Try.func60 rfl Try.ntmps60 rfl fun B => ?_
  refine XK.seq ?_
  refine XK.region rfl ?_
  refine XO.q (Q.assign rfl) ?_
  refine XO.done ?_
  refine XK.seq ?_
  refine XK.region rfl ?_
  refine XO.q (Q.move rfl) ?_
  refine XO.q (Q.geq rfl rfl) ?_
  refine XO.q (Q.move rfl) ?_
  refine XO.q (Quiet.guardT rfl rfl fun g8 p8 => Q.move rfl) ?_
  refine XO.q (Quiet.guardT rfl rfl fun g9 p9 => Q.move rfl) ?_
  refine XO.q (Quiet.guardT rfl rfl fun g10 p10 => Q.leq (lzv g10 rfl) (lzv g10 rfl)) ?_
  refine XO.q (Q.and rfl (fun hp => lzv hp rfl)) ?_
  refine XO.q (Q.assign rfl) ?_
  refine XO.done ?_
  refine XK.rt [] Try.func60 Try.results60 (.t rfl .n) ?_
  exact ⟨rfl, rfl⟩
theorem rightG06 (g : BGen) : Spec Try.prog 72 #[genV g] [] [] (fun v hs => v = .bool (genOk g) ∧ hs = []) := by
  refine Spec.intro (fn := Try.f72) (N := 31) Try.func72 rfl Try.ntmps72 rfl fun B => ?_
  refine XK.seq ?_
  refine XK.region rfl ?_
  refine XO.box rfl fun b1 => ?_
  refine XO.q (Q.assign rfl) ?_
  refine XO.done ?_
  refine XK.seq ?_
  refine XK.region rfl ?_
  refine XO.q (Q.fieldAddr rfl) ?_
  refine XO.q (Q.ld rfl rfl) ?_
  refine XO.call Try.call60 rfl rfl rfl (in06 _ _) fun v5 s5 R5 => ?_
  obtain ⟨rfl, rfl⟩ := R5
  dsimp only [List.cons_append, List.nil_append]
  refine XO.q (Q.move rfl) ?_
  refine XO.q (Quiet.guardT rfl rfl fun g7 p7 => Q.fieldAddr rfl) ?_
  refine XO.q (Quiet.guardT rfl rfl fun g8 p8 => Q.ld (lzv g8 rfl) rfl) ?_
  refine XO.gcallT rfl rfl Try.call60 rfl (fun g9 => .c (lzv g9 rfl) (.c rfl .n)) rfl (fun g9 p9 => in06 _ _) ?_
  refine XO.q (Q.and rfl (fun hp => lzv hp rfl)) ?_
  refine XO.q (Q.move rfl) ?_
  refine XO.q (Quiet.guardT rfl rfl fun g12 p12 => Q.fieldAddr rfl) ?_
  refine XO.q (Quiet.guardT rfl rfl fun g13 p13 => Q.ld (lzv g13 rfl) rfl) ?_
  refine XO.gcallT rfl rfl Try.call60 rfl (fun g14 => .c (lzv g14 rfl) (.c rfl .n)) rfl (fun g14 p14 => in06 _ _) ?_
  refine XO.q (Q.and rfl (fun hp => lzv hp rfl)) ?_
  refine XO.q (Q.move rfl) ?_
  refine XO.q (Quiet.guardT rfl rfl fun g17 p17 => Q.fieldAddr rfl) ?_
  refine XO.q (Quiet.guardT rfl rfl fun g18 p18 => Q.ld (lzv g18 rfl) rfl) ?_
  refine XO.gcallT rfl rfl Try.call60 rfl (fun g19 => .c (lzv g19 rfl) (.c rfl .n)) rfl (fun g19 p19 => in06 _ _) ?_
  refine XO.q (Q.and rfl (fun hp => lzv hp rfl)) ?_
  refine XO.q (Q.move rfl) ?_
  refine XO.q (Quiet.guardT rfl rfl fun g22 p22 => Q.fieldAddr rfl) ?_
  refine XO.q (Quiet.guardT rfl rfl fun g23 p23 => Q.ld (lzv g23 rfl) rfl) ?_
  refine XO.q (Quiet.guardT rfl rfl fun g24 p24 => Q.gtr (lzv g24 rfl) rfl) ?_
  refine XO.q (Q.and rfl (fun hp => lzv hp rfl)) ?_
  refine XO.q (Q.move rfl) ?_
  refine XO.q (Quiet.guardT rfl rfl fun g27 p27 => Q.fieldAddr rfl) ?_
  refine XO.q (Quiet.guardT rfl rfl fun g28 p28 => Q.ld (lzv g28 rfl) rfl) ?_
  refine XO.q (Quiet.guardT rfl rfl fun g29 p29 => Q.lss (lzv g29 rfl) rfl) ?_
  refine XO.q (Q.and rfl (fun hp => lzv hp rfl)) ?_
  refine XO.q (Q.assign rfl) ?_
  refine XO.done ?_
  refine XK.rt [] Try.func72 Try.results72 (.t rfl .n) ?_
  exact ⟨by rw [← genOk_ref g], rfl⟩
theorem any_snoc {α : Type} [Inhabited α] {p : α → Bool} {l : List α} {i : Nat} (h : (l.take i).any p = false) (hi : i < l.length) (hp : p (l.getD i default) = false) : (l.take (i + 1)).any p = false := by
  rw [take_snocB hi, List.any_append, h, List.any_cons, List.any_nil, hp]; rfl
theorem RCheck_spec (b : BBank) (vb vg : Value) (hb hg : PHeap) [ib : Arr vb encBat 4 hb b.bats] [ig : Arr vg encGen 5 hg b.gens] : Spec Try.prog 39 #[.agg #[vb, vg]] [] [hb, hg] (fun v hs => v = .int .i64 (bcheck b) ∧ hs = []) := by
  have lb := ib.le
  have lg := ig.le
  refine Spec.intro (fn := Try.f39) (N := 66) Try.func39 rfl Try.ntmps39 rfl fun B => ?_
  refine XK.seq ?_
  refine XK.region rfl ?_
  refine XO.box rfl fun b1 => ?_
  refine XO.q (Q.assign rfl) ?_
  refine XO.done ?_
  refine XK.seq ?_
  refine XK.seq ?_
  refine XK.region rfl ?_
  refine XO.q (Q.fieldAddr rfl) ?_
  refine XO.q (Q.ld rfl rfl) ?_
  refine XO.len rfl fun l8 => ?_
  refine XO.q (Q.gtr rfl rfl) ?_
  refine XO.q (Q.move rfl) ?_
  refine XO.q (Quiet.guardF rfl rfl fun g11 p11 => Q.fieldAddr rfl) ?_
  refine XO.q (Quiet.guardF rfl rfl fun g12 p12 => Q.ld (lzv g12 rfl) rfl) ?_
  refine XO.q (Quiet.guardF rfl rfl fun g13 p13 => Q.len (lzv g13 rfl)) ?_
  refine XO.q (Quiet.guardF rfl rfl fun g14 p14 => Q.gtr (lzv g14 rfl) rfl) ?_
  refine XO.q (Q.or rfl (fun hp => lzv hp rfl)) ?_
  refine XO.done ?_
  refine XK.if rfl (fun c0 => ?_) (fun c0 => ?_)
  · have _t0 := True.intro
    refine XK.seq ?_
    refine XK.region rfl ?_
    refine XO.q (Q.assign rfl) ?_
    refine XO.done ?_
    refine XK.rt [] Try.func39 Try.results39 (.t rfl .n) ?_
    exact ⟨by rw [bcheck, if_pos (by omega)], rfl⟩
  · have _t0 := True.intro
    refine XK.skip ?_
    refine XK.seq ?_
    refine XK.seq ?_
    refine XK.region rfl ?_
    refine XO.q (Q.assign rfl) ?_
    refine XO.done ?_
    refine XK.block ?_
    refine XK.while (X := Nat) [2, 3, 4, 16, 17, 18, 19, 20, 21, 22, 23, 24, 25, 26, 27, 28, 29, 30, 31, 32, 33, 34, 35, 36, 37, 38, 39, 40, 41, 42, 43, 44, 45, 46, 47, 48, 49, 50, 51] (fun i => [(3, some (.int .i64 (i : Nat)))]) (fun i => []) (fun i => i ≤ b.bats.length ∧ (b.bats.take i).any (fun x => !batOk x) = false) (fun i => b.bats.length - i) (0) [] rfl ⟨by omega, rfl⟩ (.c rfl (.base 0 rfl rfl)) ?_
    rintro i ⟨hi, ha⟩ ih0
    dsimp only [List.cons_append, List.nil_append] at ih0 ⊢
    refine XK.seq ?_
    refine XK.seq ?_
    refine XK.region rfl ?_
    refine XO.q (Q.move rfl) ?_
    refine XO.q (Q.fieldAddr rfl) ?_
    refine XO.q (Q.ld rfl rfl) ?_
    refine XO.len rfl fun l19 => ?_
    refine XO.q (Q.lss rfl rfl) ?_
    refine XO.done ?_
    refine XK.if rfl (fun c1 => ?_) (fun c1 => ?_)
    · have _t1 := True.intro
      refine XK.skip ?_
      refine XK.seq ?_
      refine XK.block ?_
      refine XK.seq ?_
      refine XK.region rfl ?_
      refine XO.q (Q.fieldAddr rfl) ?_
      refine XO.q (Q.ld rfl rfl) ?_
      refine XO.q (Q.move rfl) ?_
      refine XO.ix rfl rfl (by omega) (by omega) fun i26 => ?_
      refine XO.q (Q.ldEA [_, _, _, _] rfl (by first | assumption | omega) rfl rfl) ?_
      refine XO.alloc fun b4 => ?_
      refine XO.st rfl rfl rfl ?_
      refine XO.done ?_
      refine XK.seq ?_
      refine XK.region rfl ?_
      refine XO.q (Q.fieldAddr rfl) ?_
      refine XO.q (Q.ld rfl rfl) ?_
      refine XO.call Try.call60 rfl rfl rfl (in06 _ _) fun v30 s30 R30 => ?_
      obtain ⟨rfl, rfl⟩ := R30
      dsimp only [List.cons_append, List.nil_append]
      refine XO.q (Q.not rfl) ?_
      refine XO.q (Q.move rfl) ?_
      refine XO.q (Quiet.guardF rfl rfl fun g33 p33 => Q.fieldAddr rfl) ?_
      refine XO.q (Quiet.guardF rfl rfl fun g34 p34 => Q.ld (lzv g34 rfl) rfl) ?_
      refine XO.q (Quiet.guardF rfl rfl fun g35 p35 => Q.fieldAddr rfl) ?_
      refine XO.q (Quiet.guardF rfl rfl fun g36 p36 => Q.ld (lzv g36 rfl) rfl) ?_
      refine XO.gcallF rfl rfl Try.call60 rfl (fun g37 => .c (lzv g37 rfl) (.c (lzv g37 rfl) .n)) rfl (fun g37 p37 => in06 _ _) ?_
      refine XO.q (Quiet.guardF rfl rfl fun g38 p38 => Q.not (lzv g38 rfl)) ?_
      refine XO.q (Q.or rfl (fun hp => lzv hp rfl)) ?_
      refine XO.q (Q.move rfl) ?_
      refine XO.q (Quiet.guardF rfl rfl fun g41 p41 => Q.fieldAddr rfl) ?_
      refine XO.q (Quiet.guardF rfl rfl fun g42 p42 => Q.ld (lzv g42 rfl) rfl) ?_
      refine XO.gcallF rfl rfl Try.call60 rfl (fun g43 => .c (lzv g43 rfl) (.c rfl .n)) rfl (fun g43 p43 => in06 _ _) ?_
      refine XO.q (Quiet.guardF rfl rfl fun g44 p44 => Q.not (lzv g44 rfl)) ?_
      refine XO.q (Q.or rfl (fun hp => lzv hp rfl)) ?_
      refine XO.q (Q.move rfl) ?_
      refine XO.q (Quiet.guardF rfl rfl fun g47 p47 => Q.fieldAddr rfl) ?_
      refine XO.q (Quiet.guardF rfl rfl fun g48 p48 => Q.ld (lzv g48 rfl) rfl) ?_
      refine XO.gcallF rfl rfl Try.call60 rfl (fun g49 => .c (lzv g49 rfl) (.c rfl .n)) rfl (fun g49 p49 => in06 _ _) ?_
      refine XO.q (Quiet.guardF rfl rfl fun g50 p50 => Q.not (lzv g50 rfl)) ?_
      refine XO.q (Q.or rfl (fun hp => lzv hp rfl)) ?_
      refine XO.done ?_
      refine XK.if rfl (fun c2 => ?_) (fun c2 => ?_)
      · have _t2 := True.intro
        refine XK.seq ?_
        refine XK.region rfl ?_
        refine XO.q (Q.assign rfl) ?_
        refine XO.done ?_
        refine XK.rt [] Try.func39 Try.results39 (.t rfl .n) ?_
        have hb2 : batOk (b.bats.getD i default) = false := by rw [Bool.eq_false_iff]; exact fun h => batOk_ref.2 h c2
        exact ⟨by rw [bcheck, if_neg (by omega), if_pos (.inl (List.any_eq_true.2 ⟨_, getD_memB (by omega), by rw [hb2]; rfl⟩))], rfl⟩
      · have _t2 := True.intro
        refine XK.skip ?_
        refine XK.inBlock ?_
        refine XK.region rfl ?_
        refine XO.q (Q.move rfl) ?_
        refine XO.q (Q.add rfl rfl ⟨by omega, by omega⟩) ?_
        refine XO.q (Q.assign rfl) ?_
        refine XO.done ?_
        exact ih0 (i + 1) _ _ ⟨by omega, any_snoc ha (by omega) (by rw [batOk_ref.1 c2]; rfl)⟩ (by first | omega | (dsimp only; omega)) (.c rfl (.base 78 rfl rfl)) inferInstance
    · have _t1 := True.intro
      have hil : i = b.bats.length := by omega
      subst hil
      rw [List.take_length] at ha
      refine XK.exit rfl ?_
      refine XK.seq ?_
      refine XK.seq ?_
      refine XK.region rfl ?_
      refine XO.q (Q.assign rfl) ?_
      refine XO.done ?_
      refine XK.block ?_
      refine XK.while (X := Nat) [2, 5, 52, 53, 54, 55, 56, 57, 58, 59, 60, 61, 62, 63, 64, 65] (fun i => [(5, some (.int .i64 (i : Nat)))]) (fun i => []) (fun i => i ≤ b.gens.length ∧ (b.gens.take i).any (fun x => !genOk x) = false) (fun i => b.gens.length - i) (0) [] rfl ⟨by omega, rfl⟩ (.c rfl (.base 0 rfl rfl)) ?_
      rintro i ⟨hi, hg2⟩ ih1
      dsimp only [List.cons_append, List.nil_append] at ih1 ⊢
      refine XK.seq ?_
      refine XK.seq ?_
      refine XK.region rfl ?_
      refine XO.q (Q.move rfl) ?_
      refine XO.q (Q.fieldAddr rfl) ?_
      refine XO.q (Q.ld rfl rfl) ?_
      refine XO.len rfl fun l55 => ?_
      refine XO.q (Q.lss rfl rfl) ?_
      refine XO.done ?_
      refine XK.if rfl (fun c3 => ?_) (fun c3 => ?_)
      · have _t3 := True.intro
        refine XK.skip ?_
        refine XK.seq ?_
        refine XK.block ?_
        refine XK.seq ?_
        refine XK.region rfl ?_
        refine XO.q (Q.fieldAddr rfl) ?_
        refine XO.q (Q.ld rfl rfl) ?_
        refine XO.q (Q.move rfl) ?_
        refine XO.ix rfl rfl (by omega) (by omega) fun i62 => ?_
        refine XO.q (Q.ldEA [_, _, _, _, _] rfl (by first | assumption | omega) rfl rfl) ?_
        refine XO.call Try.call72 rfl rfl rfl (rightG06 (b.gens.getD i default)) fun v64 s64 R64 => ?_
        obtain ⟨rfl, rfl⟩ := R64
        dsimp only [List.cons_append, List.nil_append]
        refine XO.q (Q.not rfl) ?_
        refine XO.done ?_
        refine XK.if rfl (fun c4 => ?_) (fun c4 => ?_)
        · have _t4 := True.intro
          refine XK.seq ?_
          refine XK.region rfl ?_
          refine XO.q (Q.assign rfl) ?_
          refine XO.done ?_
          refine XK.rt [] Try.func39 Try.results39 (.t rfl .n) ?_
          exact ⟨by rw [bcheck, if_neg (by omega), if_pos (.inr (List.any_eq_true.2 ⟨_, getD_memB (show i < b.gens.length by omega), by rw [Bool.eq_false_iff.2 c4]; rfl⟩))], rfl⟩
        · have _t4 := True.intro
          refine XK.skip ?_
          refine XK.inBlock ?_
          refine XK.region rfl ?_
          refine XO.q (Q.move rfl) ?_
          refine XO.q (Q.add rfl rfl ⟨by omega, by omega⟩) ?_
          refine XO.q (Q.assign rfl) ?_
          refine XO.done ?_
          exact ih1 (i + 1) _ _ ⟨by omega, any_snoc hg2 (by omega) (by rw [Decidable.of_not_not c4]; rfl)⟩ (by first | omega | (dsimp only; omega)) (.c rfl (.base 32 rfl rfl)) inferInstance
      · have _t3 := True.intro
        have hil : i = b.gens.length := by omega
        subst hil
        rw [List.take_length] at hg2
        refine XK.exit rfl ?_
        refine XK.seq ?_
        refine XK.region rfl ?_
        refine XO.q (Q.assign rfl) ?_
        refine XO.done ?_
        refine XK.rt [] Try.func39 Try.results39 (.t rfl .n) ?_
        exact ⟨by rw [bcheck, if_neg (by omega), if_neg (by rw [ha, hg2]; decide)], rfl⟩
theorem Start_spec (g : BGen) (f : Int) : Spec Try.prog 40 #[genV g, .int .i64 f] [] [] (fun v hs => v = .tuple #[.int .i64 (startQ g f).1, .int .i64 (startQ g f).2] ∧ hs = []) := by
  refine Spec.intro (fn := Try.f40) (N := 22) Try.func40 rfl Try.ntmps40 rfl fun B => ?_
  refine XK.seq ?_
  refine XK.region rfl ?_
  refine XO.box rfl fun b2 => ?_
  refine XO.q (Q.assign rfl) ?_
  refine XO.q (Q.assign rfl) ?_
  refine XO.done ?_
  refine XK.seq ?_
  refine XK.block ?_
  refine XK.seq ?_
  refine XK.region rfl ?_
  refine XO.q (Q.ldA [_, _, _, _, _] rfl rfl rfl) ?_
  refine XO.call Try.call71 rfl rfl rfl (genRight g) fun v8 s8 R8 => ?_
  obtain ⟨rfl, rfl⟩ := R8
  dsimp only [List.cons_append, List.nil_append]
  refine XO.q (Q.not rfl) ?_
  refine XO.q (Q.assign rfl) ?_
  refine XO.done ?_
  refine XK.if rfl (fun c0 => ?_) (fun c0 => ?_)
  · have _t0 := True.intro
    refine XK.seq ?_
    refine XK.region rfl ?_
    refine XO.q (Q.assign rfl) ?_
    refine XO.q (Q.assign rfl) ?_
    refine XO.done ?_
    refine XK.rt [] Try.func40 Try.results40 (.t rfl (.t rfl .n)) ?_
    exact ⟨by rw [startQ, if_pos c0], rfl⟩
  · have _t0 := True.intro
    refine XK.seq ?_
    refine XK.region rfl ?_
    refine XO.q (Q.move rfl) ?_
    refine XO.q (Q.lss rfl rfl) ?_
    refine XO.q (Q.move rfl) ?_
    refine XO.q (Quiet.guardF rfl rfl fun g14 p14 => Q.move rfl) ?_
    refine XO.q (Quiet.guardF rfl rfl fun g15 p15 => Q.fieldAddr rfl) ?_
    refine XO.q (Quiet.guardF rfl rfl fun g16 p16 => Q.ld (lzv g16 rfl) rfl) ?_
    refine XO.q (Quiet.guardF rfl rfl fun g17 p17 => Q.gtr (lzv g17 rfl) (lzv g17 rfl)) ?_
    refine XO.q (Q.or rfl (fun hp => lzv hp rfl)) ?_
    refine XO.q (Q.assign rfl) ?_
    refine XO.done ?_
    refine XK.if rfl (fun c1 => ?_) (fun c1 => ?_)
    · have _t1 := True.intro
      refine XK.seq ?_
      refine XK.region rfl ?_
      refine XO.q (Q.assign rfl) ?_
      refine XO.q (Q.assign rfl) ?_
      refine XO.done ?_
      refine XK.rt [] Try.func40 Try.results40 (.t rfl (.t rfl .n)) ?_
      exact ⟨by rw [startQ, if_neg c0, if_pos c1], rfl⟩
    · have _t1 := True.intro
      refine XK.skip ?_
      refine XK.inBlock ?_
      refine XK.seq ?_
      refine XK.region rfl ?_
      refine XO.q (Q.ldA [_, _, _, _, _] rfl rfl rfl) ?_
      refine XO.q (Q.move rfl) ?_
      have gk := genOk_iff.1 (Decidable.of_not_not c0)
      refine XO.call Try.call73 rfl rfl rfl (start_spec g gk f (by omega) (by omega)) fun v21 s21 R21 => ?_
      obtain ⟨rfl, rfl⟩ := R21
      dsimp only [List.cons_append, List.nil_append]
      refine XO.q (Q.assign rfl) ?_
      refine XO.q (Q.assign rfl) ?_
      refine XO.done ?_
      refine XK.rt [] Try.func40 Try.results40 (.t rfl (.t rfl .n)) ?_
      exact ⟨by rw [startQ, if_neg c0, if_neg c1], rfl⟩
theorem RStart_spec (g : BGen) (f : Int) : Spec Try.prog 41 #[genV g, .int .i64 f] [] [] (fun v hs => v = .tuple #[.int .i64 (startQ g f).1, .int .i64 (startQ g f).2] ∧ hs = []) := by
  refine Spec.intro (fn := Try.f41) (N := 37) Try.func41 rfl Try.ntmps41 rfl fun B => ?_
  refine XK.seq ?_
  refine XK.region rfl ?_
  refine XO.box rfl fun b2 => ?_
  refine XO.q (Q.assign rfl) ?_
  refine XO.q (Q.assign rfl) ?_
  refine XO.done ?_
  refine XK.seq ?_
  refine XK.seq ?_
  refine XK.region rfl ?_
  refine XO.q (Q.ldA [_, _, _, _, _] rfl rfl rfl) ?_
  refine XO.call Try.call72 rfl rfl rfl (rightG06 g) fun v9 s9 R9 => ?_
  obtain ⟨rfl, rfl⟩ := R9
  dsimp only [List.cons_append, List.nil_append]
  refine XO.q (Q.not rfl) ?_
  refine XO.done ?_
  refine XK.if rfl (fun c0 => ?_) (fun c0 => ?_)
  · have _t0 := True.intro
    refine XK.seq ?_
    refine XK.region rfl ?_
    refine XO.q (Q.assign rfl) ?_
    refine XO.q (Q.assign rfl) ?_
    refine XO.done ?_
    refine XK.rt [] Try.func41 Try.results41 (.t rfl (.t rfl .n)) ?_
    exact ⟨by rw [startQ, if_pos c0], rfl⟩
  · have _t0 := True.intro
    have gk := genOk_iff.1 (Decidable.of_not_not c0)
    refine XK.skip ?_
    refine XK.seq ?_
    refine XK.seq ?_
    refine XK.region rfl ?_
    refine XO.q (Q.move rfl) ?_
    refine XO.q (Q.lss rfl rfl) ?_
    refine XO.q (Q.move rfl) ?_
    refine XO.q (Quiet.guardF rfl rfl fun g14 p14 => Q.move rfl) ?_
    refine XO.q (Quiet.guardF rfl rfl fun g15 p15 => Q.fieldAddr rfl) ?_
    refine XO.q (Quiet.guardF rfl rfl fun g16 p16 => Q.ld (lzv g16 rfl) rfl) ?_
    refine XO.q (Quiet.guardF rfl rfl fun g17 p17 => Q.gtr (lzv g17 rfl) (lzv g17 rfl)) ?_
    refine XO.q (Q.or rfl (fun hp => lzv hp rfl)) ?_
    refine XO.done ?_
    refine XK.if rfl (fun c1 => ?_) (fun c1 => ?_)
    · have _t1 := True.intro
      refine XK.seq ?_
      refine XK.region rfl ?_
      refine XO.q (Q.assign rfl) ?_
      refine XO.q (Q.assign rfl) ?_
      refine XO.done ?_
      refine XK.rt [] Try.func41 Try.results41 (.t rfl (.t rfl .n)) ?_
      exact ⟨by rw [startQ, if_neg c0, if_pos c1], rfl⟩
    · have _t1 := True.intro
      obtain ⟨m, rfl⟩ := Int.eq_ofNat_of_zero_le (show 0 ≤ f by omega)
      have gd := gk.d0
      have gd1 := gk.d1
      have gq := gk.q0
      have gq1 := gk.q1
      have gt := gk.t1
      refine XK.skip ?_
      refine XK.seq ?_
      refine XK.region rfl ?_
      refine XO.q (Q.assign rfl) ?_
      refine XO.done ?_
      refine XK.seq ?_
      refine XK.seq ?_
      refine XK.region rfl ?_
      refine XO.q (Q.assign rfl) ?_
      refine XO.done ?_
      refine XK.block ?_
      refine XK.while (X := Nat) [4, 5, 6, 7, 19, 20, 21, 22, 23, 24, 25, 26, 27, 28, 29, 30, 31, 32, 33, 34, 35, 36] (fun n => [(6, some (.int .i64 (stepT g n))), (7, some (.int .i64 (n : Nat)))]) (fun n => []) (fun n => (n : Int) ≤ g.tries ∧ n ≤ m) (fun n => m - n) (0) [] rfl ⟨by have := gk.t0; omega, by omega⟩ (.c rfl (.c rfl (.base 0 rfl rfl))) ?_
      rintro n ⟨hn1, hn2⟩ ih0
      dsimp only [List.cons_append, List.nil_append] at ih0 ⊢
      refine XK.seq ?_
      refine XK.seq ?_
      refine XK.region rfl ?_
      refine XO.q (Q.move rfl) ?_
      refine XO.q (Q.fieldAddr rfl) ?_
      refine XO.q (Q.ld rfl rfl) ?_
      refine XO.q (Q.lss rfl rfl) ?_
      refine XO.done ?_
      refine XK.if rfl (fun c2 => ?_) (fun c2 => ?_)
      · have _t2 := True.intro
        have sr := stepT_rng gk n
        refine XK.skip ?_
        refine XK.seq ?_
        refine XK.block ?_
        refine XK.seq ?_
        refine XK.region rfl ?_
        refine XO.q (Q.move rfl) ?_
        refine XO.q (Q.fieldAddr rfl) ?_
        refine XO.q (Q.ld rfl rfl) ?_
        refine XO.q (Q.add rfl rfl ⟨by omega, by omega⟩) ?_
        refine XO.q (Q.assign rfl) ?_
        refine XO.done ?_
        refine XK.seq ?_
        refine XK.seq ?_
        refine XK.region rfl ?_
        refine XO.q (Q.move rfl) ?_
        refine XO.q (Q.move rfl) ?_
        refine XO.q (Q.geq rfl rfl) ?_
        refine XO.done ?_
        refine XK.if rfl (fun c3 => ?_) (fun c3 => ?_)
        · have _t3 := True.intro
          have hnm : n = m := by omega
          subst hnm
          refine XK.seq ?_
          refine XK.region rfl ?_
          refine XO.q (Q.move rfl) ?_
          refine XO.q (Q.assign rfl) ?_
          refine XO.q (Q.assign rfl) ?_
          refine XO.done ?_
          refine XK.rt [] Try.func41 Try.results41 (.t rfl (.t rfl .n)) ?_
          exact ⟨by rw [startQ, if_neg c0, if_neg c1, stepT_start (by omega)], rfl⟩
        · have _t3 := True.intro
          refine XK.skip ?_
          refine XK.region rfl ?_
          refine XO.q (Q.move rfl) ?_
          refine XO.q (Q.fieldAddr rfl) ?_
          refine XO.q (Q.ld rfl rfl) ?_
          refine XO.q (Q.add rfl rfl ⟨by omega, by omega⟩) ?_
          refine XO.q (Q.assign rfl) ?_
          refine XO.done ?_
          refine XK.inBlock ?_
          refine XK.region rfl ?_
          refine XO.q (Q.move rfl) ?_
          refine XO.q (Q.add rfl rfl ⟨by omega, by omega⟩) ?_
          refine XO.q (Q.assign rfl) ?_
          refine XO.done ?_
          exact ih0 (n + 1) _ _ ⟨by omega, by omega⟩ (by first | omega | (dsimp only; omega)) (.c rfl (.c rfl (.base 44 rfl rfl))) inferInstance
      · have _t2 := True.intro
        refine XK.exit rfl ?_
        refine XK.seq ?_
        refine XK.region rfl ?_
        refine XO.q (Q.assign rfl) ?_
        refine XO.q (Q.assign rfl) ?_
        refine XO.done ?_
        refine XK.rt [] Try.func41 Try.results41 (.t rfl (.t rfl .n)) ?_
        exact ⟨by rw [startQ, if_neg c0, if_neg c1, startP, if_pos (by omega)], rfl⟩
theorem Seconds_spec (l : List BSpan) (vl : Value) (hl : PHeap) [il : Arr vl encSpan 2 hl l] : Spec Try.prog 80 #[vl] [] [hl] (fun v hs => ∃ vp kp, v = .tuple #[vp, .int .i64 (loadedP l).2] ∧ hs = [kp] ∧ OArr vp encI 1 3 kp (if (loadedP l).2 = 0 then powers l else [])) := by
  have ll := il.le
  have nI : OArr (.slice none 0 0) encI 1 3 emp ([] : List Int) := OArr.nil (fun _ => rfl)
  refine Spec.intro (fn := Try.f80) (N := 74) Try.func80 rfl Try.ntmps80 rfl fun B => ?_
  refine XK.seq ?_
  refine XK.region rfl ?_
  refine XO.q (Q.assign rfl) ?_
  refine XO.q (Q.assign rfl) ?_
  refine XO.done ?_
  refine XK.seq ?_
  refine XK.seq ?_
  refine XK.region rfl ?_
  refine XO.q (Q.move rfl) ?_
  refine XO.len rfl fun l10 => ?_
  refine XO.q (Q.gtr rfl rfl) ?_
  refine XO.done ?_
  refine XK.if rfl (fun c0 => ?_) (fun c0 => ?_)
  · have _t0 := True.intro
    refine XK.seq ?_
    refine XK.region rfl ?_
    refine XO.q (Q.assign rfl) ?_
    refine XO.q (Q.assign rfl) ?_
    refine XO.done ?_
    refine XK.rt [emp] Try.func80 Try.results80 (.t rfl (.t rfl .n)) ?_
    have e : loadedP l = (0, 2) := by rw [loadedP, if_pos (by omega)]
    rw [e]
    exact ⟨.slice none 0 0, emp, rfl, rfl, nI⟩
  · have _t0 := True.intro
    refine XK.skip ?_
    refine XK.seq ?_
    refine XK.region rfl ?_
    refine XO.q (Q.assign rfl) ?_
    refine XO.done ?_
    refine XK.seq ?_
    refine XK.seq ?_
    refine XK.region rfl ?_
    refine XO.q (Q.assign rfl) ?_
    refine XO.done ?_
    refine XK.block ?_
    refine XK.while (X := Nat) [2, 3, 4, 5, 12, 13, 14, 15, 16, 17, 18, 19, 20, 21, 22, 23, 24, 25, 26, 27, 28, 29, 30, 31, 32, 33, 34, 35, 36, 37, 38, 39, 40, 41, 42, 43, 44, 45, 46, 47] (fun i => [(4, some (.int .i64 (secs l i))), (5, some (.int .i64 (i : Nat)))]) (fun i => []) (fun i => i ≤ l.length ∧ i ≤ 64 ∧ (l.take i).any badSpan = false ∧ 0 ≤ secs l i ∧ secs l i ≤ 3600 * i) (fun i => l.length - i) (0) [] rfl ⟨by omega, by omega, rfl, by simp [secs], by simp [secs]⟩ (.c rfl (.c rfl (.base 0 rfl rfl))) ?_
    rintro i ⟨hi, hi2, ha, hs0, hs1⟩ ih0
    dsimp only [List.cons_append, List.nil_append] at ih0 ⊢
    refine XK.seq ?_
    refine XK.seq ?_
    refine XK.region rfl ?_
    refine XO.q (Q.move rfl) ?_
    refine XO.q (Q.move rfl) ?_
    refine XO.len rfl fun l14 => ?_
    refine XO.q (Q.lss rfl rfl) ?_
    refine XO.done ?_
    refine XK.if rfl (fun c1 => ?_) (fun c1 => ?_)
    · have _t1 := True.intro
      refine XK.skip ?_
      refine XK.seq ?_
      refine XK.block ?_
      refine XK.seq ?_
      refine XK.seq ?_
      refine XK.region rfl ?_
      refine XO.q (Q.move rfl) ?_
      refine XO.q (Q.move rfl) ?_
      refine XO.ix rfl rfl (by omega) (by omega) fun i20 => ?_
      refine XO.q (Q.fieldQ rfl (by first | assumption | omega)) ?_
      refine XO.q (Q.ldE rfl (by first | assumption | omega) rfl) ?_
      refine XO.q (Q.lss rfl rfl) ?_
      refine XO.q (Q.move rfl) ?_
      refine XO.q (Quiet.guardF rfl rfl fun g25 p25 => Q.move rfl) ?_
      refine XO.q (Quiet.guardF rfl rfl fun g26 p26 => Q.move rfl) ?_
      refine XO.q (Quiet.guardF rfl rfl fun g27 p27 => Q.ix (lzv g27 rfl) (lzv g27 rfl) (by omega) (by omega)) ?_
      refine XO.q (Quiet.guardF rfl rfl fun g28 p28 => Q.fieldQ (lzv g28 rfl) (by first | assumption | omega)) ?_
      refine XO.q (Quiet.guardF rfl rfl fun g29 p29 => Q.ldE (lzv g29 rfl) (by first | assumption | omega) rfl) ?_
      refine XO.q (Quiet.guardF rfl rfl fun g30 p30 => Q.gtr (lzv g30 rfl) rfl) ?_
      refine XO.q (Q.or rfl (fun hp => lzv hp rfl)) ?_
      refine XO.q (Q.move rfl) ?_
      refine XO.q (Quiet.guardF rfl rfl fun g33 p33 => Q.move rfl) ?_
      refine XO.q (Quiet.guardF rfl rfl fun g34 p34 => Q.move rfl) ?_
      refine XO.q (Quiet.guardF rfl rfl fun g35 p35 => Q.ix (lzv g35 rfl) (lzv g35 rfl) (by omega) (by omega)) ?_
      refine XO.q (Quiet.guardF rfl rfl fun g36 p36 => Q.fieldQ (lzv g36 rfl) (by first | assumption | omega)) ?_
      refine XO.q (Quiet.guardF rfl rfl fun g37 p37 => Q.ldE (lzv g37 rfl) (by first | assumption | omega) rfl) ?_
      refine XO.gcallF rfl rfl Try.call60 rfl (fun g38 => .c (lzv g38 rfl) (.c rfl .n)) rfl (fun g38 p38 => in06 _ _) ?_
      refine XO.q (Quiet.guardF rfl rfl fun g39 p39 => Q.not (lzv g39 rfl)) ?_
      refine XO.q (Q.or rfl (fun hp => lzv hp rfl)) ?_
      refine XO.done ?_
      refine XK.if rfl (fun c2 => ?_) (fun c2 => ?_)
      · have _t2 := True.intro
        refine XK.seq ?_
        refine XK.region rfl ?_
        refine XO.q (Q.assign rfl) ?_
        refine XO.q (Q.assign rfl) ?_
        refine XO.done ?_
        refine XK.rt [emp] Try.func80 Try.results80 (.t rfl (.t rfl .n)) ?_
        have hb2 : badSpan (l.getD i default) = true := badSpan_ref.2 c2
        have e : loadedP l = (0, 6) := by rw [loadedP, if_neg (by omega), if_pos (List.any_eq_true.2 ⟨_, getD_memB (by omega), hb2⟩)]
        rw [e]
        exact ⟨.slice none 0 0, emp, rfl, rfl, nI⟩
      · have _t2 := True.intro
        have bs : badSpan (l.getD i default) = false := by
          rw [Bool.eq_false_iff]
          intro hh
          have hg := badSpan_ref.1 hh
          exact c2 hg
        have bt := badSpan_false.1 bs
        refine XK.skip ?_
        refine XK.region rfl ?_
        refine XO.q (Q.move rfl) ?_
        refine XO.q (Q.move rfl) ?_
        refine XO.q (Q.move rfl) ?_
        refine XO.ix rfl rfl (by omega) (by omega) fun i44 => ?_
        refine XO.q (Q.fieldQ rfl (by first | assumption | omega)) ?_
        refine XO.q (Q.ldE rfl (by first | assumption | omega) rfl) ?_
        refine XO.q (Q.add rfl rfl ⟨by omega, by omega⟩) ?_
        refine XO.q (Q.assign rfl) ?_
        refine XO.done ?_
        refine XK.inBlock ?_
        refine XK.region rfl ?_
        refine XO.q (Q.move rfl) ?_
        refine XO.q (Q.add rfl rfl ⟨by omega, by omega⟩) ?_
        refine XO.q (Q.assign rfl) ?_
        refine XO.done ?_
        exact ih0 (i + 1) _ _ ⟨by omega, by omega, any_snoc ha (by omega) bs, by rw [secs]; omega, by rw [secs]; omega⟩ (by first | omega | (dsimp only; omega)) (.c rfl (.c rfl (.base 80 rfl rfl))) inferInstance
    · have _t1 := True.intro
      have hil : i = l.length := by omega
      subst hil
      rw [List.take_length] at ha
      refine XK.exit rfl ?_
      refine XK.seq ?_
      refine XK.seq ?_
      refine XK.region rfl ?_
      refine XO.q (Q.move rfl) ?_
      refine XO.q (Q.gtr rfl rfl) ?_
      refine XO.done ?_
      refine XK.if rfl (fun c3 => ?_) (fun c3 => ?_)
      · have _t3 := True.intro
        refine XK.seq ?_
        refine XK.region rfl ?_
        refine XO.q (Q.assign rfl) ?_
        refine XO.q (Q.assign rfl) ?_
        refine XO.done ?_
        refine XK.rt [emp] Try.func80 Try.results80 (.t rfl (.t rfl .n)) ?_
        have e : loadedP l = (0, 60) := by rw [loadedP, if_neg (by omega), if_neg (by rw [ha]; decide), if_pos (by omega)]
        rw [e]
        exact ⟨.slice none 0 0, emp, rfl, rfl, nI⟩
      · have _t3 := True.intro
        have lk : LOk l := loadedP_iff.1 (by rw [loadedP, if_neg (by omega), if_neg (by rw [ha]; decide), if_neg (by omega)])
        have hp20 := powers_len lk
        refine XK.skip ?_
        refine XK.seq ?_
        refine XK.region rfl ?_
        refine XO.q (Q.assign rfl) ?_
        refine XO.done ?_
        refine XK.seq ?_
        refine XK.seq ?_
        refine XK.region rfl ?_
        refine XO.q (Q.assign rfl) ?_
        refine XO.done ?_
        refine XK.block ?_
        refine XK.while (X := Nat × Value × PHeap) [6, 7, 8, 50, 51, 52, 53, 54, 55, 56, 57, 58, 59, 60, 61, 62, 63, 64, 65, 66, 67, 68, 69, 70, 71, 72] (fun ⟨i, vp, kp⟩ => [(6, some (vp)), (7, some (.int .i64 (i : Nat)))]) (fun ⟨i, vp, kp⟩ => [kp]) (fun ⟨i, vp, kp⟩ => i ≤ l.length ∧ OArr vp encI 1 3 kp (powers (l.take i))) (fun ⟨i, vp, kp⟩ => l.length - i) (0, .slice none 0 0, emp) [emp] rfl ⟨by omega, nI⟩ (.c rfl (.c rfl (.base 0 rfl rfl))) ?_
        rintro ⟨i, vp, kp⟩ ⟨hi, OP⟩ ih1
        dsimp only [List.cons_append, List.nil_append] at ih1 ⊢
        refine XK.seq ?_
        refine XK.seq ?_
        refine XK.region rfl ?_
        refine XO.q (Q.move rfl) ?_
        refine XO.q (Q.move rfl) ?_
        refine XO.len rfl fun l52 => ?_
        refine XO.q (Q.lss rfl rfl) ?_
        refine XO.done ?_
        refine XK.if rfl (fun c4 => ?_) (fun c4 => ?_)
        · have _t4 := True.intro
          have sk := lk.s _ (getD_memB (show i < l.length by omega))
          have hct := cnt_take l i (by omega)
          refine XK.skip ?_
          refine XK.seq ?_
          refine XK.block ?_
          refine XK.seq ?_
          refine XK.region rfl ?_
          refine XO.q (Q.assign rfl) ?_
          refine XO.done ?_
          refine XK.block ?_
          refine XK.while (X := Nat × Value × PHeap) [6, 8, 56, 57, 58, 59, 60, 61, 62, 63, 64, 65, 66, 67, 68, 69, 70, 71, 72] (fun ⟨j, vq, kq⟩ => [(6, some (vq)), (8, some (.int .i64 (j : Nat)))]) (fun ⟨j, vq, kq⟩ => [kq]) (fun ⟨j, vq, kq⟩ => (j : Int) ≤ (l.getD i default).seconds ∧ OArr vq encI 1 3 kq (powers (l.take i) ++ List.replicate (j) (l.getD i default).power)) (fun ⟨j, vq, kq⟩ => (l.getD i default).seconds.toNat - j) (0, vp, kp) [kp] rfl ⟨by omega, by rw [List.replicate_zero, List.append_nil]; exact OP⟩ (.c rfl (.c rfl (.base 0 rfl rfl))) ?_
          rintro ⟨j, vq, kq⟩ ⟨hj, OQ⟩ ih2
          dsimp only [List.cons_append, List.nil_append] at ih2 ⊢
          refine XK.seq ?_
          refine XK.seq ?_
          refine XK.region rfl ?_
          refine XO.q (Q.move rfl) ?_
          refine XO.q (Q.move rfl) ?_
          refine XO.q (Q.move rfl) ?_
          refine XO.ix rfl rfl (by omega) (by omega) fun i59 => ?_
          refine XO.q (Q.fieldQ rfl (by first | assumption | omega)) ?_
          refine XO.q (Q.ldE rfl (by first | assumption | omega) rfl) ?_
          refine XO.q (Q.lss rfl rfl) ?_
          refine XO.done ?_
          refine XK.if rfl (fun c5 => ?_) (fun c5 => ?_)
          · have _t5 := True.intro
            obtain ⟨hp1, hp2⟩ := powers_at l (i := i) (j := j) (by omega) (by omega)
            refine XK.skip ?_
            refine XK.seq ?_
            refine XK.block ?_
            refine XK.region rfl ?_
            refine XO.q (Q.move rfl) ?_
            refine XO.q (Q.move rfl) ?_
            refine XO.q (Q.move rfl) ?_
            refine XO.ix rfl rfl (by omega) (by omega) fun i68 => ?_
            refine XO.q (Q.fieldQ rfl (by first | assumption | omega)) ?_
            refine XO.q (Q.ldE rfl (by first | assumption | omega) rfl) ?_
            refine XO.lit [_] [_] [(l.getD i default).power] encI (by rfl) (by rfl) rfl (by rfl) (by exact .c 0 1 rfl rfl rfl (.n _)) (fun _ => rfl) (by rfl) rfl (by infer_instance) rfl fun v71 h71 O71 => ?_
            refine XO.append rfl rfl rfl rfl (by rw [List.length_append, hct, List.length_replicate]; simp; omega) fun v72 h72 O72 => ?_
            refine XO.q (Q.assign rfl) ?_
            refine XO.done ?_
            refine XK.inBlock ?_
            refine XK.region rfl ?_
            refine XO.q (Q.move rfl) ?_
            refine XO.q (Q.add rfl rfl ⟨by omega, by omega⟩) ?_
            refine XO.q (Q.assign rfl) ?_
            refine XO.done ?_
            exact ih2 (j + 1, v72, h72) _ _ ⟨by dsimp only; omega, by dsimp only; rw [List.replicate_succ', ← List.append_assoc]; exact O72⟩ (by first | omega | (dsimp only; omega)) (.c rfl (.c rfl (.base 40 rfl rfl))) inferInstance
          · have _t5 := True.intro
            have hjs : powers (l.take (i + 1)) = (powers (l.take i) ++ List.replicate (j) (l.getD i default).power) := by rw [take_snocB (by omega), powers_append, powers, powers, List.append_nil, show (l.getD i default).seconds.toNat = j by omega]
            refine XK.exit rfl ?_
            refine XK.inBlock ?_
            refine XK.region rfl ?_
            refine XO.q (Q.move rfl) ?_
            refine XO.q (Q.add rfl rfl ⟨by omega, by omega⟩) ?_
            refine XO.q (Q.assign rfl) ?_
            refine XO.done ?_
            exact ih1 (i + 1, vq, kq) _ _ ⟨by dsimp only; omega, by dsimp only; rw [hjs]; exact OQ⟩ (by first | omega | (dsimp only; omega)) (.c rfl (.c rfl (.base 64 rfl rfl))) inferInstance
        · have _t4 := True.intro
          refine XK.exit rfl ?_
          refine XK.seq ?_
          refine XK.region rfl ?_
          refine XO.q (Q.move rfl) ?_
          refine XO.q (Q.assign rfl) ?_
          refine XO.q (Q.assign rfl) ?_
          refine XO.done ?_
          refine XK.rt [kp] Try.func80 Try.results80 (.t rfl (.t rfl .n)) ?_
          have hil : i = l.length := by omega
          rw [hil, List.take_length] at OP
          rw [if_pos (loadedP_iff.2 lk), loadedP_iff.2 lk]
          exact ⟨vp, kp, rfl, rfl, OP⟩
end Go.X

set_option linter.unusedSimpArgs false
set_option linter.unusedVariables false
set_option maxRecDepth 20000
namespace Go.X
open Go.Proofs
theorem copyInts (v : Value) (h : PHeap) (xs : List Int) [s : Arr v encI 1 h xs] (hl : xs.length ≤ 68719476736) : Spec Try.prog 83 #[v] [] [h] (fun v' hs => ∃ h', hs = [h'] ∧ OArr v' encI 1 3 h' xs) := by
  have nI : OArr (.slice none 0 0) encI 1 3 emp ([] : List Int) := OArr.nil (fun _ => rfl)
  refine Spec.intro (fn := Try.f83) (N := 7) Try.func83 rfl Try.ntmps83 rfl fun B => ?_
  refine XK.seq ?_
  refine XK.region rfl ?_
  refine XO.q (Q.assign rfl) ?_
  refine XO.done ?_
  refine XK.seq ?_
  refine XK.region rfl ?_
  refine XO.q (Q.assign rfl) ?_
  refine XO.done ?_
  refine XK.seq ?_
  refine XK.region rfl ?_
  refine XO.q (Q.move rfl) ?_
  refine XO.q (Q.move rfl) ?_
  refine XO.drop (o' := [emp]) ?_
  refine XO.append rfl rfl rfl rfl (by simp; omega) fun v6 h6 O6 => ?_
  refine XO.q (Q.assign rfl) ?_
  refine XO.done ?_
  refine XK.rt [h6] Try.func83 Try.results83 (.t rfl .n) ?_
  exact ⟨h6, rfl, O6⟩
theorem fit_in {b : BBank} {fs : List Int} {i : Nat} : inR (fs.getD i default) (b.gens.getD i default).tries = true ↔ badFail b fs i = false := by
  rw [inR_iff, badFail, Bool.or_eq_false_iff, decide_eq_false_iff_not, decide_eq_false_iff_not]; omega
theorem Rready_spec (b : BBank) (vb vg : Value) (hb hg : PHeap) [ib : Arr vb encBat 4 hb b.bats] [ig : Arr vg encGen 5 hg b.gens] (l : List BSpan) (vl : Value) (hl : PHeap) [il : Arr vl encSpan 2 hl l] (fs : List Int) (vf : Value) (hf : PHeap) [jf : Arr vf encI 1 hf fs] : Spec Try.prog 74 #[.agg #[vb, vg], vl, vf] [] [hb, hg, hl, hf] (fun v hs => ∃ vp kp, v = .tuple #[vp, .int .i64 (readyP b l fs)] ∧ hs = [kp] ∧ OArr vp encI 1 3 kp (if readyP b l fs = 0 then powers l else [])) := by
  have lg := ig.le
  have lf := jf.le
  have nI : OArr (.slice none 0 0) encI 1 3 emp ([] : List Int) := OArr.nil (fun _ => rfl)
  refine Spec.intro (fn := Try.f74) (N := 50) Try.func74 rfl Try.ntmps74 rfl fun B => ?_
  refine XK.seq ?_
  refine XK.region rfl ?_
  refine XO.box rfl fun b3 => ?_
  refine XO.q (Q.assign rfl) ?_
  refine XO.q (Q.assign rfl) ?_
  refine XO.done ?_
  refine XK.seq ?_
  refine XK.seq ?_
  refine XK.region rfl ?_
  refine XO.q (Q.ldA [_, _] rfl rfl rfl) ?_
  refine XO.call Try.call39 rfl rfl rfl (RCheck_spec b vb vg hb hg) fun v13 s13 R13 => ?_
  obtain ⟨rfl, rfl⟩ := R13
  dsimp only [List.cons_append, List.nil_append]
  refine XO.q (Q.assign rfl) ?_
  refine XO.done ?_
  refine XK.seq ?_
  refine XK.region rfl ?_
  refine XO.q (Q.move rfl) ?_
  refine XO.q (Q.neq rfl rfl) ?_
  refine XO.done ?_
  refine XK.if rfl (fun c0 => ?_) (fun c0 => ?_)
  · have _t0 := True.intro
    refine XK.seq ?_
    refine XK.region rfl ?_
    refine XO.q (Q.move rfl) ?_
    refine XO.q (Q.assign rfl) ?_
    refine XO.q (Q.assign rfl) ?_
    refine XO.done ?_
    refine XK.rt [emp] Try.func74 Try.results74 (.t rfl (.t rfl .n)) ?_
    have e : readyP b l fs = bcheck b := by rw [readyP, if_pos c0]
    rw [if_neg (by rw [e]; exact c0), e]
    exact ⟨.slice none 0 0, emp, rfl, rfl, nI⟩
  · have _t0 := True.intro
    refine XK.skip ?_
    refine XK.seq ?_
    refine XK.region rfl ?_
    refine XO.q (Q.move rfl) ?_
    refine XO.call Try.call80 rfl rfl rfl (Seconds_spec l vl hl) fun v19 s19 R19 => ?_
    obtain ⟨vp, kp, rfl, rfl, OP⟩ := R19
    dsimp only [List.cons_append, List.nil_append]
    refine XO.q (Q.move rfl) ?_
    refine XO.q (Q.extract rfl rfl) ?_
    refine XO.q (Q.extract rfl rfl) ?_
    refine XO.q (Q.assign rfl) ?_
    refine XO.q (Q.assign rfl) ?_
    refine XO.done ?_
    refine XK.seq ?_
    refine XK.seq ?_
    refine XK.region rfl ?_
    refine XO.q (Q.move rfl) ?_
    refine XO.q (Q.neq rfl rfl) ?_
    refine XO.done ?_
    refine XK.if rfl (fun c1 => ?_) (fun c1 => ?_)
    · have _t1 := True.intro
      refine XK.seq ?_
      refine XK.region rfl ?_
      refine XO.q (Q.move rfl) ?_
      refine XO.q (Q.assign rfl) ?_
      refine XO.q (Q.assign rfl) ?_
      refine XO.done ?_
      refine XK.rt [emp] Try.func74 Try.results74 (.t rfl (.t rfl .n)) ?_
      have e : readyP b l fs = (loadedP l).2 := by rw [readyP, if_neg c0, if_pos c1]
      rw [if_neg (by rw [e]; exact c1), e]
      exact ⟨.slice none 0 0, emp, rfl, rfl, nI⟩
    · have _t1 := True.intro
      have e0 := Decidable.of_not_not c1
      rw [if_pos e0] at OP
      refine XK.skip ?_
      refine XK.seq ?_
      refine XK.seq ?_
      refine XK.region rfl ?_
      refine XO.q (Q.move rfl) ?_
      refine XO.len rfl fun l26 => ?_
      refine XO.q (Q.fieldAddr rfl) ?_
      refine XO.q (Q.ld rfl rfl) ?_
      refine XO.len rfl fun l29 => ?_
      refine XO.q (Q.neq rfl rfl) ?_
      refine XO.done ?_
      refine XK.if rfl (fun c2 => ?_) (fun c2 => ?_)
      · have _t2 := True.intro
        refine XK.seq ?_
        refine XK.region rfl ?_
        refine XO.q (Q.assign rfl) ?_
        refine XO.q (Q.assign rfl) ?_
        refine XO.done ?_
        refine XK.rt [emp] Try.func74 Try.results74 (.t rfl (.t rfl .n)) ?_
        have e : readyP b l fs = 1 := by rw [readyP, if_neg c0, if_neg c1, if_pos (by rw [fitP, decide_eq_false (by omega), Bool.false_and]; decide)]
        rw [if_neg (by rw [e]; decide), e]
        exact ⟨.slice none 0 0, emp, rfl, rfl, nI⟩
      · have _t2 := True.intro
        refine XK.skip ?_
        refine XK.seq ?_
        refine XK.seq ?_
        refine XK.region rfl ?_
        refine XO.q (Q.assign rfl) ?_
        refine XO.done ?_
        refine XK.block ?_
        refine XK.while (X := Nat) [6, 7, 11, 31, 32, 33, 34, 35, 36, 37, 38, 39, 40, 41, 42, 43, 44, 45, 46, 47, 48] (fun i => [(11, some (.int .i64 (i : Nat)))]) (fun i => []) (fun i => i ≤ fs.length ∧ allTo (fun i => !badFail b fs i) i = true) (fun i => fs.length - i) (0) [] rfl ⟨by omega, rfl⟩ (.c rfl (.base 0 rfl rfl)) ?_
        rintro i ⟨hi, ha⟩ ih0
        dsimp only [List.cons_append, List.nil_append] at ih0 ⊢
        refine XK.seq ?_
        refine XK.seq ?_
        refine XK.region rfl ?_
        refine XO.q (Q.move rfl) ?_
        refine XO.q (Q.move rfl) ?_
        refine XO.len rfl fun l33 => ?_
        refine XO.q (Q.lss rfl rfl) ?_
        refine XO.done ?_
        refine XK.if rfl (fun c3 => ?_) (fun c3 => ?_)
        · have _t3 := True.intro
          have fl : i < b.gens.length := by omega
          refine XK.skip ?_
          refine XK.seq ?_
          refine XK.block ?_
          refine XK.seq ?_
          refine XK.drawn [0, 1, 2, 3, 4, 5, 6, 7, 8, 9, 11] [b3] [] (.q 0 (.q 1 (.q 2 (.q 3 (.q 4 (.q 5 (.q 6 (.q 7 (.q 8 (.q 9 (.br 10 true (.q 11 .done) .stop))))))))))) Try.mixed rfl (by kernel_rfl) ?_
          refine XT.q rfl rfl (Q.move rfl) ?_
          refine XT.q rfl rfl (Q.move rfl) ?_
          refine XT.ix rfl rfl rfl rfl (by omega) (by omega) fun i39 => ?_
          refine XT.q rfl rfl (Q.ldE rfl (by first | assumption | omega) rfl) ?_
          refine XT.q rfl rfl (Q.fieldAddr rfl) ?_
          refine XT.q rfl rfl (Q.ld rfl rfl) ?_
          refine XT.q rfl rfl (Q.move rfl) ?_
          refine XT.ix rfl rfl rfl rfl (by omega) (by omega) fun i44 => ?_
          refine XT.q rfl rfl (Q.fieldQ rfl (by first | assumption | omega)) ?_
          refine XT.q rfl rfl (Q.ldE rfl (by first | assumption | omega) rfl) ?_
          refine XT.call rfl rfl Try.call60 rfl rfl rfl (in06 _ _) (fun v47 s47 R47 => ?_) XT.stop
          obtain ⟨rfl, rfl⟩ := R47
          dsimp only [List.cons_append, List.nil_append]
          refine ⟨inferInstance, ?_⟩
          refine XT.q rfl rfl (Q.not rfl) ?_
          refine XT.done ?_
          refine XK.if rfl (fun c4 => ?_) (fun c4 => ?_)
          · have _t4 := True.intro
            refine XK.seq ?_
            refine XK.region rfl ?_
            refine XO.q (Q.assign rfl) ?_
            refine XO.q (Q.assign rfl) ?_
            refine XO.done ?_
            refine XK.rt [emp] Try.func74 Try.results74 (.t rfl (.t rfl .n)) ?_
            have e : readyP b l fs = 1 := by rw [readyP, if_neg c0, if_neg c1, if_pos (by rw [fitP, allTo_false (s := i) (by omega) (by rw [Bool.not_eq_false']; cases hb : badFail b fs i with | true => rfl | false => exact absurd (fit_in.2 hb) c4), Bool.and_false]; decide)]
            rw [if_neg (by rw [e]; decide), e]
            exact ⟨.slice none 0 0, emp, rfl, rfl, nI⟩
          · have _t4 := True.intro
            refine XK.skip ?_
            refine XK.inBlock ?_
            refine XK.region rfl ?_
            refine XO.q (Q.move rfl) ?_
            refine XO.q (Q.add rfl rfl ⟨by omega, by omega⟩) ?_
            refine XO.q (Q.assign rfl) ?_
            refine XO.done ?_
            exact ih0 (i + 1) _ _ ⟨by omega, by rw [allTo_succ, ha, Bool.true_and, Bool.not_eq_true']; exact fit_in.1 (Decidable.of_not_not c4)⟩ (by first | omega | (dsimp only; omega)) (.c rfl (.base 41 rfl rfl)) inferInstance
        · have _t3 := True.intro
          refine XK.exit rfl ?_
          refine XK.seq ?_
          refine XK.region rfl ?_
          refine XO.q (Q.move rfl) ?_
          refine XO.q (Q.assign rfl) ?_
          refine XO.q (Q.assign rfl) ?_
          refine XO.done ?_
          refine XK.rt [kp] Try.func74 Try.results74 (.t rfl (.t rfl .n)) ?_
          have hil : i = b.gens.length := by omega
          subst hil
          have e : readyP b l fs = 0 := by rw [readyP, if_neg c0, if_neg c1, if_neg (by rw [fitP, ha, decide_eq_true (by omega)]; decide)]
          rw [if_pos e, e]
          exact ⟨vp, kp, rfl, rfl, OP⟩
theorem startQ_ok {g : BGen} (gk : GenOk g) {f : Int} (h0 : 0 ≤ f) (h1 : f ≤ g.tries) : startQ g f = (startP g f, 0) := by
  rw [startQ, if_neg (by rw [genOk_iff.2 gk]; decide), if_neg (by omega)]
theorem Rcan_spec (b : BBank) (vb vg : Value) (hb hg : PHeap) [ib : Arr vb encBat 4 hb b.bats] [ig : Arr vg encGen 5 hg b.gens] (fs : List Int) (vf : Value) (hf : PHeap) [jf : Arr vf encI 1 hf fs] (ok : BOk b) (fk : FOk b fs) (t : Int) (ht0 : 0 ≤ t) (ht : t ≤ 20000) : Spec Try.prog 82 #[.agg #[vb, vg], vf, .int .i64 t] [] [hb, hg, hf] (fun v hs => ∃ kc, hs = [kc] ∧ OArr v encI 1 3 kc (cansTo b.gens (startsP b fs) t b.gens.length)) := by
  have lg := ig.le
  have n6 := ok.ng
  have nf := fk.n
  have nI : OArr (.slice none 0 0) encI 1 3 emp ([] : List Int) := OArr.nil (fun _ => rfl)
  have sl : (startsP b fs).length = b.gens.length := startsTo_len _ _ _
  have sat : ∀ i, i < b.gens.length → (startsP b fs).getD i default = startP (b.gens.getD i default) (fs.getD i default) := fun i hi => startsTo_at _ _ _ hi
  refine Spec.intro (fn := Try.f82) (N := 56) Try.func82 rfl Try.ntmps82 rfl fun B => ?_
  refine XK.seq ?_
  refine XK.region rfl ?_
  refine XO.box rfl fun b3 => ?_
  refine XO.q (Q.assign rfl) ?_
  refine XO.done ?_
  refine XK.seq ?_
  refine XK.region rfl ?_
  refine XO.q (Q.assign rfl) ?_
  refine XO.done ?_
  refine XK.seq ?_
  refine XK.seq ?_
  refine XK.region rfl ?_
  refine XO.q (Q.assign rfl) ?_
  refine XO.done ?_
  refine XK.block ?_
  refine XK.while (X := Nat × Value × PHeap) [7, 8, 9, 10, 11, 12, 13, 14, 15, 16, 17, 18, 19, 20, 21, 22, 23, 24, 25, 26, 27, 28, 29, 30, 31, 32, 33, 34, 35, 36, 37, 38, 39, 40, 41, 42, 43, 44, 45, 46, 47, 48, 49, 50, 51, 52, 53, 54] (fun ⟨i, vc, kc⟩ => [(7, some (vc)), (8, some (.int .i64 (i : Nat)))]) (fun ⟨i, vc, kc⟩ => [kc]) (fun ⟨i, vc, kc⟩ => i ≤ b.gens.length ∧ OArr vc encI 1 3 kc (cansTo b.gens (startsP b fs) t (i))) (fun ⟨i, vc, kc⟩ => b.gens.length - i) (0, .slice none 0 0, emp) [emp] rfl ⟨by omega, nI⟩ (.c rfl (.c rfl (.base 0 rfl rfl))) ?_
  rintro ⟨i, vc, kc⟩ ⟨hi, OC⟩ ih0
  dsimp only [List.cons_append, List.nil_append] at ih0 ⊢
  refine XK.seq ?_
  refine XK.seq ?_
  refine XK.region rfl ?_
  refine XO.q (Q.move rfl) ?_
  refine XO.q (Q.fieldAddr rfl) ?_
  refine XO.q (Q.ld rfl rfl) ?_
  refine XO.len rfl fun l16 => ?_
  refine XO.q (Q.lss rfl rfl) ?_
  refine XO.done ?_
  refine XK.if rfl (fun c0 => ?_) (fun c0 => ?_)
  · have _t0 := True.intro
    have gk := ok.gen _ (getD_memB (show i < b.gens.length by omega))
    have fi := fk.f i (by omega)
    have sp := startP_ok gk fi.1 fi.2
    have cl := cansTo_len b.gens (startsP b fs) t i
    have gr0 := gk.r0
    have gr1 := gk.r1
    have si := sat i (by omega)
    refine XK.skip ?_
    refine XK.seq ?_
    refine XK.block ?_
    refine XK.seq ?_
    refine XK.region rfl ?_
    refine XO.q (Q.fieldAddr rfl) ?_
    refine XO.q (Q.ld rfl rfl) ?_
    refine XO.q (Q.move rfl) ?_
    refine XO.ix rfl rfl (by omega) (by omega) fun i23 => ?_
    refine XO.q (Q.ldEA [_, _, _, _, _] rfl (by first | assumption | omega) rfl rfl) ?_
    refine XO.alloc fun b9 => ?_
    refine XO.st rfl rfl rfl ?_
    refine XO.done ?_
    refine XK.seq ?_
    refine XK.drawn [0, 1, 2, 3, 4, 6, 7, 8, 9, 10] [b9] [] (.q 0 (.q 1 (.q 2 (.q 3 (.q 4 (.br 5 true (.q 6 (.q 7 (.q 8 (.q 9 (.q 10 .done))))) .stop)))))) Try.mixed rfl (by kernel_rfl) ?_
    refine XT.q rfl rfl (Q.ldA [_, _, _, _, _] rfl rfl rfl) ?_
    refine XT.q rfl rfl (Q.move rfl) ?_
    refine XT.q rfl rfl (Q.move rfl) ?_
    refine XT.ix rfl rfl rfl rfl (by omega) (by omega) fun i29 => ?_
    refine XT.q rfl rfl (Q.ldE rfl (by first | assumption | omega) rfl) ?_
    refine XT.call rfl rfl Try.call41 rfl rfl rfl (RStart_spec (b.gens.getD i default) (fs.getD i default)) (fun v31 s31 R31 => ?_) XT.stop
    obtain ⟨rfl, rfl⟩ := R31
    dsimp only [List.cons_append, List.nil_append]
    refine ⟨inferInstance, ?_⟩
    rw [startQ_ok gk fi.1 fi.2]
    dsimp only
    refine XT.q rfl rfl (Q.move rfl) ?_
    refine XT.q rfl rfl (Q.extract rfl rfl) ?_
    refine XT.q rfl rfl (Q.extract rfl rfl) ?_
    refine XT.q rfl rfl (Q.assign rfl) ?_
    refine XT.q rfl rfl (Q.assign rfl) ?_
    refine XT.done ?_
    refine XK.seq ?_
    refine XK.region rfl ?_
    refine XO.q (Q.assign rfl) ?_
    refine XO.done ?_
    refine XK.seq ?_
    refine XK.seq ?_
    refine XK.region rfl ?_
    refine XO.q (Q.move rfl) ?_
    refine XO.q (Q.geq rfl rfl) ?_
    refine XO.q (Q.move rfl) ?_
    refine XO.q (Quiet.guardT rfl rfl fun g37 p37 => Q.move rfl) ?_
    refine XO.q (Quiet.guardT rfl rfl fun g38 p38 => Q.move rfl) ?_
    refine XO.q (Quiet.guardT rfl rfl fun g39 p39 => Q.geq (lzv g39 rfl) (lzv g39 rfl)) ?_
    refine XO.q (Q.and rfl (fun hp => lzv hp rfl)) ?_
    refine XO.done ?_
    refine XK.meet (X := Unit) [12, 41, 42, 43, 44, 45, 46, 47, 48, 49, 50] (fun _u => [(12, some (.int .i64 (canAt b.gens (startsP b fs) t i)))]) (fun _u => []) (fun _u => True) [] ?_ ?_
    · rintro _u _
      dsimp only [List.cons_append, List.nil_append]
      refine XK.region rfl ?_
      refine XO.q (Q.move rfl) ?_
      refine XO.q (Q.move rfl) ?_
      refine XO.lit [_] [_] [canAt b.gens (startsP b fs) t i] encI (by rfl) (by rfl) rfl (by rfl) (by exact .c 0 1 rfl rfl rfl (.n _)) (fun _ => rfl) (by rfl) rfl (by infer_instance) rfl fun v53 h53 O53 => ?_
      refine XO.append rfl rfl rfl rfl (by first | omega | (simp; omega)) fun v54 h54 O54 => ?_
      refine XO.q (Q.assign rfl) ?_
      refine XO.done ?_
      refine XK.inBlock ?_
      refine XK.region rfl ?_
      refine XO.q (Q.move rfl) ?_
      refine XO.q (Q.add rfl rfl ⟨by omega, by omega⟩) ?_
      refine XO.q (Q.assign rfl) ?_
      refine XO.done ?_
      exact ih0 (i + 1, v54, h54) _ _ ⟨by dsimp only; omega, O54⟩ (by first | omega | (dsimp only; omega)) (.c rfl (.c rfl (.base 100 rfl rfl))) inferInstance
    · intro mt1
      dsimp only [List.cons_append, List.nil_append] at mt1
      refine XK.if rfl (fun c1 => ?_) (fun c1 => ?_)
      · have _t1 := True.intro
        have m := mulLe (a := (b.gens.getD i default).ramp) (b := t - (startP (b.gens.getD i default) (fs.getD i default)) + 1) (m := 1000000) (n := 20002) gk.r0 gk.r1 (by omega) (by omega)
        refine XK.region rfl ?_
        refine XO.q (Q.fieldAddr rfl) ?_
        refine XO.q (Q.ld rfl rfl) ?_
        refine XO.q (Q.fieldAddr rfl) ?_
        refine XO.q (Q.ld rfl rfl) ?_
        refine XO.q (Q.move rfl) ?_
        refine XO.q (Q.move rfl) ?_
        refine XO.q (Q.sub rfl rfl ⟨by omega, by omega⟩) ?_
        refine XO.q (Q.add rfl rfl ⟨by omega, by omega⟩) ?_
        refine XO.q (Q.mul rfl rfl ⟨by omega, by omega⟩) ?_
        refine XO.q (Q.min rfl rfl) ?_
        refine XO.q (Q.assign rfl) ?_
        refine XO.done ?_
        rw [show canAt b.gens (startsP b fs) t i = min (b.gens.getD i default).power ((b.gens.getD i default).ramp * (t - (startP (b.gens.getD i default) (fs.getD i default)) + 1)) by rw [canAt, si, canP, if_neg (by omega)]] at mt1
        exact mt1 (()) _ _ trivial (.c rfl (.base 11 rfl rfl)) inferInstance
      · have _t1 := True.intro
        refine XK.skip ?_
        rw [show canAt b.gens (startsP b fs) t i = 0 by rw [canAt, si, canP, if_pos (by omega)]] at mt1
        exact mt1 (()) _ _ trivial (.c rfl (.base 0 rfl rfl)) inferInstance
  · have _t0 := True.intro
    have hil : i = b.gens.length := by omega
    refine XK.exit rfl ?_
    refine XK.seq ?_
    refine XK.region rfl ?_
    refine XO.q (Q.move rfl) ?_
    refine XO.q (Q.assign rfl) ?_
    refine XO.done ?_
    refine XK.rt [kc] Try.func82 Try.results82 (.t rfl .n) ?_
    subst hil
    exact ⟨kc, rfl, OC⟩
end Go.X

set_option linter.unusedSimpArgs false
set_option linter.unusedVariables false
set_option maxRecDepth 20000
namespace Go.X
open Go.Proofs
set_option maxHeartbeats 1000000 in
theorem one_spec (b : BBank) (vb vg : Value) (hb hg : PHeap) [ib : Arr vb encBat 4 hb b.bats] [ig : Arr vg encGen 5 hg b.gens] (ok : BOk b) (en : List Int) (ve : Value) (he : PHeap) [ie : Arr ve encI 1 he en] (ab : List Int) (va : Value) (ha : PHeap) [ia : Arr va encI 1 ha ab] (load : Int) (l0 : 0 ≤ load) (l1 : load ≤ 1000000)
    (nab : ab.length ≤ 6) (hab : ∀ j, j < ab.length → 0 ≤ ab.getD j default ∧ ab.getD j default ≤ 1000000) (s : BSt) (hen : en = energiesP s.cells) (hk : CellsOk b.bats.length s.cells) (hbt : Bats b.bats s.cells) :
    Spec Try.prog 81 #[.agg #[vb, vg], ve, va, .int .i64 load] [] [hb, hg, he, ha] (fun v hs => ∃ v1 v2 k1 k2, v = .tuple #[v1, v2, .int .i64 (oneP b.bats en ab load).2.2] ∧ hs = [k1, k2] ∧ OArr v1 encI 1 3 k1 (oneP b.bats en ab load).1 ∧ OArr v2 encI 1 3 k2 (oneP b.bats en ab load).2.1) := by
  have lb := ib.le
  have lg := ig.le
  have n8 := ok.nb
  have nel : en.length = b.bats.length := by rw [hen]; exact (energies_rng hk).1
  have g0 := fun i hi => rg0_ok hab l0 i hi
  have s0 := fun i hi => spR_ok hab l0 i hi
  have gN := g0 ab.length (Nat.le_refl _)
  have sN := s0 ab.length (Nat.le_refl _)
  have rv := fun i (hi : i ≤ b.bats.length) => rgive_ok hk hbt gN.2.1 hi
  have rt := fun i (hi : i ≤ b.bats.length) => rtake_ok hk hbt gN.1 sN.1 hi
  rw [← hen] at rv rt
  have glen := gN.1.len
  refine Spec.intro (fn := Try.f81) (N := 167) Try.func81 rfl Try.ntmps81 rfl fun B => ?_
  refine XK.seq ?_
  refine XK.region rfl ?_
  refine XO.box rfl fun b4 => ?_
  refine XO.q (Q.assign rfl) ?_
  refine XO.q (Q.assign rfl) ?_
  refine XO.q (Q.assign rfl) ?_
  refine XO.done ?_
  refine XK.seq ?_
  refine XK.region rfl ?_
  refine XO.q (Q.move rfl) ?_
  refine XO.call Try.call83 rfl rfl rfl (copyInts ve he en (by omega)) fun v23 s23 R23 => ?_
  obtain ⟨k23, rfl, O23⟩ := R23
  dsimp only [List.cons_append, List.nil_append]
  refine XO.q (Q.assign rfl) ?_
  refine XO.done ?_
  refine XK.seq ?_
  refine XK.region rfl ?_
  refine XO.q (Q.move rfl) ?_
  refine XO.len rfl fun l25 => ?_
  refine XO.make encI (0) rfl rfl rfl (by omega) (by omega) (fun _ => rfl) rfl rfl rfl (by dsimp only [encI]; infer_instance) fun v26 h26 O26 => ?_
  refine XO.q (Q.assign rfl) ?_
  refine XO.done ?_
  refine XK.seq ?_
  refine XK.region rfl ?_
  refine XO.q (Q.move rfl) ?_
  refine XO.q (Q.assign rfl) ?_
  refine XO.done ?_
  refine XK.seq ?_
  refine XK.region rfl ?_
  refine XO.q (Q.assign rfl) ?_
  refine XO.done ?_
  refine XK.seq ?_
  refine XK.seq ?_
  refine XK.region rfl ?_
  refine XO.q (Q.assign rfl) ?_
  refine XO.done ?_
  refine XK.block ?_
  refine XK.while (X := Nat × PHeap) [13, 14, 15, 28, 29, 30, 31, 32, 33, 34, 35, 36, 37, 38, 39, 40, 41, 42, 43, 44, 45, 46, 47, 48, 49, 50, 51, 52, 53, 54, 55, 56, 57, 58, 59] (fun ⟨i, kg⟩ => [(13, some (.int .i64 (rg0 ab load (i)).2)), (14, some (.int .i64 (spR (cL ab) (rg0 ab load) i))), (15, some (.int .i64 (i : Nat)))]) (fun ⟨i, kg⟩ => [kg]) (fun ⟨i, kg⟩ => i ≤ ab.length ∧ OArr v26 encI 1 3 kg (rg0 ab load (i)).1) (fun ⟨i, kg⟩ => ab.length - i) (0, h26) [h26] rfl ⟨by omega, O26⟩ (.c rfl (.c rfl (.c rfl (.base 0 rfl rfl)))) ?_
  rintro ⟨i, kg⟩ ⟨hi, OG⟩ ih0
  dsimp only [List.cons_append, List.nil_append] at ih0 ⊢
  have gi := g0 i hi
  have gil := gi.1.len
  have si := s0 i hi
  refine XK.seq ?_
  refine XK.seq ?_
  refine XK.region rfl ?_
  refine XO.q (Q.move rfl) ?_
  refine XO.q (Q.move rfl) ?_
  refine XO.len rfl fun l30 => ?_
  refine XO.q (Q.lss rfl rfl) ?_
  refine XO.done ?_
  refine XK.if rfl (fun c0 => ?_) (fun c0 => ?_)
  · have _t0 := True.intro
    have gz := gi.2.2.2 (by omega)
    have es := rg0_succ gz
    have sl : ((rg0 ab load (i)).1.set i (min (rg0 ab load (i)).2 (ab.getD i default))).length = (rg0 ab load (i)).1.length := List.length_set
    have ai := hab i (by omega)
    refine XK.skip ?_
    refine XK.seq ?_
    refine XK.block ?_
    refine XK.seq ?_
    refine XK.region rfl ?_
    refine XO.q (Q.move rfl) ?_
    refine XO.q (Q.move rfl) ?_
    refine XO.q (Q.move rfl) ?_
    refine XO.q (Q.move rfl) ?_
    refine XO.q (Q.move rfl) ?_
    refine XO.ix rfl rfl (by omega) (by omega) fun i39 => ?_
    refine XO.q (Q.ldE rfl (by first | assumption | omega) rfl) ?_
    refine XO.q (Q.min rfl rfl) ?_
    refine XO.ix rfl rfl (by omega) (by omega) fun i42 => ?_
    refine XO.stE _ rfl rfl rfl (by assumption) rfl rfl fun h8_9 O8_9 => ?_
    refine XO.done ?_
    refine XK.seq ?_
    refine XK.region rfl ?_
    refine XO.q (Q.move rfl) ?_
    refine XO.q (Q.move rfl) ?_
    refine XO.q (Q.move rfl) ?_
    refine XO.ix rfl rfl (by omega) (by omega) fun i46 => ?_
    refine XO.q (Q.ldE rfl (by first | assumption | omega) rfl) ?_
    rw [getD_set' (by omega), if_pos rfl]
    refine XO.q (Q.sub rfl rfl ⟨by omega, by omega⟩) ?_
    refine XO.q (Q.assign rfl) ?_
    refine XO.done ?_
    refine XK.drawn [0, 1, 2, 3, 4, 5, 6, 7, 8, 9, 10, 11] [] [h8_9] (.q 0 (.q 1 (.q 2 (.q 3 (.q 4 (.q 5 (.q 6 (.q 7 (.q 8 (.q 9 (.q 10 (.q 11 .done)))))))))))) Try.mixed rfl (by kernel_rfl) ?_
    refine XT.q rfl rfl (Q.move rfl) ?_
    refine XT.q rfl rfl (Q.move rfl) ?_
    refine XT.q rfl rfl (Q.move rfl) ?_
    refine XT.ix rfl rfl rfl rfl (by omega) (by omega) fun i52 => ?_
    refine XT.q rfl rfl (Q.ldE rfl (by first | assumption | omega) rfl) ?_
    refine XT.q rfl rfl (Q.add rfl rfl ⟨by omega, by omega⟩) ?_
    refine XT.q rfl rfl (Q.move rfl) ?_
    refine XT.q rfl rfl (Q.move rfl) ?_
    refine XT.ix rfl rfl rfl rfl (by omega) (by omega) fun i57 => ?_
    refine XT.q rfl rfl (Q.ldE rfl (by first | assumption | omega) rfl) ?_
    rw [getD_set' (by omega), if_pos rfl]
    refine XT.q rfl rfl (Q.sub rfl rfl ⟨by omega, by omega⟩) ?_
    refine XT.q rfl rfl (Q.assign rfl) ?_
    refine XT.done ?_
    refine XK.inBlock ?_
    refine XK.region rfl ?_
    refine XO.q (Q.move rfl) ?_
    refine XO.q (Q.add rfl rfl ⟨by omega, by omega⟩) ?_
    refine XO.q (Q.assign rfl) ?_
    refine XO.done ?_
    rw [show (rg0 ab load (i)).2 - min (rg0 ab load (i)).2 (ab.getD i default) = (rg0 ab load (i + 1)).2 by rw [es]]
    exact ih0 (i + 1, h8_9) _ _ ⟨by dsimp only; omega, by dsimp only; rw [es]; exact O8_9⟩ (by first | omega | (dsimp only; omega)) (.c rfl (.c rfl (.c rfl (.base 73 rfl rfl)))) inferInstance
  · have _t0 := True.intro
    have hil : i = ab.length := by omega
    subst hil
    clear ih0 gi gil si
    refine XK.exit rfl ?_
    refine XK.seq ?_
    refine XK.seq ?_
    refine XK.region rfl ?_
    refine XO.q (Q.move rfl) ?_
    refine XO.q (Q.gtr rfl rfl) ?_
    refine XO.done ?_
    refine XK.if rfl (fun c1 => ?_) (fun c1 => ?_)
    · have _t1 := True.intro
      refine XK.seq ?_
      refine XK.seq ?_
      refine XK.region rfl ?_
      refine XO.q (Q.assign rfl) ?_
      refine XO.done ?_
      refine XK.block ?_
      refine XK.while (X := Nat × PHeap) [13, 16, 17, 62, 63, 64, 65, 66, 67, 68, 69, 70, 71, 72, 73, 74, 75, 76, 77, 78, 79, 80, 81, 82, 83, 84, 85, 86, 87, 88, 89, 90, 91] (fun ⟨i, kn⟩ => [(13, some (.int .i64 (rgiveTo b.bats en (rg0 ab load (ab.length)).2 (i)).2)), (16, some (.int .i64 (i : Nat)))]) (fun ⟨i, kn⟩ => [kn]) (fun ⟨i, kn⟩ => i ≤ b.bats.length ∧ OArr v23 encI 1 3 kn (rgiveTo b.bats en (rg0 ab load (ab.length)).2 (i)).1) (fun ⟨i, kn⟩ => b.bats.length - i) (0, k23) [k23] rfl ⟨by omega, O23⟩ (.c rfl (.c rfl (.base 0 rfl rfl))) ?_
      rintro ⟨i, kn⟩ ⟨hi, ON⟩ ih1
      dsimp only [List.cons_append, List.nil_append] at ih1 ⊢
      obtain ⟨r1, r2, r3⟩ := rv i hi
      refine XK.seq ?_
      refine XK.seq ?_
      refine XK.region rfl ?_
      refine XO.q (Q.move rfl) ?_
      refine XO.q (Q.move rfl) ?_
      refine XO.len rfl fun l64 => ?_
      refine XO.q (Q.lss rfl rfl) ?_
      refine XO.done ?_
      refine XK.if rfl (fun c2 => ?_) (fun c2 => ?_)
      · have _t2 := True.intro
        have bi := ok.bat _ (getD_memB (show i < b.bats.length by omega))
        have p0 := bi.p0
        have p1 := bi.p1
        have ri := r3 i (by omega)
        refine XK.skip ?_
        refine XK.seq ?_
        refine XK.block ?_
        refine XK.seq ?_
        refine XK.drawn [0, 1, 2, 3, 4, 5, 6, 7, 8, 9, 10, 11, 12] [b4] [kn] (.q 0 (.q 1 (.q 2 (.q 3 (.q 4 (.q 5 (.q 6 (.q 7 (.q 8 (.q 9 (.q 10 (.q 11 (.q 12 .done))))))))))))) Try.mixed rfl (by kernel_rfl) ?_
        refine XT.q rfl rfl (Q.move rfl) ?_
        refine XT.q rfl rfl (Q.move rfl) ?_
        refine XT.q rfl rfl (Q.move rfl) ?_
        refine XT.ix rfl rfl rfl rfl (by omega) (by omega) fun i71 => ?_
        refine XT.q rfl rfl (Q.ldE rfl (by first | assumption | omega) rfl) ?_
        refine XT.q rfl rfl (Q.fieldAddr rfl) ?_
        refine XT.q rfl rfl (Q.ld rfl rfl) ?_
        refine XT.q rfl rfl (Q.move rfl) ?_
        refine XT.ix rfl rfl rfl rfl (by omega) (by omega) fun i76 => ?_
        refine XT.q rfl rfl (Q.fieldQ rfl (by first | assumption | omega)) ?_
        refine XT.q rfl rfl (Q.ldE rfl (by first | assumption | omega) rfl) ?_
        refine XT.q rfl rfl (Q.min3 rfl rfl rfl) ?_
        refine XT.q rfl rfl (Q.assign rfl) ?_
        refine XT.done ?_
        refine XK.seq ?_
        refine XK.region rfl ?_
        refine XO.q (Q.move rfl) ?_
        refine XO.q (Q.move rfl) ?_
        refine XO.q (Q.move rfl) ?_
        refine XO.q (Q.move rfl) ?_
        refine XO.ix rfl rfl (by omega) (by omega) fun i84 => ?_
        refine XO.q (Q.ldE rfl (by first | assumption | omega) rfl) ?_
        refine XO.q (Q.move rfl) ?_
        refine XO.q (Q.sub rfl rfl ⟨by omega, by omega⟩) ?_
        refine XO.ix rfl rfl (by omega) (by omega) fun i88 => ?_
        refine XO.stE _ rfl rfl rfl (by assumption) rfl rfl fun h16_9 O16_9 => ?_
        refine XO.done ?_
        refine XK.region rfl ?_
        refine XO.q (Q.move rfl) ?_
        refine XO.q (Q.move rfl) ?_
        refine XO.q (Q.sub rfl rfl ⟨by omega, by omega⟩) ?_
        refine XO.q (Q.assign rfl) ?_
        refine XO.done ?_
        refine XK.inBlock ?_
        refine XK.region rfl ?_
        refine XO.q (Q.move rfl) ?_
        refine XO.q (Q.add rfl rfl ⟨by omega, by omega⟩) ?_
        refine XO.q (Q.assign rfl) ?_
        refine XO.done ?_
        exact ih1 (i + 1, h16_9) _ _ ⟨by dsimp only; omega, by dsimp only; exact O16_9⟩ (by first | omega | (dsimp only; omega)) (.c rfl (.c rfl (.base 68 rfl rfl))) inferInstance
      · have _t2 := True.intro
        refine XK.exit rfl ?_
        refine XK.seq ?_
        refine XK.region rfl ?_
        refine XO.q (Q.move rfl) ?_
        refine XO.q (Q.move rfl) ?_
        refine XO.q (Q.move rfl) ?_
        refine XO.q (Q.assign rfl) ?_
        refine XO.q (Q.assign rfl) ?_
        refine XO.q (Q.assign rfl) ?_
        refine XO.done ?_
        refine XK.rt [kn, kg] Try.func81 Try.results81 (.t rfl (.t rfl (.t rfl .n))) ?_
        have hil : i = b.bats.length := by omega
        subst hil
        have e : oneP b.bats en ab load = ((rgiveTo b.bats en (rg0 ab load (ab.length)).2 (b.bats.length)).1, (rg0 ab load (ab.length)).1, (rgiveTo b.bats en (rg0 ab load (ab.length)).2 (b.bats.length)).2) := by rw [oneP, if_pos c1, nel]
        rw [e]
        exact ⟨v23, v26, kn, kg, rfl, rfl, ON, OG⟩
    · have _t1 := True.intro
      refine XK.skip ?_
      refine XK.seq ?_
      refine XK.seq ?_
      refine XK.region rfl ?_
      refine XO.q (Q.assign rfl) ?_
      refine XO.done ?_
      refine XK.block ?_
      refine XK.while (X := Nat × PHeap × PHeap) [14, 18, 19, 20, 21, 95, 96, 97, 98, 99, 100, 101, 102, 103, 104, 105, 106, 107, 108, 109, 110, 111, 112, 113, 114, 115, 116, 117, 118, 119, 120, 121, 122, 123, 124, 125, 126, 127, 128, 129, 130, 131, 132, 133, 134, 135, 136, 137, 138, 139, 140, 141, 142, 143, 144, 145, 146, 147, 148, 149, 150, 151, 152, 153, 154, 155, 156, 157, 158, 159, 160, 161, 162, 163, 164] (fun ⟨i, kn, kg⟩ => [(14, some (.int .i64 (rtakeTo b.bats (cL ab) ab.length ⟨en, (rg0 ab load (ab.length)).1, spR (cL ab) (rg0 ab load) ab.length⟩ (i)).spare)), (18, some (.int .i64 (i : Nat)))]) (fun ⟨i, kn, kg⟩ => [kn, kg]) (fun ⟨i, kn, kg⟩ => i ≤ b.bats.length ∧ OArr v23 encI 1 3 kn (rtakeTo b.bats (cL ab) ab.length ⟨en, (rg0 ab load (ab.length)).1, spR (cL ab) (rg0 ab load) ab.length⟩ (i)).now ∧ OArr v26 encI 1 3 kg (rtakeTo b.bats (cL ab) ab.length ⟨en, (rg0 ab load (ab.length)).1, spR (cL ab) (rg0 ab load) ab.length⟩ (i)).gives) (fun ⟨i, kn, kg⟩ => b.bats.length - i) (0, k23, kg) [k23, kg] rfl ⟨by omega, O23, OG⟩ (.c rfl (.c rfl (.base 0 rfl rfl))) ?_
      rintro ⟨i, kn, kg⟩ ⟨hi, ON, OG2⟩ ih2
      dsimp only [List.cons_append, List.nil_append] at ih2 ⊢
      obtain ⟨r1, r2, r3, r4⟩ := rt i hi
      refine XK.seq ?_
      refine XK.seq ?_
      refine XK.region rfl ?_
      refine XO.q (Q.move rfl) ?_
      refine XO.q (Q.move rfl) ?_
      refine XO.len rfl fun l97 => ?_
      refine XO.q (Q.lss rfl rfl) ?_
      refine XO.done ?_
      refine XK.if rfl (fun c3 => ?_) (fun c3 => ?_)
      · have _t3 := True.intro
        have bi := ok.bat _ (getD_memB (show i < b.bats.length by omega))
        have p0 := bi.c0
        have p1 := bi.c1
        have p2 := bi.f1
        have p3 := bi.e0
        have p4 := bi.ef
        have ri := r3 i (by omega)
        have rx := rtx_ok (bats := b.bats) (r := (rtakeTo b.bats (cL ab) ab.length ⟨en, (rg0 ab load (ab.length)).1, spR (cL ab) (rg0 ab load) ab.length⟩ (i))) (i := i) r2.1 p0 ri.2.1
        have rxx := rx
        unfold rtx at rxx
        refine XK.skip ?_
        refine XK.seq ?_
        refine XK.block ?_
        refine XK.seq ?_
        refine XK.drawn [0, 1, 2, 3, 4, 5, 6, 7, 8, 9, 10, 11, 12, 13, 14, 15, 16, 17, 18, 19] [b4] [kn] (.q 0 (.q 1 (.q 2 (.q 3 (.q 4 (.q 5 (.q 6 (.q 7 (.q 8 (.q 9 (.q 10 (.q 11 (.q 12 (.q 13 (.q 14 (.q 15 (.q 16 (.q 17 (.q 18 (.q 19 .done)))))))))))))))))))) Try.mixed rfl (by kernel_rfl) ?_
        refine XT.q rfl rfl (Q.move rfl) ?_
        refine XT.q rfl rfl (Q.fieldAddr rfl) ?_
        refine XT.q rfl rfl (Q.ld rfl rfl) ?_
        refine XT.q rfl rfl (Q.move rfl) ?_
        refine XT.ix rfl rfl rfl rfl (by omega) (by omega) fun i105 => ?_
        refine XT.q rfl rfl (Q.fieldQ rfl (by first | assumption | omega)) ?_
        refine XT.q rfl rfl (Q.ldE rfl (by first | assumption | omega) rfl) ?_
        refine XT.q rfl rfl (Q.fieldAddr rfl) ?_
        refine XT.q rfl rfl (Q.ld rfl rfl) ?_
        refine XT.q rfl rfl (Q.move rfl) ?_
        refine XT.ix rfl rfl rfl rfl (by omega) (by omega) fun i111 => ?_
        refine XT.q rfl rfl (Q.fieldQ rfl (by first | assumption | omega)) ?_
        refine XT.q rfl rfl (Q.ldE rfl (by first | assumption | omega) rfl) ?_
        refine XT.q rfl rfl (Q.move rfl) ?_
        refine XT.q rfl rfl (Q.move rfl) ?_
        refine XT.ix rfl rfl rfl rfl (by omega) (by omega) fun i116 => ?_
        refine XT.q rfl rfl (Q.ldE rfl (by first | assumption | omega) rfl) ?_
        refine XT.q rfl rfl (Q.sub rfl rfl ⟨by omega, by omega⟩) ?_
        refine XT.q rfl rfl (Q.min3 rfl rfl rfl) ?_
        refine XT.q rfl rfl (Q.assign rfl) ?_
        refine XT.done ?_
        refine XK.seq ?_
        refine XK.region rfl ?_
        refine XO.q (Q.move rfl) ?_
        refine XO.q (Q.move rfl) ?_
        refine XO.q (Q.move rfl) ?_
        refine XO.q (Q.move rfl) ?_
        refine XO.ix rfl rfl (by omega) (by omega) fun i124 => ?_
        refine XO.q (Q.ldE rfl (by first | assumption | omega) rfl) ?_
        refine XO.q (Q.move rfl) ?_
        refine XO.q (Q.add rfl rfl ⟨by omega, by omega⟩) ?_
        refine XO.ix rfl rfl (by omega) (by omega) fun i128 => ?_
        refine XO.stE _ rfl rfl rfl (by assumption) rfl rfl fun h23_9 O23_9 => ?_
        refine XO.done ?_
        refine XK.seq ?_
        refine XK.region rfl ?_
        refine XO.q (Q.move rfl) ?_
        refine XO.q (Q.move rfl) ?_
        refine XO.q (Q.sub rfl rfl ⟨by omega, by omega⟩) ?_
        refine XO.q (Q.assign rfl) ?_
        refine XO.done ?_
        refine XK.seq ?_
        refine XK.region rfl ?_
        refine XO.q (Q.assign rfl) ?_
        refine XO.done ?_
        refine XK.block ?_
        refine XK.while (X := Nat × PHeap) [19, 20, 21, 132, 133, 134, 135, 136, 137, 138, 139, 140, 141, 142, 143, 144, 145, 146, 147, 148, 149, 150, 151, 152, 153, 154, 155, 156, 157, 158, 159, 160, 161, 162, 163, 164] (fun ⟨k, kq⟩ => [(19, some (.int .i64 (genTo (cL ab) (rtakeTo b.bats (cL ab) ab.length ⟨en, (rg0 ab load (ab.length)).1, spR (cL ab) (rg0 ab load) ab.length⟩ (i)).gives (rtx b.bats (rtakeTo b.bats (cL ab) ab.length ⟨en, (rg0 ab load (ab.length)).1, spR (cL ab) (rg0 ab load) ab.length⟩ (i)) i) (k)).2)), (20, some (.int .i64 (k : Nat)))]) (fun ⟨k, kq⟩ => [kq]) (fun ⟨k, kq⟩ => k ≤ ab.length ∧ OArr v26 encI 1 3 kq (genTo (cL ab) (rtakeTo b.bats (cL ab) ab.length ⟨en, (rg0 ab load (ab.length)).1, spR (cL ab) (rg0 ab load) ab.length⟩ (i)).gives (rtx b.bats (rtakeTo b.bats (cL ab) ab.length ⟨en, (rg0 ab load (ab.length)).1, spR (cL ab) (rg0 ab load) ab.length⟩ (i)) i) (k)).1) (fun ⟨k, kq⟩ => ab.length - k) (0, kg) [kg] rfl ⟨by omega, OG2⟩ (.c rfl (.c rfl (.base 0 rfl rfl))) ?_
        rintro ⟨k, kq⟩ ⟨hkn, OQ⟩ ih3
        dsimp only [List.cons_append, List.nil_append] at ih3 ⊢
        have qk := genTo_ok r4 rx.1 k hkn
        have qkl := qk.1.len
        refine XK.seq ?_
        refine XK.seq ?_
        refine XK.region rfl ?_
        refine XO.q (Q.move rfl) ?_
        refine XO.q (Q.move rfl) ?_
        refine XO.len rfl fun l134 => ?_
        refine XO.q (Q.lss rfl rfl) ?_
        refine XO.q (Q.move rfl) ?_
        refine XO.q (Quiet.guardT rfl rfl fun g137 p137 => Q.move rfl) ?_
        refine XO.q (Quiet.guardT rfl rfl fun g138 p138 => Q.gtr (lzv g138 rfl) rfl) ?_
        refine XO.q (Q.and rfl (fun hp => lzv hp rfl)) ?_
        refine XO.done ?_
        refine XK.if rfl (fun c4 => ?_) (fun c4 => ?_)
        · have _t4 := True.intro
          have qb := qk.1.b k (by omega)
          have ai := hab k (by omega)
          have ec : cL ab k = ab.getD k default := rfl
          rw [ec] at qb
          refine XK.skip ?_
          refine XK.seq ?_
          refine XK.block ?_
          refine XK.seq ?_
          refine XK.drawn [0, 1, 2, 3, 4, 5, 6, 7, 8, 9, 10, 11] [] [kq] (.q 0 (.q 1 (.q 2 (.q 3 (.q 4 (.q 5 (.q 6 (.q 7 (.q 8 (.q 9 (.q 10 (.q 11 .done)))))))))))) Try.mixed rfl (by kernel_rfl) ?_
          refine XT.q rfl rfl (Q.move rfl) ?_
          refine XT.q rfl rfl (Q.move rfl) ?_
          refine XT.q rfl rfl (Q.move rfl) ?_
          refine XT.ix rfl rfl rfl rfl (by omega) (by omega) fun i145 => ?_
          refine XT.q rfl rfl (Q.ldE rfl (by first | assumption | omega) rfl) ?_
          refine XT.q rfl rfl (Q.move rfl) ?_
          refine XT.q rfl rfl (Q.move rfl) ?_
          refine XT.ix rfl rfl rfl rfl (by omega) (by omega) fun i149 => ?_
          refine XT.q rfl rfl (Q.ldE rfl (by first | assumption | omega) rfl) ?_
          refine XT.q rfl rfl (Q.sub rfl rfl ⟨by omega, by omega⟩) ?_
          refine XT.q rfl rfl (Q.min rfl rfl) ?_
          refine XT.q rfl rfl (Q.assign rfl) ?_
          refine XT.done ?_
          refine XK.seq ?_
          refine XK.region rfl ?_
          refine XO.q (Q.move rfl) ?_
          refine XO.q (Q.move rfl) ?_
          refine XO.q (Q.move rfl) ?_
          refine XO.q (Q.move rfl) ?_
          refine XO.ix rfl rfl (by omega) (by omega) fun i157 => ?_
          refine XO.q (Q.ldE rfl (by first | assumption | omega) rfl) ?_
          refine XO.q (Q.move rfl) ?_
          refine XO.q (Q.add rfl rfl ⟨by omega, by omega⟩) ?_
          refine XO.ix rfl rfl (by omega) (by omega) fun i161 => ?_
          refine XO.stE _ rfl rfl rfl (by assumption) rfl rfl fun h29_9 O29_9 => ?_
          refine XO.done ?_
          refine XK.region rfl ?_
          refine XO.q (Q.move rfl) ?_
          refine XO.q (Q.move rfl) ?_
          refine XO.q (Q.sub rfl rfl ⟨by omega, by omega⟩) ?_
          refine XO.q (Q.assign rfl) ?_
          refine XO.done ?_
          refine XK.inBlock ?_
          refine XK.region rfl ?_
          refine XO.q (Q.move rfl) ?_
          refine XO.q (Q.add rfl rfl ⟨by omega, by omega⟩) ?_
          refine XO.q (Q.assign rfl) ?_
          refine XO.done ?_
          exact ih3 (k + 1, h29_9) _ _ ⟨by dsimp only; omega, by dsimp only; exact O29_9⟩ (by first | omega | (dsimp only; omega)) (.c rfl (.c rfl (.base 74 rfl rfl))) inferInstance
        · have _t4 := True.intro
          have gx := gen_exit r4 rx.1 hkn (fun h => c4 ⟨by omega, h.2⟩)
          refine XK.exit rfl ?_
          refine XK.inBlock ?_
          refine XK.region rfl ?_
          refine XO.q (Q.move rfl) ?_
          refine XO.q (Q.add rfl rfl ⟨by omega, by omega⟩) ?_
          refine XO.q (Q.assign rfl) ?_
          refine XO.done ?_
          exact ih2 (i + 1, h23_9, kq) _ _ ⟨by dsimp only; omega, by dsimp only; exact O23_9, by dsimp only; show OArr _ _ _ _ _ (genTo _ _ _ _).1; rw [gx]; exact OQ⟩ (by first | omega | (dsimp only; omega)) (.c rfl (.c rfl (.base 164 rfl rfl))) inferInstance
      · have _t3 := True.intro
        have hil : i = b.bats.length := by omega
        subst hil
        refine XK.exit rfl ?_
        refine XK.seq ?_
        refine XK.region rfl ?_
        refine XO.q (Q.move rfl) ?_
        refine XO.q (Q.move rfl) ?_
        refine XO.q (Q.assign rfl) ?_
        refine XO.q (Q.assign rfl) ?_
        refine XO.q (Q.assign rfl) ?_
        refine XO.done ?_
        refine XK.rt [kn, kg] Try.func81 Try.results81 (.t rfl (.t rfl (.t rfl .n))) ?_
        have e : oneP b.bats en ab load = ((rtakeTo b.bats (cL ab) ab.length ⟨en, (rg0 ab load (ab.length)).1, spR (cL ab) (rg0 ab load) ab.length⟩ (b.bats.length)).now, (rtakeTo b.bats (cL ab) ab.length ⟨en, (rg0 ab load (ab.length)).1, spR (cL ab) (rg0 ab load) ab.length⟩ (b.bats.length)).gives, 0) := by rw [oneP, if_neg c1, nel]
        rw [e]
        exact ⟨v23, v26, kn, kg, rfl, rfl, ON, OG2⟩
end Go.X
