/- Contracts of functions of the program, each proved by a walk through its operations. No condition but those that stand in each theorem. -/
import Derived.Test.YtfenlpoaphbfgaaK9
import Derived.Test.YtfenlpoaphbfgaaK8
import Derived.Test.YtfenlpoaphbfgaaP7
set_option linter.unusedSimpArgs false
set_option linter.unusedVariables false
set_option maxRecDepth 3000
namespace Go.X
open Go.Proofs
theorem keeps1 (b : Nat) (vi vc vr : Value) (hi : PHeap) (ins : List Bool) [si : Arr vi encB 1 hi ins] (x : Int) (hx : x < ins.length) : Spec Try.prog 68 #[.int .i64 x, ptr b 0] [] [blk b [vi, vc, vr] 44, hi]
    (fun v hs => v = .bool (bad ins x) ∧ hs = []) := by
  refine Spec.intro (fn := Try.f68) (N := 14) Try.func68 rfl Try.ntmps68 rfl fun B => ?_
  refine XK.seq ?_
  refine XK.region rfl ?_
  refine XO.q (Q.assign rfl) ?_
  refine XO.done ?_
  refine XK.seq ?_
  refine XK.region rfl ?_
  refine XO.q (Q.move rfl) ?_
  refine XO.q (Q.lss rfl rfl) ?_
  refine XO.q (Q.move rfl) ?_
  refine XO.q (Quiet.guardF rfl rfl fun g7 p7 => Q.fieldAddr rfl) ?_
  refine XO.q (Quiet.guardF rfl rfl fun g8 p8 => Q.ld (lzv g8 rfl) rfl) ?_
  refine XO.q (Quiet.guardF rfl rfl fun g9 p9 => Q.move rfl) ?_
  refine XO.q (Quiet.guardF rfl rfl fun g10 p10 => Q.ix (lzv g10 rfl) (lzv g10 rfl) (by omega) (by omega)) ?_
  refine XO.q (Quiet.guardF rfl rfl fun g11 p11 => Q.ldE (lzv g11 rfl) (by first | assumption | omega) rfl) ?_
  refine XO.q (Quiet.guardF rfl rfl fun g12 p12 => Q.not (lzv g12 rfl)) ?_
  refine XO.q (Q.or rfl (fun hp => lzv hp rfl)) ?_
  refine XO.q (Q.assign rfl) ?_
  refine XO.done ?_
  refine XK.rt [] Try.func68 Try.results68 (.t rfl .n) ?_
  exact ⟨rfl, rfl⟩
theorem keeps_spec (S C K : Nat) (next : List Int) (good : List Bool) (ok : Ok S C K next good) (vn vg : Value) (hn : PHeap) [sn : Arr vn encI 1 hn next] (vi vc vr : Value) (hi : PHeap) (ins : List Bool) [si : Arr vi encB 1 hi ins] [oc : One vc] [orr : One vr] (hlen : ins.length = S) (s u : Nat) (hs : s < S) (hu : u < C) :
    Spec Try.prog 47 #[.agg #[vi, vc, vr], .agg #[.int .i64 (S : Nat), .int .i64 (C : Nat), .int .i64 (K : Nat), vn, vg], .int .i64 (s : Nat), .int .i64 (u : Nat)] [] [hn, hi] (fun v hs => v = .bool (keepsP next C K ins s u) ∧ hs = []) := by
  have hmem : ∀ x ∈ leads next C K s u, x < ins.length := fun x hx => by
    have := ok.inr x (List.mem_of_mem_drop (List.mem_of_mem_take hx))
    omega
  refine Spec.intro (fn := Try.f47) (N := 16) Try.func47 rfl Try.ntmps47 rfl fun B => ?_
  refine XK.seq ?_
  refine XK.region rfl ?_
  refine XO.box rfl fun b4 => ?_
  refine XO.box rfl fun b5 => ?_
  refine XO.q (Q.assign rfl) ?_
  refine XO.done ?_
  refine XK.seq ?_
  refine XK.region rfl ?_
  refine XO.q (Q.ldA [_, _, _, _, _] rfl rfl rfl) ?_
  refine XO.q (Q.move rfl) ?_
  refine XO.q (Q.move rfl) ?_
  refine XO.call Try.call40 rfl rfl rfl (leads_spec S C K next good ok vn vg hn s u hs hu) fun v12 s12 R12 => ?_
  obtain ⟨rfl, A12⟩ := R12
  dsimp only [List.cons_append, List.nil_append]
  refine XO.q (Q.func (fun _ he => rfl) (fun _ he => evs_rel he rfl)) ?_
  refine XO.call Try.call63 rfl rfl rfl (containsFuncI v12 hn (leads next C K s u) 68 [ptr b4 0] [blk b4 [vi, vc, vr] 44, hi] _ Try.call68 (fun x hx => keeps1 b4 vi vc vr hi ins x (hmem x hx))) fun v14 s14 R14 => ?_
  obtain ⟨rfl, rfl⟩ := R14
  dsimp only [List.cons_append, List.nil_append]
  refine XO.q (Q.not rfl) ?_
  refine XO.q (Q.assign rfl) ?_
  refine XO.done ?_
  refine XK.rt [] Try.func47 Try.results47 (.t rfl .n) ?_
  exact ⟨rfl, rfl⟩
theorem safe1 (b : Nat) (vi vc vr : Value) (hi : PHeap) (ins : List Bool) [si : Arr vi encB 1 hi ins] :
    It Try.prog (.func (.func 92) #[] #[ptr b 0]) ((insL ins).map fun s => [.int .i64 (s : Nat)]) [blk b [vi, vc, vr] 44, hi] := by
  intro f Hr QQ X hy q hq
  have hcl : ∀ args w, (callFunc 92 args).run Try.prog w = .ok (.enter 92 args) w := Try.call92
  have hap : [] ++ [f] ++ [ptr b 0] = [f, ptr b 0] := rfl
  refine VSpec.fn (P := Try.prog) (g := 92) (fst := []) (vs := [f]) (cap := [ptr b 0]) (A := [f, ptr b 0]) (Hm := [q]) hcl hap ?_
  dsimp only [List.cons_append, List.nil_append]
  have hle := si.le
  rw [List.length_map] at *
  have hcall : ∀ s, s < ins.length → ins.getD s default = true → ∀ q, QQ ((List.range s).filter fun s => ins.getD s false).length q →
      VSpec Try.prog f [.int .i64 (s : Nat)] [q] Hr (fun v hs => ∃ bb q', v = .bool bb ∧ hs = [q'] ∧ (bb = true → QQ (((List.range s).filter fun s => ins.getD s false).length + 1) q') ∧ (bb = false → X q')) := by
    intro s hs hp q hq
    obtain ⟨h1, h2⟩ := filter_at (p := fun s => ins.getD s false) hs hp
    have := hy _ (by exact h1) q hq
    rw [List.getD_eq_getElem?_getD, List.getElem?_map] at this
    unfold insL at this
    rw [h2] at this
    exact this
  refine Spec.intro (fn := Try.f92) (N := 21) Try.func92 rfl Try.ntmps92 rfl fun B => ?_
  refine XK.seq ?_
  refine XK.region rfl ?_
  refine XO.q (Q.fieldAddr rfl) ?_
  refine XO.q (Q.ld rfl rfl) ?_
  refine XO.len rfl fun l7 => ?_
  refine XO.q (Q.move rfl) ?_
  refine XO.done ?_
  refine XK.block ?_
  refine XK.while (X := Nat × PHeap) [3, 4, 8, 9, 10, 11, 12, 13, 14, 15, 16, 17, 18, 19, 20] (fun ⟨s, q1⟩ => [(8, some (.int .i64 (s : Nat)))]) (fun ⟨s, q1⟩ => [q1]) (fun ⟨s, q1⟩ => s ≤ ins.length ∧ QQ ((List.range s).filter fun s => ins.getD s false).length q1) (fun ⟨s, q1⟩ => ins.length - s) (0, q) [q] rfl ⟨by omega, hq⟩ (.c rfl (.base 0 rfl rfl)) ?_
  rintro ⟨s, q1⟩ ⟨hs, hQ⟩ ih0
  dsimp only [List.cons_append, List.nil_append] at ih0 ⊢
  refine XK.seq ?_
  refine XK.region rfl ?_
  refine XO.q (Q.lss rfl rfl) ?_
  refine XO.done ?_
  refine XK.seq ?_
  refine XK.if rfl (fun c0 => ?_) (fun c0 => ?_)
  · have _t0 := True.intro
    refine XK.skip ?_
    refine XK.seq ?_
    refine XK.block ?_
    refine XK.seq ?_
    refine XK.region rfl ?_
    refine XO.q (Q.move rfl) ?_
    refine XO.ix rfl rfl (by omega) (by omega) fun i11 => ?_
    refine XO.q (Q.ldE rfl (by first | assumption | omega) rfl) ?_
    refine XO.q (Q.assign rfl) ?_
    refine XO.q (Q.assign rfl) ?_
    refine XO.done ?_
    refine XK.seq ?_
    refine XK.region rfl ?_
    refine XO.q (Q.move rfl) ?_
    refine XO.q (Q.move rfl) ?_
    refine XO.q (Quiet.guardT rfl rfl fun g15 p15 => Q.move rfl) ?_
    refine XO.q (Quiet.guardT rfl rfl fun g16 p16 => Q.move rfl) ?_
    refine XO.gvcall rfl rfl (fun g17 => lzv g17 rfl) (fun g17 => .c (lzv g17 rfl) .n) (fun g17 => hcall s (by omega) g17 q1 hQ) (fun g17 v17 s17 R17 => ?_) (fun g17 => ?_)
    · have _tb := True.intro
      obtain ⟨bb, q2, rfl, rfl, hT, hF⟩ := R17
      dsimp only [List.cons_append, List.nil_append]
      refine XO.q (Quiet.guardT rfl rfl fun g18 p18 => Q.not rfl) ?_
      refine XO.q (Q.and rfl (fun hp => lzv hp rfl)) ?_
      refine XO.done ?_
      refine XK.if rfl (fun c1 => ?_) (fun c1 => ?_)
      · have _t1 := True.intro
        refine XK.rt [q2] Try.func92 Try.results92 (.n) ?_
        exact ⟨q2, rfl, .inr (hF (by cases bb <;> simp_all))⟩
      · have _t1 := True.intro
        refine XK.skip ?_
        refine XK.inBlock ?_
        refine XK.region rfl ?_
        refine XO.q (Q.add rfl rfl ⟨by omega, by omega⟩) ?_
        refine XO.q (Q.move rfl) ?_
        refine XO.done ?_
        exact ih0 (s + 1, q2) _ _ (by refine ⟨by dsimp only; omega, ?_⟩; dsimp only; rw [filter_succ, if_pos (show ins.getD s false = true from g17)]; refine hT ?_; cases bb <;> simp_all) (by first | omega | (dsimp only; omega)) (.c rfl (.base 31 rfl rfl)) inferInstance
    · have _tb := True.intro
      refine XO.q (Quiet.guardT (v := .bool false) rfl rfl fun g18 p18 => absurd g18 g17) ?_
      refine XO.q (Q.and rfl (fun hp => lzv hp rfl)) ?_
      refine XO.done ?_
      refine XK.if rfl (fun c2 => ?_) (fun c2 => ?_)
      · have _t2 := True.intro
        refine XK.rt [q1] Try.func92 Try.results92 (.n) ?_
        exact absurd c2.1 g17
      · have _t2 := True.intro
        refine XK.skip ?_
        refine XK.inBlock ?_
        refine XK.region rfl ?_
        refine XO.q (Q.add rfl rfl ⟨by omega, by omega⟩) ?_
        refine XO.q (Q.move rfl) ?_
        refine XO.done ?_
        exact ih0 (s + 1, q1) _ _ (by refine ⟨by dsimp only; omega, ?_⟩; dsimp only; rw [filter_succ, if_neg (show ¬ ins.getD s false = true from g17)]; exact hQ) (by first | omega | (dsimp only; omega)) (.c rfl (.base 31 rfl rfl)) inferInstance
  · have _t0 := True.intro
    refine XK.exit rfl ?_
    refine XK.fn [q1] Try.func92 Try.results92 (.n) ?_
    have hss : s = ins.length := by omega
    subst hss
    exact ⟨q1, rfl, .inl hQ⟩
theorem safe_spec (vi vc vr : Value) [oi : One vi] [oc : One vc] [orr : One vr] : Spec Try.prog 67 #[.agg #[vi, vc, vr]] [] [] (fun v hs => ∃ b, v = .func (.func 92) #[] #[ptr b 0] ∧ hs = [blk b [vi, vc, vr] 44]) := by
  refine Spec.intro (fn := Try.f67) (N := 4) Try.func67 rfl Try.ntmps67 rfl fun B => ?_
  refine XK.seq ?_
  refine XK.region rfl ?_
  refine XO.box rfl fun b1 => ?_
  refine XO.q (Q.assign rfl) ?_
  refine XO.done ?_
  refine XK.seq ?_
  refine XK.region rfl ?_
  refine XO.q (Q.func (fun _ he => rfl) (fun _ he => evs_rel he rfl)) ?_
  refine XO.q (Q.assign rfl) ?_
  refine XO.done ?_
  refine XK.rt [blk b1 [vi, vc, vr] 44] Try.func67 Try.results67 (.t rfl .n) ?_
  exact ⟨b1, rfl, rfl⟩
end Go.X
