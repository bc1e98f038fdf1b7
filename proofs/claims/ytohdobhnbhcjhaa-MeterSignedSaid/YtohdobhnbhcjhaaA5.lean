/- A part of the proof: a small program logic, plain laws and contracts of functions, each proved by a walk through its operations. No condition but those that stand in each theorem. -/
import Derived.Test.YtohdobhnbhcjhaaA4
set_option linter.unusedSimpArgs false
set_option linter.unusedVariables false
set_option maxRecDepth 20000
namespace Go.X
open Go.Proofs
theorem RMix_spec (x y : Int) : Spec Try.prog 30 #[.int .u64 x, .int .u64 y] [] [] (fun v hs => v = .int .u64 (mixP x y) ∧ hs = []) := by
  refine Spec.intro (fn := Try.f30) (N := 22) Try.func30 rfl Try.ntmps30 rfl fun B => ?_
  refine XK.seq ?_
  refine XK.region rfl ?_
  refine XO.q (Q.assign rfl) ?_
  refine XO.done ?_
  refine XK.seq ?_
  refine XK.region rfl ?_
  refine XO.q (Q.move rfl) ?_
  refine XO.q (Q.move rfl) ?_
  refine XO.q (Q.xorW rfl rfl) ?_
  refine XO.q (Q.assign rfl) ?_
  refine XO.done ?_
  refine XK.seq ?_
  refine XK.region rfl ?_
  refine XO.q (Q.move rfl) ?_
  refine XO.q (Q.mulW rfl rfl) ?_
  refine XO.q (Q.assign rfl) ?_
  refine XO.done ?_
  refine XK.seq ?_
  refine XK.region rfl ?_
  refine XO.q (Q.move rfl) ?_
  refine XO.q (Q.move rfl) ?_
  refine XO.q (Q.shrW rfl rfl (by omega)) ?_
  refine XO.q (Q.xorW rfl rfl) ?_
  refine XO.q (Q.assign rfl) ?_
  refine XO.done ?_
  refine XK.seq ?_
  refine XK.region rfl ?_
  refine XO.q (Q.move rfl) ?_
  refine XO.q (Q.mulW rfl rfl) ?_
  refine XO.q (Q.assign rfl) ?_
  refine XO.done ?_
  refine XK.seq ?_
  refine XK.region rfl ?_
  refine XO.q (Q.move rfl) ?_
  refine XO.q (Q.move rfl) ?_
  refine XO.q (Q.shrW rfl rfl (by omega)) ?_
  refine XO.q (Q.xorW rfl rfl) ?_
  refine XO.q (Q.assign rfl) ?_
  refine XO.done ?_
  refine XK.seq ?_
  refine XK.region rfl ?_
  refine XO.q (Q.move rfl) ?_
  refine XO.q (Q.assign rfl) ?_
  refine XO.done ?_
  refine XK.rt [] Try.func30 Try.results30 (.t rfl .n) ?_
  exact ⟨rfl, rfl⟩
theorem Rsign_spec (key last : Int) (r : MRd) : Spec Try.prog 71 #[.int .u64 key, .int .u64 last, .agg #[.int .i64 r.meter, .int .i64 r.hour, .int .i64 r.value]] [] [] (fun v hs => v = .int .u64 (sigP key last r) ∧ hs = []) := by
  refine Spec.intro (fn := Try.f71) (N := 22) Try.func71 rfl Try.ntmps71 rfl fun B => ?_
  refine XK.seq ?_
  refine XK.region rfl ?_
  refine XO.box rfl fun b5 => ?_
  refine XO.q (Q.assign rfl) ?_
  refine XO.done ?_
  refine XK.seq ?_
  refine XK.drawn [0, 1, 2, 3, 5, 6, 7, 9, 10, 11, 13, 15] [b5] [] (.q 0 (.q 1 (.q 2 (.q 3 (.q 5 (.q 6 (.q 7 (.q 9 (.q 10 (.q 11 (.q 13 (.br 4 true (.br 8 true (.br 12 true (.br 14 true (.q 15 .done) .stop) .stop) .stop) .stop)))))))))))) Try.mixed rfl (by kernel_rfl) ?_
  refine XT.q rfl rfl (Q.move rfl) ?_
  refine XT.q rfl rfl (Q.fieldAddr rfl) ?_
  refine XT.q rfl rfl (Q.ld rfl rfl) ?_
  refine XT.q rfl rfl (Q.conv rfl) ?_
  refine XT.q rfl rfl (Q.fieldAddr rfl) ?_
  refine XT.q rfl rfl (Q.ld rfl rfl) ?_
  refine XT.q rfl rfl (Q.conv rfl) ?_
  refine XT.q rfl rfl (Q.fieldAddr rfl) ?_
  refine XT.q rfl rfl (Q.ld rfl rfl) ?_
  refine XT.q rfl rfl (Q.conv rfl) ?_
  refine XT.q rfl rfl (Q.move rfl) ?_
  refine XT.call rfl rfl Try.call30 rfl rfl rfl (RMix_spec _ _) (fun v11 s11 R11 => ?_) XT.stop
  obtain ⟨rfl, rfl⟩ := R11
  dsimp only [List.cons_append, List.nil_append]
  refine ⟨inferInstance, ?_⟩
  refine XT.call rfl rfl Try.call30 rfl rfl rfl (RMix_spec _ _) (fun v15 s15 R15 => ?_) XT.stop
  obtain ⟨rfl, rfl⟩ := R15
  dsimp only [List.cons_append, List.nil_append]
  refine ⟨inferInstance, ?_⟩
  refine XT.call rfl rfl Try.call30 rfl rfl rfl (RMix_spec _ _) (fun v19 s19 R19 => ?_) XT.stop
  obtain ⟨rfl, rfl⟩ := R19
  dsimp only [List.cons_append, List.nil_append]
  refine ⟨inferInstance, ?_⟩
  refine XT.call rfl rfl Try.call30 rfl rfl rfl (RMix_spec _ _) (fun v21 s21 R21 => ?_) XT.stop
  obtain ⟨rfl, rfl⟩ := R21
  dsimp only [List.cons_append, List.nil_append]
  refine ⟨inferInstance, ?_⟩
  rw [show mixP (mixP (mixP (mixP last (IntKind.wrap .u64 r.meter)) (IntKind.wrap .u64 r.hour)) (IntKind.wrap .u64 r.value)) key = sigP key last r from rfl]
  refine XT.q rfl rfl (Q.assign rfl) ?_
  refine XT.done ?_
  refine XK.rt [] Try.func71 Try.results71 (.t rfl .n) ?_
  exact ⟨rfl, rfl⟩
theorem bad_ref {r : MRd} : ((¬ inF r.meter 0 63 = true ∨ ¬ inF r.hour 0 1000000000 = true) ∨ ¬ inF r.value 0 1000000000 = true) ↔ badRd r := by
  unfold badRd
  rw [inF_iff, inF_iff, inF_iff, inA_one, inA_two]
  omega
theorem dup_snoc {l : List MRd} {r x : MRd} (h : dupR l r = false) (hx : ¬ (x.meter = r.meter ∧ x.hour = r.hour)) : dupR (l ++ [x]) r = false := by
  unfold dupR at *
  rw [List.any_append, h, List.any_cons, List.any_nil, Bool.or_false, Bool.false_or, decide_eq_false_iff_not]
  intro he
  unfold keyR at he
  simp only [Prod.mk.injEq] at he
  exact hx ⟨he.1.symm, he.2.symm⟩
theorem dup_here {l : List MRd} {r : MRd} {k i : Nat} (hk : k < i) (hi : i ≤ l.length) (hx : (l.getD k default).meter = r.meter ∧ (l.getD k default).hour = r.hour) : dupR (l.take i) r = true := by
  unfold dupR
  rw [List.any_eq_true]
  refine ⟨l.getD k default, ?_, by rw [decide_eq_true_eq, keyR, keyR, hx.1, hx.2]⟩
  rw [List.getD_eq_getElem?_getD, List.getElem?_eq_getElem (by omega)]
  exact List.mem_take_iff_getElem.2 ⟨k, by omega, rfl⟩
theorem wrong11 (l : List MRd) (vl : Value) (hl : PHeap) [jl : Arr vl encRd 3 hl l] (i : Nat) (hil : i < l.length) : Spec Try.prog 70 #[vl, .int .i64 (i : Nat)] [] [hl] (fun v hs => v = .int .i64 (errAt l i) ∧ hs = []) := by
  have ll := jl.le
  refine Spec.intro (fn := Try.f70) (N := 50) Try.func70 rfl Try.ntmps70 rfl fun B => ?_
  refine XK.seq ?_
  refine XK.region rfl ?_
  refine XO.q (Q.assign rfl) ?_
  refine XO.done ?_
  refine XK.seq ?_
  refine XK.region rfl ?_
  refine XO.q (Q.move rfl) ?_
  refine XO.q (Q.move rfl) ?_
  refine XO.ix rfl rfl (by omega) (by omega) fun i9 => ?_
  refine XO.q (Q.ldEA [_, _, _] rfl (by first | assumption | omega) rfl rfl) ?_
  refine XO.alloc fun b5 => ?_
  refine XO.st rfl rfl rfl ?_
  refine XO.done ?_
  refine XK.seq ?_
  refine XK.seq ?_
  refine XK.region rfl ?_
  refine XO.q (Q.fieldAddr rfl) ?_
  refine XO.q (Q.ld rfl rfl) ?_
  refine XO.call Try.call95 rfl rfl rfl (in11 _ _ _) fun v13 s13 R13 => ?_
  obtain ⟨rfl, rfl⟩ := R13
  dsimp only [List.cons_append, List.nil_append]
  refine XO.q (Q.not rfl) ?_
  refine XO.q (Q.move rfl) ?_
  refine XO.q (Quiet.guardF rfl rfl fun g16 p16 => Q.fieldAddr rfl) ?_
  refine XO.q (Quiet.guardF rfl rfl fun g17 p17 => Q.ld (lzv g17 rfl) rfl) ?_
  refine XO.gcallF rfl rfl Try.call95 rfl (fun g18 => .c (lzv g18 rfl) (.c rfl (.c rfl .n))) rfl (fun g18 p18 => in11 _ _ _) ?_
  refine XO.q (Quiet.guardF rfl rfl fun g19 p19 => Q.not (lzv g19 rfl)) ?_
  refine XO.q (Q.or rfl (fun hp => lzv hp rfl)) ?_
  refine XO.q (Q.move rfl) ?_
  refine XO.q (Quiet.guardF rfl rfl fun g22 p22 => Q.fieldAddr rfl) ?_
  refine XO.q (Quiet.guardF rfl rfl fun g23 p23 => Q.ld (lzv g23 rfl) rfl) ?_
  refine XO.gcallF rfl rfl Try.call95 rfl (fun g24 => .c (lzv g24 rfl) (.c rfl (.c rfl .n))) rfl (fun g24 p24 => in11 _ _ _) ?_
  refine XO.q (Quiet.guardF rfl rfl fun g25 p25 => Q.not (lzv g25 rfl)) ?_
  refine XO.q (Q.or rfl (fun hp => lzv hp rfl)) ?_
  refine XO.done ?_
  refine XK.if rfl (fun c0 => ?_) (fun c0 => ?_)
  · have _t0 := True.intro
    refine XK.seq ?_
    refine XK.region rfl ?_
    refine XO.q (Q.assign rfl) ?_
    refine XO.done ?_
    refine XK.rt [] Try.func70 Try.results70 (.t rfl .n) ?_
    exact ⟨by rw [errAt, errR, if_pos (bad_ref.1 c0)], rfl⟩
  · have _t0 := True.intro
    refine XK.skip ?_
    refine XK.seq ?_
    refine XK.seq ?_
    refine XK.region rfl ?_
    refine XO.q (Q.assign rfl) ?_
    refine XO.done ?_
    refine XK.block ?_
    refine XK.while (X := Nat) [4, 6, 27, 28, 29, 30, 31, 32, 33, 34, 35, 36, 37, 38, 39, 40, 41, 42, 43, 44, 45, 46, 47, 48, 49] (fun k => [(6, some (.int .i64 (k : Nat)))]) (fun k => []) (fun k => k ≤ i ∧ dupR (l.take k) (l.getD i default) = false) (fun k => i - k) (0) [] rfl ⟨by omega, rfl⟩ (.c rfl (.base 0 rfl rfl)) ?_
    rintro k ⟨hk, hd⟩ ih0
    dsimp only [List.cons_append, List.nil_append] at ih0 ⊢
    refine XK.seq ?_
    refine XK.seq ?_
    refine XK.region rfl ?_
    refine XO.q (Q.move rfl) ?_
    refine XO.q (Q.move rfl) ?_
    refine XO.q (Q.lss rfl rfl) ?_
    refine XO.done ?_
    refine XK.if rfl (fun c1 => ?_) (fun c1 => ?_)
    · have _t1 := True.intro
      refine XK.skip ?_
      refine XK.seq ?_
      refine XK.block ?_
      refine XK.seq ?_
      refine XK.drawn [0, 1, 2, 3, 4, 5, 6, 7, 8, 9, 10, 11, 12, 13, 14, 15, 16, 17] [b5] [] (.q 0 (.q 1 (.q 2 (.q 3 (.q 4 (.q 5 (.q 6 (.q 7 (.q 8 (.q 9 (.q 10 (.q 11 (.q 12 (.q 13 (.q 14 (.q 15 (.q 16 (.q 17 .done)))))))))))))))))) Try.mixed rfl (by kernel_rfl) ?_
      refine XT.q rfl rfl (Q.move rfl) ?_
      refine XT.q rfl rfl (Q.move rfl) ?_
      refine XT.ix rfl rfl rfl rfl (by omega) (by omega) fun i34 => ?_
      refine XT.q rfl rfl (Q.fieldQ rfl (by first | assumption | omega)) ?_
      refine XT.q rfl rfl (Q.ldE rfl (by first | assumption | omega) rfl) ?_
      refine XT.q rfl rfl (Q.fieldAddr rfl) ?_
      refine XT.q rfl rfl (Q.ld rfl rfl) ?_
      refine XT.q rfl rfl (Q.eql rfl rfl) ?_
      refine XT.q rfl rfl (Q.move rfl) ?_
      refine XT.q rfl rfl (Quiet.guardT rfl rfl fun g41 p41 => Q.move rfl) ?_
      refine XT.q rfl rfl (Quiet.guardT rfl rfl fun g42 p42 => Q.move rfl) ?_
      refine XT.q rfl rfl (Quiet.guardT rfl rfl fun g43 p43 => Q.ix (lzv g43 rfl) (lzv g43 rfl) (by omega) (by omega)) ?_
      refine XT.q rfl rfl (Quiet.guardT rfl rfl fun g44 p44 => Q.fieldQ (lzv g44 rfl) (by first | assumption | omega)) ?_
      refine XT.q rfl rfl (Quiet.guardT rfl rfl fun g45 p45 => Q.ldE (lzv g45 rfl) (by first | assumption | omega) rfl) ?_
      refine XT.q rfl rfl (Quiet.guardT rfl rfl fun g46 p46 => Q.fieldAddr rfl) ?_
      refine XT.q rfl rfl (Quiet.guardT rfl rfl fun g47 p47 => Q.ld (lzv g47 rfl) rfl) ?_
      refine XT.q rfl rfl (Quiet.guardT rfl rfl fun g48 p48 => Q.eql (lzv g48 rfl) (lzv g48 rfl)) ?_
      refine XT.q rfl rfl (Q.and rfl (fun hp => lzv hp rfl)) ?_
      refine XT.done ?_
      refine XK.if rfl (fun c2 => ?_) (fun c2 => ?_)
      · have _t2 := True.intro
        refine XK.seq ?_
        refine XK.region rfl ?_
        refine XO.q (Q.assign rfl) ?_
        refine XO.done ?_
        refine XK.rt [] Try.func70 Try.results70 (.t rfl .n) ?_
        exact ⟨by rw [errAt, errR, if_neg (fun h => c0 (bad_ref.2 h)), if_pos (dup_here (by omega) (by omega) c2)], rfl⟩
      · have _t2 := True.intro
        refine XK.skip ?_
        refine XK.inBlock ?_
        refine XK.region rfl ?_
        refine XO.q (Q.move rfl) ?_
        refine XO.q (Q.add rfl rfl ⟨by omega, by omega⟩) ?_
        refine XO.q (Q.assign rfl) ?_
        refine XO.done ?_
        exact ih0 (k + 1) _ _ ⟨by omega, by rw [take_snocR (by omega)]; exact dup_snoc hd c2⟩ (by first | omega | (dsimp only; omega)) (.c rfl (.base 50 rfl rfl)) inferInstance
    · have _t1 := True.intro
      refine XK.exit rfl ?_
      refine XK.seq ?_
      refine XK.region rfl ?_
      refine XO.q (Q.assign rfl) ?_
      refine XO.done ?_
      refine XK.rt [] Try.func70 Try.results70 (.t rfl .n) ?_
      have hki : k = i := by omega
      rw [hki] at hd
      exact ⟨by rw [errAt, errR, if_neg (fun h => c0 (bad_ref.2 h)), if_neg (by rw [hd]; decide)], rfl⟩
theorem RSign_spec (key : Int) (l : List MRd) (vl : Value) (hl : PHeap) [jl : Arr vl encRd 3 hl l] : Spec Try.prog 28 #[.int .u64 key, vl] [] [hl] (fun v hs => ∃ v1 k1, v = .tuple #[v1, .int .i64 (signG key l).2] ∧ hs = [k1] ∧ OArr v1 encLink 4 89 k1 (signG key l).1) := by
  have ll := jl.le
  have nL : OArr (.slice none 0 0) encLink 4 89 emp ([] : List MLink) := OArr.nil (fun _ => rfl)
  refine Spec.intro (fn := Try.f28) (N := 44) Try.func28 rfl Try.ntmps28 rfl fun B => ?_
  refine XK.seq ?_
  refine XK.region rfl ?_
  refine XO.q (Q.assign rfl) ?_
  refine XO.q (Q.assign rfl) ?_
  refine XO.done ?_
  refine XK.seq ?_
  refine XK.seq ?_
  refine XK.region rfl ?_
  refine XO.q (Q.move rfl) ?_
  refine XO.len rfl fun l11 => ?_
  refine XO.q (Q.gtr rfl rfl) ?_
  refine XO.done ?_
  refine XK.if rfl (fun c0 => ?_) (fun c0 => ?_)
  · have _t0 := True.intro
    refine XK.seq ?_
    refine XK.region rfl ?_
    refine XO.q (Q.assign rfl) ?_
    refine XO.q (Q.assign rfl) ?_
    refine XO.done ?_
    refine XK.rt [emp] Try.func28 Try.results28 (.t rfl (.t rfl .n)) ?_
    have e : signG key l = ([], 2) := by rw [signG, if_pos (by omega)]
    rw [e]
    exact ⟨.slice none 0 0, emp, rfl, rfl, nL⟩
  · have _t0 := True.intro
    refine XK.skip ?_
    refine XK.seq ?_
    refine XK.region rfl ?_
    refine XO.q (Q.assign rfl) ?_
    refine XO.done ?_
    refine XK.seq ?_
    refine XK.region rfl ?_
    refine XO.q (Q.move rfl) ?_
    refine XO.call Try.call30 rfl rfl rfl (RMix_spec _ _) fun v14 s14 R14 => ?_
    obtain ⟨rfl, rfl⟩ := R14
    dsimp only [List.cons_append, List.nil_append]
    rw [show mixP key 1 = lastS key l 0 from rfl]
    refine XO.q (Q.assign rfl) ?_
    refine XO.done ?_
    refine XK.seq ?_
    refine XK.seq ?_
    refine XK.region rfl ?_
    refine XO.q (Q.assign rfl) ?_
    refine XO.done ?_
    refine XK.block ?_
    refine XK.while (X := Nat × Value × PHeap) [4, 5, 6, 7, 8, 9, 15, 16, 17, 18, 19, 20, 21, 22, 23, 24, 25, 26, 27, 28, 29, 30, 31, 32, 33, 34, 35, 36, 37, 38, 39, 40, 41, 42] (fun ⟨i, vo, ko⟩ => [(6, some (vo)), (7, some (.int .u64 (lastS key l (i)))), (8, some (.int .i64 (i : Nat)))]) (fun ⟨i, vo, ko⟩ => [ko]) (fun ⟨i, vo, ko⟩ => i ≤ l.length ∧ OArr vo encLink 4 89 ko (links key l i) ∧ ∀ j, j < i → errAt l j = 0) (fun ⟨i, vo, ko⟩ => l.length - i) (0, .slice none 0 0, emp) [emp] rfl ⟨by omega, nL, fun j hj => by omega⟩ (.c rfl (.c rfl (.c rfl (.base 0 rfl rfl)))) ?_
    rintro ⟨i, vo, ko⟩ ⟨hi, OO, he⟩ ih0
    dsimp only [List.cons_append, List.nil_append] at ih0 ⊢
    have kl := links_len key l i
    refine XK.seq ?_
    refine XK.seq ?_
    refine XK.region rfl ?_
    refine XO.q (Q.move rfl) ?_
    refine XO.q (Q.move rfl) ?_
    refine XO.len rfl fun l17 => ?_
    refine XO.q (Q.lss rfl rfl) ?_
    refine XO.done ?_
    refine XK.if rfl (fun c1 => ?_) (fun c1 => ?_)
    · have _t1 := True.intro
      refine XK.skip ?_
      refine XK.seq ?_
      refine XK.block ?_
      refine XK.seq ?_
      refine XK.seq ?_
      refine XK.region rfl ?_
      refine XO.q (Q.move rfl) ?_
      refine XO.q (Q.move rfl) ?_
      refine XO.call Try.call70 rfl rfl rfl (wrong11 l vl hl i (by omega)) fun v23 s23 R23 => ?_
      obtain ⟨rfl, rfl⟩ := R23
      dsimp only [List.cons_append, List.nil_append]
      refine XO.q (Q.assign rfl) ?_
      refine XO.done ?_
      refine XK.seq ?_
      refine XK.region rfl ?_
      refine XO.q (Q.move rfl) ?_
      refine XO.q (Q.neq rfl rfl) ?_
      refine XO.done ?_
      refine XK.if rfl (fun c2 => ?_) (fun c2 => ?_)
      · have _t2 := True.intro
        refine XK.seq ?_
        refine XK.region rfl ?_
        refine XO.q (Q.move rfl) ?_
        refine XO.q (Q.assign rfl) ?_
        refine XO.q (Q.assign rfl) ?_
        refine XO.done ?_
        refine XK.rt [emp] Try.func28 Try.results28 (.t rfl (.t rfl .n)) ?_
        have e : signG key l = ([], errAt l i) := by rw [signG, if_neg (by omega), scan_here he c2 (by omega)]
        rw [e]
        exact ⟨.slice none 0 0, emp, rfl, rfl, nL⟩
      · have _t2 := True.intro
        refine XK.skip ?_
        refine XK.seq ?_
        refine XK.region rfl ?_
        refine XO.q (Q.move rfl) ?_
        refine XO.q (Q.move rfl) ?_
        refine XO.q (Q.move rfl) ?_
        refine XO.q (Q.move rfl) ?_
        refine XO.ix rfl rfl (by omega) (by omega) fun i31 => ?_
        refine XO.q (Q.ldEA [_, _, _] rfl (by first | assumption | omega) rfl rfl) ?_
        refine XO.call Try.call71 rfl rfl rfl (Rsign_spec key (lastS key l (i)) (l.getD i default)) fun v33 s33 R33 => ?_
        obtain ⟨rfl, rfl⟩ := R33
        dsimp only [List.cons_append, List.nil_append]
        rw [← lastS_succ]
        refine XO.q (Q.assign rfl) ?_
        refine XO.done ?_
        refine XK.region rfl ?_
        refine XO.q (Q.move rfl) ?_
        refine XO.q (Q.move rfl) ?_
        refine XO.q (Q.move rfl) ?_
        refine XO.ix rfl rfl (by omega) (by omega) fun i37 => ?_
        refine XO.q (Q.ldEA [_, _, _] rfl (by first | assumption | omega) rfl rfl) ?_
        refine XO.q (Q.move rfl) ?_
        refine XO.q (Q.build [_, _, _, _] (.c 0 3 rfl rfl rfl (.c 3 1 rfl rfl rfl (.n _)))) ?_
        refine XO.lit [_, _, _, _] [_, _, _, _] [linkAt key l i] encLink (by rfl) (by rfl) rfl (by rfl) (by exact .c 0 4 rfl rfl rfl (.n _)) (fun _ => rfl) (by rfl) rfl (by infer_instance) rfl fun v41 h41 O41 => ?_
        refine XO.append rfl rfl rfl rfl (by first | omega | (simp; omega)) fun v42 h42 O42 => ?_
        refine XO.q (Q.assign rfl) ?_
        refine XO.done ?_
        refine XK.inBlock ?_
        refine XK.region rfl ?_
        refine XO.q (Q.move rfl) ?_
        refine XO.q (Q.add rfl rfl ⟨by omega, by omega⟩) ?_
        refine XO.q (Q.assign rfl) ?_
        refine XO.done ?_
        exact ih0 (i + 1, v42, h42) _ _ ⟨by dsimp only; omega, by dsimp only; rw [links_snoc]; exact O42, fun j hj => (by rcases Nat.lt_or_ge j i with h3 | h3; exact he j h3; obtain rfl : j = i := (by dsimp only at hj; omega); exact Decidable.of_not_not c2)⟩ (by first | omega | (dsimp only; omega)) (.c rfl (.c rfl (.c rfl (.base 68 rfl rfl)))) inferInstance
    · have _t1 := True.intro
      refine XK.exit rfl ?_
      refine XK.seq ?_
      refine XK.region rfl ?_
      refine XO.q (Q.move rfl) ?_
      refine XO.q (Q.assign rfl) ?_
      refine XO.q (Q.assign rfl) ?_
      refine XO.done ?_
      refine XK.rt [ko] Try.func28 Try.results28 (.t rfl (.t rfl .n)) ?_
      have hin : i = l.length := by omega
      subst hin
      have e : signG key l = (links key l l.length, 0) := by rw [signG, if_neg (by omega), scan_all he]
      rw [e]
      exact ⟨vo, ko, rfl, rfl, OO⟩
theorem rds_snoc {ls : List MLink} {i : Nat} (hi : i < ls.length) : (rdsL ls).take (i + 1) = (rdsL ls).take i ++ [(ls.getD i default).rd] := by rw [take_snocR (by rw [rds_len]; exact hi), rds_at hi]
theorem readings11 (ls : List MLink) (vl : Value) (hl : PHeap) [jl : Arr vl encLink 4 hl ls] (n : ls.length ≤ 68719476736) : Spec Try.prog 97 #[vl] [] [hl] (fun v hs => ∃ k, hs = [k] ∧ OArr v encRd 3 80 k (rdsL ls)) := by
  have ll := jl.le
  have rl := rds_len ls
  have nR : OArr (.slice none 0 0) encRd 3 80 emp ([] : List MRd) := OArr.nil (fun _ => rfl)
  refine Spec.intro (fn := Try.f97) (N := 20) Try.func97 rfl Try.ntmps97 rfl fun B => ?_
  refine XK.seq ?_
  refine XK.region rfl ?_
  refine XO.q (Q.assign rfl) ?_
  refine XO.done ?_
  refine XK.seq ?_
  refine XK.region rfl ?_
  refine XO.q (Q.assign rfl) ?_
  refine XO.done ?_
  refine XK.seq ?_
  refine XK.seq ?_
  refine XK.region rfl ?_
  refine XO.q (Q.assign rfl) ?_
  refine XO.done ?_
  refine XK.block ?_
  refine XK.while (X := Nat × Value × PHeap) [3, 4, 5, 6, 7, 8, 9, 10, 11, 12, 13, 14, 15, 16, 17, 18] (fun ⟨i, vo, ko⟩ => [(3, some (vo)), (4, some (.int .i64 (i : Nat)))]) (fun ⟨i, vo, ko⟩ => [ko]) (fun ⟨i, vo, ko⟩ => i ≤ ls.length ∧ OArr vo encRd 3 80 ko ((rdsL ls).take i)) (fun ⟨i, vo, ko⟩ => ls.length - i) (0, .slice none 0 0, emp) [emp] rfl ⟨by omega, nR⟩ (.c rfl (.c rfl (.base 0 rfl rfl))) ?_
  rintro ⟨i, vo, ko⟩ ⟨hi, OO⟩ ih0
  dsimp only [List.cons_append, List.nil_append] at ih0 ⊢
  have el : ((rdsL ls).take i).length = i := by rw [List.length_take]; omega
  refine XK.seq ?_
  refine XK.seq ?_
  refine XK.region rfl ?_
  refine XO.q (Q.move rfl) ?_
  refine XO.q (Q.move rfl) ?_
  refine XO.len rfl fun l7 => ?_
  refine XO.q (Q.lss rfl rfl) ?_
  refine XO.done ?_
  refine XK.if rfl (fun c0 => ?_) (fun c0 => ?_)
  · have _t0 := True.intro
    refine XK.skip ?_
    refine XK.seq ?_
    refine XK.block ?_
    refine XK.region rfl ?_
    refine XO.q (Q.move rfl) ?_
    refine XO.q (Q.move rfl) ?_
    refine XO.q (Q.move rfl) ?_
    refine XO.ix rfl rfl (by omega) (by omega) fun i14 => ?_
    refine XO.q (Q.fieldQ rfl (by first | assumption | omega)) ?_
    refine XO.q (Q.ldEA [_, _, _] rfl (by first | assumption | omega) rfl rfl) ?_
    refine XO.lit [_, _, _] [_, _, _] [(ls.getD i default).rd] encRd (by rfl) (by rfl) rfl (by rfl) (by exact .c 0 3 rfl rfl rfl (.n _)) (fun _ => rfl) (by rfl) rfl (by infer_instance) rfl fun v17 h17 O17 => ?_
    refine XO.append rfl rfl rfl rfl (by first | omega | (simp; omega)) fun v18 h18 O18 => ?_
    refine XO.q (Q.assign rfl) ?_
    refine XO.done ?_
    refine XK.inBlock ?_
    refine XK.region rfl ?_
    refine XO.q (Q.move rfl) ?_
    refine XO.q (Q.add rfl rfl ⟨by omega, by omega⟩) ?_
    refine XO.q (Q.assign rfl) ?_
    refine XO.done ?_
    exact ih0 (i + 1, v18, h18) _ _ ⟨by dsimp only; omega, by dsimp only; rw [rds_snoc (by omega)]; exact O18⟩ (by first | omega | (dsimp only; omega)) (.c rfl (.c rfl (.base 34 rfl rfl))) inferInstance
  · have _t0 := True.intro
    refine XK.exit rfl ?_
    refine XK.seq ?_
    refine XK.region rfl ?_
    refine XO.q (Q.move rfl) ?_
    refine XO.q (Q.assign rfl) ?_
    refine XO.done ?_
    refine XK.rt [ko] Try.func97 Try.results97 (.t rfl .n) ?_
    have hin : i = ls.length := by omega
    rw [hin, ← rl, List.take_length] at OO
    exact ⟨ko, rfl, OO⟩
theorem RVerify_spec (key : Int) (ls : List MLink) (vl : Value) (hl : PHeap) [jl : Arr vl encLink 4 hl ls] : Spec Try.prog 72 #[.int .u64 key, vl] [] [hl] (fun v hs => v = .tuple #[.int .i64 (checkG key ls true).1, .int .i64 (checkG key ls true).2] ∧ hs = []) := by
  have ll := jl.le
  have rl := rds_len ls
  refine Spec.intro (fn := Try.f72) (N := 47) Try.func72 rfl Try.ntmps72 rfl fun B => ?_
  refine XK.seq ?_
  refine XK.region rfl ?_
  refine XO.q (Q.assign rfl) ?_
  refine XO.q (Q.assign rfl) ?_
  refine XO.done ?_
  refine XK.seq ?_
  refine XK.seq ?_
  refine XK.region rfl ?_
  refine XO.q (Q.move rfl) ?_
  refine XO.len rfl fun l11 => ?_
  refine XO.q (Q.gtr rfl rfl) ?_
  refine XO.done ?_
  refine XK.if rfl (fun c0 => ?_) (fun c0 => ?_)
  · have _t0 := True.intro
    refine XK.seq ?_
    refine XK.region rfl ?_
    refine XO.q (Q.assign rfl) ?_
    refine XO.q (Q.assign rfl) ?_
    refine XO.done ?_
    refine XK.rt [] Try.func72 Try.results72 (.t rfl (.t rfl .n)) ?_
    have e : checkG key ls true = (0, 2) := by rw [checkG, if_pos (by omega)]
    rw [e]
    exact ⟨rfl, rfl⟩
  · have _t0 := True.intro
    refine XK.skip ?_
    refine XK.seq ?_
    refine XK.region rfl ?_
    refine XO.q (Q.move rfl) ?_
    refine XO.call Try.call97 rfl rfl rfl (readings11 ls vl hl (by omega)) fun v14 s14 R14 => ?_
    obtain ⟨kr, rfl, OR⟩ := R14
    dsimp only [List.cons_append, List.nil_append]
    refine XO.q (Q.assign rfl) ?_
    refine XO.done ?_
    refine XK.seq ?_
    refine XK.region rfl ?_
    refine XO.q (Q.move rfl) ?_
    refine XO.call Try.call30 rfl rfl rfl (RMix_spec _ _) fun v16 s16 R16 => ?_
    obtain ⟨rfl, rfl⟩ := R16
    dsimp only [List.cons_append, List.nil_append]
    rw [show mixP key 1 = lastS key (rdsL ls) 0 from rfl]
    refine XO.q (Q.assign rfl) ?_
    refine XO.done ?_
    refine XK.seq ?_
    refine XK.seq ?_
    refine XK.region rfl ?_
    refine XO.q (Q.assign rfl) ?_
    refine XO.done ?_
    refine XK.block ?_
    refine XK.while (X := Nat) [4, 5, 7, 8, 9, 17, 18, 19, 20, 21, 22, 23, 24, 25, 26, 27, 28, 29, 30, 31, 32, 33, 34, 35, 36, 37, 38, 39, 40, 41, 42, 43, 44] (fun i => [(7, some (.int .u64 (lastS key (rdsL ls) (i)))), (8, some (.int .i64 (i : Nat)))]) (fun i => []) (fun i => i ≤ ls.length ∧ ∀ j, j < i → (chkF key ls true (j)) = 0) (fun i => ls.length - i) (0) [] rfl ⟨by omega, fun j hj => by omega⟩ (.c rfl (.c rfl (.base 0 rfl rfl))) ?_
    rintro i ⟨hi, he⟩ ih0
    dsimp only [List.cons_append, List.nil_append] at ih0 ⊢
    refine XK.seq ?_
    refine XK.seq ?_
    refine XK.region rfl ?_
    refine XO.q (Q.move rfl) ?_
    refine XO.q (Q.move rfl) ?_
    refine XO.len rfl fun l19 => ?_
    refine XO.q (Q.lss rfl rfl) ?_
    refine XO.done ?_
    refine XK.if rfl (fun c1 => ?_) (fun c1 => ?_)
    · have _t1 := True.intro
      refine XK.skip ?_
      refine XK.seq ?_
      refine XK.block ?_
      refine XK.seq ?_
      refine XK.seq ?_
      refine XK.region rfl ?_
      refine XO.q (Q.move rfl) ?_
      refine XO.q (Q.move rfl) ?_
      refine XO.call Try.call70 rfl rfl rfl (wrong11 (rdsL ls) v14 kr i (by omega)) fun v25 s25 R25 => ?_
      obtain ⟨rfl, rfl⟩ := R25
      dsimp only [List.cons_append, List.nil_append]
      refine XO.q (Q.assign rfl) ?_
      refine XO.done ?_
      refine XK.seq ?_
      refine XK.region rfl ?_
      refine XO.q (Q.move rfl) ?_
      refine XO.q (Q.neq rfl rfl) ?_
      refine XO.done ?_
      refine XK.if rfl (fun c2 => ?_) (fun c2 => ?_)
      · have _t2 := True.intro
        have ck : (chkF key ls true (i)) = errAt (rdsL ls) i := by rw [chkF, if_pos c2]
        refine XK.seq ?_
        refine XK.region rfl ?_
        refine XO.q (Q.move rfl) ?_
        refine XO.q (Q.move rfl) ?_
        refine XO.q (Q.assign rfl) ?_
        refine XO.q (Q.assign rfl) ?_
        refine XO.done ?_
        refine XK.rt [] Try.func72 Try.results72 (.t rfl (.t rfl .n)) ?_
        have e : checkG key ls true = ((i : Int), errAt (rdsL ls) i) := by rw [checkG, if_neg (by omega), scan_here he (by rw [ck]; exact c2) (by omega)]; dsimp only; rw [ck]
        rw [e]
        exact ⟨rfl, rfl⟩
      · have _t2 := True.intro
        refine XK.skip ?_
        refine XK.seq ?_
        refine XK.region rfl ?_
        refine XO.q (Q.move rfl) ?_
        refine XO.q (Q.move rfl) ?_
        refine XO.q (Q.move rfl) ?_
        refine XO.q (Q.move rfl) ?_
        refine XO.ix rfl rfl (by omega) (by omega) fun i34 => ?_
        refine XO.q (Q.ldEA [_, _, _] rfl (by first | assumption | omega) rfl rfl) ?_
        refine XO.call Try.call71 rfl rfl rfl (Rsign_spec key (lastS key (rdsL ls) (i)) ((rdsL ls).getD i default)) fun v36 s36 R36 => ?_
        obtain ⟨rfl, rfl⟩ := R36
        dsimp only [List.cons_append, List.nil_append]
        rw [← lastS_succ]
        refine XO.q (Q.assign rfl) ?_
        refine XO.done ?_
        refine XK.seq ?_
        refine XK.region rfl ?_
        refine XO.q (Q.move rfl) ?_
        refine XO.q (Q.move rfl) ?_
        refine XO.q (Q.move rfl) ?_
        refine XO.ix rfl rfl (by omega) (by omega) fun i40 => ?_
        refine XO.q (Q.fieldQ rfl (by first | assumption | omega)) ?_
        refine XO.q (Q.ldE rfl (by first | assumption | omega) rfl) ?_
        refine XO.q (Q.neq rfl rfl) ?_
        refine XO.done ?_
        refine XK.if rfl (fun c3 => ?_) (fun c3 => ?_)
        · have _t3 := True.intro
          have ck : (chkF key ls true (i)) = 7 := by rw [chkF, if_neg c2, if_pos ⟨rfl, c3⟩]
          refine XK.seq ?_
          refine XK.region rfl ?_
          refine XO.q (Q.move rfl) ?_
          refine XO.q (Q.assign rfl) ?_
          refine XO.q (Q.assign rfl) ?_
          refine XO.done ?_
          refine XK.rt [] Try.func72 Try.results72 (.t rfl (.t rfl .n)) ?_
          have e : checkG key ls true = ((i : Int), 7) := by rw [checkG, if_neg (by omega), scan_here he (by rw [ck]; decide) (by omega)]; dsimp only; rw [ck]
          rw [e]
          exact ⟨rfl, rfl⟩
        · have _t3 := True.intro
          have ck : (chkF key ls true (i)) = 0 := by rw [chkF, if_neg c2, if_neg (fun h => c3 h.2)]
          refine XK.skip ?_
          refine XK.inBlock ?_
          refine XK.region rfl ?_
          refine XO.q (Q.move rfl) ?_
          refine XO.q (Q.add rfl rfl ⟨by omega, by omega⟩) ?_
          refine XO.q (Q.assign rfl) ?_
          refine XO.done ?_
          exact ih0 (i + 1) _ _ ⟨by omega, fun j hj => (by rcases Nat.lt_or_ge j i with h3 | h3; exact he j h3; obtain rfl : j = i := (by omega); exact ck)⟩ (by first | omega | (dsimp only; omega)) (.c rfl (.c rfl (.base 63 rfl rfl))) inferInstance
    · have _t1 := True.intro
      refine XK.exit rfl ?_
      refine XK.seq ?_
      refine XK.region rfl ?_
      refine XO.q (Q.move rfl) ?_
      refine XO.len rfl fun l46 => ?_
      refine XO.q (Q.assign rfl) ?_
      refine XO.q (Q.assign rfl) ?_
      refine XO.done ?_
      refine XK.rt [] Try.func72 Try.results72 (.t rfl (.t rfl .n)) ?_
      have hin : i = ls.length := by omega
      subst hin
      have e : checkG key ls true = ((ls.length : Int), 0) := by rw [checkG, if_neg (by omega), scan_all he]
      rw [e]
      exact ⟨rfl, rfl⟩
end Go.X

set_option linter.unusedSimpArgs false
set_option linter.unusedVariables false
set_option maxRecDepth 20000
namespace Go.X
open Go.Proofs
deriving instance DecidableEq for MTier
theorem tier_ne (x y : MTier) : (!(decide (x.min = y.min) && (decide (x.pct = y.pct) && true))) = decide (¬ x = y) := by
  cases x; cases y
  rw [Bool.eq_iff_iff]
  simp
theorem tier_eq (x y : MTier) : (decide (x.min = y.min) && (decide (x.pct = y.pct) && true)) = decide (x = y) := by
  cases x; cases y
  rw [Bool.eq_iff_iff]
  simp
theorem bill_ne (x y : MBill) : (!(decide (x.energy = y.energy) && (decide (x.amount = y.amount) && (decide (x.credit = y.credit) && (decide (x.due = y.due) && true))))) = decide (¬ x = y) := by
  cases x; cases y
  rw [Bool.eq_iff_iff]
  simp
theorem bill_eq (x y : MBill) : (decide (x.energy = y.energy) && (decide (x.amount = y.amount) && (decide (x.credit = y.credit) && (decide (x.due = y.due) && true)))) = decide (x = y) := by
  cases x; cases y
  rw [Bool.eq_iff_iff]
  simp
theorem equalT (v1 v2 : Value) (h1 h2 : PHeap) (xs ys : List MTier) [s1 : Arr v1 encTier 2 h1 xs] [s2 : Arr v2 encTier 2 h2 ys] :
    Spec Try.prog 64 #[v1, v2] [] [h1, h2] (fun v hs => v = .bool (decide (xs = ys)) ∧ hs = []) := by
  refine Spec.intro (fn := Try.f64) (N := 26) Try.func64 rfl Try.ntmps64 rfl fun B => ?_
  refine XK.seq ?_
  refine XK.region rfl ?_
  refine XO.q (Q.assign rfl) ?_
  refine XO.done ?_
  refine XK.seq ?_
  refine XK.seq ?_
  refine XK.region rfl ?_
  refine XO.q (Q.move rfl) ?_
  refine XO.len rfl fun l7 => ?_
  refine XO.q (Q.move rfl) ?_
  refine XO.len rfl fun l9 => ?_
  refine XO.q (Q.neq rfl rfl) ?_
  refine XO.done ?_
  refine XK.if rfl (fun c0 => ?_) (fun c0 => ?_)
  · have _t0 := True.intro
    refine XK.seq ?_
    refine XK.region rfl ?_
    refine XO.q (Q.assign rfl) ?_
    refine XO.done ?_
    refine XK.rt [] Try.func64 Try.results64 (.t rfl .n) ?_
    exact ⟨by rw [decide_eq_false (fun h => c0 (by rw [h]))], rfl⟩
  · have _t0 := True.intro
    refine XK.skip ?_
    refine XK.seq ?_
    refine XK.seq ?_
    refine XK.region rfl ?_
    refine XO.q (Q.move rfl) ?_
    refine XO.len rfl fun l12 => ?_
    refine XO.q (Q.move rfl) ?_
    refine XO.done ?_
    refine XK.block ?_
    refine XK.while (X := Nat) [4, 5, 13, 14, 15, 16, 17, 18, 19, 20, 21, 22, 23, 24, 25] (fun i => [(13, some (.int .i64 (i : Nat)))]) (fun i => []) (fun i => i ≤ xs.length ∧ xs.take i = ys.take i) (fun i => xs.length - i) (0) [] rfl ⟨by omega, rfl⟩ (.c rfl (.base 0 rfl rfl)) ?_
    rintro i ⟨hi, ht⟩ ih0
    dsimp only [List.cons_append, List.nil_append] at ih0 ⊢
    refine XK.seq ?_
    refine XK.region rfl ?_
    refine XO.q (Q.lss rfl rfl) ?_
    refine XO.done ?_
    refine XK.seq ?_
    refine XK.if rfl (fun c1 => ?_) (fun c1 => ?_)
    · have _t1 := True.intro
      refine XK.skip ?_
      refine XK.seq ?_
      refine XK.block ?_
      refine XK.seq ?_
      refine XK.region rfl ?_
      refine XO.q (Q.move rfl) ?_
      refine XO.q (Q.assign rfl) ?_
      refine XO.done ?_
      refine XK.seq ?_
      refine XK.drawn [0, 1, 2, 3, 4, 5, 6, 7, 8] [] [] (.q 0 (.q 1 (.q 2 (.q 3 (.q 4 (.q 5 (.q 6 (.q 7 (.q 8 .done))))))))) Try.mixed rfl (by kernel_rfl) ?_
      refine XT.q rfl rfl (Q.move rfl) ?_
      refine XT.q rfl rfl (Q.move rfl) ?_
      refine XT.ix rfl rfl rfl rfl (by omega) (by omega) fun i18 => ?_
      refine XT.q rfl rfl (Q.ldEA [_, _] rfl (by first | assumption | omega) rfl rfl) ?_
      refine XT.q rfl rfl (Q.move rfl) ?_
      refine XT.q rfl rfl (Q.move rfl) ?_
      refine XT.ix rfl rfl rfl rfl (by omega) (by omega) fun i22 => ?_
      refine XT.q rfl rfl (Q.ldEA [_, _] rfl (by first | assumption | omega) rfl rfl) ?_
      refine XT.q rfl rfl (Q.neqS (us := [_, _]) (vs := [_, _]) rfl rfl inferInstance (by kernel_rfl) (by kernel_rfl) (.c rfl inferInstance inferInstance rfl rfl (.c rfl inferInstance inferInstance rfl rfl .n))) ?_
      rw [tier_ne]
      refine XT.done ?_
      refine XK.if rfl (fun c2 => ?_) (fun c2 => ?_)
      · have _t2 := True.intro
        refine XK.seq ?_
        refine XK.region rfl ?_
        refine XO.q (Q.assign rfl) ?_
        refine XO.done ?_
        refine XK.rt [] Try.func64 Try.results64 (.t rfl .n) ?_
        exact ⟨by rw [decide_eq_false (fun h => c2 (by rw [h]))], rfl⟩
      · have _t2 := True.intro
        refine XK.skip ?_
        refine XK.inBlock ?_
        refine XK.region rfl ?_
        refine XO.q (Q.add rfl rfl ⟨by omega, by omega⟩) ?_
        refine XO.q (Q.move rfl) ?_
        refine XO.done ?_
        exact ih0 (i + 1) _ _ ⟨by omega, take_step ht (by omega) (by omega) (Decidable.of_not_not c2)⟩ (by first | omega | (dsimp only; omega)) (.c rfl (.base 30 rfl rfl)) inferInstance
    · have _t1 := True.intro
      refine XK.exit rfl ?_
      refine XK.seq ?_
      refine XK.region rfl ?_
      refine XO.q (Q.assign rfl) ?_
      refine XO.done ?_
      refine XK.rt [] Try.func64 Try.results64 (.t rfl .n) ?_
      exact ⟨by rw [decide_eq_true (take_all ht c1 (by omega))], rfl⟩
theorem sameBill (x y : MBill) : Spec Try.prog 63 #[.agg #[.int .i64 x.energy, .int .i64 x.amount, .int .i64 x.credit, .int .i64 x.due], .agg #[.int .i64 y.energy, .int .i64 y.amount, .int .i64 y.credit, .int .i64 y.due]] [] [] (fun v hs => v = .bool (decide (x = y)) ∧ hs = []) := by
  refine Spec.intro (fn := Try.f63) (N := 8) Try.func63 rfl Try.ntmps63 rfl fun B => ?_
  refine XK.seq ?_
  refine XK.region rfl ?_
  refine XO.box rfl fun b2 => ?_
  refine XO.box rfl fun b3 => ?_
  refine XO.q (Q.assign rfl) ?_
  refine XO.done ?_
  refine XK.seq ?_
  refine XK.region rfl ?_
  refine XO.q (Q.ldA [_, _, _, _] rfl rfl rfl) ?_
  refine XO.q (Q.ldA [_, _, _, _] rfl rfl rfl) ?_
  refine XO.q (Q.eqlS (us := [_, _, _, _]) (vs := [_, _, _, _]) rfl rfl inferInstance (by kernel_rfl) (by kernel_rfl) (.c rfl inferInstance inferInstance rfl rfl (.c rfl inferInstance inferInstance rfl rfl (.c rfl inferInstance inferInstance rfl rfl (.c rfl inferInstance inferInstance rfl rfl .n))))) ?_
  rw [bill_eq]
  refine XO.q (Q.assign rfl) ?_
  refine XO.done ?_
  refine XK.rt [] Try.func63 Try.results63 (.t rfl .n) ?_
  exact ⟨rfl, rfl⟩
theorem equalBF (v1 v2 : Value) (h1 h2 : PHeap) (xs ys : List MBill) [s1 : Arr v1 encBill 4 h1 xs] [s2 : Arr v2 encBill 4 h2 ys] :
    Spec Try.prog 62 #[v1, v2, .func (.func 63) #[] #[]] [] [h1, h2] (fun v hs => v = .bool (decide (xs = ys)) ∧ hs = []) := by
  have l1 := s1.le
  refine Spec.intro (fn := Try.f62) (N := 32) Try.func62 rfl Try.ntmps62 rfl fun B => ?_
  refine XK.seq ?_
  refine XK.region rfl ?_
  refine XO.q (Q.assign rfl) ?_
  refine XO.done ?_
  refine XK.seq ?_
  refine XK.seq ?_
  refine XK.region rfl ?_
  refine XO.q (Q.move rfl) ?_
  refine XO.len rfl fun l11 => ?_
  refine XO.q (Q.move rfl) ?_
  refine XO.len rfl fun l13 => ?_
  refine XO.q (Q.neq rfl rfl) ?_
  refine XO.done ?_
  refine XK.if rfl (fun c0 => ?_) (fun c0 => ?_)
  · have _t0 := True.intro
    refine XK.seq ?_
    refine XK.region rfl ?_
    refine XO.q (Q.assign rfl) ?_
    refine XO.done ?_
    refine XK.rt [] Try.func62 Try.results62 (.t rfl .n) ?_
    exact ⟨by rw [decide_eq_false (fun h => c0 (by rw [h]))], rfl⟩
  · have _t0 := True.intro
    refine XK.skip ?_
    refine XK.seq ?_
    refine XK.seq ?_
    refine XK.region rfl ?_
    refine XO.q (Q.move rfl) ?_
    refine XO.len rfl fun l16 => ?_
    refine XO.q (Q.move rfl) ?_
    refine XO.done ?_
    refine XK.block ?_
    refine XK.while (X := Nat) [6, 7, 8, 9, 17, 18, 19, 20, 21, 22, 23, 24, 25, 26, 27, 28, 29, 30, 31] (fun i => [(17, some (.int .i64 (i : Nat)))]) (fun i => []) (fun i => i ≤ xs.length ∧ xs.take i = ys.take i) (fun i => xs.length - i) (0) [] rfl ⟨by omega, rfl⟩ (.c rfl (.base 0 rfl rfl)) ?_
    rintro i ⟨hi, ht⟩ ih0
    dsimp only [List.cons_append, List.nil_append] at ih0 ⊢
    refine XK.seq ?_
    refine XK.region rfl ?_
    refine XO.q (Q.lss rfl rfl) ?_
    refine XO.done ?_
    refine XK.seq ?_
    refine XK.if rfl (fun c1 => ?_) (fun c1 => ?_)
    · have _t1 := True.intro
      refine XK.skip ?_
      refine XK.seq ?_
      refine XK.block ?_
      refine XK.seq ?_
      refine XK.region rfl ?_
      refine XO.q (Q.move rfl) ?_
      refine XO.ix rfl rfl (by omega) (by omega) fun i20 => ?_
      refine XO.q (Q.ldEA [_, _, _, _] rfl (by first | assumption | omega) rfl rfl) ?_
      refine XO.alloc fun b8 => ?_
      refine XO.q (Q.assign rfl) ?_
      refine XO.st rfl rfl rfl ?_
      refine XO.done ?_
      refine XK.seq ?_
      refine XK.region rfl ?_
      refine XO.q (Q.move rfl) ?_
      refine XO.q (Q.move rfl) ?_
      refine XO.ix rfl rfl (by omega) (by omega) fun i24 => ?_
      refine XO.q (Q.ldEA [_, _, _, _] rfl (by first | assumption | omega) rfl rfl) ?_
      refine XO.alloc fun b9 => ?_
      refine XO.st rfl rfl rfl ?_
      refine XO.done ?_
      refine XK.seq ?_
      refine XK.region rfl ?_
      refine XO.q (Q.move rfl) ?_
      refine XO.q (Q.ldA [_, _, _, _] rfl rfl rfl) ?_
      refine XO.q (Q.ldA [_, _, _, _] rfl rfl rfl) ?_
      refine XO.call Try.call63 rfl rfl rfl (sameBill _ _) fun v29 s29 R29 => ?_
      obtain ⟨rfl, rfl⟩ := R29
      dsimp only [List.cons_append, List.nil_append]
      refine XO.q (Q.not rfl) ?_
      refine XO.done ?_
      refine XK.if rfl (fun c2 => ?_) (fun c2 => ?_)
      · have _t2 := True.intro
        refine XK.seq ?_
        refine XK.region rfl ?_
        refine XO.q (Q.assign rfl) ?_
        refine XO.done ?_
        refine XK.rt [] Try.func62 Try.results62 (.t rfl .n) ?_
        exact ⟨by rw [decide_eq_false (fun h => c2 (by rw [h]))], rfl⟩
      · have _t2 := True.intro
        refine XK.skip ?_
        refine XK.inBlock ?_
        refine XK.region rfl ?_
        refine XO.q (Q.add rfl rfl ⟨by omega, by omega⟩) ?_
        refine XO.q (Q.move rfl) ?_
        refine XO.done ?_
        exact ih0 (i + 1) _ _ ⟨by omega, take_step ht (by omega) (by omega) (by simpa using c2)⟩ (by first | omega | (dsimp only; omega)) (.c rfl (.base 38 rfl rfl)) inferInstance
    · have _t1 := True.intro
      refine XK.exit rfl ?_
      refine XK.seq ?_
      refine XK.region rfl ?_
      refine XO.q (Q.assign rfl) ?_
      refine XO.done ?_
      refine XK.rt [] Try.func62 Try.results62 (.t rfl .n) ?_
      exact ⟨by rw [decide_eq_true (take_all ht (by omega) (by omega))], rfl⟩
theorem cloneT (v : Value) (h : PHeap) (xs : List MTier) [s : Arr v encTier 2 h xs] (hl : xs.length ≤ 68719476736) :
    Spec Try.prog 59 #[v] [] [h] (fun v' hs => ∃ h', hs = [h'] ∧ OArr v' encTier 2 33 h' xs) := by
  refine Spec.intro (fn := Try.f59) (N := 8) Try.func59 rfl Try.ntmps59 rfl fun B => ?_
  refine XK.seq ?_
  refine XK.region rfl ?_
  refine XO.q (Q.assign rfl) ?_
  refine XO.done ?_
  refine XK.seq ?_
  refine XK.seq ?_
  refine XK.region rfl ?_
  refine XO.q (Q.move rfl) ?_
  refine XO.eqNil rfl fun z4 hz4 => ?_
  refine XO.done ?_
  refine XK.if rfl (fun c0 => ?_) (fun c0 => ?_)
  · have _t0 := True.intro
    refine XK.seq ?_
    refine XK.region rfl ?_
    refine XO.q (Q.assign rfl) ?_
    refine XO.done ?_
    refine XK.rt [emp] Try.func59 Try.results59 (.t rfl .n) ?_
    exact ⟨emp, rfl, by rw [(hz4 c0).1]; exact OArr.nil (fun _ => rfl)⟩
  · have _t0 := True.intro
    refine XK.skip ?_
    refine XK.seq ?_
    refine XK.region rfl ?_
    refine XO.lit [] [] [] encTier (by rfl) (by rfl) rfl (by rfl) (by exact .n _) (fun _ => rfl) (by rfl) rfl (by infer_instance) rfl fun v5 h5 O5 => ?_
    refine XO.q (Q.move rfl) ?_
    refine XO.append rfl rfl rfl rfl (by first | omega | (simp; omega)) fun v7 h7 O7 => ?_
    refine XO.q (Q.assign rfl) ?_
    refine XO.done ?_
    refine XK.rt [h7] Try.func59 Try.results59 (.t rfl .n) ?_
    exact ⟨h7, rfl, O7⟩
def UsesK (ms : List (Value × MUse)) (K : PHeap) (l : List MUse) : Prop := ms.map Prod.snd = l ∧ ∀ i, i < ms.length → Arr (ms.getD i default).1 encI 1 K (ms.getD i default).2.values
theorem UsesK.nil {K : PHeap} : UsesK [] K [] := ⟨rfl, fun i hi => absurd hi (Nat.not_lt_zero i)⟩
theorem UsesK.mono {ms : List (Value × MUse)} {K K' : PHeap} {l : List MUse} (hl : leH K K') (r : UsesK ms K l) : UsesK ms K' l := ⟨r.1, fun i hi => Arr.le_heap (r.2 i hi) hl⟩
theorem UsesK.snoc {ms : List (Value × MUse)} {K : PHeap} {l : List MUse} {v : Value} {u : MUse} (r : UsesK ms K l) (a : Arr v encI 1 K u.values) : UsesK (ms ++ [(v, u)]) K (l ++ [u]) := ⟨by rw [List.map_append, r.1]; rfl, fun i hi => by
  rw [List.length_append] at hi
  rw [rowsK_getD]
  by_cases hc : i < ms.length
  · rw [if_pos hc]; exact r.2 i hc
  · rw [if_neg hc, if_pos (by simp at hi; omega)]; exact a⟩
theorem UsesK.len {ms : List (Value × MUse)} {K : PHeap} {l : List MUse} (r : UsesK ms K l) : ms.length = l.length := by rw [← r.1, List.length_map]
theorem UsesK.at {ms : List (Value × MUse)} {K : PHeap} {l : List MUse} (r : UsesK ms K l) (i : Nat) : (ms.getD i default).2 = l.getD i default := by rw [← map_snd_at, r.1]
theorem take_snocU {l : List (Value × MUse)} {i : Nat} (hi : i < l.length) : (l.map Prod.snd).take (i + 1) = (l.map Prod.snd).take i ++ [(l.getD i default).2] := by
  rw [← map_snd_at, List.take_add_one, List.getElem?_eq_getElem (by rw [List.length_map]; exact hi), List.getD_eq_getElem?_getD, List.getElem?_eq_getElem (by rw [List.length_map]; exact hi)]; rfl
theorem take_snocT {l : List MTier} {i : Nat} (hi : i < l.length) : l.take (i + 1) = l.take i ++ [l.getD i default] := by
  rw [List.take_add_one, List.getElem?_eq_getElem hi, List.getD_eq_getElem?_getD, List.getElem?_eq_getElem hi]; rfl
set_option maxHeartbeats 2000000 in
set_option synthInstance.maxSize 1000 in
theorem bills_spec (t : MTariff) (vp vt : Value) (hp ht : PHeap) [jp : Arr vp encI 1 hp t.price] [jt : Arr vt encTier 2 ht t.tiers] (l : List (Value × MUse)) (vl : Value) (hl hL : PHeap) [jl : Arr vl encUse 2 hl l] (aL : ∀ i, i < l.length → Arr (l.getD i default).1 encI 1 hL (l.getD i default).2.values)
    (nl : l.length ≤ 70) (np : t.price.length ≤ 30) (nt : t.tiers.length ≤ 12) (nv : ∀ i, i < l.length → (l.getD i default).2.values.length ≤ 5000) :
    Spec Try.prog 21 #[.agg #[vp, .int .i64 t.base, vt, .int .i64 t.credit], vl] [] [hp, ht, hl, hL] (fun v hs => v = .bool true ∧ hs = []) := by
  have hnT : OArr (.slice none 0 0) encTier 2 136 emp ([] : List MTier) := OArr.nil (fun _ => rfl)
  have hnU : OArr (.slice none 0 0) encUse 2 138 emp ([] : List (Value × MUse)) := OArr.nil (fun _ => rfl)
  refine Spec.intro (fn := Try.f21) (N := 156) Try.func21 rfl Try.ntmps21 rfl fun B => ?_
  refine XK.seq ?_
  refine XK.region rfl ?_
  refine XO.box rfl fun b2 => ?_
  refine XO.q (Q.assign rfl) ?_
  refine XO.done ?_
  refine XK.seq ?_
  refine XK.meet (X := Nat × Value × Value × PHeap × PHeap) [5, 24, 25, 26, 27, 28, 29, 30, 31, 32, 33, 34] (fun ⟨b5, v26, v31, k26, k31⟩ => [(5, some (ptr b5 0))]) (fun ⟨b5, v26, v31, k26, k31⟩ => [blk b5 [v26, .int .i64 t.base, v31, .int .i64 t.credit] 27, k26, k31]) (fun ⟨b5, v26, v31, k26, k31⟩ => OArr v26 encI 1 3 k26 t.price ∧ OArr v31 encTier 2 33 k31 t.tiers) [] ?_ ?_
  · rintro ⟨b5, v26, v31, k26, k31⟩ ⟨O26, O31⟩
    dsimp only [List.cons_append, List.nil_append]
    refine XK.seq ?_
    refine XK.meet (X := Nat × Value × PHeap) [6, 35, 36, 37, 38, 39, 40, 41, 42] (fun ⟨b6, v37, k37⟩ => [(6, some (ptr b6 0))]) (fun ⟨b6, v37, k37⟩ => [blk b6 [v37, .int .i64 t.base, .slice none 0 0, .int .i64 t.credit] 135, k37]) (fun ⟨b6, v37, k37⟩ => OArr v37 encI 1 3 k37 t.price) [] ?_ ?_
    · rintro ⟨b6, v37, k37⟩ O37
      dsimp only [List.cons_append, List.nil_append]
      refine XK.seq ?_
      refine XK.seq ?_
      refine XK.region rfl ?_
      refine XO.q (Q.fieldAddr rfl) ?_
      refine XO.q (Q.ld rfl rfl) ?_
      refine XO.len rfl fun l45 => ?_
      refine XO.q (Q.move rfl) ?_
      refine XO.done ?_
      refine XK.block ?_
      refine XK.while (X := Nat × Value × PHeap) [8, 46, 47, 48, 49, 50, 51, 52, 53, 54, 55, 56] (fun ⟨i, w, kw⟩ => [(46, some (.int .i64 (i : Nat)))]) (fun ⟨i, w, kw⟩ => [blk b6 [v37, .int .i64 t.base, w, .int .i64 t.credit] 135, kw]) (fun ⟨i, w, kw⟩ => i ≤ t.tiers.length ∧ OArr w encTier 2 136 kw (t.tiers.take i)) (fun ⟨i, w, kw⟩ => t.tiers.length - i) (0, .slice none 0 0, emp) [blk b6 [v37, .int .i64 t.base, .slice none 0 0, .int .i64 t.credit] 135, emp] rfl ⟨by omega, hnT⟩ (.c rfl (.base 0 rfl rfl)) ?_
      rintro ⟨i, w, kw⟩ ⟨hi, OT⟩ ih0
      dsimp only [List.cons_append, List.nil_append] at ih0 ⊢
      have el : (t.tiers.take i).length = i := by rw [List.length_take]; omega
      refine XK.seq ?_
      refine XK.region rfl ?_
      refine XO.q (Q.lss rfl rfl) ?_
      refine XO.done ?_
      refine XK.seq ?_
      refine XK.if rfl (fun c0 => ?_) (fun c0 => ?_)
      · have _t0 := True.intro
        refine XK.skip ?_
        refine XK.seq ?_
        refine XK.block ?_
        refine XK.seq ?_
        refine XK.region rfl ?_
        refine XO.ix rfl rfl (by omega) (by omega) fun i48 => ?_
        refine XO.q (Q.ldEA [_, _] rfl (by first | assumption | omega) rfl rfl) ?_
        refine XO.alloc fun b8 => ?_
        refine XO.st rfl rfl rfl ?_
        refine XO.done ?_
        refine XK.region rfl ?_
        refine XO.q (Q.fieldAddr rfl) ?_
        refine XO.q (Q.ld rfl rfl) ?_
        refine XO.q (Q.ldA [_, _] rfl rfl rfl) ?_
        refine XO.lit [_, _] [_, _] [t.tiers.getD i default] encTier (by rfl) (by rfl) rfl (by rfl) (by exact .c 0 2 rfl rfl rfl (.n _)) (fun _ => rfl) (by rfl) rfl (by infer_instance) rfl fun v53 h53 O53 => ?_
        refine XO.append rfl rfl rfl rfl (by first | omega | (simp; omega)) fun v54 h54 O54 => ?_
        refine XO.q (Q.fieldAddr rfl) ?_
        refine XO.st rfl rfl rfl ?_
        refine XO.done ?_
        refine XK.inBlock ?_
        refine XK.region rfl ?_
        refine XO.q (Q.add rfl rfl ⟨by omega, by omega⟩) ?_
        refine XO.q (Q.move rfl) ?_
        refine XO.done ?_
        exact ih0 (i + 1, v54, h54) _ _ ⟨by dsimp only; omega, by dsimp only; rw [take_snocT (by omega)]; exact O54⟩ (by first | omega | (dsimp only; omega)) (.c rfl (.base 25 rfl rfl)) inferInstance
      · have _t0 := True.intro
        have hin : i = t.tiers.length := by omega
        subst hin
        rw [List.take_length] at OT
        clear ih0
        refine XK.exit rfl ?_
        refine XK.seq ?_
        refine XK.region rfl ?_
        refine XO.q (Q.assign rfl) ?_
        refine XO.done ?_
        refine XK.seq ?_
        refine XK.seq ?_
        refine XK.region rfl ?_
        refine XO.q (Q.move rfl) ?_
        refine XO.len rfl fun l58 => ?_
        refine XO.q (Q.move rfl) ?_
        refine XO.done ?_
        refine XK.block ?_
        refine XK.while (X := Nat × Value × PHeap × PHeap × List (Value × MUse)) [9, 11, 59, 60, 61, 62, 63, 64, 65, 66, 67, 68, 69, 70, 71, 72] (fun ⟨i, vm, km, K, ms⟩ => [(9, some (vm)), (59, some (.int .i64 (i : Nat)))]) (fun ⟨i, vm, km, K, ms⟩ => [km, K]) (fun ⟨i, vm, km, K, ms⟩ => i ≤ l.length ∧ OArr vm encUse 2 138 km ms ∧ UsesK ms K ((l.map Prod.snd).take i)) (fun ⟨i, vm, km, K, ms⟩ => l.length - i) (0, .slice none 0 0, emp, emp, []) [emp, emp] rfl ⟨by omega, hnU, UsesK.nil⟩ (.c rfl (.c rfl (.base 0 rfl rfl))) ?_
        rintro ⟨i, vm, km, K, ms⟩ ⟨hi, OU, UU⟩ ih1
        dsimp only [List.cons_append, List.nil_append] at ih1 ⊢
        refine XK.seq ?_
        refine XK.region rfl ?_
        refine XO.q (Q.lss rfl rfl) ?_
        refine XO.done ?_
        refine XK.seq ?_
        refine XK.if rfl (fun c1 => ?_) (fun c1 => ?_)
        · have _t1 := True.intro
          have ai := aL i (by omega)
          have ni := nv i (by omega)
          have ul := UU.len
          rw [List.length_take, List.length_map] at ul
          refine XK.skip ?_
          refine XK.seq ?_
          refine XK.block ?_
          refine XK.seq ?_
          refine XK.region rfl ?_
          refine XO.ix rfl rfl (by omega) (by omega) fun i61 => ?_
          refine XO.q (Q.ldEA [_, _] rfl (by first | assumption | omega) rfl rfl) ?_
          refine XO.alloc fun b11 => ?_
          refine XO.st rfl rfl rfl ?_
          refine XO.done ?_
          refine XK.drawn [0, 1, 2, 4, 5, 6, 9] [b11] [] (.q 0 (.q 1 (.q 2 (.q 4 (.q 5 (.br 3 true (.q 6 (.br 7 true (.br 8 true (.q 9 .done) .stop) .stop)) .stop)))))) Try.mixed rfl (by kernel_rfl) ?_
          refine XT.q rfl rfl (Q.move rfl) ?_
          refine XT.q rfl rfl (Q.fieldAddr rfl) ?_
          refine XT.q rfl rfl (Q.ld rfl rfl) ?_
          refine XT.q rfl rfl (Q.fieldAddr rfl) ?_
          refine XT.q rfl rfl (Q.ld rfl rfl) ?_
          refine XT.call rfl rfl Try.call20 rfl rfl rfl (cloneI (l.getD i default).1 hL (l.getD i default).2.values (by omega)) (fun v66 s66 R66 => ?_) XT.stop
          obtain ⟨k66, rfl, O66⟩ := R66
          dsimp only [List.cons_append, List.nil_append]
          refine ⟨inferInstance, ?_⟩
          refine XT.q rfl rfl (Q.build [_, _] (.c 0 1 rfl rfl rfl (.c 1 1 rfl rfl rfl (.n _)))) ?_
          refine XT.lit [_, _] [_, _] [(v66, (l.getD i default).2)] encUse rfl rfl (by rfl) (by rfl) rfl (by rfl) (by exact .c 0 2 rfl rfl rfl (.n _)) (fun _ => rfl) (by rfl) rfl (by infer_instance) rfl (fun v70 h70 O70 => ⟨inferInstance, ?_⟩) XT.stop
          refine XT.append rfl rfl rfl rfl rfl rfl (by first | omega | (simp; omega)) (fun v71 h71 O71 => ⟨inferInstance, ?_⟩) XT.stop
          refine XT.q rfl rfl (Q.assign rfl) ?_
          refine XT.done ?_
          refine XK.inBlock ?_
          refine XK.region rfl ?_
          refine XO.q (Q.add rfl rfl ⟨by omega, by omega⟩) ?_
          refine XO.q (Q.move rfl) ?_
          refine XO.done ?_
          refine XK.cat K k66 fun l1 l2 => ?_
          exact ih1 (i + 1, v71, h71, cat K k66, ms ++ [(v66, (l.getD i default).2)]) _ _ ⟨by dsimp only; omega, O71, by dsimp only; rw [take_snocU (by omega)]; exact (UU.mono l1).snoc (Arr.le_heap (OArr.arr (s := O66)) l2)⟩ (by first | omega | (dsimp only; omega)) (.c rfl (.c rfl (.base 34 rfl rfl))) inferInstance
        · have _t1 := True.intro
          have hin : i = l.length := by omega
          subst hin
          rw [show (l.map Prod.snd).take l.length = l.map Prod.snd by rw [← List.length_map (f := Prod.snd), List.take_length]] at UU
          have ul := UU.len
          rw [List.length_map] at ul
          clear ih1
          refine XK.exit rfl ?_
          refine XK.seq ?_
          refine XK.seq ?_
          refine XK.region rfl ?_
          refine XO.q (Q.move rfl) ?_
          refine XO.len rfl fun l74 => ?_
          refine XO.q (Q.move rfl) ?_
          refine XO.done ?_
          refine XK.block ?_
          refine XK.while (X := Nat) [4, 12, 13, 14, 15, 16, 17, 75, 76, 77, 78, 79, 80, 81, 82, 83, 84, 85, 86, 87, 88, 89, 90, 91, 92, 93, 94, 95, 96, 97, 98, 99, 100, 101, 102, 103, 104, 105, 106, 107, 108, 109, 110, 111, 112, 113, 114] (fun i => [(75, some (.int .i64 (i : Nat)))]) (fun i => []) (fun i => i ≤ l.length) (fun i => l.length - i) (0) [] rfl (by omega) (.c rfl (.base 0 rfl rfl)) ?_
          rintro i hi ih2
          dsimp only [List.cons_append, List.nil_append] at ih2 ⊢
          refine XK.seq ?_
          refine XK.region rfl ?_
          refine XO.q (Q.lss rfl rfl) ?_
          refine XO.done ?_
          refine XK.seq ?_
          refine XK.if rfl (fun c2 => ?_) (fun c2 => ?_)
          · have _t2 := True.intro
            have ai := aL i (by omega)
            have ni := nv i (by omega)
            have mi := UU.2 i (by omega)
            have eu : (ms.getD i default).2 = (l.getD i default).2 := by rw [UU.at, map_snd_at]
            refine XK.skip ?_
            refine XK.seq ?_
            refine XK.block ?_
            refine XK.seq ?_
            refine XK.region rfl ?_
            refine XO.q (Q.move rfl) ?_
            refine XO.ix rfl rfl (by omega) (by omega) fun i78 => ?_
            refine XO.q (Q.ldEA [_, _] rfl (by first | assumption | omega) rfl rfl) ?_
            refine XO.alloc fun b13 => ?_
            refine XO.q (Q.assign rfl) ?_
            refine XO.st rfl rfl rfl ?_
            refine XO.done ?_
            refine XK.seq ?_
            refine XK.region rfl ?_
            refine XO.q (Q.ldA [_, _, _, _] rfl rfl rfl) ?_
            refine XO.q (Q.ldA [_, _] rfl rfl rfl) ?_
            refine XO.call Try.call11 rfl rfl rfl (Make_spec t v26 v31 k26 k31 (l.getD i default).2 (l.getD i default).1 hL) fun v83 s83 R83 => ?_
            obtain ⟨rfl, rfl⟩ := R83
            dsimp only [List.cons_append, List.nil_append]
            refine XO.q (Q.move rfl) ?_
            refine XO.q (Q.extract rfl rfl) ?_
            refine XO.q (Q.extract rfl rfl) ?_
            refine XO.alloc fun b14 => ?_
            refine XO.st rfl rfl rfl ?_
            refine XO.q (Q.assign rfl) ?_
            refine XO.done ?_
            refine XK.seq ?_
            refine XK.meet (X := Nat) [16, 17, 86, 87, 88, 89, 90, 91, 92, 93, 94] (fun b16 => [(16, some (ptr b16 0)), (17, some (.int .i64 (makeG t (l.getD i default).2).2))]) (fun b16 => [blk b16 [.int .i64 (makeG t (l.getD i default).2).1.energy, .int .i64 (makeG t (l.getD i default).2).1.amount, .int .i64 (makeG t (l.getD i default).2).1.credit, .int .i64 (makeG t (l.getD i default).2).1.due] 139]) (fun b16 => True) [] ?_ ?_
            · rintro b16 _
              dsimp only [List.cons_append, List.nil_append]
              refine XK.seq ?_
              refine XK.drawn [0, 1, 2, 3, 4, 5, 6, 7, 8, 9, 10, 11, 12, 13, 14, 15, 17, 18] [b14, b16, b13] [km] (.q 0 (.q 1 (.q 2 (.q 3 (.q 4 (.q 5 (.q 6 (.q 7 (.q 8 (.q 9 (.q 10 (.q 11 (.q 12 (.q 13 (.q 14 (.q 15 (.br 16 true (.q 17 (.q 18 .done)) .stop))))))))))))))))) Try.mixed rfl (by kernel_rfl) ?_
              refine XT.q rfl rfl (Q.ldA [_, _, _, _] rfl rfl rfl) ?_
              refine XT.q rfl rfl (Q.ldA [_, _, _, _] rfl rfl rfl) ?_
              refine XT.q rfl rfl (Q.neqS (us := [_, _, _, _]) (vs := [_, _, _, _]) rfl rfl inferInstance (by kernel_rfl) (by kernel_rfl) (.c rfl inferInstance inferInstance rfl rfl (.c rfl inferInstance inferInstance rfl rfl (.c rfl inferInstance inferInstance rfl rfl (.c rfl inferInstance inferInstance rfl rfl .n))))) ?_
              rw [bill_ne]
              refine XT.q rfl rfl (Q.move rfl) ?_
              refine XT.q rfl rfl (Quiet.guardF rfl rfl fun g99 p99 => Q.move rfl) ?_
              refine XT.q rfl rfl (Quiet.guardF rfl rfl fun g100 p100 => Q.move rfl) ?_
              refine XT.q rfl rfl (Quiet.guardF rfl rfl fun g101 p101 => Q.neq (lzv g101 rfl) (lzv g101 rfl)) ?_
              refine XT.q rfl rfl (Q.or rfl (fun hp => lzv hp rfl)) ?_
              refine XT.q rfl rfl (Q.move rfl) ?_
              refine XT.q rfl rfl (Quiet.guardF rfl rfl fun g104 p104 => Q.fieldAddr rfl) ?_
              refine XT.q rfl rfl (Quiet.guardF rfl rfl fun g105 p105 => Q.ld (lzv g105 rfl) rfl) ?_
              refine XT.q rfl rfl (Quiet.guardF rfl rfl fun g106 p106 => Q.move rfl) ?_
              refine XT.q rfl rfl (Quiet.guardF rfl rfl fun g107 p107 => Q.move rfl) ?_
              refine XT.q rfl rfl (Quiet.guardF rfl rfl fun g108 p108 => Q.ix (lzv g108 rfl) (lzv g108 rfl) (by omega) (by omega)) ?_
              refine XT.q rfl rfl (Quiet.guardF rfl rfl fun g109 p109 => Q.fieldQ (lzv g109 rfl) (by first | assumption | omega)) ?_
              refine XT.q rfl rfl (Quiet.guardF rfl rfl fun g110 p110 => Q.ldE (lzv g110 rfl) (by first | assumption | omega) rfl) ?_
              refine XT.gcallF rfl rfl rfl rfl Try.call51 rfl (fun g111 => .c (lzv g111 rfl) (.c (lzv g111 rfl) .n)) rfl (fun g111 p111 => equalI (l.getD i default).1 (ms.getD i default).1 hL K (l.getD i default).2.values (ms.getD i default).2.values) ⟨inferInstance, ?_⟩ XT.stop
              refine XT.q rfl rfl (Quiet.guardF rfl rfl fun g112 p112 => Q.not (lzv g112 rfl)) ?_
              refine XT.q rfl rfl (Q.or rfl (fun hp => lzv hp rfl)) ?_
              refine XT.done ?_
              refine XK.if rfl (fun c3 => ?_) (fun c3 => ?_)
              · have _t3 := True.intro
                rw [eu] at c3
                exact absurd c3 (by simp)
              · have _t3 := True.intro
                refine XK.skip ?_
                refine XK.inBlock ?_
                refine XK.region rfl ?_
                refine XO.q (Q.add rfl rfl ⟨by omega, by omega⟩) ?_
                refine XO.q (Q.move rfl) ?_
                refine XO.done ?_
                exact ih2 (i + 1) _ _ (by omega) (by first | omega | (dsimp only; omega)) (.c rfl (.base 96 rfl rfl)) inferInstance
            · intro mtr18
              dsimp only [List.cons_append, List.nil_append] at mtr18
              refine XK.drawn [0, 1, 2, 3, 4, 6, 7, 8, 11] [b6] [km] (.q 0 (.q 1 (.q 2 (.q 3 (.q 4 (.br 5 true (.q 6 (.q 7 (.q 8 (.br 9 true (.br 10 true (.q 11 .done) .stop) .stop)))) (.br 9 true (.br 5 true (.q 6 (.q 7 (.q 8 (.br 10 true (.q 11 .done) .stop)))) .stop) .stop))))))) Try.mixed rfl (by kernel_rfl) ?_
              refine XT.q rfl rfl (Q.ldA [_, _, _, _] rfl rfl rfl) ?_
              refine XT.q rfl rfl (Q.move rfl) ?_
              refine XT.q rfl rfl (Q.move rfl) ?_
              refine XT.ix rfl rfl rfl rfl (by omega) (by omega) fun i90 => ?_
              refine XT.q rfl rfl (Q.ldEA [_, _] rfl (by first | assumption | omega) rfl rfl) ?_
              refine XT.call rfl rfl Try.call60 rfl rfl rfl (RMake_spec t v37 w k37 kw (ms.getD i default).2 (ms.getD i default).1 K) (fun v92 s92 R92 => ?_) ?_
              · skip
                obtain ⟨rfl, rfl⟩ := R92
                dsimp only [List.cons_append, List.nil_append]
                refine ⟨inferInstance, ?_⟩
                rw [eu]
                refine XT.q rfl rfl (Q.move rfl) ?_
                refine XT.q rfl rfl (Q.extract rfl rfl) ?_
                refine XT.q rfl rfl (Q.extract rfl rfl) ?_
                refine XT.alloc rfl rfl (fun b16 => ⟨inferInstance, ?_⟩) XT.stop
                refine XT.st rfl rfl rfl rfl rfl ⟨inferInstance, ?_⟩ XT.stop
                refine XT.q rfl rfl (Q.assign rfl) ?_
                refine XT.done ?_
                exact mtr18 (b16) _ _ trivial (.c rfl (.c rfl (.base 11 rfl rfl))) inferInstance
              · skip
                refine XT.alloc rfl rfl (fun b16 => ⟨inferInstance, ?_⟩) XT.stop
                refine XT.call rfl rfl Try.call60 rfl rfl rfl (RMake_spec t v37 w k37 kw (ms.getD i default).2 (ms.getD i default).1 K) (fun v92 s92 R92 => ?_) XT.stop
                obtain ⟨rfl, rfl⟩ := R92
                dsimp only [List.cons_append, List.nil_append]
                refine ⟨inferInstance, ?_⟩
                rw [eu]
                refine XT.q rfl rfl (Q.move rfl) ?_
                refine XT.q rfl rfl (Q.extract rfl rfl) ?_
                refine XT.q rfl rfl (Q.extract rfl rfl) ?_
                refine XT.st rfl rfl rfl rfl rfl ⟨inferInstance, ?_⟩ XT.stop
                refine XT.q rfl rfl (Q.assign rfl) ?_
                refine XT.done ?_
                exact mtr18 (b16) _ _ trivial (.c rfl (.c rfl (.base 11 rfl rfl))) inferInstance
          · have _t2 := True.intro
            refine XK.exit rfl ?_
            refine XK.seq ?_
            refine XK.region rfl ?_
            refine XO.q (Q.ldA [_, _, _, _] rfl rfl rfl) ?_
            refine XO.q (Q.move rfl) ?_
            refine XO.call Try.call12 rfl rfl rfl (Total_spec t v26 v31 k26 k31 l vl hl hL aL) fun v118 s118 R118 => ?_
            obtain ⟨vo, ko, rfl, rfl, AO⟩ := R118
            dsimp only [List.cons_append, List.nil_append]
            obtain ⟨r, er⟩ : ∃ r, r = (totalG t (l.map Prod.snd)) := ⟨_, rfl⟩
            rw [← er] at AO ⊢
            refine XO.q (Q.move rfl) ?_
            refine XO.q (Q.extract rfl rfl) ?_
            refine XO.q (Q.extract rfl rfl) ?_
            refine XO.q (Q.extract rfl rfl) ?_
            refine XO.alloc fun b19 => ?_
            refine XO.q (Q.assign rfl) ?_
            refine XO.st rfl rfl rfl ?_
            refine XO.q (Q.assign rfl) ?_
            refine XO.done ?_
            refine XK.seq ?_
            refine XK.region rfl ?_
            refine XO.q (Q.ldA [_, _, _, _] rfl rfl rfl) ?_
            refine XO.q (Q.move rfl) ?_
            refine XO.call Try.call61 rfl rfl rfl (RTotal_spec t v37 w k37 kw ms vm km K UU.2) fun v125 s125 R125 => ?_
            obtain ⟨vo2, ko2, rfl, rfl, AO2⟩ := R125
            dsimp only [List.cons_append, List.nil_append]
            rw [UU.1, ← er] at AO2 ⊢
            refine XO.q (Q.move rfl) ?_
            refine XO.q (Q.extract rfl rfl) ?_
            refine XO.q (Q.extract rfl rfl) ?_
            refine XO.q (Q.extract rfl rfl) ?_
            refine XO.alloc fun b22 => ?_
            refine XO.q (Q.assign rfl) ?_
            refine XO.st rfl rfl rfl ?_
            refine XO.q (Q.assign rfl) ?_
            refine XO.done ?_
            refine XK.seq ?_
            refine XK.region rfl ?_
            refine XO.q (Q.move rfl) ?_
            refine XO.q (Q.move rfl) ?_
            refine XO.q (Q.eql rfl rfl) ?_
            refine XO.q (Q.move rfl) ?_
            refine XO.q (Quiet.guardT rfl rfl fun g133 p133 => Q.ldA [_, _, _, _] rfl rfl rfl) ?_
            refine XO.q (Quiet.guardT rfl rfl fun g134 p134 => Q.ldA [_, _, _, _] rfl rfl rfl) ?_
            refine XO.q (Quiet.guardT rfl rfl fun g135 p135 => Q.eqlS (us := [_, _, _, _]) (vs := [_, _, _, _]) (lzv g135 rfl) (lzv g135 rfl) inferInstance (by kernel_rfl) (by kernel_rfl) (.c rfl inferInstance inferInstance rfl rfl (.c rfl inferInstance inferInstance rfl rfl (.c rfl inferInstance inferInstance rfl rfl (.c rfl inferInstance inferInstance rfl rfl .n))))) ?_
            rw [bill_eq]
            refine XO.q (Q.and rfl (fun hp => lzv hp rfl)) ?_
            refine XO.q (Q.move rfl) ?_
            refine XO.q (Quiet.guardT rfl rfl fun g138 p138 => Q.move rfl) ?_
            refine XO.q (Quiet.guardT rfl rfl fun g139 p139 => Q.move rfl) ?_
            refine XO.gcallT rfl rfl Try.call62 rfl (fun g140 => .c (lzv g140 rfl) (.c (lzv g140 rfl) (.c rfl .n))) rfl (fun g140 p140 => equalBF vo vo2 ko ko2 r.1 r.1) ?_
            refine XO.q (Q.and rfl (fun hp => lzv hp rfl)) ?_
            refine XO.q (Q.move rfl) ?_
            refine XO.q (Quiet.guardT rfl rfl fun g143 p143 => Q.fieldAddr rfl) ?_
            refine XO.q (Quiet.guardT rfl rfl fun g144 p144 => Q.ld (lzv g144 rfl) rfl) ?_
            refine XO.q (Quiet.guardT rfl rfl fun g145 p145 => Q.fieldAddr rfl) ?_
            refine XO.q (Quiet.guardT rfl rfl fun g146 p146 => Q.ld (lzv g146 rfl) rfl) ?_
            refine XO.gcallT rfl rfl Try.call51 rfl (fun g147 => .c (lzv g147 rfl) (.c (lzv g147 rfl) .n)) rfl (fun g147 p147 => equalI v26 vp k26 hp t.price t.price) ?_
            refine XO.q (Q.and rfl (fun hp => lzv hp rfl)) ?_
            refine XO.q (Q.move rfl) ?_
            refine XO.q (Quiet.guardT rfl rfl fun g150 p150 => Q.fieldAddr rfl) ?_
            refine XO.q (Quiet.guardT rfl rfl fun g151 p151 => Q.ld (lzv g151 rfl) rfl) ?_
            refine XO.q (Quiet.guardT rfl rfl fun g152 p152 => Q.fieldAddr rfl) ?_
            refine XO.q (Quiet.guardT rfl rfl fun g153 p153 => Q.ld (lzv g153 rfl) rfl) ?_
            refine XO.gcallT rfl rfl Try.call64 rfl (fun g154 => .c (lzv g154 rfl) (.c (lzv g154 rfl) .n)) rfl (fun g154 p154 => equalT v31 vt k31 ht t.tiers t.tiers) ?_
            refine XO.q (Q.and rfl (fun hp => lzv hp rfl)) ?_
            refine XO.q (Q.assign rfl) ?_
            refine XO.done ?_
            refine XK.rt [] Try.func21 Try.results21 (.t rfl .n) ?_
            exact ⟨by simp, rfl⟩
    · intro mtr2
      dsimp only [List.cons_append, List.nil_append] at mtr2
      refine XK.drawn [0, 1, 3, 4, 5, 6, 7] [b2] [] (.q 0 (.q 1 (.q 3 (.q 4 (.q 5 (.q 6 (.br 2 true (.q 7 (.br 8 true (.br 9 false .done .stop) .stop)) (.br 8 true (.br 2 true (.q 7 (.br 9 false .done .stop)) .stop) .stop)))))))) Try.mixed rfl (by kernel_rfl) ?_
      refine XT.q rfl rfl (Q.fieldAddr rfl) ?_
      refine XT.q rfl rfl (Q.ld rfl rfl) ?_
      refine XT.q rfl rfl (Q.fieldAddr rfl) ?_
      refine XT.q rfl rfl (Q.ld rfl rfl) ?_
      refine XT.q rfl rfl (Q.fieldAddr rfl) ?_
      refine XT.q rfl rfl (Q.ld rfl rfl) ?_
      refine XT.call rfl rfl Try.call20 rfl rfl rfl (cloneI vp hp t.price (by omega)) (fun v37 s37 R37 => ?_) ?_
      · skip
        obtain ⟨k37, rfl, O37⟩ := R37
        dsimp only [List.cons_append, List.nil_append]
        refine ⟨inferInstance, ?_⟩
        refine XT.q rfl rfl (Q.build [_, _, _, _] (.c 0 1 rfl rfl rfl (.c 1 1 rfl rfl rfl (.c 3 1 rfl rfl rfl (.n _))))) ?_
        refine XT.alloc rfl rfl (fun b6 => ⟨inferInstance, ?_⟩) XT.stop
        refine XT.st rfl rfl rfl rfl rfl ⟨inferInstance, ?_⟩ XT.stop
        refine XT.done ?_
        exact mtr2 ((b6, v37, k37)) _ _ O37 (.c rfl (.base 9 rfl rfl)) inferInstance
      · skip
        refine XT.alloc rfl rfl (fun b6 => ⟨inferInstance, ?_⟩) XT.stop
        refine XT.call rfl rfl Try.call20 rfl rfl rfl (cloneI vp hp t.price (by omega)) (fun v37 s37 R37 => ?_) XT.stop
        obtain ⟨k37, rfl, O37⟩ := R37
        dsimp only [List.cons_append, List.nil_append]
        refine ⟨inferInstance, ?_⟩
        refine XT.q rfl rfl (Q.build [_, _, _, _] (.c 0 1 rfl rfl rfl (.c 1 1 rfl rfl rfl (.c 3 1 rfl rfl rfl (.n _))))) ?_
        refine XT.st rfl rfl rfl rfl rfl ⟨inferInstance, ?_⟩ XT.stop
        refine XT.done ?_
        exact mtr2 ((b6, v37, k37)) _ _ O37 (.c rfl (.base 9 rfl rfl)) inferInstance
  · intro mtr1
    dsimp only [List.cons_append, List.nil_append] at mtr1
    refine XK.drawn [0, 1, 3, 4, 5, 6, 8, 9, 10] [b2] [] (.q 0 (.q 1 (.q 3 (.q 4 (.q 5 (.q 6 (.q 8 (.q 9 (.br 2 true (.br 7 true (.q 10 (.br 11 true (.br 12 false .done .stop) .stop)) (.br 11 true (.br 7 true (.q 10 (.br 12 false .done .stop)) .stop) .stop)) (.br 11 true (.br 2 true (.br 7 true (.q 10 (.br 12 false .done .stop)) .stop) .stop) .stop)))))))))) Try.mixed rfl (by kernel_rfl) ?_
    refine XT.q rfl rfl (Q.fieldAddr rfl) ?_
    refine XT.q rfl rfl (Q.ld rfl rfl) ?_
    refine XT.q rfl rfl (Q.fieldAddr rfl) ?_
    refine XT.q rfl rfl (Q.ld rfl rfl) ?_
    refine XT.q rfl rfl (Q.fieldAddr rfl) ?_
    refine XT.q rfl rfl (Q.ld rfl rfl) ?_
    refine XT.q rfl rfl (Q.fieldAddr rfl) ?_
    refine XT.q rfl rfl (Q.ld rfl rfl) ?_
    refine XT.call rfl rfl Try.call20 rfl rfl rfl (cloneI vp hp t.price (by omega)) (fun v26 s26 R26 => ?_) ?_
    · skip
      obtain ⟨k26, rfl, O26⟩ := R26
      dsimp only [List.cons_append, List.nil_append]
      refine ⟨inferInstance, ?_⟩
      refine XT.call rfl rfl Try.call59 rfl rfl rfl (cloneT vt ht t.tiers (by omega)) (fun v31 s31 R31 => ?_) ?_
      · skip
        obtain ⟨k31, rfl, O31⟩ := R31
        dsimp only [List.cons_append, List.nil_append]
        refine ⟨inferInstance, ?_⟩
        refine XT.q rfl rfl (Q.build [_, _, _, _] (.c 0 1 rfl rfl rfl (.c 1 1 rfl rfl rfl (.c 2 1 rfl rfl rfl (.c 3 1 rfl rfl rfl (.n _)))))) ?_
        refine XT.alloc rfl rfl (fun b5 => ⟨inferInstance, ?_⟩) XT.stop
        refine XT.st rfl rfl rfl rfl rfl ⟨inferInstance, ?_⟩ XT.stop
        refine XT.done ?_
        exact mtr1 ((b5, v26, v31, k26, k31)) _ _ ⟨O26, O31⟩ (.c rfl (.base 12 rfl rfl)) inferInstance
      · skip
        refine XT.alloc rfl rfl (fun b5 => ⟨inferInstance, ?_⟩) XT.stop
        refine XT.call rfl rfl Try.call59 rfl rfl rfl (cloneT vt ht t.tiers (by omega)) (fun v31 s31 R31 => ?_) XT.stop
        obtain ⟨k31, rfl, O31⟩ := R31
        dsimp only [List.cons_append, List.nil_append]
        refine ⟨inferInstance, ?_⟩
        refine XT.q rfl rfl (Q.build [_, _, _, _] (.c 0 1 rfl rfl rfl (.c 1 1 rfl rfl rfl (.c 2 1 rfl rfl rfl (.c 3 1 rfl rfl rfl (.n _)))))) ?_
        refine XT.st rfl rfl rfl rfl rfl ⟨inferInstance, ?_⟩ XT.stop
        refine XT.done ?_
        exact mtr1 ((b5, v26, v31, k26, k31)) _ _ ⟨O26, O31⟩ (.c rfl (.base 12 rfl rfl)) inferInstance
    · skip
      refine XT.alloc rfl rfl (fun b5 => ⟨inferInstance, ?_⟩) XT.stop
      refine XT.call rfl rfl Try.call20 rfl rfl rfl (cloneI vp hp t.price (by omega)) (fun v26 s26 R26 => ?_) XT.stop
      obtain ⟨k26, rfl, O26⟩ := R26
      dsimp only [List.cons_append, List.nil_append]
      refine ⟨inferInstance, ?_⟩
      refine XT.call rfl rfl Try.call59 rfl rfl rfl (cloneT vt ht t.tiers (by omega)) (fun v31 s31 R31 => ?_) XT.stop
      obtain ⟨k31, rfl, O31⟩ := R31
      dsimp only [List.cons_append, List.nil_append]
      refine ⟨inferInstance, ?_⟩
      refine XT.q rfl rfl (Q.build [_, _, _, _] (.c 0 1 rfl rfl rfl (.c 1 1 rfl rfl rfl (.c 2 1 rfl rfl rfl (.c 3 1 rfl rfl rfl (.n _)))))) ?_
      refine XT.st rfl rfl rfl rfl rfl ⟨inferInstance, ?_⟩ XT.stop
      refine XT.done ?_
      exact mtr1 ((b5, v26, v31, k26, k31)) _ _ ⟨O26, O31⟩ (.c rfl (.base 12 rfl rfl)) inferInstance
end Go.X

set_option linter.unusedSimpArgs false
set_option linter.unusedVariables false
set_option maxRecDepth 20000
namespace Go.X
open Go.Proofs
theorem chk_false {key : Int} {ls : List MLink} {i : Nat} : chkF key ls false i = errAt (rdsL ls) i := by
  unfold chkF
  split
  · rfl
  · rename_i h
    rw [if_neg (fun h2 => by cases h2.1)]
    exact (Decidable.of_not_not h).symm
theorem sumM_succ (rs : List MRd) (m : Int) (n : Nat) : sumM rs m (n + 1) = sumM rs m n + meterV rs m n := rfl
theorem sumM_in {rs : List MRd} {m : Int} {n : Nat} (h : (rs.getD n default).meter = m) : sumM rs m n + (rs.getD n default).value = sumM rs m (n + 1) := by rw [sumM_succ, meterV, if_pos h]
theorem sumM_out {rs : List MRd} {m : Int} {n : Nat} (h : ¬ (rs.getD n default).meter = m) : sumM rs m n = sumM rs m (n + 1) := by rw [sumM_succ, meterV, if_neg h, Int.add_zero]
theorem hasM_in {rs : List MRd} {m : Int} {n : Nat} (hn : n < rs.length) (h : (rs.getD n default).meter = m) : hasM (rs.take (n + 1)) m = true := by rw [take_snocR hn, hasM_snoc, decide_eq_true h, Bool.or_true]
theorem hasM_out {rs : List MRd} {m : Int} {n : Nat} (hn : n < rs.length) (h : ¬ (rs.getD n default).meter = m) : hasM (rs.take n) m = hasM (rs.take (n + 1)) m := by rw [take_snocR hn, hasM_snoc, decide_eq_false h, Bool.or_false]
set_option maxHeartbeats 1000000 in
theorem RTable_spec (ls : List MLink) (vl : Value) (hl : PHeap) [jl : Arr vl encLink 4 hl ls] : Spec Try.prog 73 #[vl] [] [hl] (fun v hs => ∃ v1 k1, v = .tuple #[v1, .int .i64 (tableG ls).2] ∧ hs = [k1] ∧ OArr v1 encP 2 161 k1 (tableG ls).1) := by
  have ll := jl.le
  have rl := rds_len ls
  have nP : OArr (.slice none 0 0) encP 2 161 emp ([] : List (Int × Int)) := OArr.nil (fun _ => rfl)
  refine Spec.intro (fn := Try.f73) (N := 61) Try.func73 rfl Try.ntmps73 rfl fun B => ?_
  refine XK.seq ?_
  refine XK.region rfl ?_
  refine XO.q (Q.assign rfl) ?_
  refine XO.q (Q.assign rfl) ?_
  refine XO.done ?_
  refine XK.seq ?_
  refine XK.seq ?_
  refine XK.region rfl ?_
  refine XO.q (Q.move rfl) ?_
  refine XO.len rfl fun l13 => ?_
  refine XO.q (Q.gtr rfl rfl) ?_
  refine XO.done ?_
  refine XK.if rfl (fun c0 => ?_) (fun c0 => ?_)
  · have _t0 := True.intro
    refine XK.seq ?_
    refine XK.region rfl ?_
    refine XO.q (Q.assign rfl) ?_
    refine XO.q (Q.assign rfl) ?_
    refine XO.done ?_
    refine XK.rt [emp] Try.func73 Try.results73 (.t rfl (.t rfl .n)) ?_
    have e0 : checkG 0 ls false = (0, 2) := by rw [checkG, if_pos (by omega)]
    have e : tableG ls = ([], 2) := by rw [tableG, e0, if_pos (by decide)]
    rw [e]
    exact ⟨.slice none 0 0, emp, rfl, rfl, nP⟩
  · have _t0 := True.intro
    refine XK.skip ?_
    refine XK.seq ?_
    refine XK.region rfl ?_
    refine XO.q (Q.move rfl) ?_
    refine XO.call Try.call97 rfl rfl rfl (readings11 ls vl hl (by omega)) fun v16 s16 R16 => ?_
    obtain ⟨kr, rfl, OR⟩ := R16
    dsimp only [List.cons_append, List.nil_append]
    refine XO.q (Q.assign rfl) ?_
    refine XO.done ?_
    refine XK.seq ?_
    refine XK.seq ?_
    refine XK.region rfl ?_
    refine XO.q (Q.assign rfl) ?_
    refine XO.done ?_
    refine XK.block ?_
    refine XK.while (X := Nat) [2, 3, 5, 6, 17, 18, 19, 20, 21, 22, 23, 24, 25, 26, 27, 28] (fun i => [(5, some (.int .i64 (i : Nat)))]) (fun i => []) (fun i => i ≤ ls.length ∧ ∀ j, j < i → errAt (rdsL ls) j = 0) (fun i => ls.length - i) (0) [] rfl ⟨by omega, fun j hj => by omega⟩ (.c rfl (.base 0 rfl rfl)) ?_
    rintro i ⟨hi, he⟩ ih0
    dsimp only [List.cons_append, List.nil_append] at ih0 ⊢
    refine XK.seq ?_
    refine XK.seq ?_
    refine XK.region rfl ?_
    refine XO.q (Q.move rfl) ?_
    refine XO.q (Q.move rfl) ?_
    refine XO.len rfl fun l19 => ?_
    refine XO.q (Q.lss rfl rfl) ?_
    refine XO.done ?_
    refine XK.if rfl (fun c1 => ?_) (fun c1 => ?_)
    · have _t1 := True.intro
      refine XK.skip ?_
      refine XK.seq ?_
      refine XK.block ?_
      refine XK.seq ?_
      refine XK.region rfl ?_
      refine XO.q (Q.move rfl) ?_
      refine XO.q (Q.move rfl) ?_
      refine XO.call Try.call70 rfl rfl rfl (wrong11 (rdsL ls) v16 kr i (by omega)) fun v25 s25 R25 => ?_
      obtain ⟨rfl, rfl⟩ := R25
      dsimp only [List.cons_append, List.nil_append]
      refine XO.q (Q.assign rfl) ?_
      refine XO.done ?_
      refine XK.seq ?_
      refine XK.region rfl ?_
      refine XO.q (Q.move rfl) ?_
      refine XO.q (Q.neq rfl rfl) ?_
      refine XO.done ?_
      refine XK.if rfl (fun c2 => ?_) (fun c2 => ?_)
      · have _t2 := True.intro
        refine XK.seq ?_
        refine XK.region rfl ?_
        refine XO.q (Q.move rfl) ?_
        refine XO.q (Q.assign rfl) ?_
        refine XO.q (Q.assign rfl) ?_
        refine XO.done ?_
        refine XK.rt [emp] Try.func73 Try.results73 (.t rfl (.t rfl .n)) ?_
        have e0 : checkG 0 ls false = ((i : Int), errAt (rdsL ls) i) := by rw [checkG, if_neg (by omega), scan_here (i := i) (fun j hj => by rw [chk_false]; exact he j hj) (by rw [chk_false]; exact c2) (by omega)]; dsimp only; rw [chk_false]
        have e : tableG ls = ([], errAt (rdsL ls) i) := by rw [tableG, e0, if_pos c2]
        rw [e]
        exact ⟨.slice none 0 0, emp, rfl, rfl, nP⟩
      · have _t2 := True.intro
        refine XK.skip ?_
        refine XK.inBlock ?_
        refine XK.region rfl ?_
        refine XO.q (Q.move rfl) ?_
        refine XO.q (Q.add rfl rfl ⟨by omega, by omega⟩) ?_
        refine XO.q (Q.assign rfl) ?_
        refine XO.done ?_
        exact ih0 (i + 1) _ _ ⟨by omega, fun j hj => (by rcases Nat.lt_or_ge j i with h3 | h3; exact he j h3; obtain rfl : j = i := (by omega); exact Decidable.of_not_not c2)⟩ (by first | omega | (dsimp only; omega)) (.c rfl (.base 30 rfl rfl)) inferInstance
    · have _t1 := True.intro
      have hin : i = ls.length := by omega
      subst hin
      have vr : ∀ j, j < ls.length → 0 ≤ ((rdsL ls).getD j default).value ∧ ((rdsL ls).getD j default).value ≤ 1000000000 := fun j hj => errAt_rng (he j hj)
      clear ih0
      refine XK.exit rfl ?_
      refine XK.seq ?_
      refine XK.region rfl ?_
      refine XO.q (Q.assign rfl) ?_
      refine XO.done ?_
      refine XK.seq ?_
      refine XK.seq ?_
      refine XK.region rfl ?_
      refine XO.q (Q.assign rfl) ?_
      refine XO.done ?_
      refine XK.block ?_
      refine XK.while (X := Nat × Value × PHeap) [7, 8, 9, 10, 11, 29, 30, 31, 32, 33, 34, 35, 36, 37, 38, 39, 40, 41, 42, 43, 44, 45, 46, 47, 48, 49, 50, 51, 52, 53, 54, 55, 56, 57, 58, 59] (fun ⟨m, vo, ko⟩ => [(7, some (vo)), (8, some (.int .i64 (m : Nat)))]) (fun ⟨m, vo, ko⟩ => [ko]) (fun ⟨m, vo, ko⟩ => m ≤ 64 ∧ OArr vo encP 2 161 ko (tabTo (rdsL ls) m)) (fun ⟨m, vo, ko⟩ => 64 - m) (0, .slice none 0 0, emp) [emp] rfl ⟨by omega, nP⟩ (.c rfl (.c rfl (.base 0 rfl rfl))) ?_
      rintro ⟨m, vo, ko⟩ ⟨hm, OO⟩ ih1
      dsimp only [List.cons_append, List.nil_append] at ih1 ⊢
      refine XK.seq ?_
      refine XK.seq ?_
      refine XK.region rfl ?_
      refine XO.q (Q.move rfl) ?_
      refine XO.q (Q.lss rfl rfl) ?_
      refine XO.done ?_
      refine XK.if rfl (fun c3 => ?_) (fun c3 => ?_)
      · have _t3 := True.intro
        have tl := tab_len (rdsL ls) m
        refine XK.skip ?_
        refine XK.seq ?_
        refine XK.block ?_
        refine XK.seq ?_
        refine XK.region rfl ?_
        refine XO.q (Q.assign rfl) ?_
        refine XO.q (Q.assign rfl) ?_
        refine XO.done ?_
        refine XK.seq ?_
        refine XK.seq ?_
        refine XK.region rfl ?_
        refine XO.q (Q.assign rfl) ?_
        refine XO.done ?_
        refine XK.block ?_
        refine XK.while (X := Nat × Bool) [9, 10, 11, 33, 34, 35, 36, 37, 38, 39, 40, 41, 42, 43, 44, 45, 46, 47, 48, 49, 50, 51, 52] (fun ⟨i, q⟩ => [(9, some (.int .i64 (sumM (rdsL ls) m i))), (10, some (.bool q)), (11, some (.int .i64 (i : Nat)))]) (fun ⟨i, q⟩ => []) (fun ⟨i, q⟩ => i ≤ (rdsL ls).length ∧ q = hasM ((rdsL ls).take i) m) (fun ⟨i, q⟩ => (rdsL ls).length - i) (0, false) [] rfl ⟨by omega, rfl⟩ (.c rfl (.c rfl (.c rfl (.base 0 rfl rfl)))) ?_
        rintro ⟨i, q⟩ ⟨hi, hq⟩ ih2
        dsimp only [List.cons_append, List.nil_append] at ih2 ⊢
        refine XK.seq ?_
        refine XK.seq ?_
        refine XK.region rfl ?_
        refine XO.q (Q.move rfl) ?_
        refine XO.q (Q.move rfl) ?_
        refine XO.len rfl fun l35 => ?_
        refine XO.q (Q.lss rfl rfl) ?_
        refine XO.done ?_
        refine XK.if rfl (fun c4 => ?_) (fun c4 => ?_)
        · have _t4 := True.intro
          have sr := sumM_rng (rs := (rdsL ls)) (m := m) (n := i) (fun j hj => vr j (by omega))
          have vi := vr i (by omega)
          refine XK.skip ?_
          refine XK.seq ?_
          refine XK.block ?_
          refine XK.seq ?_
          refine XK.region rfl ?_
          refine XO.q (Q.move rfl) ?_
          refine XO.q (Q.move rfl) ?_
          refine XO.ix rfl rfl (by omega) (by omega) fun i41 => ?_
          refine XO.q (Q.fieldQ rfl (by first | assumption | omega)) ?_
          refine XO.q (Q.ldE rfl (by first | assumption | omega) rfl) ?_
          refine XO.q (Q.move rfl) ?_
          refine XO.q (Q.eql rfl rfl) ?_
          refine XO.done ?_
          refine XK.if rfl (fun c5 => ?_) (fun c5 => ?_)
          · have _t5 := True.intro
            refine XK.seq ?_
            refine XK.region rfl ?_
            refine XO.q (Q.move rfl) ?_
            refine XO.q (Q.move rfl) ?_
            refine XO.q (Q.move rfl) ?_
            refine XO.ix rfl rfl (by omega) (by omega) fun i49 => ?_
            refine XO.q (Q.fieldQ rfl (by first | assumption | omega)) ?_
            refine XO.q (Q.ldE rfl (by first | assumption | omega) rfl) ?_
            refine XO.q (Q.add rfl rfl ⟨by omega, by omega⟩) ?_
            refine XO.q (Q.assign rfl) ?_
            refine XO.done ?_
            refine XK.region rfl ?_
            refine XO.q (Q.assign rfl) ?_
            refine XO.done ?_
            refine XK.inBlock ?_
            refine XK.region rfl ?_
            refine XO.q (Q.move rfl) ?_
            refine XO.q (Q.add rfl rfl ⟨by omega, by omega⟩) ?_
            refine XO.q (Q.assign rfl) ?_
            refine XO.done ?_
            rw [sumM_in c5]
            exact ih2 (i + 1, true) _ _ ⟨by dsimp only; omega, by dsimp only; rw [hasM_in (by omega) c5]⟩ (by first | omega | (dsimp only; omega)) (.c rfl (.c rfl (.c rfl (.base 49 rfl rfl)))) inferInstance
          · have _t5 := True.intro
            refine XK.skip ?_
            refine XK.inBlock ?_
            refine XK.region rfl ?_
            refine XO.q (Q.move rfl) ?_
            refine XO.q (Q.add rfl rfl ⟨by omega, by omega⟩) ?_
            refine XO.q (Q.assign rfl) ?_
            refine XO.done ?_
            rw [sumM_out c5]
            exact ih2 (i + 1, q) _ _ ⟨by dsimp only; omega, by dsimp only; rw [hq, hasM_out (by omega) c5]⟩ (by first | omega | (dsimp only; omega)) (.c rfl (.c rfl (.c rfl (.base 40 rfl rfl)))) inferInstance
        · have _t4 := True.intro
          have hil : i = (rdsL ls).length := by omega
          subst hil
          rw [List.take_length] at hq
          subst hq
          refine XK.exit rfl ?_
          refine XK.seq ?_
          refine XK.region rfl ?_
          refine XO.q (Q.move rfl) ?_
          refine XO.done ?_
          refine XK.if rfl (fun c6 => ?_) (fun c6 => ?_)
          · have _t6 := True.intro
            refine XK.region rfl ?_
            refine XO.q (Q.move rfl) ?_
            refine XO.q (Q.move rfl) ?_
            refine XO.q (Q.move rfl) ?_
            refine XO.q (Q.build [_, _] (.c 0 1 rfl rfl rfl (.c 1 1 rfl rfl rfl (.n _)))) ?_
            refine XO.lit [_, _] [_, _] [(((m : Nat) : Int), sumM (rdsL ls) m (rdsL ls).length)] encP (by rfl) (by rfl) rfl (by rfl) (by exact .c 0 2 rfl rfl rfl (.n _)) (fun _ => rfl) (by rfl) rfl (by infer_instance) rfl fun v58 h58 O58 => ?_
            refine XO.append rfl rfl rfl rfl (by first | omega | (simp; omega)) fun v59 h59 O59 => ?_
            refine XO.q (Q.assign rfl) ?_
            refine XO.done ?_
            refine XK.inBlock ?_
            refine XK.region rfl ?_
            refine XO.q (Q.move rfl) ?_
            refine XO.q (Q.add rfl rfl ⟨by omega, by omega⟩) ?_
            refine XO.q (Q.assign rfl) ?_
            refine XO.done ?_
            exact ih1 (m + 1, v59, h59) _ _ ⟨by dsimp only; omega, by dsimp only; rw [tabTo, if_pos c6]; exact O59⟩ (by first | omega | (dsimp only; omega)) (.c rfl (.c rfl (.base 84 rfl rfl))) inferInstance
          · have _t6 := True.intro
            refine XK.skip ?_
            refine XK.inBlock ?_
            refine XK.region rfl ?_
            refine XO.q (Q.move rfl) ?_
            refine XO.q (Q.add rfl rfl ⟨by omega, by omega⟩) ?_
            refine XO.q (Q.assign rfl) ?_
            refine XO.done ?_
            exact ih1 (m + 1, vo, ko) _ _ ⟨by dsimp only; omega, by dsimp only; rw [tabTo, if_neg c6]; exact OO⟩ (by first | omega | (dsimp only; omega)) (.c rfl (.c rfl (.base 77 rfl rfl))) inferInstance
      · have _t3 := True.intro
        have hm64 : m = 64 := by omega
        subst hm64
        refine XK.exit rfl ?_
        refine XK.seq ?_
        refine XK.region rfl ?_
        refine XO.q (Q.move rfl) ?_
        refine XO.q (Q.assign rfl) ?_
        refine XO.q (Q.assign rfl) ?_
        refine XO.done ?_
        refine XK.rt [ko] Try.func73 Try.results73 (.t rfl (.t rfl .n)) ?_
        have e0 : checkG 0 ls false = ((ls.length : Int), 0) := by rw [checkG, if_neg (by omega), scan_all (fun j hj => by rw [chk_false]; exact he j hj)]
        have e : tableG ls = (tabTo (rdsL ls) 64, 0) := by rw [tableG, e0, if_neg (fun h => h rfl)]
        rw [e]
        exact ⟨vo, ko, rfl, rfl, OO⟩
end Go.X

set_option linter.unusedSimpArgs false
set_option linter.unusedVariables false
set_option maxRecDepth 20000
namespace Go.X
open Go.Proofs
def pickI (x n : Int) : Int := if n < 1 then 0 else if x.tmod n < 0 then x.tmod n + n else x.tmod n
theorem pickI_bd {x n : Int} (h : 1 ≤ n) : 0 ≤ pickI x n ∧ pickI x n < n := by
  have h1 := Int.lt_tmod_of_pos x (show 0 < n by omega)
  have h2 := Int.tmod_lt_of_pos x (show 0 < n by omega)
  unfold pickI
  rw [if_neg (by omega)]
  split <;> omega
theorem Pick_spec (x n : Int) (hx : in64 x) (hn : in64 n) : Spec Try.prog 34 #[.int .i64 x, .int .i64 n] [] [] (fun v hs => v = .int .i64 (pickI x n) ∧ hs = []) := by
  obtain ⟨hn1, hn2⟩ := hn
  refine Spec.intro (fn := Try.f34) (N := 17) Try.func34 rfl Try.ntmps34 rfl fun B => ?_
  refine XK.seq ?_
  refine XK.region rfl ?_
  refine XO.q (Q.assign rfl) ?_
  refine XO.done ?_
  refine XK.seq ?_
  refine XK.seq ?_
  refine XK.region rfl ?_
  refine XO.q (Q.move rfl) ?_
  refine XO.q (Q.lss rfl rfl) ?_
  refine XO.done ?_
  refine XK.if rfl (fun c0 => ?_) (fun c0 => ?_)
  · have _t0 := True.intro
    refine XK.seq ?_
    refine XK.region rfl ?_
    refine XO.q (Q.assign rfl) ?_
    refine XO.done ?_
    refine XK.rt [] Try.func34 Try.results34 (.t rfl .n) ?_
    exact ⟨by rw [pickI, if_pos c0], rfl⟩
  · have _t0 := True.intro
    have h1 := Int.lt_tmod_of_pos x (show 0 < n by omega)
    have h2 := Int.tmod_lt_of_pos x (show 0 < n by omega)
    refine XK.skip ?_
    refine XK.seq ?_
    refine XK.region rfl ?_
    refine XO.q (Q.move rfl) ?_
    refine XO.q (Q.move rfl) ?_
    refine XO.q (Q.remT rfl rfl (by omega)) ?_
    refine XO.q (Q.assign rfl) ?_
    refine XO.done ?_
    refine XK.seq ?_
    refine XK.seq ?_
    refine XK.region rfl ?_
    refine XO.q (Q.move rfl) ?_
    refine XO.q (Q.lss rfl rfl) ?_
    refine XO.done ?_
    refine XK.if rfl (fun c1 => ?_) (fun c1 => ?_)
    · have _t1 := True.intro
      refine XK.region rfl ?_
      refine XO.q (Q.move rfl) ?_
      refine XO.q (Q.move rfl) ?_
      refine XO.q (Q.add rfl rfl ⟨by omega, by omega⟩) ?_
      refine XO.q (Q.assign rfl) ?_
      refine XO.done ?_
      refine XK.seq ?_
      refine XK.region rfl ?_
      refine XO.q (Q.move rfl) ?_
      refine XO.q (Q.assign rfl) ?_
      refine XO.done ?_
      refine XK.rt [] Try.func34 Try.results34 (.t rfl .n) ?_
      exact ⟨by rw [pickI, if_neg c0, if_pos c1], rfl⟩
    · have _t1 := True.intro
      refine XK.skip ?_
      refine XK.seq ?_
      refine XK.region rfl ?_
      refine XO.q (Q.move rfl) ?_
      refine XO.q (Q.assign rfl) ?_
      refine XO.done ?_
      refine XK.rt [] Try.func34 Try.results34 (.t rfl .n) ?_
      exact ⟨by rw [pickI, if_neg c0, if_neg c1], rfl⟩
theorem pair_ne (x y : Int × Int) : (!decide ((x.1, x.2) = (y.1, y.2))) = decide (¬ x = y) := by
  cases x; cases y
  simp
theorem rd_ne (x y : MRd) : (!(decide (x.meter = y.meter) && (decide (x.hour = y.hour) && (decide (x.value = y.value) && true)))) = decide (¬ x = y) := by
  cases x; cases y
  rw [Bool.eq_iff_iff]
  simp
theorem rd_eq (x y : MRd) : (decide (x.meter = y.meter) && (decide (x.hour = y.hour) && (decide (x.value = y.value) && true))) = decide (x = y) := by
  cases x; cases y
  rw [Bool.eq_iff_iff]
  simp
theorem link_eq (x y : MLink) : (decide (x.rd = y.rd) && decide (x.sign = y.sign)) = decide (x = y) := by
  cases x; cases y
  rw [Bool.eq_iff_iff]
  simp
theorem equalP (v1 v2 : Value) (h1 h2 : PHeap) (xs ys : List (Int × Int)) [s1 : Arr v1 encP 2 h1 xs] [s2 : Arr v2 encP 2 h2 ys] :
    Spec Try.prog 74 #[v1, v2] [] [h1, h2] (fun v hs => v = .bool (decide (xs = ys)) ∧ hs = []) := by
  refine Spec.intro (fn := Try.f74) (N := 26) Try.func74 rfl Try.ntmps74 rfl fun B => ?_
  refine XK.seq ?_
  refine XK.region rfl ?_
  refine XO.q (Q.assign rfl) ?_
  refine XO.done ?_
  refine XK.seq ?_
  refine XK.seq ?_
  refine XK.region rfl ?_
  refine XO.q (Q.move rfl) ?_
  refine XO.len rfl fun l7 => ?_
  refine XO.q (Q.move rfl) ?_
  refine XO.len rfl fun l9 => ?_
  refine XO.q (Q.neq rfl rfl) ?_
  refine XO.done ?_
  refine XK.if rfl (fun c0 => ?_) (fun c0 => ?_)
  · have _t0 := True.intro
    refine XK.seq ?_
    refine XK.region rfl ?_
    refine XO.q (Q.assign rfl) ?_
    refine XO.done ?_
    refine XK.rt [] Try.func74 Try.results74 (.t rfl .n) ?_
    exact ⟨by rw [decide_eq_false (fun h => c0 (by rw [h]))], rfl⟩
  · have _t0 := True.intro
    refine XK.skip ?_
    refine XK.seq ?_
    refine XK.seq ?_
    refine XK.region rfl ?_
    refine XO.q (Q.move rfl) ?_
    refine XO.len rfl fun l12 => ?_
    refine XO.q (Q.move rfl) ?_
    refine XO.done ?_
    refine XK.block ?_
    refine XK.while (X := Nat) [4, 5, 13, 14, 15, 16, 17, 18, 19, 20, 21, 22, 23, 24, 25] (fun i => [(13, some (.int .i64 (i : Nat)))]) (fun i => []) (fun i => i ≤ xs.length ∧ xs.take i = ys.take i) (fun i => xs.length - i) (0) [] rfl ⟨by omega, rfl⟩ (.c rfl (.base 0 rfl rfl)) ?_
    rintro i ⟨hi, ht⟩ ih0
    dsimp only [List.cons_append, List.nil_append] at ih0 ⊢
    refine XK.seq ?_
    refine XK.region rfl ?_
    refine XO.q (Q.lss rfl rfl) ?_
    refine XO.done ?_
    refine XK.seq ?_
    refine XK.if rfl (fun c1 => ?_) (fun c1 => ?_)
    · have _t1 := True.intro
      refine XK.skip ?_
      refine XK.seq ?_
      refine XK.block ?_
      refine XK.seq ?_
      refine XK.region rfl ?_
      refine XO.q (Q.move rfl) ?_
      refine XO.q (Q.assign rfl) ?_
      refine XO.done ?_
      refine XK.seq ?_
      refine XK.drawn [0, 1, 2, 3, 4, 5, 6, 7, 8] [] [] (.q 0 (.q 1 (.q 2 (.q 3 (.q 4 (.q 5 (.q 6 (.q 7 (.q 8 .done))))))))) Try.mixed rfl (by kernel_rfl) ?_
      refine XT.q rfl rfl (Q.move rfl) ?_
      refine XT.q rfl rfl (Q.move rfl) ?_
      refine XT.ix rfl rfl rfl rfl (by omega) (by omega) fun i18 => ?_
      refine XT.q rfl rfl (Q.ldEA [_, _] rfl (by first | assumption | omega) rfl rfl) ?_
      refine XT.q rfl rfl (Q.move rfl) ?_
      refine XT.q rfl rfl (Q.move rfl) ?_
      refine XT.ix rfl rfl rfl rfl (by omega) (by omega) fun i22 => ?_
      refine XT.q rfl rfl (Q.ldEA [_, _] rfl (by first | assumption | omega) rfl rfl) ?_
      refine XT.q rfl rfl (Q.neqP rfl rfl inferInstance inferInstance inferInstance inferInstance (by kernel_rfl)) ?_
      rw [pair_ne]
      refine XT.done ?_
      refine XK.if rfl (fun c2 => ?_) (fun c2 => ?_)
      · have _t2 := True.intro
        refine XK.seq ?_
        refine XK.region rfl ?_
        refine XO.q (Q.assign rfl) ?_
        refine XO.done ?_
        refine XK.rt [] Try.func74 Try.results74 (.t rfl .n) ?_
        exact ⟨by rw [decide_eq_false (fun h => c2 (by rw [h]))], rfl⟩
      · have _t2 := True.intro
        refine XK.skip ?_
        refine XK.inBlock ?_
        refine XK.region rfl ?_
        refine XO.q (Q.add rfl rfl ⟨by omega, by omega⟩) ?_
        refine XO.q (Q.move rfl) ?_
        refine XO.done ?_
        exact ih0 (i + 1) _ _ ⟨by omega, take_step ht (by omega) (by omega) (Decidable.of_not_not c2)⟩ (by first | omega | (dsimp only; omega)) (.c rfl (.base 30 rfl rfl)) inferInstance
    · have _t1 := True.intro
      refine XK.exit rfl ?_
      refine XK.seq ?_
      refine XK.region rfl ?_
      refine XO.q (Q.assign rfl) ?_
      refine XO.done ?_
      refine XK.rt [] Try.func74 Try.results74 (.t rfl .n) ?_
      exact ⟨by rw [decide_eq_true (take_all ht c1 (by omega))], rfl⟩
theorem equalR (v1 v2 : Value) (h1 h2 : PHeap) (xs ys : List MRd) [s1 : Arr v1 encRd 3 h1 xs] [s2 : Arr v2 encRd 3 h2 ys] :
    Spec Try.prog 31 #[v1, v2] [] [h1, h2] (fun v hs => v = .bool (decide (xs = ys)) ∧ hs = []) := by
  refine Spec.intro (fn := Try.f31) (N := 26) Try.func31 rfl Try.ntmps31 rfl fun B => ?_
  refine XK.seq ?_
  refine XK.region rfl ?_
  refine XO.q (Q.assign rfl) ?_
  refine XO.done ?_
  refine XK.seq ?_
  refine XK.seq ?_
  refine XK.region rfl ?_
  refine XO.q (Q.move rfl) ?_
  refine XO.len rfl fun l7 => ?_
  refine XO.q (Q.move rfl) ?_
  refine XO.len rfl fun l9 => ?_
  refine XO.q (Q.neq rfl rfl) ?_
  refine XO.done ?_
  refine XK.if rfl (fun c0 => ?_) (fun c0 => ?_)
  · have _t0 := True.intro
    refine XK.seq ?_
    refine XK.region rfl ?_
    refine XO.q (Q.assign rfl) ?_
    refine XO.done ?_
    refine XK.rt [] Try.func31 Try.results31 (.t rfl .n) ?_
    exact ⟨by rw [decide_eq_false (fun h => c0 (by rw [h]))], rfl⟩
  · have _t0 := True.intro
    refine XK.skip ?_
    refine XK.seq ?_
    refine XK.seq ?_
    refine XK.region rfl ?_
    refine XO.q (Q.move rfl) ?_
    refine XO.len rfl fun l12 => ?_
    refine XO.q (Q.move rfl) ?_
    refine XO.done ?_
    refine XK.block ?_
    refine XK.while (X := Nat) [4, 5, 13, 14, 15, 16, 17, 18, 19, 20, 21, 22, 23, 24, 25] (fun i => [(13, some (.int .i64 (i : Nat)))]) (fun i => []) (fun i => i ≤ xs.length ∧ xs.take i = ys.take i) (fun i => xs.length - i) (0) [] rfl ⟨by omega, rfl⟩ (.c rfl (.base 0 rfl rfl)) ?_
    rintro i ⟨hi, ht⟩ ih0
    dsimp only [List.cons_append, List.nil_append] at ih0 ⊢
    refine XK.seq ?_
    refine XK.region rfl ?_
    refine XO.q (Q.lss rfl rfl) ?_
    refine XO.done ?_
    refine XK.seq ?_
    refine XK.if rfl (fun c1 => ?_) (fun c1 => ?_)
    · have _t1 := True.intro
      refine XK.skip ?_
      refine XK.seq ?_
      refine XK.block ?_
      refine XK.seq ?_
      refine XK.region rfl ?_
      refine XO.q (Q.move rfl) ?_
      refine XO.q (Q.assign rfl) ?_
      refine XO.done ?_
      refine XK.seq ?_
      refine XK.drawn [0, 1, 2, 3, 4, 5, 6, 7, 8] [] [] (.q 0 (.q 1 (.q 2 (.q 3 (.q 4 (.q 5 (.q 6 (.q 7 (.q 8 .done))))))))) Try.mixed rfl (by kernel_rfl) ?_
      refine XT.q rfl rfl (Q.move rfl) ?_
      refine XT.q rfl rfl (Q.move rfl) ?_
      refine XT.ix rfl rfl rfl rfl (by omega) (by omega) fun i18 => ?_
      refine XT.q rfl rfl (Q.ldEA [_, _, _] rfl (by first | assumption | omega) rfl rfl) ?_
      refine XT.q rfl rfl (Q.move rfl) ?_
      refine XT.q rfl rfl (Q.move rfl) ?_
      refine XT.ix rfl rfl rfl rfl (by omega) (by omega) fun i22 => ?_
      refine XT.q rfl rfl (Q.ldEA [_, _, _] rfl (by first | assumption | omega) rfl rfl) ?_
      refine XT.q rfl rfl (Q.neqS (us := [_, _, _]) (vs := [_, _, _]) rfl rfl inferInstance (by kernel_rfl) (by kernel_rfl) (.c rfl inferInstance inferInstance rfl rfl (.c rfl inferInstance inferInstance rfl rfl (.c rfl inferInstance inferInstance rfl rfl .n)))) ?_
      rw [rd_ne]
      refine XT.done ?_
      refine XK.if rfl (fun c2 => ?_) (fun c2 => ?_)
      · have _t2 := True.intro
        refine XK.seq ?_
        refine XK.region rfl ?_
        refine XO.q (Q.assign rfl) ?_
        refine XO.done ?_
        refine XK.rt [] Try.func31 Try.results31 (.t rfl .n) ?_
        exact ⟨by rw [decide_eq_false (fun h => c2 (by rw [h]))], rfl⟩
      · have _t2 := True.intro
        refine XK.skip ?_
        refine XK.inBlock ?_
        refine XK.region rfl ?_
        refine XO.q (Q.add rfl rfl ⟨by omega, by omega⟩) ?_
        refine XO.q (Q.move rfl) ?_
        refine XO.done ?_
        exact ih0 (i + 1) _ _ ⟨by omega, take_step ht (by omega) (by omega) (Decidable.of_not_not c2)⟩ (by first | omega | (dsimp only; omega)) (.c rfl (.base 30 rfl rfl)) inferInstance
    · have _t1 := True.intro
      refine XK.exit rfl ?_
      refine XK.seq ?_
      refine XK.region rfl ?_
      refine XO.q (Q.assign rfl) ?_
      refine XO.done ?_
      refine XK.rt [] Try.func31 Try.results31 (.t rfl .n) ?_
      exact ⟨by rw [decide_eq_true (take_all ht c1 (by omega))], rfl⟩
theorem cloneR (v : Value) (h : PHeap) (xs : List MRd) [s : Arr v encRd 3 h xs] (hl : xs.length ≤ 68719476736) :
    Spec Try.prog 27 #[v] [] [h] (fun v' hs => ∃ h', hs = [h'] ∧ OArr v' encRd 3 74 h' xs) := by
  refine Spec.intro (fn := Try.f27) (N := 8) Try.func27 rfl Try.ntmps27 rfl fun B => ?_
  refine XK.seq ?_
  refine XK.region rfl ?_
  refine XO.q (Q.assign rfl) ?_
  refine XO.done ?_
  refine XK.seq ?_
  refine XK.seq ?_
  refine XK.region rfl ?_
  refine XO.q (Q.move rfl) ?_
  refine XO.eqNil rfl fun z4 hz4 => ?_
  refine XO.done ?_
  refine XK.if rfl (fun c0 => ?_) (fun c0 => ?_)
  · have _t0 := True.intro
    refine XK.seq ?_
    refine XK.region rfl ?_
    refine XO.q (Q.assign rfl) ?_
    refine XO.done ?_
    refine XK.rt [emp] Try.func27 Try.results27 (.t rfl .n) ?_
    exact ⟨emp, rfl, by rw [(hz4 c0).1]; exact OArr.nil (fun _ => rfl)⟩
  · have _t0 := True.intro
    refine XK.skip ?_
    refine XK.seq ?_
    refine XK.region rfl ?_
    refine XO.lit [] [] [] encRd (by rfl) (by rfl) rfl (by rfl) (by exact .n _) (fun _ => rfl) (by rfl) rfl (by infer_instance) rfl fun v5 h5 O5 => ?_
    refine XO.q (Q.move rfl) ?_
    refine XO.append rfl rfl rfl rfl (by first | omega | (simp; omega)) fun v7 h7 O7 => ?_
    refine XO.q (Q.assign rfl) ?_
    refine XO.done ?_
    refine XK.rt [h7] Try.func27 Try.results27 (.t rfl .n) ?_
    exact ⟨h7, rfl, O7⟩
theorem cloneL (v : Value) (h : PHeap) (xs : List MLink) [s : Arr v encLink 4 h xs] (hl : xs.length ≤ 68719476736) :
    Spec Try.prog 25 #[v] [] [h] (fun v' hs => ∃ h', hs = [h'] ∧ OArr v' encLink 4 76 h' xs) := by
  refine Spec.intro (fn := Try.f25) (N := 8) Try.func25 rfl Try.ntmps25 rfl fun B => ?_
  refine XK.seq ?_
  refine XK.region rfl ?_
  refine XO.q (Q.assign rfl) ?_
  refine XO.done ?_
  refine XK.seq ?_
  refine XK.seq ?_
  refine XK.region rfl ?_
  refine XO.q (Q.move rfl) ?_
  refine XO.eqNil rfl fun z4 hz4 => ?_
  refine XO.done ?_
  refine XK.if rfl (fun c0 => ?_) (fun c0 => ?_)
  · have _t0 := True.intro
    refine XK.seq ?_
    refine XK.region rfl ?_
    refine XO.q (Q.assign rfl) ?_
    refine XO.done ?_
    refine XK.rt [emp] Try.func25 Try.results25 (.t rfl .n) ?_
    exact ⟨emp, rfl, by rw [(hz4 c0).1]; exact OArr.nil (fun _ => rfl)⟩
  · have _t0 := True.intro
    refine XK.skip ?_
    refine XK.seq ?_
    refine XK.region rfl ?_
    refine XO.lit [] [] [] encLink (by rfl) (by rfl) rfl (by rfl) (by exact .n _) (fun _ => rfl) (by rfl) rfl (by infer_instance) rfl fun v5 h5 O5 => ?_
    refine XO.q (Q.move rfl) ?_
    refine XO.append rfl rfl rfl rfl (by first | omega | (simp; omega)) fun v7 h7 O7 => ?_
    refine XO.q (Q.assign rfl) ?_
    refine XO.done ?_
    refine XK.rt [h7] Try.func25 Try.results25 (.t rfl .n) ?_
    exact ⟨h7, rfl, O7⟩
theorem sameLink (x y : MLink) : Spec Try.prog 33 #[.agg #[.int .i64 x.rd.meter, .int .i64 x.rd.hour, .int .i64 x.rd.value, .int .u64 x.sign], .agg #[.int .i64 y.rd.meter, .int .i64 y.rd.hour, .int .i64 y.rd.value, .int .u64 y.sign]] [] [] (fun v hs => v = .bool (decide (x = y)) ∧ hs = []) := by
  refine Spec.intro (fn := Try.f33) (N := 17) Try.func33 rfl Try.ntmps33 rfl fun B => ?_
  refine XK.seq ?_
  refine XK.region rfl ?_
  refine XO.box rfl fun b2 => ?_
  refine XO.box rfl fun b3 => ?_
  refine XO.q (Q.assign rfl) ?_
  refine XO.done ?_
  refine XK.seq ?_
  refine XK.region rfl ?_
  refine XO.q (Q.fieldAddr rfl) ?_
  refine XO.q (Q.ldA [_, _, _] rfl rfl rfl) ?_
  refine XO.q (Q.fieldAddr rfl) ?_
  refine XO.q (Q.ldA [_, _, _] rfl rfl rfl) ?_
  refine XO.q (Q.eqlS (us := [_, _, _]) (vs := [_, _, _]) rfl rfl inferInstance (by kernel_rfl) (by kernel_rfl) (.c rfl inferInstance inferInstance rfl rfl (.c rfl inferInstance inferInstance rfl rfl (.c rfl inferInstance inferInstance rfl rfl .n)))) ?_
  rw [rd_eq]
  refine XO.q (Q.move rfl) ?_
  refine XO.q (Quiet.guardT rfl rfl fun g11 p11 => Q.fieldAddr rfl) ?_
  refine XO.q (Quiet.guardT rfl rfl fun g12 p12 => Q.ld (lzv g12 rfl) rfl) ?_
  refine XO.q (Quiet.guardT rfl rfl fun g13 p13 => Q.fieldAddr rfl) ?_
  refine XO.q (Quiet.guardT rfl rfl fun g14 p14 => Q.ld (lzv g14 rfl) rfl) ?_
  refine XO.q (Quiet.guardT rfl rfl fun g15 p15 => Q.eql (lzv g15 rfl) (lzv g15 rfl)) ?_
  refine XO.q (Q.and rfl (fun hp => lzv hp rfl)) ?_
  rw [link_eq]
  refine XO.q (Q.assign rfl) ?_
  refine XO.done ?_
  refine XK.rt [] Try.func33 Try.results33 (.t rfl .n) ?_
  exact ⟨rfl, rfl⟩
theorem equalLF (v1 v2 : Value) (h1 h2 : PHeap) (xs ys : List MLink) [s1 : Arr v1 encLink 4 h1 xs] [s2 : Arr v2 encLink 4 h2 ys] :
    Spec Try.prog 32 #[v1, v2, .func (.func 33) #[] #[]] [] [h1, h2] (fun v hs => v = .bool (decide (xs = ys)) ∧ hs = []) := by
  have l1 := s1.le
  refine Spec.intro (fn := Try.f32) (N := 32) Try.func32 rfl Try.ntmps32 rfl fun B => ?_
  refine XK.seq ?_
  refine XK.region rfl ?_
  refine XO.q (Q.assign rfl) ?_
  refine XO.done ?_
  refine XK.seq ?_
  refine XK.seq ?_
  refine XK.region rfl ?_
  refine XO.q (Q.move rfl) ?_
  refine XO.len rfl fun l11 => ?_
  refine XO.q (Q.move rfl) ?_
  refine XO.len rfl fun l13 => ?_
  refine XO.q (Q.neq rfl rfl) ?_
  refine XO.done ?_
  refine XK.if rfl (fun c0 => ?_) (fun c0 => ?_)
  · have _t0 := True.intro
    refine XK.seq ?_
    refine XK.region rfl ?_
    refine XO.q (Q.assign rfl) ?_
    refine XO.done ?_
    refine XK.rt [] Try.func32 Try.results32 (.t rfl .n) ?_
    exact ⟨by rw [decide_eq_false (fun h => c0 (by rw [h]))], rfl⟩
  · have _t0 := True.intro
    refine XK.skip ?_
    refine XK.seq ?_
    refine XK.seq ?_
    refine XK.region rfl ?_
    refine XO.q (Q.move rfl) ?_
    refine XO.len rfl fun l16 => ?_
    refine XO.q (Q.move rfl) ?_
    refine XO.done ?_
    refine XK.block ?_
    refine XK.while (X := Nat) [6, 7, 8, 9, 17, 18, 19, 20, 21, 22, 23, 24, 25, 26, 27, 28, 29, 30, 31] (fun i => [(17, some (.int .i64 (i : Nat)))]) (fun i => []) (fun i => i ≤ xs.length ∧ xs.take i = ys.take i) (fun i => xs.length - i) (0) [] rfl ⟨by omega, rfl⟩ (.c rfl (.base 0 rfl rfl)) ?_
    rintro i ⟨hi, ht⟩ ih0
    dsimp only [List.cons_append, List.nil_append] at ih0 ⊢
    refine XK.seq ?_
    refine XK.region rfl ?_
    refine XO.q (Q.lss rfl rfl) ?_
    refine XO.done ?_
    refine XK.seq ?_
    refine XK.if rfl (fun c1 => ?_) (fun c1 => ?_)
    · have _t1 := True.intro
      refine XK.skip ?_
      refine XK.seq ?_
      refine XK.block ?_
      refine XK.seq ?_
      refine XK.region rfl ?_
      refine XO.q (Q.move rfl) ?_
      refine XO.ix rfl rfl (by omega) (by omega) fun i20 => ?_
      refine XO.q (Q.ldEA [_, _, _, _] rfl (by first | assumption | omega) rfl rfl) ?_
      refine XO.alloc fun b8 => ?_
      refine XO.q (Q.assign rfl) ?_
      refine XO.st rfl rfl rfl ?_
      refine XO.done ?_
      refine XK.seq ?_
      refine XK.region rfl ?_
      refine XO.q (Q.move rfl) ?_
      refine XO.q (Q.move rfl) ?_
      refine XO.ix rfl rfl (by omega) (by omega) fun i24 => ?_
      refine XO.q (Q.ldEA [_, _, _, _] rfl (by first | assumption | omega) rfl rfl) ?_
      refine XO.alloc fun b9 => ?_
      refine XO.st rfl rfl rfl ?_
      refine XO.done ?_
      refine XK.seq ?_
      refine XK.region rfl ?_
      refine XO.q (Q.move rfl) ?_
      refine XO.q (Q.ldA [_, _, _, _] rfl rfl rfl) ?_
      refine XO.q (Q.ldA [_, _, _, _] rfl rfl rfl) ?_
      refine XO.call Try.call33 rfl rfl rfl (sameLink _ _) fun v29 s29 R29 => ?_
      obtain ⟨rfl, rfl⟩ := R29
      dsimp only [List.cons_append, List.nil_append]
      refine XO.q (Q.not rfl) ?_
      refine XO.done ?_
      refine XK.if rfl (fun c2 => ?_) (fun c2 => ?_)
      · have _t2 := True.intro
        refine XK.seq ?_
        refine XK.region rfl ?_
        refine XO.q (Q.assign rfl) ?_
        refine XO.done ?_
        refine XK.rt [] Try.func32 Try.results32 (.t rfl .n) ?_
        exact ⟨by rw [decide_eq_false (fun h => c2 (by rw [h]))], rfl⟩
      · have _t2 := True.intro
        refine XK.skip ?_
        refine XK.inBlock ?_
        refine XK.region rfl ?_
        refine XO.q (Q.add rfl rfl ⟨by omega, by omega⟩) ?_
        refine XO.q (Q.move rfl) ?_
        refine XO.done ?_
        exact ih0 (i + 1) _ _ ⟨by omega, take_step ht (by omega) (by omega) (by simpa using c2)⟩ (by first | omega | (dsimp only; omega)) (.c rfl (.base 38 rfl rfl)) inferInstance
    · have _t1 := True.intro
      refine XK.exit rfl ?_
      refine XK.seq ?_
      refine XK.region rfl ?_
      refine XO.q (Q.assign rfl) ?_
      refine XO.done ?_
      refine XK.rt [] Try.func32 Try.results32 (.t rfl .n) ?_
      exact ⟨by rw [decide_eq_true (take_all ht (by omega) (by omega))], rfl⟩
theorem take_snocL {l : List MLink} {i : Nat} (hi : i < l.length) : l.take (i + 1) = l.take i ++ [l.getD i default] := by
  rw [List.take_add_one, List.getElem?_eq_getElem hi, List.getD_eq_getElem?_getD, List.getElem?_eq_getElem hi]; rfl
theorem chains11 (key : Int) (ls : List MLink) (vl : Value) (hl : PHeap) [jl : Arr vl encLink 4 hl ls] (n : ls.length ≤ 100000) : Spec Try.prog 35 #[.int .u64 key, vl] [] [hl] (fun v hs => v = .bool true ∧ hs = []) := by
  have nL : OArr (.slice none 0 0) encLink 4 89 emp ([] : List MLink) := OArr.nil (fun _ => rfl)
  refine Spec.intro (fn := Try.f35) (N := 71) Try.func35 rfl Try.ntmps35 rfl fun B => ?_
  refine XK.seq ?_
  refine XK.region rfl ?_
  refine XO.q (Q.assign rfl) ?_
  refine XO.done ?_
  refine XK.seq ?_
  refine XK.region rfl ?_
  refine XO.q (Q.assign rfl) ?_
  refine XO.done ?_
  refine XK.seq ?_
  refine XK.seq ?_
  refine XK.region rfl ?_
  refine XO.q (Q.move rfl) ?_
  refine XO.len rfl fun l17 => ?_
  refine XO.q (Q.move rfl) ?_
  refine XO.done ?_
  refine XK.block ?_
  refine XK.while (X := Nat × Value × PHeap) [5, 7, 18, 19, 20, 21, 22, 23, 24, 25, 26, 27, 28, 29, 30] (fun ⟨i, vm, km⟩ => [(5, some (vm)), (18, some (.int .i64 (i : Nat)))]) (fun ⟨i, vm, km⟩ => [km]) (fun ⟨i, vm, km⟩ => i ≤ ls.length ∧ OArr vm encLink 4 89 km (ls.take i)) (fun ⟨i, vm, km⟩ => ls.length - i) (0, .slice none 0 0, emp) [emp] rfl ⟨by omega, nL⟩ (.c rfl (.c rfl (.base 0 rfl rfl))) ?_
  rintro ⟨i, vm, km⟩ ⟨hi, OM⟩ ih0
  dsimp only [List.cons_append, List.nil_append] at ih0 ⊢
  have el : (ls.take i).length = i := by rw [List.length_take]; omega
  refine XK.seq ?_
  refine XK.region rfl ?_
  refine XO.q (Q.lss rfl rfl) ?_
  refine XO.done ?_
  refine XK.seq ?_
  refine XK.if rfl (fun c0 => ?_) (fun c0 => ?_)
  · have _t0 := True.intro
    refine XK.skip ?_
    refine XK.seq ?_
    refine XK.block ?_
    refine XK.seq ?_
    refine XK.region rfl ?_
    refine XO.ix rfl rfl (by omega) (by omega) fun i20 => ?_
    refine XO.q (Q.ldEA [_, _, _, _] rfl (by first | assumption | omega) rfl rfl) ?_
    refine XO.alloc fun b7 => ?_
    refine XO.st rfl rfl rfl ?_
    refine XO.done ?_
    refine XK.region rfl ?_
    refine XO.q (Q.move rfl) ?_
    refine XO.q (Q.fieldAddr rfl) ?_
    refine XO.q (Q.ldA [_, _, _] rfl rfl rfl) ?_
    refine XO.q (Q.fieldAddr rfl) ?_
    refine XO.q (Q.ld rfl rfl) ?_
    refine XO.q (Q.build [_, _, _, _] (.c 0 3 rfl rfl rfl (.c 3 1 rfl rfl rfl (.n _)))) ?_
    refine XO.lit [_, _, _, _] [_, _, _, _] [(ls.getD i default)] encLink (by rfl) (by rfl) rfl (by rfl) (by exact .c 0 4 rfl rfl rfl (.n _)) (fun _ => rfl) (by rfl) rfl (by infer_instance) rfl fun v28 h28 O28 => ?_
    refine XO.append rfl rfl rfl rfl (by first | omega | (simp; omega)) fun v29 h29 O29 => ?_
    refine XO.q (Q.assign rfl) ?_
    refine XO.done ?_
    refine XK.inBlock ?_
    refine XK.region rfl ?_
    refine XO.q (Q.add rfl rfl ⟨by omega, by omega⟩) ?_
    refine XO.q (Q.move rfl) ?_
    refine XO.done ?_
    exact ih0 (i + 1, v29, h29) _ _ ⟨by dsimp only; omega, by dsimp only; rw [take_snocL (by omega)]; exact O29⟩ (by first | omega | (dsimp only; omega)) (.c rfl (.c rfl (.base 32 rfl rfl))) inferInstance
  · have _t0 := True.intro
    have hin : i = ls.length := by omega
    subst hin
    rw [List.take_length] at OM
    clear ih0
    refine XK.exit rfl ?_
    refine XK.seq ?_
    refine XK.region rfl ?_
    refine XO.q (Q.move rfl) ?_
    refine XO.q (Q.move rfl) ?_
    refine XO.call Try.call24 rfl rfl rfl (Verify_spec key ls vl hl) fun v34 s34 R34 => ?_
    obtain ⟨rfl, rfl⟩ := R34
    dsimp only [List.cons_append, List.nil_append]
    refine XO.q (Q.move rfl) ?_
    refine XO.q (Q.extract rfl rfl) ?_
    refine XO.q (Q.extract rfl rfl) ?_
    refine XO.q (Q.assign rfl) ?_
    refine XO.q (Q.assign rfl) ?_
    refine XO.done ?_
    refine XK.seq ?_
    refine XK.region rfl ?_
    refine XO.q (Q.move rfl) ?_
    refine XO.q (Q.move rfl) ?_
    refine XO.call Try.call72 rfl rfl rfl (RVerify_spec key ls vm km) fun v40 s40 R40 => ?_
    obtain ⟨rfl, rfl⟩ := R40
    dsimp only [List.cons_append, List.nil_append]
    refine XO.q (Q.move rfl) ?_
    refine XO.q (Q.extract rfl rfl) ?_
    refine XO.q (Q.extract rfl rfl) ?_
    refine XO.q (Q.assign rfl) ?_
    refine XO.q (Q.assign rfl) ?_
    refine XO.done ?_
    refine XK.seq ?_
    refine XK.region rfl ?_
    refine XO.q (Q.move rfl) ?_
    refine XO.call Try.call41 rfl rfl rfl (Table_spec ls vl hl) fun v45 s45 R45 => ?_
    obtain ⟨vt, kt, rfl, rfl, OT⟩ := R45
    dsimp only [List.cons_append, List.nil_append]
    refine XO.q (Q.move rfl) ?_
    refine XO.q (Q.extract rfl rfl) ?_
    refine XO.q (Q.extract rfl rfl) ?_
    refine XO.q (Q.assign rfl) ?_
    refine XO.q (Q.assign rfl) ?_
    refine XO.done ?_
    refine XK.seq ?_
    refine XK.region rfl ?_
    refine XO.q (Q.move rfl) ?_
    refine XO.call Try.call73 rfl rfl rfl (RTable_spec ls vm km) fun v50 s50 R50 => ?_
    obtain ⟨vu, ku, rfl, rfl, OU⟩ := R50
    dsimp only [List.cons_append, List.nil_append]
    refine XO.q (Q.move rfl) ?_
    refine XO.q (Q.extract rfl rfl) ?_
    refine XO.q (Q.extract rfl rfl) ?_
    refine XO.q (Q.assign rfl) ?_
    refine XO.q (Q.assign rfl) ?_
    refine XO.done ?_
    refine XK.seq ?_
    refine XK.region rfl ?_
    refine XO.q (Q.move rfl) ?_
    refine XO.q (Q.move rfl) ?_
    refine XO.q (Q.eql rfl rfl) ?_
    refine XO.q (Q.move rfl) ?_
    refine XO.q (Quiet.guardT rfl rfl fun g57 p57 => Q.move rfl) ?_
    refine XO.q (Quiet.guardT rfl rfl fun g58 p58 => Q.move rfl) ?_
    refine XO.q (Quiet.guardT rfl rfl fun g59 p59 => Q.eql (lzv g59 rfl) (lzv g59 rfl)) ?_
    refine XO.q (Q.and rfl (fun hp => lzv hp rfl)) ?_
    refine XO.q (Q.move rfl) ?_
    refine XO.q (Quiet.guardT rfl rfl fun g62 p62 => Q.move rfl) ?_
    refine XO.q (Quiet.guardT rfl rfl fun g63 p63 => Q.move rfl) ?_
    refine XO.gcallT rfl rfl Try.call74 rfl (fun g64 => .c (lzv g64 rfl) (.c (lzv g64 rfl) .n)) rfl (fun g64 p64 => equalP vt vu kt ku (tableG ls).1 (tableG ls).1) ?_
    refine XO.q (Q.and rfl (fun hp => lzv hp rfl)) ?_
    refine XO.q (Q.move rfl) ?_
    refine XO.q (Quiet.guardT rfl rfl fun g67 p67 => Q.move rfl) ?_
    refine XO.q (Quiet.guardT rfl rfl fun g68 p68 => Q.move rfl) ?_
    refine XO.q (Quiet.guardT rfl rfl fun g69 p69 => Q.eql (lzv g69 rfl) (lzv g69 rfl)) ?_
    refine XO.q (Q.and rfl (fun hp => lzv hp rfl)) ?_
    refine XO.q (Q.assign rfl) ?_
    refine XO.done ?_
    refine XK.rt [] Try.func35 Try.results35 (.t rfl .n) ?_
    exact ⟨by simp, rfl⟩
end Go.X

set_option linter.unusedSimpArgs false
set_option linter.unusedVariables false
set_option maxRecDepth 20000
namespace Go.X
open Go.Proofs
theorem link_ne (x y : MLink) : (!((decide (x.rd.meter = y.rd.meter) && (decide (x.rd.hour = y.rd.hour) && (decide (x.rd.value = y.rd.value) && true))) && (decide (x.sign = y.sign) && true))) = decide (¬ x = y) := by
  obtain ⟨⟨a, b, c⟩, d⟩ := x
  obtain ⟨⟨a2, b2, c2⟩, d2⟩ := y
  rw [Bool.eq_iff_iff]
  simp [and_assoc, or_assoc]
theorem link_eqb (x y : MLink) : ((decide (x.rd.meter = y.rd.meter) && (decide (x.rd.hour = y.rd.hour) && (decide (x.rd.value = y.rd.value) && true))) && (decide (x.sign = y.sign) && true)) = decide (x = y) := by
  obtain ⟨⟨a, b, c⟩, d⟩ := x
  obtain ⟨⟨a2, b2, c2⟩, d2⟩ := y
  rw [Bool.eq_iff_iff]
  simp [and_assoc, or_assoc]
theorem equalLk (v1 v2 : Value) (h1 h2 : PHeap) (xs ys : List MLink) [s1 : Arr v1 encLink 4 h1 xs] [s2 : Arr v2 encLink 4 h2 ys] :
    Spec Try.prog 36 #[v1, v2] [] [h1, h2] (fun v hs => v = .bool (decide (xs = ys)) ∧ hs = []) := by
  refine Spec.intro (fn := Try.f36) (N := 26) Try.func36 rfl Try.ntmps36 rfl fun B => ?_
  refine XK.seq ?_
  refine XK.region rfl ?_
  refine XO.q (Q.assign rfl) ?_
  refine XO.done ?_
  refine XK.seq ?_
  refine XK.seq ?_
  refine XK.region rfl ?_
  refine XO.q (Q.move rfl) ?_
  refine XO.len rfl fun l7 => ?_
  refine XO.q (Q.move rfl) ?_
  refine XO.len rfl fun l9 => ?_
  refine XO.q (Q.neq rfl rfl) ?_
  refine XO.done ?_
  refine XK.if rfl (fun c0 => ?_) (fun c0 => ?_)
  · have _t0 := True.intro
    refine XK.seq ?_
    refine XK.region rfl ?_
    refine XO.q (Q.assign rfl) ?_
    refine XO.done ?_
    refine XK.rt [] Try.func36 Try.results36 (.t rfl .n) ?_
    exact ⟨by rw [decide_eq_false (fun h => c0 (by rw [h]))], rfl⟩
  · have _t0 := True.intro
    refine XK.skip ?_
    refine XK.seq ?_
    refine XK.seq ?_
    refine XK.region rfl ?_
    refine XO.q (Q.move rfl) ?_
    refine XO.len rfl fun l12 => ?_
    refine XO.q (Q.move rfl) ?_
    refine XO.done ?_
    refine XK.block ?_
    refine XK.while (X := Nat) [4, 5, 13, 14, 15, 16, 17, 18, 19, 20, 21, 22, 23, 24, 25] (fun i => [(13, some (.int .i64 (i : Nat)))]) (fun i => []) (fun i => i ≤ xs.length ∧ xs.take i = ys.take i) (fun i => xs.length - i) (0) [] rfl ⟨by omega, rfl⟩ (.c rfl (.base 0 rfl rfl)) ?_
    rintro i ⟨hi, ht⟩ ih0
    dsimp only [List.cons_append, List.nil_append] at ih0 ⊢
    refine XK.seq ?_
    refine XK.region rfl ?_
    refine XO.q (Q.lss rfl rfl) ?_
    refine XO.done ?_
    refine XK.seq ?_
    refine XK.if rfl (fun c1 => ?_) (fun c1 => ?_)
    · have _t1 := True.intro
      refine XK.skip ?_
      refine XK.seq ?_
      refine XK.block ?_
      refine XK.seq ?_
      refine XK.region rfl ?_
      refine XO.q (Q.move rfl) ?_
      refine XO.q (Q.assign rfl) ?_
      refine XO.done ?_
      refine XK.seq ?_
      refine XK.drawn [0, 1, 2, 3, 4, 5, 6, 7, 8] [] [] (.q 0 (.q 1 (.q 2 (.q 3 (.q 4 (.q 5 (.q 6 (.q 7 (.q 8 .done))))))))) Try.mixed rfl (by kernel_rfl) ?_
      refine XT.q rfl rfl (Q.move rfl) ?_
      refine XT.q rfl rfl (Q.move rfl) ?_
      refine XT.ix rfl rfl rfl rfl (by omega) (by omega) fun i18 => ?_
      refine XT.q rfl rfl (Q.ldEA [_, _, _, _] rfl (by first | assumption | omega) rfl rfl) ?_
      refine XT.q rfl rfl (Q.move rfl) ?_
      refine XT.q rfl rfl (Q.move rfl) ?_
      refine XT.ix rfl rfl rfl rfl (by omega) (by omega) fun i22 => ?_
      refine XT.q rfl rfl (Q.ldEA [_, _, _, _] rfl (by first | assumption | omega) rfl rfl) ?_
      refine XT.q rfl rfl (Q.neqG (us := [_, _, _, _]) (vs := [_, _, _, _]) rfl rfl inferInstance (by kernel_rfl) (by kernel_rfl) (.s rfl inferInstance inferInstance inferInstance (by kernel_rfl) rfl rfl (.c rfl inferInstance inferInstance rfl rfl (.c rfl inferInstance inferInstance rfl rfl (.c rfl inferInstance inferInstance rfl rfl .n))) (.c rfl inferInstance inferInstance rfl rfl .n))) ?_
      rw [link_ne]
      refine XT.done ?_
      refine XK.if rfl (fun c2 => ?_) (fun c2 => ?_)
      · have _t2 := True.intro
        refine XK.seq ?_
        refine XK.region rfl ?_
        refine XO.q (Q.assign rfl) ?_
        refine XO.done ?_
        refine XK.rt [] Try.func36 Try.results36 (.t rfl .n) ?_
        exact ⟨by rw [decide_eq_false (fun h => c2 (by rw [h]))], rfl⟩
      · have _t2 := True.intro
        refine XK.skip ?_
        refine XK.inBlock ?_
        refine XK.region rfl ?_
        refine XO.q (Q.add rfl rfl ⟨by omega, by omega⟩) ?_
        refine XO.q (Q.move rfl) ?_
        refine XO.done ?_
        exact ih0 (i + 1) _ _ ⟨by omega, take_step ht (by omega) (by omega) (Decidable.of_not_not c2)⟩ (by first | omega | (dsimp only; omega)) (.c rfl (.base 30 rfl rfl)) inferInstance
    · have _t1 := True.intro
      refine XK.exit rfl ?_
      refine XK.seq ?_
      refine XK.region rfl ?_
      refine XO.q (Q.assign rfl) ?_
      refine XO.done ?_
      refine XK.rt [] Try.func36 Try.results36 (.t rfl .n) ?_
      exact ⟨by rw [decide_eq_true (take_all ht c1 (by omega))], rfl⟩
theorem sign_len (key : Int) (l : List MRd) : (signG key l).1.length ≤ l.length := by
  unfold signG
  split
  · exact Nat.zero_le _
  · split
    · exact Nat.zero_le _
    · rw [links_len]; exact Nat.le_refl _
set_option maxHeartbeats 4000000 in
set_option synthInstance.maxSize 1000 in
theorem MeterChains_spec (key other : Int) (l : List MLink) (vl : Value) (hl : PHeap) [jl : Arr vl encLink 4 hl l] (at' : Int) (hat : in64 at') : Spec Try.prog 7 #[.int .u64 key, .int .u64 other, vl, .int .i64 at'] [] [hl] (fun v hs => v = .bool true ∧ hs = []) := by
  have ll := jl.le
  have nR : OArr (.slice none 0 0) encRd 3 74 emp ([] : List MRd) := OArr.nil (fun _ => rfl)
  have nQ : OArr (.slice none 0 0) encRd 3 80 emp ([] : List MRd) := OArr.nil (fun _ => rfl)
  have rl := rds_len l
  refine Spec.intro (fn := Try.f7) (N := 127) Try.func7 rfl Try.ntmps7 rfl fun B => ?_
  refine XK.seq ?_
  refine XK.region rfl ?_
  refine XO.q (Q.assign rfl) ?_
  refine XO.done ?_
  refine XK.seq ?_
  refine XK.seq ?_
  refine XK.region rfl ?_
  refine XO.q (Q.move rfl) ?_
  refine XO.len rfl fun l23 => ?_
  refine XO.q (Q.gtr rfl rfl) ?_
  refine XO.done ?_
  refine XK.if rfl (fun c0 => ?_) (fun c0 => ?_)
  · have _t0 := True.intro
    refine XK.seq ?_
    refine XK.region rfl ?_
    refine XO.call Try.call13 rfl rfl rfl (awake11) fun v25 s25 R25 => ?_
    obtain ⟨rfl, rfl⟩ := R25
    dsimp only [List.cons_append, List.nil_append]
    refine XO.q (Q.assign rfl) ?_
    refine XO.done ?_
    refine XK.rt [] Try.func7 Try.results7 (.t rfl .n) ?_
    exact ⟨rfl, rfl⟩
  · have _t0 := True.intro
    have nl : l.length ≤ 1000 := by omega
    refine XK.skip ?_
    refine XK.seq ?_
    refine XK.region rfl ?_
    refine XO.q (Q.assign rfl) ?_
    refine XO.done ?_
    refine XK.seq ?_
    refine XK.region rfl ?_
    refine XO.q (Q.assign rfl) ?_
    refine XO.done ?_
    refine XK.seq ?_
    refine XK.seq ?_
    refine XK.region rfl ?_
    refine XO.q (Q.move rfl) ?_
    refine XO.len rfl fun l27 => ?_
    refine XO.q (Q.move rfl) ?_
    refine XO.done ?_
    refine XK.block ?_
    refine XK.while (X := Nat × Value × PHeap × Value × PHeap) [9, 10, 12, 28, 29, 30, 31, 32, 33, 34, 35, 36, 37, 38, 39, 40, 41, 42] (fun ⟨i, vr, hr, vq, hq⟩ => [(9, some (vr)), (10, some (vq)), (28, some (.int .i64 (i : Nat)))]) (fun ⟨i, vr, hr, vq, hq⟩ => [hr, hq]) (fun ⟨i, vr, hr, vq, hq⟩ => i ≤ l.length ∧ OArr vr encRd 3 74 hr ((rdsL l).take i) ∧ OArr vq encRd 3 80 hq ((rdsL l).take i)) (fun ⟨i, vr, hr, vq, hq⟩ => l.length - i) (0, .slice none 0 0, emp, .slice none 0 0, emp) [emp, emp] rfl ⟨by omega, nR, nQ⟩ (.c rfl (.c rfl (.c rfl (.base 0 rfl rfl)))) ?_
    rintro ⟨i, vr, hr, vq, hq⟩ ⟨hi, OR, OQ⟩ ih0
    dsimp only [List.cons_append, List.nil_append] at ih0 ⊢
    refine XK.seq ?_
    refine XK.region rfl ?_
    refine XO.q (Q.lss rfl rfl) ?_
    refine XO.done ?_
    refine XK.seq ?_
    refine XK.if rfl (fun c1 => ?_) (fun c1 => ?_)
    · have _t1 := True.intro
      have el : ((rdsL l).take i).length = i := by rw [List.length_take]; omega
      refine XK.skip ?_
      refine XK.seq ?_
      refine XK.block ?_
      refine XK.seq ?_
      refine XK.region rfl ?_
      refine XO.ix rfl rfl (by omega) (by omega) fun i30 => ?_
      refine XO.q (Q.ldEA [_, _, _, _] rfl (by first | assumption | omega) rfl rfl) ?_
      refine XO.alloc fun b12 => ?_
      refine XO.st rfl rfl rfl ?_
      refine XO.done ?_
      refine XK.meet (X := Value × PHeap × Value × PHeap) [9, 10, 32, 33, 34, 35, 36, 37, 38, 39, 40, 41] (fun ⟨vr2, hr2, vq2, hq2⟩ => [(9, some (vr2)), (10, some (vq2))]) (fun ⟨vr2, hr2, vq2, hq2⟩ => [hr2, hq2]) (fun ⟨vr2, hr2, vq2, hq2⟩ => OArr vr2 encRd 3 74 hr2 ((rdsL l).take (i + 1)) ∧ OArr vq2 encRd 3 80 hq2 ((rdsL l).take (i + 1))) [hr, hq] ?_ ?_
      · rintro ⟨vr2, hr2, vq2, hq2⟩ ⟨OR2, OQ2⟩
        dsimp only [List.cons_append, List.nil_append]
        refine XK.inBlock ?_
        refine XK.region rfl ?_
        refine XO.q (Q.add rfl rfl ⟨by omega, by omega⟩) ?_
        refine XO.q (Q.move rfl) ?_
        refine XO.done ?_
        exact ih0 (i + 1, vr2, hr2, vq2, hq2) _ _ ⟨by dsimp only; omega, OR2, OQ2⟩ (by first | omega | (dsimp only; omega)) (.c rfl (.c rfl (.c rfl (.base 41 rfl rfl)))) inferInstance
      · intro mtr8
        dsimp only [List.cons_append, List.nil_append] at mtr8
        refine XK.drawn [0, 1, 2, 5, 6, 7, 10, 11] [b12] [] (.q 0 (.q 1 (.q 2 (.q 5 (.q 6 (.q 7 (.br 3 true (.br 4 true (.br 8 true (.br 9 true (.q 10 (.q 11 .done)) .stop) .stop) (.br 8 true (.br 4 true (.br 9 true (.q 10 (.q 11 .done)) .stop) .stop) .stop)) (.br 8 true (.br 3 true (.br 4 true (.br 9 true (.q 10 (.q 11 .done)) .stop) .stop) .stop) .stop)))))))) Try.mixed rfl (by kernel_rfl) ?_
        refine XT.q rfl rfl (Q.move rfl) ?_
        refine XT.q rfl rfl (Q.fieldAddr rfl) ?_
        refine XT.q rfl rfl (Q.ldA [_, _, _] rfl rfl rfl) ?_
        refine XT.q rfl rfl (Q.move rfl) ?_
        refine XT.q rfl rfl (Q.fieldAddr rfl) ?_
        refine XT.q rfl rfl (Q.ldA [_, _, _] rfl rfl rfl) ?_
        refine XT.lit [_, _, _] [_, _, _] [(l.getD i default).rd] encRd rfl rfl (by rfl) (by rfl) rfl (by rfl) (by exact .c 0 3 rfl rfl rfl (.n _)) (fun _ => rfl) (by rfl) rfl (by infer_instance) rfl (fun v35 h35 O35 => ⟨inferInstance, ?_⟩) ?_
        · skip
          refine XT.append rfl rfl rfl rfl rfl rfl (by first | omega | (simp; omega)) (fun v36 h36 O36 => ⟨inferInstance, ?_⟩) ?_
          · skip
            refine XT.lit [_, _, _] [_, _, _] [(l.getD i default).rd] encRd rfl rfl (by rfl) (by rfl) rfl (by rfl) (by exact .c 0 3 rfl rfl rfl (.n _)) (fun _ => rfl) (by rfl) rfl (by infer_instance) rfl (fun v40 h40 O40 => ⟨inferInstance, ?_⟩) XT.stop
            refine XT.append rfl rfl rfl rfl rfl rfl (by first | omega | (simp; omega)) (fun v41 h41 O41 => ⟨inferInstance, ?_⟩) XT.stop
            refine XT.q rfl rfl (Q.assign rfl) ?_
            refine XT.q rfl rfl (Q.assign rfl) ?_
            refine XT.done ?_
            exact mtr8 ((v36, h36, v41, h41)) _ _ ⟨by rw [rds_snoc (by omega)]; exact O36, by rw [rds_snoc (by omega)]; exact O41⟩ (.c rfl (.c rfl (.base 12 rfl rfl))) inferInstance
          · skip
            refine XT.lit [_, _, _] [_, _, _] [(l.getD i default).rd] encRd rfl rfl (by rfl) (by rfl) rfl (by rfl) (by exact .c 0 3 rfl rfl rfl (.n _)) (fun _ => rfl) (by rfl) rfl (by infer_instance) rfl (fun v40 h40 O40 => ⟨inferInstance, ?_⟩) XT.stop
            refine XT.append rfl rfl rfl rfl rfl rfl (by first | omega | (simp; omega)) (fun v36 h36 O36 => ⟨inferInstance, ?_⟩) XT.stop
            refine XT.append rfl rfl rfl rfl rfl rfl (by first | omega | (simp; omega)) (fun v41 h41 O41 => ⟨inferInstance, ?_⟩) XT.stop
            refine XT.q rfl rfl (Q.assign rfl) ?_
            refine XT.q rfl rfl (Q.assign rfl) ?_
            refine XT.done ?_
            exact mtr8 ((v36, h36, v41, h41)) _ _ ⟨by rw [rds_snoc (by omega)]; exact O36, by rw [rds_snoc (by omega)]; exact O41⟩ (.c rfl (.c rfl (.base 12 rfl rfl))) inferInstance
        · skip
          refine XT.lit [_, _, _] [_, _, _] [(l.getD i default).rd] encRd rfl rfl (by rfl) (by rfl) rfl (by rfl) (by exact .c 0 3 rfl rfl rfl (.n _)) (fun _ => rfl) (by rfl) rfl (by infer_instance) rfl (fun v40 h40 O40 => ⟨inferInstance, ?_⟩) XT.stop
          refine XT.lit [_, _, _] [_, _, _] [(l.getD i default).rd] encRd rfl rfl (by rfl) (by rfl) rfl (by rfl) (by exact .c 0 3 rfl rfl rfl (.n _)) (fun _ => rfl) (by rfl) rfl (by infer_instance) rfl (fun v35 h35 O35 => ⟨inferInstance, ?_⟩) XT.stop
          refine XT.append rfl rfl rfl rfl rfl rfl (by first | omega | (simp; omega)) (fun v36 h36 O36 => ⟨inferInstance, ?_⟩) XT.stop
          refine XT.append rfl rfl rfl rfl rfl rfl (by first | omega | (simp; omega)) (fun v41 h41 O41 => ⟨inferInstance, ?_⟩) XT.stop
          refine XT.q rfl rfl (Q.assign rfl) ?_
          refine XT.q rfl rfl (Q.assign rfl) ?_
          refine XT.done ?_
          exact mtr8 ((v36, h36, v41, h41)) _ _ ⟨by rw [rds_snoc (by omega)]; exact O36, by rw [rds_snoc (by omega)]; exact O41⟩ (.c rfl (.c rfl (.base 12 rfl rfl))) inferInstance
    · have _t1 := True.intro
      have hin : i = l.length := by omega
      rw [hin, ← rl, List.take_length] at OR OQ
      clear ih0
      refine XK.exit rfl ?_
      refine XK.seq ?_
      refine XK.region rfl ?_
      refine XO.q (Q.move rfl) ?_
      refine XO.call Try.call27 rfl rfl rfl (cloneR vr hr (rdsL l) (by omega)) fun v44 s44 R44 => ?_
      obtain ⟨ks, rfl, OS⟩ := R44
      dsimp only [List.cons_append, List.nil_append]
      refine XO.q (Q.assign rfl) ?_
      refine XO.done ?_
      refine XK.seq ?_
      refine XK.region rfl ?_
      refine XO.q (Q.move rfl) ?_
      refine XO.q (Q.move rfl) ?_
      refine XO.call Try.call23 rfl rfl rfl (Sign_spec key (rdsL l) v44 ks) fun v48 s48 R48 => ?_
      obtain ⟨va, ka, rfl, rfl, OA⟩ := R48
      dsimp only [List.cons_append, List.nil_append]
      obtain ⟨g, eg⟩ : ∃ g, g = signG key (rdsL l) := ⟨_, rfl⟩
      have nA := sign_len key (rdsL l)
      rw [← eg] at OA nA ⊢
      refine XO.q (Q.move rfl) ?_
      refine XO.q (Q.extract rfl rfl) ?_
      refine XO.q (Q.extract rfl rfl) ?_
      refine XO.q (Q.assign rfl) ?_
      refine XO.q (Q.assign rfl) ?_
      refine XO.done ?_
      refine XK.seq ?_
      refine XK.region rfl ?_
      refine XO.q (Q.move rfl) ?_
      refine XO.q (Q.move rfl) ?_
      refine XO.call Try.call28 rfl rfl rfl (RSign_spec key (rdsL l) vq hq) fun v54 s54 R54 => ?_
      obtain ⟨vb, kb, rfl, rfl, OB⟩ := R54
      dsimp only [List.cons_append, List.nil_append]
      rw [← eg] at OB ⊢
      obtain ⟨A, eA⟩ : ∃ A, A = g.1 := ⟨_, rfl⟩
      rw [← eA] at OA OB nA
      have nA : A.length ≤ 1000 := by omega
      refine XO.q (Q.move rfl) ?_
      refine XO.q (Q.extract rfl rfl) ?_
      refine XO.q (Q.extract rfl rfl) ?_
      refine XO.q (Q.assign rfl) ?_
      refine XO.q (Q.assign rfl) ?_
      refine XO.done ?_
      refine XK.seq ?_
      refine XK.seq ?_
      refine XK.region rfl ?_
      refine XO.q (Q.move rfl) ?_
      refine XO.q (Q.move rfl) ?_
      refine XO.call Try.call29 rfl rfl rfl (Mix_spec key other) fun v59 s59 R59 => ?_
      obtain ⟨rfl, rfl⟩ := R59
      dsimp only [List.cons_append, List.nil_append]
      refine XO.q (Q.move rfl) ?_
      refine XO.q (Q.move rfl) ?_
      refine XO.call Try.call30 rfl rfl rfl (RMix_spec key other) fun v62 s62 R62 => ?_
      obtain ⟨rfl, rfl⟩ := R62
      dsimp only [List.cons_append, List.nil_append]
      refine XO.q (Q.neq rfl rfl) ?_
      refine XO.q (Q.move rfl) ?_
      refine XO.q (Quiet.guardF rfl rfl fun g65 p65 => Q.move rfl) ?_
      refine XO.q (Quiet.guardF rfl rfl fun g66 p66 => Q.move rfl) ?_
      refine XO.q (Quiet.guardF rfl rfl fun g67 p67 => Q.neq (lzv g67 rfl) (lzv g67 rfl)) ?_
      refine XO.q (Q.or rfl (fun hp => lzv hp rfl)) ?_
      refine XO.q (Q.move rfl) ?_
      refine XO.q (Quiet.guardF rfl rfl fun g70 p70 => Q.move rfl) ?_
      refine XO.q (Quiet.guardF rfl rfl fun g71 p71 => Q.move rfl) ?_
      refine XO.gcallF rfl rfl Try.call31 rfl (fun g72 => .c (lzv g72 rfl) (.c (lzv g72 rfl) .n)) rfl (fun g72 p72 => equalR v44 vr ks hr (rdsL l) (rdsL l)) ?_
      refine XO.q (Quiet.guardF rfl rfl fun g73 p73 => Q.not (lzv g73 rfl)) ?_
      refine XO.q (Q.or rfl (fun hp => lzv hp rfl)) ?_
      refine XO.q (Q.move rfl) ?_
      refine XO.q (Quiet.guardF rfl rfl fun g76 p76 => Q.move rfl) ?_
      refine XO.q (Quiet.guardF rfl rfl fun g77 p77 => Q.move rfl) ?_
      refine XO.gcallF rfl rfl Try.call32 rfl (fun g78 => .c (lzv g78 rfl) (.c (lzv g78 rfl) (.c rfl .n))) rfl (fun g78 p78 => equalLF va vb ka kb A A) ?_
      refine XO.q (Quiet.guardF rfl rfl fun g79 p79 => Q.not (lzv g79 rfl)) ?_
      refine XO.q (Q.or rfl (fun hp => lzv hp rfl)) ?_
      refine XO.done ?_
      refine XK.if rfl (fun c2 => ?_) (fun c2 => ?_)
      · have _t2 := True.intro
        simp at c2
      · have _t2 := True.intro
        refine XK.skip ?_
        refine XK.seq ?_
        refine XK.region rfl ?_
        refine XO.q (Q.move rfl) ?_
        refine XO.call Try.call25 rfl rfl rfl (cloneL va ka A (by omega)) fun v82 s82 R82 => ?_
        obtain ⟨kc0, rfl, OC0⟩ := R82
        dsimp only [List.cons_append, List.nil_append]
        refine XO.q (Q.assign rfl) ?_
        refine XO.done ?_
        refine XK.seq ?_
        refine XK.seq ?_
        refine XK.region rfl ?_
        refine XO.q (Q.move rfl) ?_
        refine XO.len rfl fun l84 => ?_
        refine XO.q (Q.gtr rfl rfl) ?_
        refine XO.done ?_
        refine XK.meet (X := PHeap × List MLink) [86, 87, 88, 89, 90, 91, 92, 93, 94, 95, 96, 97] (fun ⟨kc, lst⟩ => []) (fun ⟨kc, lst⟩ => [kc]) (fun ⟨kc, lst⟩ => OArr v82 encLink 4 76 kc lst ∧ lst.length ≤ 1000) [kc0] ?_ ?_
        · rintro ⟨kc, lst⟩ ⟨OC, nc⟩
          dsimp only [List.cons_append, List.nil_append]
          refine XK.seq ?_
          refine XK.seq ?_
          refine XK.region rfl ?_
          refine XO.q (Q.move rfl) ?_
          refine XO.q (Q.move rfl) ?_
          refine XO.q (Q.move rfl) ?_
          refine XO.lit [_, _, _] [_, _, _] [vl, va, v82] encV (by rfl) (by rfl) rfl (by rfl) (by exact .c 0 1 rfl rfl rfl (.c 1 1 rfl rfl rfl (.c 2 1 rfl rfl rfl (.n _)))) (fun _ => rfl) (by rfl) rfl (by infer_instance) rfl fun v101 h101 O101 => ?_
          refine XO.len rfl fun l102 => ?_
          refine XO.q (Q.move rfl) ?_
          refine XO.done ?_
          refine XK.block ?_
          refine XK.while (X := Nat) [8, 20, 21, 103, 104, 105, 106, 107, 108, 109, 110, 111, 112, 113, 114, 115, 116, 117, 118, 119, 120, 121, 122, 123, 124, 125] (fun i => [(103, some (.int .i64 (i : Nat)))]) (fun i => []) (fun i => i ≤ 3) (fun i => 3 - i) (0) [] rfl (by omega) (.c rfl (.base 0 rfl rfl)) ?_
          rintro i hi ih1
          dsimp only [List.cons_append, List.nil_append] at ih1 ⊢
          refine XK.seq ?_
          refine XK.region rfl ?_
          refine XO.q (Q.lss rfl rfl) ?_
          refine XO.done ?_
          refine XK.seq ?_
          refine XK.if rfl (fun c4 => ?_) (fun c4 => ?_)
          · have _t4 := True.intro
            have i3 : i < 3 := by have h := c4; simp only [List.length_cons, List.length_nil] at h; omega
            rcases (show i = 0 ∨ i = 1 ∨ i = 2 by omega) with rfl | rfl | rfl
            · refine XK.skip ?_
              refine XK.seq ?_
              refine XK.block ?_
              refine XK.seq ?_
              refine XK.region rfl ?_
              refine XO.ix rfl rfl (by omega) (by omega) fun i105 => ?_
              refine XO.q (Q.ldE rfl (by first | assumption | omega) rfl) ?_
              rw [show ([vl, va, v82] : List Value).getD 0 default = vl from rfl]
              refine XO.q (Q.assign rfl) ?_
              refine XO.done ?_
              refine XK.seq ?_
              refine XK.region rfl ?_
              refine XO.q (Q.move rfl) ?_
              refine XO.call Try.call25 rfl rfl rfl (cloneL (vl) hl l (by omega)) fun v108 s108 R108 => ?_
              obtain ⟨ko, rfl, OO⟩ := R108
              dsimp only [List.cons_append, List.nil_append]
              refine XO.q (Q.assign rfl) ?_
              refine XO.done ?_
              refine XK.seq ?_
              refine XK.region rfl ?_
              refine XO.q (Q.move rfl) ?_
              refine XO.q (Q.move rfl) ?_
              refine XO.call Try.call35 rfl rfl rfl (chains11 key l v108 ko (by omega)) fun v111 s111 R111 => ?_
              obtain ⟨rfl, rfl⟩ := R111
              dsimp only [List.cons_append, List.nil_append]
              refine XO.q (Q.not rfl) ?_
              refine XO.q (Q.move rfl) ?_
              refine XO.q (Quiet.guardF rfl rfl fun g114 p114 => Q.move rfl) ?_
              refine XO.q (Quiet.guardF rfl rfl fun g115 p115 => Q.move rfl) ?_
              refine XO.gcallF rfl rfl Try.call35 rfl (fun g116 => .c (lzv g116 rfl) (.c (lzv g116 rfl) .n)) rfl (fun g116 p116 => chains11 other l v108 ko (by omega)) ?_
              refine XO.q (Quiet.guardF rfl rfl fun g117 p117 => Q.not (lzv g117 rfl)) ?_
              refine XO.q (Q.or rfl (fun hp => lzv hp rfl)) ?_
              refine XO.q (Q.move rfl) ?_
              refine XO.q (Quiet.guardF rfl rfl fun g120 p120 => Q.move rfl) ?_
              refine XO.q (Quiet.guardF rfl rfl fun g121 p121 => Q.move rfl) ?_
              refine XO.gcallF rfl rfl Try.call36 rfl (fun g122 => .c (lzv g122 rfl) (.c (lzv g122 rfl) .n)) rfl (fun g122 p122 => equalLk v108 (vl) ko hl l l) ?_
              refine XO.q (Quiet.guardF rfl rfl fun g123 p123 => Q.not (lzv g123 rfl)) ?_
              refine XO.q (Q.or rfl (fun hp => lzv hp rfl)) ?_
              refine XO.done ?_
              refine XK.if rfl (fun c5 => ?_) (fun c5 => ?_)
              · have _t5 := True.intro
                simp at c5
              · have _t5 := True.intro
                refine XK.skip ?_
                refine XK.inBlock ?_
                refine XK.region rfl ?_
                refine XO.q (Q.add rfl rfl ⟨by omega, by omega⟩) ?_
                refine XO.q (Q.move rfl) ?_
                refine XO.done ?_
                exact ih1 (0 + 1) _ _ (by omega) (by first | omega | (dsimp only; omega)) (.c rfl (.base 52 rfl rfl)) inferInstance
            · refine XK.skip ?_
              refine XK.seq ?_
              refine XK.block ?_
              refine XK.seq ?_
              refine XK.region rfl ?_
              refine XO.ix rfl rfl (by omega) (by omega) fun i105 => ?_
              refine XO.q (Q.ldE rfl (by first | assumption | omega) rfl) ?_
              rw [show ([vl, va, v82] : List Value).getD 1 default = va from rfl]
              refine XO.q (Q.assign rfl) ?_
              refine XO.done ?_
              refine XK.seq ?_
              refine XK.region rfl ?_
              refine XO.q (Q.move rfl) ?_
              refine XO.call Try.call25 rfl rfl rfl (cloneL (va) ka A (by omega)) fun v108 s108 R108 => ?_
              obtain ⟨ko, rfl, OO⟩ := R108
              dsimp only [List.cons_append, List.nil_append]
              refine XO.q (Q.assign rfl) ?_
              refine XO.done ?_
              refine XK.seq ?_
              refine XK.region rfl ?_
              refine XO.q (Q.move rfl) ?_
              refine XO.q (Q.move rfl) ?_
              refine XO.call Try.call35 rfl rfl rfl (chains11 key A v108 ko (by omega)) fun v111 s111 R111 => ?_
              obtain ⟨rfl, rfl⟩ := R111
              dsimp only [List.cons_append, List.nil_append]
              refine XO.q (Q.not rfl) ?_
              refine XO.q (Q.move rfl) ?_
              refine XO.q (Quiet.guardF rfl rfl fun g114 p114 => Q.move rfl) ?_
              refine XO.q (Quiet.guardF rfl rfl fun g115 p115 => Q.move rfl) ?_
              refine XO.gcallF rfl rfl Try.call35 rfl (fun g116 => .c (lzv g116 rfl) (.c (lzv g116 rfl) .n)) rfl (fun g116 p116 => chains11 other A v108 ko (by omega)) ?_
              refine XO.q (Quiet.guardF rfl rfl fun g117 p117 => Q.not (lzv g117 rfl)) ?_
              refine XO.q (Q.or rfl (fun hp => lzv hp rfl)) ?_
              refine XO.q (Q.move rfl) ?_
              refine XO.q (Quiet.guardF rfl rfl fun g120 p120 => Q.move rfl) ?_
              refine XO.q (Quiet.guardF rfl rfl fun g121 p121 => Q.move rfl) ?_
              refine XO.gcallF rfl rfl Try.call36 rfl (fun g122 => .c (lzv g122 rfl) (.c (lzv g122 rfl) .n)) rfl (fun g122 p122 => equalLk v108 (va) ko ka A A) ?_
              refine XO.q (Quiet.guardF rfl rfl fun g123 p123 => Q.not (lzv g123 rfl)) ?_
              refine XO.q (Q.or rfl (fun hp => lzv hp rfl)) ?_
              refine XO.done ?_
              refine XK.if rfl (fun c5 => ?_) (fun c5 => ?_)
              · have _t5 := True.intro
                simp at c5
              · have _t5 := True.intro
                refine XK.skip ?_
                refine XK.inBlock ?_
                refine XK.region rfl ?_
                refine XO.q (Q.add rfl rfl ⟨by omega, by omega⟩) ?_
                refine XO.q (Q.move rfl) ?_
                refine XO.done ?_
                exact ih1 (1 + 1) _ _ (by omega) (by first | omega | (dsimp only; omega)) (.c rfl (.base 52 rfl rfl)) inferInstance
            · refine XK.skip ?_
              refine XK.seq ?_
              refine XK.block ?_
              refine XK.seq ?_
              refine XK.region rfl ?_
              refine XO.ix rfl rfl (by omega) (by omega) fun i105 => ?_
              refine XO.q (Q.ldE rfl (by first | assumption | omega) rfl) ?_
              rw [show ([vl, va, v82] : List Value).getD 2 default = v82 from rfl]
              refine XO.q (Q.assign rfl) ?_
              refine XO.done ?_
              refine XK.seq ?_
              refine XK.region rfl ?_
              refine XO.q (Q.move rfl) ?_
              refine XO.call Try.call25 rfl rfl rfl (cloneL (v82) kc lst (by omega)) fun v108 s108 R108 => ?_
              obtain ⟨ko, rfl, OO⟩ := R108
              dsimp only [List.cons_append, List.nil_append]
              refine XO.q (Q.assign rfl) ?_
              refine XO.done ?_
              refine XK.seq ?_
              refine XK.region rfl ?_
              refine XO.q (Q.move rfl) ?_
              refine XO.q (Q.move rfl) ?_
              refine XO.call Try.call35 rfl rfl rfl (chains11 key lst v108 ko (by omega)) fun v111 s111 R111 => ?_
              obtain ⟨rfl, rfl⟩ := R111
              dsimp only [List.cons_append, List.nil_append]
              refine XO.q (Q.not rfl) ?_
              refine XO.q (Q.move rfl) ?_
              refine XO.q (Quiet.guardF rfl rfl fun g114 p114 => Q.move rfl) ?_
              refine XO.q (Quiet.guardF rfl rfl fun g115 p115 => Q.move rfl) ?_
              refine XO.gcallF rfl rfl Try.call35 rfl (fun g116 => .c (lzv g116 rfl) (.c (lzv g116 rfl) .n)) rfl (fun g116 p116 => chains11 other lst v108 ko (by omega)) ?_
              refine XO.q (Quiet.guardF rfl rfl fun g117 p117 => Q.not (lzv g117 rfl)) ?_
              refine XO.q (Q.or rfl (fun hp => lzv hp rfl)) ?_
              refine XO.q (Q.move rfl) ?_
              refine XO.q (Quiet.guardF rfl rfl fun g120 p120 => Q.move rfl) ?_
              refine XO.q (Quiet.guardF rfl rfl fun g121 p121 => Q.move rfl) ?_
              refine XO.gcallF rfl rfl Try.call36 rfl (fun g122 => .c (lzv g122 rfl) (.c (lzv g122 rfl) .n)) rfl (fun g122 p122 => equalLk v108 (v82) ko kc lst lst) ?_
              refine XO.q (Quiet.guardF rfl rfl fun g123 p123 => Q.not (lzv g123 rfl)) ?_
              refine XO.q (Q.or rfl (fun hp => lzv hp rfl)) ?_
              refine XO.done ?_
              refine XK.if rfl (fun c5 => ?_) (fun c5 => ?_)
              · have _t5 := True.intro
                simp at c5
              · have _t5 := True.intro
                refine XK.skip ?_
                refine XK.inBlock ?_
                refine XK.region rfl ?_
                refine XO.q (Q.add rfl rfl ⟨by omega, by omega⟩) ?_
                refine XO.q (Q.move rfl) ?_
                refine XO.done ?_
                exact ih1 (2 + 1) _ _ (by omega) (by first | omega | (dsimp only; omega)) (.c rfl (.base 52 rfl rfl)) inferInstance
          · have _t4 := True.intro
            refine XK.exit rfl ?_
            refine XK.seq ?_
            refine XK.region rfl ?_
            refine XO.call Try.call13 rfl rfl rfl (awake11) fun v126 s126 R126 => ?_
            obtain ⟨rfl, rfl⟩ := R126
            dsimp only [List.cons_append, List.nil_append]
            refine XO.q (Q.assign rfl) ?_
            refine XO.done ?_
            refine XK.rt [] Try.func7 Try.results7 (.t rfl .n) ?_
            exact ⟨rfl, rfl⟩
        · intro mt3
          dsimp only [List.cons_append, List.nil_append] at mt3
          refine XK.if rfl (fun c3 => ?_) (fun c3 => ?_)
          · have _t3 := True.intro
            have pb := pickI_bd (x := at') (n := (A.length : Int)) (by omega)
            refine XK.region rfl ?_
            refine XO.q (Q.move rfl) ?_
            refine XO.q (Q.move rfl) ?_
            refine XO.q (Q.move rfl) ?_
            refine XO.len rfl fun l89 => ?_
            refine XO.call Try.call34 rfl rfl rfl (Pick_spec at' (A.length : Int) hat ⟨by omega, by omega⟩) fun v90 s90 R90 => ?_
            obtain ⟨rfl, rfl⟩ := R90
            dsimp only [List.cons_append, List.nil_append]
            refine XO.ix rfl rfl (by omega) (by omega) fun i91 => ?_
            refine XO.q (Q.fieldQ rfl (by first | assumption | omega)) ?_
            refine XO.q (Q.ldE rfl (by first | assumption | omega) rfl) ?_
            refine XO.q (Q.move rfl) ?_
            refine XO.q (Q.xorW rfl rfl) ?_
            refine XO.ix rfl rfl (by omega) (by omega) fun i96 => ?_
            refine XO.q (Q.fieldQ rfl (by first | assumption | omega)) ?_
            refine XO.stE ⟨(A.getD (pickI at' (A.length : Int)).toNat default).rd, xorI .u64 (A.getD (pickI at' (A.length : Int)).toNat default).sign other⟩ rfl rfl rfl (by assumption) rfl rfl fun h17_12 O17_12 => ?_
            refine XO.done ?_
            exact mt3 ((h17_12, _)) _ _ ⟨O17_12, by rw [List.length_set]; exact nA⟩ (.base 12 rfl rfl) inferInstance
          · have _t3 := True.intro
            refine XK.skip ?_
            exact mt3 ((kc0, A)) _ _ ⟨OC0, nA⟩ (.base 0 rfl rfl) inferInstance
end Go.X

set_option linter.unusedSimpArgs false
set_option linter.unusedVariables false
set_option maxRecDepth 20000
namespace Go.X
open Go.Proofs
theorem Arr.front {α : Type} {enc : α → List Value} {sz T : Nat} {h : PHeap} {v : Value} {ys zs : List α} (s : OArr v enc sz T h (ys ++ zs)) : Arr (cutv v sz 0 ys.length) enc sz h ys := by
  have := Arr.cut (OArr.arr (s := s)) (i := 0) (j := ys.length) (Nat.zero_le _) (by rw [List.length_append]; omega)
  rw [List.drop_zero, Nat.sub_zero, List.take_left] at this
  exact this
theorem delete11 (v : Value) (h : PHeap) (xs : List MLink) [s : OArr v encLink 4 76 h xs] (i : Nat) (hi : i < xs.length) (hn : xs.length ≤ 68719476736) :
    Spec Try.prog 26 #[v, .int .i64 (i : Nat), .int .i64 ((i : Int) + 1)] [h] [] (fun v' hs => ∃ h', hs = [h'] ∧ Arr v' encLink 4 h' (xs.take i ++ xs.drop (i + 1))) := by
  have hA : (xs.take i ++ xs.drop (i + 1)).length = i + (xs.length - (i + 1)) := by rw [List.length_append, List.length_take, List.length_drop]; omega
  refine Spec.intro (fn := Try.f26) (N := 33) Try.func26 rfl Try.ntmps26 rfl fun B => ?_
  refine XK.seq ?_
  refine XK.region rfl ?_
  refine XO.q (Q.assign rfl) ?_
  refine XO.done ?_
  refine XK.seq ?_
  refine XK.region rfl ?_
  refine XO.q (Q.move rfl) ?_
  refine XO.q (Q.move rfl) ?_
  refine XO.q (Q.move rfl) ?_
  refine XO.q (Q.move rfl) ?_
  refine XO.len rfl fun l12 => ?_
  refine XO.cut3 (i := i) (j := i + 1) (m := xs.length) rfl rfl rfl rfl rfl (by omega) rfl (by omega) (by omega) (by omega) (by omega) fun v13 => ?_
  refine XO.done ?_
  refine XK.seq ?_
  refine XK.seq ?_
  refine XK.region rfl ?_
  refine XO.q (Q.move rfl) ?_
  refine XO.q (Q.move rfl) ?_
  refine XO.q (Q.eql rfl rfl) ?_
  refine XO.done ?_
  refine XK.if rfl (fun c0 => ?_) (fun c0 => ?_)
  · have _t0 := True.intro
    omega
  · have _t0 := True.intro
    refine XK.skip ?_
    refine XK.seq ?_
    refine XK.region rfl ?_
    refine XO.q (Q.move rfl) ?_
    refine XO.len rfl fun l19 => ?_
    refine XO.q (Q.assign rfl) ?_
    refine XO.done ?_
    refine XK.seq ?_
    refine XK.drawn [0, 1, 2, 3, 4, 5, 7] [] [] (.q 0 (.q 1 (.q 2 (.q 3 (.q 4 (.q 5 (.br 6 true (.q 7 .done) .stop))))))) Try.mixed rfl (by kernel_rfl) ?_
    refine XT.q rfl rfl (Q.move rfl) ?_
    refine XT.q rfl rfl (Q.move rfl) ?_
    refine XT.q rfl rfl (Q.cut (i := 0) (j := i) rfl .n (.s rfl (by omega)) (by omega) (by omega)) ?_
    refine XT.q rfl rfl (Q.move rfl) ?_
    refine XT.q rfl rfl (Q.move rfl) ?_
    refine XT.q rfl rfl (Q.cut (i := i + 1) (j := xs.length) rfl (.s rfl (by omega)) .n (by omega) (by omega)) ?_
    refine XT.appendC (i := i) (j := i + 1) rfl rfl rfl rfl rfl rfl (by omega) (by omega) (by omega) rfl (by omega) (fun h26 O26 => ⟨inferInstance, ?_⟩) XT.stop
    rw [← hA] at O26 ⊢
    obtain ⟨A, eA⟩ : ∃ A, A = xs.take i ++ xs.drop (i + 1) := ⟨_, rfl⟩
    rw [← eA] at O26 hA ⊢
    have hZ : (xs.drop A.length).length = 1 := by rw [List.length_drop]; omega
    obtain ⟨Z, eZ⟩ : ∃ Z, Z = xs.drop A.length := ⟨_, rfl⟩
    rw [← eZ] at O26 hZ
    have aC : Arr (cutv v 4 0 A.length) encLink 4 h26 A := Arr.front O26
    refine XT.q rfl rfl (Q.assign rfl) ?_
    refine XT.done ?_
    refine XK.seq ?_
    refine XK.region rfl ?_
    refine XO.q (Q.move rfl) ?_
    refine XO.q (Q.move rfl) ?_
    refine XO.len rfl fun l29 => ?_
    refine XO.q (Q.move rfl) ?_
    refine XO.q (Q.cutW (s := O26) (n := A.length) (i := A.length) (j := A.length + Z.length) rfl rfl rfl rfl rfl (by omega) (by omega) (by rw [List.length_append]; omega) (by rw [List.length_append]; omega)) ?_
    refine XO.clearC (s := O26) (m := 0) (⟨⟨0, 0, 0⟩, 0⟩ : MLink) rfl rfl (by omega) (by rw [List.length_append]; omega) (by kernel_rfl) (by intro cc hcc; simp only [encLink, List.mem_cons, List.not_mem_nil, or_false] at hcc; rcases hcc with rfl | rfl | rfl | rfl <;> rfl) fun h6 O6 => ?_
    refine XO.done ?_
    refine XK.seq ?_
    refine XK.region rfl ?_
    refine XO.q (Q.move rfl) ?_
    refine XO.q (Q.assign rfl) ?_
    refine XO.done ?_
    refine XK.rt [h6] Try.func26 Try.results26 (.t rfl .n) ?_
    rw [List.take_left, List.append_assoc] at O6
    exact ⟨h6, rfl, Arr.front O6⟩
end Go.X

set_option linter.unusedSimpArgs false
set_option linter.unusedVariables false
set_option maxRecDepth 20000
namespace Go.X
open Go.Proofs
theorem indexFuncR (v : Value) (h : PHeap) (xs : List MRd) [s : Arr v encRd 3 h xs] (gid : FuncId) (cap : List Value) (Hr : List PHeap) (p : MRd → Bool)
    (hc : ∀ args w, (callFunc gid args).run Try.prog w = .ok (.enter gid args) w) (hS : ∀ x ∈ xs, Spec Try.prog gid (.agg #[.int .i64 x.meter, .int .i64 x.hour, .int .i64 x.value] :: cap).toArray [] Hr (fun v hs => v = .bool (p x) ∧ hs = [])) :
    Spec Try.prog 96 #[v, .func (.func gid) #[] cap.toArray] [] (h :: Hr) (fun v hs => v = .int .i64 (findFirst p xs) ∧ hs = []) := by
  refine Spec.intro (fn := Try.f96) (N := 19) Try.func96 rfl Try.ntmps96 rfl fun B => ?_
  refine XK.seq ?_
  refine XK.region rfl ?_
  refine XO.q (Q.assign rfl) ?_
  refine XO.done ?_
  refine XK.seq ?_
  refine XK.seq ?_
  refine XK.region rfl ?_
  refine XO.q (Q.move rfl) ?_
  refine XO.len rfl fun l7 => ?_
  refine XO.q (Q.move rfl) ?_
  refine XO.done ?_
  refine XK.block ?_
  refine XK.while (X := Nat) [4, 5, 8, 9, 10, 11, 12, 13, 14, 15, 16, 17, 18] (fun i => [(8, some (.int .i64 (i : Nat)))]) (fun i => []) (fun i => i ≤ xs.length ∧ (xs.take i).any p = false) (fun i => xs.length - i) (0) [] rfl ⟨by omega, rfl⟩ (.c rfl (.base 0 rfl rfl)) ?_
  rintro i ⟨hi, ht⟩ ih0
  dsimp only [List.cons_append, List.nil_append] at ih0 ⊢
  refine XK.seq ?_
  refine XK.region rfl ?_
  refine XO.q (Q.lss rfl rfl) ?_
  refine XO.done ?_
  refine XK.seq ?_
  refine XK.if rfl (fun c0 => ?_) (fun c0 => ?_)
  · have _t0 := True.intro
    refine XK.skip ?_
    refine XK.seq ?_
    refine XK.block ?_
    refine XK.seq ?_
    refine XK.region rfl ?_
    refine XO.q (Q.move rfl) ?_
    refine XO.q (Q.assign rfl) ?_
    refine XO.done ?_
    refine XK.seq ?_
    refine XK.region rfl ?_
    refine XO.q (Q.move rfl) ?_
    refine XO.q (Q.move rfl) ?_
    refine XO.q (Q.move rfl) ?_
    refine XO.ix rfl rfl (by omega) (by omega) fun i14 => ?_
    refine XO.q (Q.ldEA [_, _, _] rfl (by first | assumption | omega) rfl rfl) ?_
    refine XO.call hc rfl rfl rfl (hS _ (getD_mem (by omega))) fun v16 s16 R16 => ?_
    obtain ⟨rfl, rfl⟩ := R16
    dsimp only [List.cons_append, List.nil_append]
    refine XO.done ?_
    refine XK.if rfl (fun c1 => ?_) (fun c1 => ?_)
    · have _t1 := True.intro
      refine XK.seq ?_
      refine XK.region rfl ?_
      refine XO.q (Q.move rfl) ?_
      refine XO.q (Q.assign rfl) ?_
      refine XO.done ?_
      refine XK.rt [] Try.func96 Try.results96 (.t rfl .n) ?_
      exact ⟨by rw [findFirst_here ht (by omega) c1], rfl⟩
    · have _t1 := True.intro
      refine XK.skip ?_
      refine XK.inBlock ?_
      refine XK.region rfl ?_
      refine XO.q (Q.add rfl rfl ⟨by omega, by omega⟩) ?_
      refine XO.q (Q.move rfl) ?_
      refine XO.done ?_
      exact ih0 (i + 1) _ _ ⟨by omega, any_step ht (by omega) (Bool.eq_false_iff.2 c1)⟩ (by first | omega | (dsimp only; omega)) (.c rfl (.base 25 rfl rfl)) inferInstance
  · have _t0 := True.intro
    refine XK.exit rfl ?_
    refine XK.seq ?_
    refine XK.region rfl ?_
    refine XO.q (Q.assign rfl) ?_
    refine XO.done ?_
    refine XK.rt [] Try.func96 Try.results96 (.t rfl .n) ?_
    exact ⟨by rw [findFirst_none ht c0], rfl⟩
theorem containsFuncR (v : Value) (h : PHeap) (xs : List MRd) [s : Arr v encRd 3 h xs] (gid : FuncId) (cap : List Value) (Hr : List PHeap) (p : MRd → Bool)
    (hc : ∀ args w, (callFunc gid args).run Try.prog w = .ok (.enter gid args) w) (hS : ∀ x ∈ xs, Spec Try.prog gid (.agg #[.int .i64 x.meter, .int .i64 x.hour, .int .i64 x.value] :: cap).toArray [] Hr (fun v hs => v = .bool (p x) ∧ hs = [])) :
    Spec Try.prog 65 #[v, .func (.func gid) #[] cap.toArray] [] (h :: Hr) (fun v hs => v = .bool (xs.any p) ∧ hs = []) := by
  refine Spec.intro (fn := Try.f65) (N := 9) Try.func65 rfl Try.ntmps65 rfl fun B => ?_
  refine XK.seq ?_
  refine XK.region rfl ?_
  refine XO.q (Q.assign rfl) ?_
  refine XO.done ?_
  refine XK.seq ?_
  refine XK.region rfl ?_
  refine XO.q (Q.move rfl) ?_
  refine XO.q (Q.move rfl) ?_
  refine XO.call Try.call96 rfl rfl rfl (indexFuncR v h xs gid cap Hr p hc hS) fun v7 s7 R7 => ?_
  obtain ⟨rfl, rfl⟩ := R7
  dsimp only [List.cons_append, List.nil_append]
  refine XO.q (Q.geq rfl rfl) ?_
  refine XO.q (Q.assign rfl) ?_
  refine XO.done ?_
  refine XK.rt [] Try.func65 Try.results65 (.t rfl .n) ?_
  exact ⟨by rw [← findFirst_any], rfl⟩
theorem same_key (x r : MRd) : (decide (x.meter = r.meter) && decide (x.hour = r.hour)) = decide (keyR r = keyR x) := by
  unfold keyR
  rw [Bool.eq_iff_iff]
  simp only [Bool.and_eq_true, decide_eq_true_eq, Prod.mk.injEq]
  exact ⟨fun h => ⟨h.1.symm, h.2.symm⟩, fun h => ⟨h.1.symm, h.2.symm⟩⟩
theorem read1 (b : Nat) (r x : MRd) : Spec Try.prog 66 #[.agg #[.int .i64 x.meter, .int .i64 x.hour, .int .i64 x.value], ptr b 0] [] [blk b [.int .i64 r.meter, .int .i64 r.hour, .int .i64 r.value] 74] (fun v hs => v = .bool (decide (keyR r = keyR x)) ∧ hs = []) := by
  refine Spec.intro (fn := Try.f66) (N := 16) Try.func66 rfl Try.ntmps66 rfl fun B => ?_
  refine XK.seq ?_
  refine XK.region rfl ?_
  refine XO.box rfl fun b2 => ?_
  refine XO.q (Q.assign rfl) ?_
  refine XO.done ?_
  refine XK.seq ?_
  refine XK.region rfl ?_
  refine XO.q (Q.fieldAddr rfl) ?_
  refine XO.q (Q.ld rfl rfl) ?_
  refine XO.q (Q.fieldAddr rfl) ?_
  refine XO.q (Q.ld rfl rfl) ?_
  refine XO.q (Q.eql rfl rfl) ?_
  refine XO.q (Q.move rfl) ?_
  refine XO.q (Quiet.guardT rfl rfl fun g10 p10 => Q.fieldAddr rfl) ?_
  refine XO.q (Quiet.guardT rfl rfl fun g11 p11 => Q.ld (lzv g11 rfl) rfl) ?_
  refine XO.q (Quiet.guardT rfl rfl fun g12 p12 => Q.fieldAddr rfl) ?_
  refine XO.q (Quiet.guardT rfl rfl fun g13 p13 => Q.ld (lzv g13 rfl) rfl) ?_
  refine XO.q (Quiet.guardT rfl rfl fun g14 p14 => Q.eql (lzv g14 rfl) (lzv g14 rfl)) ?_
  refine XO.q (Q.and rfl (fun hp => lzv hp rfl)) ?_
  refine XO.q (Q.assign rfl) ?_
  refine XO.done ?_
  refine XK.rt [] Try.func66 Try.results66 (.t rfl .n) ?_
  exact ⟨by rw [← same_key x r], rfl⟩
structure Rds (rs : List MRd) : Prop where
  ok : RdsOk rs
  small : ∀ i, i < rs.length → (rs.getD i default).value ≤ 255
theorem Rds.nil : Rds [] := ⟨⟨fun i hi => absurd hi (Nat.not_lt_zero i), fun a b ha => absurd ha (Nat.not_lt_zero a)⟩, fun i hi => absurd hi (Nat.not_lt_zero i)⟩
theorem snoc_at (rs : List MRd) (r : MRd) (i : Nat) : (rs ++ [r]).getD i default = if i < rs.length then rs.getD i default else if i = rs.length then r else default := by rw [rowsK_getD]
theorem Rds.snoc {rs : List MRd} {r : MRd} (h : Rds rs) (h1 : (0 ≤ r.meter ∧ r.meter ≤ 63) ∧ (0 ≤ r.hour ∧ r.hour ≤ 255) ∧ 0 ≤ r.value ∧ r.value ≤ 255) (hd : dupR rs r = false) : Rds (rs ++ [r]) := by
  have hnk : ∀ a, a < rs.length → ¬ keyR r = keyR (rs.getD a default) := fun a ha he => by
    unfold dupR at hd
    rw [List.any_eq_false] at hd
    refine hd (rs.getD a default) ?_ (by rw [decide_eq_true_eq]; exact he)
    rw [List.getD_eq_getElem?_getD, List.getElem?_eq_getElem ha]; exact List.getElem_mem ha
  have hl : (rs ++ [r]).length = rs.length + 1 := by rw [List.length_append]; rfl
  refine ⟨⟨fun i hi => ?_, fun a b ha hb he => ?_⟩, fun i hi => ?_⟩
  · rw [snoc_at]
    split
    · rename_i h2; exact h.ok.rng i h2
    · rw [if_pos (by omega)]
      unfold badRd
      rw [inA_one, inA_two]
      omega
  · rw [snoc_at, snoc_at] at he
    rw [hl] at ha hb
    by_cases h2 : a < rs.length
    · rw [if_pos h2] at he
      by_cases h3 : b < rs.length
      · rw [if_pos h3] at he; exact h.ok.inj a b h2 h3 he
      · rw [if_neg h3, if_pos (by omega)] at he; exact absurd he.symm (hnk a h2)
    · rw [if_neg h2, if_pos (by omega)] at he
      by_cases h3 : b < rs.length
      · rw [if_pos h3] at he; exact absurd he (hnk b h3)
      · omega
  · rw [snoc_at]
    split
    · rename_i h2; exact h.small i h2
    · rw [if_pos (by omega)]; omega
theorem Read_spec (vl : Value) (hl : PHeap) (l : List UInt8) [sl : Arr vl encU8 1 hl l] : Spec Try.prog 22 #[vl] [] [hl] (fun v hs => ∃ rs k, hs = [k] ∧ OArr v encRd 3 74 k rs ∧ Rds rs ∧ rs.length ≤ 20) := by
  have ll := sl.le
  have nR : OArr (.slice none 0 0) encRd 3 74 emp ([] : List MRd) := OArr.nil (fun _ => rfl)
  refine Spec.intro (fn := Try.f22) (N := 45) Try.func22 rfl Try.ntmps22 rfl fun B => ?_
  refine XK.seq ?_
  refine XK.region rfl ?_
  refine XO.q (Q.assign rfl) ?_
  refine XO.done ?_
  refine XK.seq ?_
  refine XK.region rfl ?_
  refine XO.q (Q.assign rfl) ?_
  refine XO.done ?_
  refine XK.seq ?_
  refine XK.seq ?_
  refine XK.region rfl ?_
  refine XO.q (Q.assign rfl) ?_
  refine XO.done ?_
  refine XK.block ?_
  refine XK.while (X := Nat × Value × PHeap × List MRd) [3, 4, 5, 6, 7, 8, 9, 10, 11, 12, 13, 14, 15, 16, 17, 18, 19, 20, 21, 22, 23, 24, 25, 26, 27, 28, 29, 30, 31, 32, 33, 34, 35, 36, 37, 38, 39, 40, 41, 42, 43] (fun ⟨j, vr, hr, rs⟩ => [(3, some (vr)), (4, some (.int .i64 (2 * (j : Int))))]) (fun ⟨j, vr, hr, rs⟩ => [hr]) (fun ⟨j, vr, hr, rs⟩ => j ≤ 20 ∧ OArr vr encRd 3 74 hr rs ∧ Rds rs ∧ rs.length ≤ j) (fun ⟨j, vr, hr, rs⟩ => 21 - j) (0, .slice none 0 0, emp, []) [emp] rfl ⟨by omega, nR, Rds.nil, by simp⟩ (.c rfl (.c rfl (.base 0 rfl rfl))) ?_
  rintro ⟨j, vr, hr, rs⟩ ⟨hj, OR, RO, RL⟩ ih0
  dsimp only [List.cons_append, List.nil_append] at ih0 ⊢
  refine XK.seq ?_
  refine XK.seq ?_
  refine XK.region rfl ?_
  refine XO.q (Q.move rfl) ?_
  refine XO.q (Q.add rfl rfl ⟨by omega, by omega⟩) ?_
  refine XO.q (Q.move rfl) ?_
  refine XO.len rfl fun l9 => ?_
  refine XO.q (Q.lss rfl rfl) ?_
  refine XO.q (Q.move rfl) ?_
  refine XO.q (Quiet.guardT rfl rfl fun g12 p12 => Q.move rfl) ?_
  refine XO.q (Quiet.guardT rfl rfl fun g13 p13 => Q.lss (lzv g13 rfl) rfl) ?_
  refine XO.q (Q.and rfl (fun hp => lzv hp rfl)) ?_
  refine XO.done ?_
  refine XK.if rfl (fun c0 => ?_) (fun c0 => ?_)
  · have _t0 := True.intro
    have u0 := UInt8.toNat_lt (l.getD (2 * (j : Int)).toNat default)
    have u1 := UInt8.toNat_lt (l.getD (2 * (j : Int) + 1).toNat default)
    refine XK.skip ?_
    refine XK.seq ?_
    refine XK.block ?_
    refine XK.seq ?_
    refine XK.meet (X := Nat × MRd) [5, 17, 18, 19, 20, 21, 22, 23, 24, 25, 26, 27, 28, 29, 30, 31, 32, 33, 34, 35] (fun ⟨b5, r⟩ => [(5, some (ptr b5 0))]) (fun ⟨b5, r⟩ => [blk b5 [.int .i64 r.meter, .int .i64 r.hour, .int .i64 r.value] 74]) (fun ⟨b5, r⟩ => (0 ≤ r.meter ∧ r.meter ≤ 63) ∧ (0 ≤ r.hour ∧ r.hour ≤ 255) ∧ 0 ≤ r.value ∧ r.value ≤ 255) [] ?_ ?_
    · rintro ⟨b5, r⟩ hr2
      dsimp only [List.cons_append, List.nil_append]
      refine XK.seq ?_
      refine XK.region rfl ?_
      refine XO.q (Q.move rfl) ?_
      refine XO.q (Q.func (fun _ he => rfl) (fun _ he => evs_rel he rfl)) ?_
      refine XO.call Try.call65 rfl rfl rfl (containsFuncR vr hr rs 66 [ptr b5 0] [blk b5 [.int .i64 r.meter, .int .i64 r.hour, .int .i64 r.value] 74] (fun x => decide (keyR r = keyR x)) Try.call66 (fun x hx => read1 b5 r x)) fun v38 s38 R38 => ?_
      obtain ⟨rfl, rfl⟩ := R38
      dsimp only [List.cons_append, List.nil_append]
      rw [show (rs.any fun x => decide (keyR r = keyR x)) = dupR rs r from rfl]
      refine XO.q (Q.not rfl) ?_
      refine XO.done ?_
      refine XK.if rfl (fun c1 => ?_) (fun c1 => ?_)
      · have _t1 := True.intro
        refine XK.region rfl ?_
        refine XO.q (Q.move rfl) ?_
        refine XO.q (Q.ldA [_, _, _] rfl rfl rfl) ?_
        refine XO.lit [_, _, _] [_, _, _] [r] encRd (by rfl) (by rfl) rfl (by rfl) (by exact .c 0 3 rfl rfl rfl (.n _)) (fun _ => rfl) (by rfl) rfl (by infer_instance) rfl fun v42 h42 O42 => ?_
        refine XO.append rfl rfl rfl rfl (by first | omega | (simp; omega)) fun v43 h43 O43 => ?_
        refine XO.q (Q.assign rfl) ?_
        refine XO.done ?_
        refine XK.inBlock ?_
        refine XK.region rfl ?_
        refine XO.q (Q.move rfl) ?_
        refine XO.q (Q.add rfl rfl ⟨by omega, by omega⟩) ?_
        refine XO.q (Q.assign rfl) ?_
        refine XO.done ?_
        rw [show 2 * (j : Int) + 2 = 2 * ((j + 1 : Nat) : Int) by omega]
        exact ih0 (j + 1, v43, h43, rs ++ [r]) _ _ ⟨by dsimp only; omega, O43, RO.snoc hr2 (by simpa using c1), by rw [List.length_append]; dsimp only [List.length_cons, List.length_nil]; omega⟩ (by first | omega | (dsimp only; omega)) (.c rfl (.c rfl (.base 85 rfl rfl))) inferInstance
      · have _t1 := True.intro
        refine XK.skip ?_
        refine XK.inBlock ?_
        refine XK.region rfl ?_
        refine XO.q (Q.move rfl) ?_
        refine XO.q (Q.add rfl rfl ⟨by omega, by omega⟩) ?_
        refine XO.q (Q.assign rfl) ?_
        refine XO.done ?_
        rw [show 2 * (j : Int) + 2 = 2 * ((j + 1 : Nat) : Int) by omega]
        exact ih0 (j + 1, vr, hr, rs) _ _ ⟨by dsimp only; omega, OR, RO, by dsimp only; omega⟩ (by first | omega | (dsimp only; omega)) (.c rfl (.c rfl (.base 80 rfl rfl))) inferInstance
    · intro mtr5
      dsimp only [List.cons_append, List.nil_append] at mtr5
      refine XK.drawn [0, 1, 2, 3, 4, 5, 6, 7, 8, 9, 10, 11, 12, 13, 14, 15, 16, 17, 18] [] [] (.q 0 (.q 1 (.q 2 (.q 3 (.q 4 (.q 5 (.q 6 (.q 7 (.q 8 (.q 9 (.q 10 (.q 11 (.q 12 (.q 13 (.q 14 (.q 15 (.q 16 (.q 17 (.q 18 (.br 19 true (.br 20 false .done .stop) .stop)))))))))))))))))))) Try.mixed rfl (by kernel_rfl) ?_
      refine XT.q rfl rfl (Q.move rfl) ?_
      refine XT.q rfl rfl (Q.move rfl) ?_
      refine XT.ix rfl rfl rfl rfl (by omega) (by omega) fun i19 => ?_
      refine XT.q rfl rfl (Q.ldE rfl (by first | assumption | omega) rfl) ?_
      refine XT.q rfl rfl (Q.rem rfl rfl (by omega) (by omega)) ?_
      refine XT.q rfl rfl (Q.conv rfl) ?_
      rw [wrap64_of ⟨by omega, by omega⟩]
      refine XT.q rfl rfl (Q.move rfl) ?_
      refine XT.q rfl rfl (Q.move rfl) ?_
      refine XT.ix rfl rfl rfl rfl (by omega) (by omega) fun i25 => ?_
      refine XT.q rfl rfl (Q.ldE rfl (by first | assumption | omega) rfl) ?_
      refine XT.q rfl rfl (Q.quoT rfl rfl (by omega)) ?_
      rw [Int.tdiv_eq_ediv_of_nonneg (by omega), IntWalk.u8_in _ ⟨by omega, by omega⟩]
      refine XT.q rfl rfl (Q.conv rfl) ?_
      rw [wrap64_of ⟨by omega, by omega⟩]
      refine XT.q rfl rfl (Q.move rfl) ?_
      refine XT.q rfl rfl (Q.move rfl) ?_
      refine XT.q rfl rfl (Q.add rfl rfl ⟨by omega, by omega⟩) ?_
      refine XT.ix rfl rfl rfl rfl (by omega) (by omega) fun i32 => ?_
      refine XT.q rfl rfl (Q.ldE rfl (by first | assumption | omega) rfl) ?_
      refine XT.q rfl rfl (Q.conv rfl) ?_
      rw [wrap64_of ⟨by omega, by omega⟩]
      refine XT.q rfl rfl (Q.build [_, _, _] (.c 0 1 rfl rfl rfl (.c 1 1 rfl rfl rfl (.c 2 1 rfl rfl rfl (.n _))))) ?_
      refine XT.alloc rfl rfl (fun b5 => ⟨inferInstance, ?_⟩) XT.stop
      refine XT.st rfl rfl rfl rfl rfl ⟨inferInstance, ?_⟩ XT.stop
      refine XT.done ?_
      exact mtr5 ((b5, ⟨(((l.getD (2 * (j : Int)).toNat default).toNat : Nat) : Int) % 5, (((l.getD (2 * (j : Int)).toNat default).toNat : Nat) : Int) / 5, (((l.getD (2 * (j : Int) + 1).toNat default).toNat : Nat) : Int)⟩)) _ _ ⟨by dsimp only; omega, by dsimp only; omega, by dsimp only; omega⟩ (.c rfl (.base 20 rfl rfl)) inferInstance
  · have _t0 := True.intro
    refine XK.exit rfl ?_
    refine XK.seq ?_
    refine XK.region rfl ?_
    refine XO.q (Q.move rfl) ?_
    refine XO.q (Q.assign rfl) ?_
    refine XO.done ?_
    refine XK.rt [hr] Try.func22 Try.results22 (.t rfl .n) ?_
    exact ⟨rs, hr, rfl, OR, RO, by omega⟩
end Go.X

set_option linter.unusedSimpArgs false
set_option linter.unusedVariables false
set_option maxRecDepth 20000
namespace Go.X
open Go.Proofs
set_option maxHeartbeats 2000000 in
theorem MeterSigned_spec (key : Int) (vl : Value) (hl : PHeap) (l : List UInt8) [sl : Arr vl encU8 1 hl l] (n2 : Nat) (hn2 : n2 < 256) (n3 : Nat) (hn3 : n3 < 256) (n4 : Nat) (hn4 : n4 < 256) :
    Spec Try.prog 6 #[.int .u64 key, vl, .int .u8 (n2 : Nat), .int .u8 (n3 : Nat), .int .u8 (n4 : Nat)] [] [hl] (fun v hs => v = .bool true ∧ hs = []) := by
  have nR : OArr (.slice none 0 0) encRd 3 74 emp ([] : List MRd) := OArr.nil (fun _ => rfl)
  refine Spec.intro (fn := Try.f6) (N := 186) Try.func6 rfl Try.ntmps6 rfl fun B => ?_
  refine XK.seq ?_
  refine XK.region rfl ?_
  refine XO.q (Q.assign rfl) ?_
  refine XO.done ?_
  refine XK.seq ?_
  refine XK.region rfl ?_
  refine XO.q (Q.move rfl) ?_
  refine XO.call Try.call22 rfl rfl rfl (Read_spec vl hl l) fun v25 s25 R25 => ?_
  obtain ⟨rs, kr, rfl, OR, RO, RL⟩ := R25
  dsimp only [List.cons_append, List.nil_append]
  refine XO.q (Q.assign rfl) ?_
  refine XO.done ?_
  refine XK.seq ?_
  refine XK.region rfl ?_
  refine XO.q (Q.move rfl) ?_
  refine XO.q (Q.move rfl) ?_
  refine XO.call Try.call23 rfl rfl rfl (Sign_spec key rs v25 kr) fun v29 s29 R29 => ?_
  obtain ⟨va, ka, rfl, rfl, OA⟩ := R29
  dsimp only [List.cons_append, List.nil_append]
  rw [sign_fine RO.ok (by omega)] at OA ⊢
  dsimp only at OA ⊢
  have ver := verify_own (key := key) RO.ok (by omega)
  have okA : RdsOk (rdsL (links key rs rs.length)) := by rw [rds_links]; exact RO.ok
  have smA : ∀ i, i < rs.length → ((links key rs rs.length).getD i default).rd.value ≤ 255 := fun i hi => by rw [links_at hi]; exact RO.small i hi
  have lA := links_len key rs rs.length
  obtain ⟨A, eA⟩ : ∃ A, A = links key rs rs.length := ⟨_, rfl⟩
  rw [← eA] at OA ver okA smA lA
  refine XO.q (Q.move rfl) ?_
  refine XO.q (Q.extract rfl rfl) ?_
  refine XO.q (Q.extract rfl rfl) ?_
  refine XO.q (Q.assign rfl) ?_
  refine XO.q (Q.assign rfl) ?_
  refine XO.done ?_
  refine XK.seq ?_
  refine XK.region rfl ?_
  refine XO.q (Q.move rfl) ?_
  refine XO.q (Q.move rfl) ?_
  refine XO.call Try.call24 rfl rfl rfl (Verify_spec key A va ka) fun v35 s35 R35 => ?_
  obtain ⟨rfl, rfl⟩ := R35
  dsimp only [List.cons_append, List.nil_append]
  rw [ver]
  dsimp only
  refine XO.q (Q.move rfl) ?_
  refine XO.q (Q.extract rfl rfl) ?_
  refine XO.q (Q.extract rfl rfl) ?_
  refine XO.q (Q.assign rfl) ?_
  refine XO.q (Q.assign rfl) ?_
  refine XO.done ?_
  refine XK.seq ?_
  refine XK.seq ?_
  refine XK.region rfl ?_
  refine XO.q (Q.move rfl) ?_
  refine XO.q (Q.neq rfl rfl) ?_
  refine XO.q (Q.move rfl) ?_
  refine XO.q (Quiet.guardF rfl rfl fun g41 p41 => Q.move rfl) ?_
  refine XO.q (Quiet.guardF rfl rfl fun g42 p42 => Q.neq (lzv g42 rfl) rfl) ?_
  refine XO.q (Q.or rfl (fun hp => lzv hp rfl)) ?_
  refine XO.q (Q.move rfl) ?_
  refine XO.q (Quiet.guardF rfl rfl fun g45 p45 => Q.move rfl) ?_
  refine XO.q (Quiet.guardF rfl rfl fun g46 p46 => Q.move rfl) ?_
  refine XO.q (Quiet.guardF rfl rfl fun g47 p47 => Q.len (lzv g47 rfl)) ?_
  refine XO.q (Quiet.guardF rfl rfl fun g48 p48 => Q.neq (lzv g48 rfl) (lzv g48 rfl)) ?_
  refine XO.q (Q.or rfl (fun hp => lzv hp rfl)) ?_
  refine XO.q (Q.move rfl) ?_
  refine XO.q (Quiet.guardF rfl rfl fun g51 p51 => Q.move rfl) ?_
  refine XO.q (Quiet.guardF rfl rfl fun g52 p52 => Q.len (lzv g52 rfl)) ?_
  refine XO.q (Quiet.guardF rfl rfl fun g53 p53 => Q.move rfl) ?_
  refine XO.q (Quiet.guardF rfl rfl fun g54 p54 => Q.len (lzv g54 rfl)) ?_
  refine XO.q (Quiet.guardF rfl rfl fun g55 p55 => Q.neq (lzv g55 rfl) (lzv g55 rfl)) ?_
  refine XO.q (Q.or rfl (fun hp => lzv hp rfl)) ?_
  refine XO.done ?_
  refine XK.if rfl (fun c0 => ?_) (fun c0 => ?_)
  · have _t0 := True.intro
    simp [lA] at c0
  · have _t0 := True.intro
    refine XK.skip ?_
    refine XK.seq ?_
    refine XK.seq ?_
    refine XK.region rfl ?_
    refine XO.q (Q.move rfl) ?_
    refine XO.len rfl fun l58 => ?_
    refine XO.q (Q.eql rfl rfl) ?_
    refine XO.done ?_
    refine XK.if rfl (fun c1 => ?_) (fun c1 => ?_)
    · have _t1 := True.intro
      refine XK.seq ?_
      refine XK.region rfl ?_
      refine XO.call Try.call13 rfl rfl rfl (awake11) fun v60 s60 R60 => ?_
      obtain ⟨rfl, rfl⟩ := R60
      dsimp only [List.cons_append, List.nil_append]
      refine XO.q (Q.assign rfl) ?_
      refine XO.done ?_
      refine XK.rt [] Try.func6 Try.results6 (.t rfl .n) ?_
      exact ⟨rfl, rfl⟩
    · have _t1 := True.intro
      refine XK.skip ?_
      refine XK.seq ?_
      refine XK.drawn [0, 1, 2, 3, 4, 5, 6, 7, 8, 9, 10, 11] [] [] (.q 0 (.q 1 (.q 2 (.q 3 (.q 4 (.q 5 (.q 6 (.q 7 (.q 8 (.q 9 (.q 10 (.q 11 .done)))))))))))) Try.mixed rfl (by kernel_rfl) ?_
      refine XT.q rfl rfl (Q.move rfl) ?_
      refine XT.q rfl rfl (Q.conv rfl) ?_
      rw [wrap64_of ⟨by omega, by omega⟩]
      refine XT.q rfl rfl (Q.move rfl) ?_
      refine XT.q rfl rfl (Q.len rfl) ?_
      refine XT.q rfl rfl (Q.rem rfl rfl (by omega) (by omega)) ?_
      rw [show ((n2 : Nat) : Int) % ((A.length : Nat) : Int) = ((n2 % A.length : Nat) : Int) from rfl]
      obtain ⟨p, ep⟩ : ∃ p, p = n2 % A.length := ⟨_, rfl⟩
      have hp : p < A.length := by rw [ep]; exact Nat.mod_lt _ (by omega)
      rw [← ep]
      refine XT.q rfl rfl (Q.move rfl) ?_
      refine XT.q rfl rfl (Q.conv rfl) ?_
      rw [wrap64_of ⟨by omega, by omega⟩]
      refine XT.q rfl rfl (Q.move rfl) ?_
      refine XT.q rfl rfl (Q.len rfl) ?_
      refine XT.q rfl rfl (Q.rem rfl rfl (by omega) (by omega)) ?_
      rw [show ((n3 : Nat) : Int) % ((A.length : Nat) : Int) = ((n3 % A.length : Nat) : Int) from rfl]
      obtain ⟨q, eq⟩ : ∃ q, q = n3 % A.length := ⟨_, rfl⟩
      have hq : q < A.length := by rw [eq]; exact Nat.mod_lt _ (by omega)
      rw [← eq]
      refine XT.q rfl rfl (Q.assign rfl) ?_
      refine XT.q rfl rfl (Q.assign rfl) ?_
      refine XT.done ?_
      refine XK.seq ?_
      refine XK.region rfl ?_
      refine XO.q (Q.move rfl) ?_
      refine XO.call Try.call25 rfl rfl rfl (cloneL va ka A (by omega)) fun v72 s72 R72 => ?_
      obtain ⟨kx, rfl, OX⟩ := R72
      dsimp only [List.cons_append, List.nil_append]
      refine XO.q (Q.assign rfl) ?_
      refine XO.done ?_
      refine XK.seq ?_
      refine XK.seq ?_
      refine XK.region rfl ?_
      refine XO.q (Q.move rfl) ?_
      refine XO.q (Q.rem rfl rfl (by omega) (by omega)) ?_
      refine XO.done ?_
      refine XK.block ?_
      refine XK.seq ?_
      refine XK.region rfl ?_
      refine XO.q (Q.eql rfl rfl) ?_
      refine XO.q (Q.assign rfl) ?_
      refine XO.done ?_
      refine XK.meet (X := Value × PHeap × List MLink) [18, 75, 76, 77, 78, 79, 80, 81, 82, 83, 84, 85, 86, 87, 88, 91, 92, 93, 94, 95, 96, 97, 98, 99, 100, 101, 102, 103, 104, 105, 106, 107, 108, 109, 110, 111, 112, 113, 114, 115, 116, 117] (fun ⟨vx, hx, L⟩ => [(18, some (vx))]) (fun ⟨vx, hx, L⟩ => [hx]) (fun ⟨vx, hx, L⟩ => Arr vx encLink 4 hx L ∧ L.length ≤ 20 ∧ RdsOk (rdsL L)) [kx] ?_ ?_
      · rintro ⟨vx, hx, L⟩ ⟨AX, LX, okX⟩
        dsimp only [List.cons_append, List.nil_append]
        refine XK.inBlock ?_
        refine XK.seq ?_
        refine XK.region rfl ?_
        refine XO.q (Q.assign rfl) ?_
        refine XO.done ?_
        refine XK.seq ?_
        refine XK.seq ?_
        refine XK.region rfl ?_
        refine XO.q (Q.move rfl) ?_
        refine XO.len rfl fun l119 => ?_
        refine XO.q (Q.move rfl) ?_
        refine XO.done ?_
        refine XK.block ?_
        refine XK.while (X := Nat × Value × PHeap) [19, 21, 120, 121, 122, 123, 124, 125, 126, 127, 128, 129] (fun ⟨i, vq, hq⟩ => [(19, some (vq)), (120, some (.int .i64 (i : Nat)))]) (fun ⟨i, vq, hq⟩ => [hq]) (fun ⟨i, vq, hq⟩ => i ≤ L.length ∧ OArr vq encRd 3 74 hq ((rdsL L).take i)) (fun ⟨i, vq, hq⟩ => L.length - i) (0, .slice none 0 0, emp) [emp] rfl ⟨by omega, nR⟩ (.c rfl (.c rfl (.base 0 rfl rfl))) ?_
        rintro ⟨i, vq, hq⟩ ⟨hi, OQ⟩ ih0
        dsimp only [List.cons_append, List.nil_append] at ih0 ⊢
        refine XK.seq ?_
        refine XK.region rfl ?_
        refine XO.q (Q.lss rfl rfl) ?_
        refine XO.done ?_
        refine XK.seq ?_
        refine XK.if rfl (fun c3 => ?_) (fun c3 => ?_)
        · have _t3 := True.intro
          have el : ((rdsL L).take i).length = i := by rw [List.length_take, rdsL_len]; omega
          refine XK.skip ?_
          refine XK.seq ?_
          refine XK.block ?_
          refine XK.seq ?_
          refine XK.region rfl ?_
          refine XO.ix rfl rfl (by omega) (by omega) fun i122 => ?_
          refine XO.q (Q.ldEA [_, _, _, _] rfl (by first | assumption | omega) rfl rfl) ?_
          refine XO.alloc fun b21 => ?_
          refine XO.st rfl rfl rfl ?_
          refine XO.done ?_
          refine XK.region rfl ?_
          refine XO.q (Q.move rfl) ?_
          refine XO.q (Q.fieldAddr rfl) ?_
          refine XO.q (Q.ldA [_, _, _] rfl rfl rfl) ?_
          refine XO.lit [_, _, _] [_, _, _] [(L.getD i default).rd] encRd (by rfl) (by rfl) rfl (by rfl) (by exact .c 0 3 rfl rfl rfl (.n _)) (fun _ => rfl) (by rfl) rfl (by infer_instance) rfl fun v127 h127 O127 => ?_
          refine XO.append rfl rfl rfl rfl (by first | omega | (simp; omega)) fun v128 h128 O128 => ?_
          refine XO.q (Q.assign rfl) ?_
          refine XO.done ?_
          refine XK.inBlock ?_
          refine XK.region rfl ?_
          refine XO.q (Q.add rfl rfl ⟨by omega, by omega⟩) ?_
          refine XO.q (Q.move rfl) ?_
          refine XO.done ?_
          exact ih0 (i + 1, v128, h128) _ _ ⟨by dsimp only; omega, by dsimp only; rw [rds_snoc (by omega)]; exact O128⟩ (by first | omega | (dsimp only; omega)) (.c rfl (.c rfl (.base 26 rfl rfl))) inferInstance
        · have _t3 := True.intro
          have hin : i = L.length := by omega
          have lR0 := rdsL_len L
          rw [hin, ← lR0, List.take_length] at OQ
          clear ih0
          refine XK.exit rfl ?_
          refine XK.seq ?_
          refine XK.region rfl ?_
          refine XO.q (Q.move rfl) ?_
          refine XO.q (Q.move rfl) ?_
          refine XO.call Try.call23 rfl rfl rfl (Sign_spec key (rdsL L) vq hq) fun v133 s133 R133 => ?_
          obtain ⟨vo, ko, rfl, rfl, OO⟩ := R133
          dsimp only [List.cons_append, List.nil_append]
          rw [sign_fine okX (by rw [rdsL_len]; omega)] at OO ⊢
          dsimp only at OO ⊢
          have lB := links_len key (rdsL L) (rdsL L).length
          have lR := rdsL_len L
          refine XO.q (Q.move rfl) ?_
          refine XO.q (Q.extract rfl rfl) ?_
          refine XO.q (Q.extract rfl rfl) ?_
          refine XO.q (Q.assign rfl) ?_
          refine XO.q (Q.assign rfl) ?_
          refine XO.done ?_
          refine XK.seq ?_
          refine XK.seq ?_
          refine XK.region rfl ?_
          refine XO.q (Q.move rfl) ?_
          refine XO.q (Q.neq rfl rfl) ?_
          refine XO.done ?_
          refine XK.if rfl (fun c4 => ?_) (fun c4 => ?_)
          · have _t4 := True.intro
            exact absurd rfl c4
          · have _t4 := True.intro
            refine XK.skip ?_
            refine XK.seq ?_
            refine XK.region rfl ?_
            refine XO.q (Q.assign rfl) ?_
            refine XO.done ?_
            refine XK.seq ?_
            refine XK.block ?_
            refine XK.while (X := Nat) [23, 138, 139, 140, 141, 142, 143, 144, 145, 146, 147, 148, 149, 150, 151, 152, 153, 154] (fun i => [(23, some (.int .i64 (i : Nat)))]) (fun i => []) (fun i => i ≤ L.length ∧ ∀ j, j < i → L.getD j default = linkAt key (rdsL L) j) (fun i => L.length - i) (0) [] rfl ⟨by omega, fun j hj => by omega⟩ (.c rfl (.base 0 rfl rfl)) ?_
            rintro i ⟨hi, he⟩ ih1
            dsimp only [List.cons_append, List.nil_append] at ih1 ⊢
            refine XK.seq ?_
            refine XK.seq ?_
            refine XK.drawn [0, 1, 2, 3, 4, 5, 6, 7, 8, 9, 10, 11, 12, 13, 14] [] [hx, ko] (.q 0 (.q 1 (.q 2 (.q 3 (.q 4 (.q 5 (.q 6 (.q 7 (.q 8 (.q 9 (.q 10 (.q 11 (.q 12 (.q 13 (.q 14 .done))))))))))))))) Try.mixed rfl (by kernel_rfl) ?_
            refine XT.q rfl rfl (Q.move rfl) ?_
            refine XT.q rfl rfl (Q.move rfl) ?_
            refine XT.q rfl rfl (Q.len rfl) ?_
            refine XT.q rfl rfl (Q.lss rfl rfl) ?_
            refine XT.q rfl rfl (Q.move rfl) ?_
            refine XT.q rfl rfl (Quiet.guardT rfl rfl fun g143 p143 => Q.move rfl) ?_
            refine XT.q rfl rfl (Quiet.guardT rfl rfl fun g144 p144 => Q.move rfl) ?_
            refine XT.q rfl rfl (Quiet.guardT rfl rfl fun g145 p145 => Q.ix (lzv g145 rfl) (lzv g145 rfl) (by omega) (by omega)) ?_
            refine XT.q rfl rfl (Quiet.guardT rfl rfl fun g146 p146 => Q.ldEA [_, _, _, _] (lzv g146 rfl) (by first | assumption | omega) rfl rfl) ?_
            refine XT.q rfl rfl (Quiet.guardT rfl rfl fun g147 p147 => Q.move rfl) ?_
            refine XT.q rfl rfl (Quiet.guardT rfl rfl fun g148 p148 => Q.move rfl) ?_
            refine XT.q rfl rfl (Quiet.guardT rfl rfl fun g149 p149 => Q.ix (lzv g149 rfl) (lzv g149 rfl) (by omega) (by omega)) ?_
            refine XT.q rfl rfl (Quiet.guardT rfl rfl fun g150 p150 => Q.ldEA [_, _, _, _] (lzv g150 rfl) (by first | assumption | omega) rfl rfl) ?_
            refine XT.q rfl rfl (Quiet.guardT rfl rfl fun g151 p151 => Q.eqlG (us := [_, _, _, _]) (vs := [_, _, _, _]) (lzv g151 rfl) (lzv g151 rfl) inferInstance (by kernel_rfl) (by kernel_rfl) (.s rfl inferInstance inferInstance inferInstance (by kernel_rfl) rfl rfl (.c rfl inferInstance inferInstance rfl rfl (.c rfl inferInstance inferInstance rfl rfl (.c rfl inferInstance inferInstance rfl rfl .n))) (.c rfl inferInstance inferInstance rfl rfl .n))) ?_
            rw [link_eqb]
            refine XT.q rfl rfl (Q.and rfl (fun hp => lzv hp rfl)) ?_
            refine XT.done ?_
            refine XK.if rfl (fun c5 => ?_) (fun c5 => ?_)
            · have _t5 := True.intro
              have e5 := c5.2
              rw [links_at (by omega)] at e5
              refine XK.skip ?_
              refine XK.block ?_
              refine XK.region rfl ?_
              refine XO.q (Q.move rfl) ?_
              refine XO.q (Q.add rfl rfl ⟨by omega, by omega⟩) ?_
              refine XO.q (Q.assign rfl) ?_
              refine XO.done ?_
              refine XK.inBlock ?_
              exact ih1 (i + 1) _ _ ⟨by omega, fun j hj => (by rcases Nat.lt_or_ge j i with h3 | h3; exact he j h3; obtain rfl : j = i := (by omega); exact e5)⟩ (by first | omega | (dsimp only; omega)) (.c rfl (.base 37 rfl rfl)) inferInstance
            · have _t5 := True.intro
              refine XK.exit rfl ?_
              refine XK.seq ?_
              refine XK.region rfl ?_
              refine XO.q (Q.move rfl) ?_
              refine XO.q (Q.move rfl) ?_
              refine XO.call Try.call24 rfl rfl rfl (Verify_spec key L vx hx) fun v158 s158 R158 => ?_
              obtain ⟨rfl, rfl⟩ := R158
              dsimp only [List.cons_append, List.nil_append]
              refine XO.q (Q.move rfl) ?_
              refine XO.q (Q.extract rfl rfl) ?_
              refine XO.q (Q.extract rfl rfl) ?_
              refine XO.q (Q.assign rfl) ?_
              refine XO.q (Q.assign rfl) ?_
              refine XO.done ?_
              refine XK.seq ?_
              refine XK.seq ?_
              refine XK.region rfl ?_
              refine XO.q (Q.move rfl) ?_
              refine XO.q (Q.move rfl) ?_
              refine XO.len rfl fun l163 => ?_
              refine XO.q (Q.eql rfl rfl) ?_
              refine XO.done ?_
              refine XK.if rfl (fun c6 => ?_) (fun c6 => ?_)
              · have _t6 := True.intro
                have ev := verify_all (key := key) okX (by omega) (fun j hj => he j (by omega))
                rw [ev]
                refine XK.seq ?_
                refine XK.region rfl ?_
                refine XO.q (Q.move rfl) ?_
                refine XO.q (Q.eql rfl rfl) ?_
                refine XO.q (Q.move rfl) ?_
                refine XO.q (Quiet.guardT rfl rfl fun g168 p168 => Q.move rfl) ?_
                refine XO.q (Quiet.guardT rfl rfl fun g169 p169 => Q.move rfl) ?_
                refine XO.q (Quiet.guardT rfl rfl fun g170 p170 => Q.len (lzv g170 rfl)) ?_
                refine XO.q (Quiet.guardT rfl rfl fun g171 p171 => Q.eql (lzv g171 rfl) (lzv g171 rfl)) ?_
                refine XO.q (Q.and rfl (fun hp => lzv hp rfl)) ?_
                refine XO.q (Q.move rfl) ?_
                refine XO.gcallT rfl rfl Try.call13 rfl (fun g174 => .n) rfl (fun g174 p174 => awake11) ?_
                refine XO.q (Q.and rfl (fun hp => lzv hp rfl)) ?_
                refine XO.q (Q.assign rfl) ?_
                refine XO.done ?_
                refine XK.rt [] Try.func6 Try.results6 (.t rfl .n) ?_
                exact ⟨by simp, rfl⟩
              · have _t6 := True.intro
                have ne5 : ¬ L.getD i default = linkAt key (rdsL L) i := fun h => c5 ⟨by omega, by rw [links_at (by omega)]; exact h⟩
                have ev := verify_first (key := key) okX (by omega) (show i < L.length by omega) he ne5
                rw [ev]
                refine XK.skip ?_
                refine XK.seq ?_
                refine XK.region rfl ?_
                refine XO.q (Q.move rfl) ?_
                refine XO.q (Q.eql rfl rfl) ?_
                refine XO.q (Q.move rfl) ?_
                refine XO.q (Quiet.guardT rfl rfl fun g179 p179 => Q.move rfl) ?_
                refine XO.q (Quiet.guardT rfl rfl fun g180 p180 => Q.move rfl) ?_
                refine XO.q (Quiet.guardT rfl rfl fun g181 p181 => Q.eql (lzv g181 rfl) (lzv g181 rfl)) ?_
                refine XO.q (Q.and rfl (fun hp => lzv hp rfl)) ?_
                refine XO.q (Q.move rfl) ?_
                refine XO.gcallT rfl rfl Try.call13 rfl (fun g184 => .n) rfl (fun g184 p184 => awake11) ?_
                refine XO.q (Q.and rfl (fun hp => lzv hp rfl)) ?_
                refine XO.q (Q.assign rfl) ?_
                refine XO.done ?_
                refine XK.rt [] Try.func6 Try.results6 (.t rfl .n) ?_
                exact ⟨by simp, rfl⟩
      · intro mt2
        dsimp only [List.cons_append, List.nil_append] at mt2
        refine XK.if rfl (fun c2 => ?_) (fun c2 => ?_)
        · have _t2 := True.intro
          have sv := smA p (by omega)
          have bv := (badRd_rng (okA.rng p (by rw [rdsL_len]; exact hp))).2.2
          rw [rds_at hp] at bv
          refine XK.region rfl ?_
          refine XO.q (Q.move rfl) ?_
          refine XO.q (Q.move rfl) ?_
          refine XO.ix rfl rfl (by omega) (by omega) fun i93 => ?_
          refine XO.q (Q.fieldQ rfl (by first | assumption | omega)) ?_
          refine XO.q (Q.fieldQ rfl (by first | assumption | omega)) ?_
          refine XO.q (Q.ldE rfl (by first | assumption | omega) rfl) ?_
          refine XO.q (Q.add rfl rfl ⟨by omega, by omega⟩) ?_
          refine XO.ix rfl rfl (by omega) (by omega) fun i98 => ?_
          refine XO.q (Q.fieldQ rfl (by first | assumption | omega)) ?_
          refine XO.q (Q.fieldQ rfl (by first | assumption | omega)) ?_
          refine XO.stE (⟨⟨(A.getD p default).rd.meter, (A.getD p default).rd.hour, (A.getD p default).rd.value + 1⟩, (A.getD p default).sign⟩ : MLink) rfl rfl rfl (by assumption) rfl rfl fun h13_10 O13_10 => ?_
          refine XO.done ?_
          exact mt2 ((v72, h13_10, _)) _ _ ⟨OArr.arr (s := O13_10), by rw [List.length_set]; omega, ok_value hp okA (by have := smA p (by omega); omega)⟩ (.c rfl (.base 10 rfl rfl)) inferInstance
        · have _t2 := True.intro
          refine XK.seq ?_
          refine XK.region rfl ?_
          refine XO.q (Q.eql rfl rfl) ?_
          refine XO.q (Q.assign rfl) ?_
          refine XO.done ?_
          refine XK.if rfl (fun c7 => ?_) (fun c7 => ?_)
          · have _t7 := True.intro
            refine XK.region rfl ?_
            refine XO.q (Q.move rfl) ?_
            refine XO.q (Q.move rfl) ?_
            refine XO.ix rfl rfl (by omega) (by omega) fun i105 => ?_
            refine XO.q (Q.fieldQ rfl (by first | assumption | omega)) ?_
            refine XO.q (Q.ldE rfl (by first | assumption | omega) rfl) ?_
            refine XO.q (Q.addW rfl rfl) ?_
            refine XO.ix rfl rfl (by omega) (by omega) fun i109 => ?_
            refine XO.q (Q.fieldQ rfl (by first | assumption | omega)) ?_
            refine XO.stE (⟨(A.getD p default).rd, IntKind.wrap .u64 ((A.getD p default).sign + 1)⟩ : MLink) rfl rfl rfl (by assumption) rfl rfl fun h15_8 O15_8 => ?_
            refine XO.done ?_
            exact mt2 ((v72, h15_8, _)) _ _ ⟨OArr.arr (s := O15_8), by rw [List.length_set]; omega, ok_sign hp okA⟩ (.c rfl (.base 10 rfl rfl)) inferInstance
          · have _t7 := True.intro
            refine XK.seq ?_
            refine XK.region rfl ?_
            refine XO.q (Q.eql rfl rfl) ?_
            refine XO.q (Q.assign rfl) ?_
            refine XO.done ?_
            refine XK.if rfl (fun c8 => ?_) (fun c8 => ?_)
            · have _t8 := True.intro
              refine XK.region rfl ?_
              refine XO.q (Q.move rfl) ?_
              refine XO.q (Q.move rfl) ?_
              refine XO.q (Q.move rfl) ?_
              refine XO.q (Q.add rfl rfl ⟨by omega, by omega⟩) ?_
              refine XO.call Try.call26 rfl rfl rfl (delete11 v72 kx A p hp (by omega)) fun v117 s117 R117 => ?_
              obtain ⟨hd, rfl, AD⟩ := R117
              dsimp only [List.cons_append, List.nil_append]
              refine XO.q (Q.assign rfl) ?_
              refine XO.done ?_
              exact mt2 ((v117, hd, _)) _ _ ⟨AD, by rw [erase_len hp]; omega, ok_erase okA hp⟩ (.c rfl (.base 10 rfl rfl)) inferInstance
            · have _t8 := True.intro
              have ls1 : (A.set p (A.getD q default)).length = A.length := List.length_set
              have ls2 : (A.set q (A.getD p default)).length = A.length := List.length_set
              refine XK.meet (X := PHeap × List MLink) [75, 76, 77, 78, 79, 80, 81, 82, 83, 84, 85, 86, 87, 88] (fun ⟨hs, L2⟩ => []) (fun ⟨hs, L2⟩ => [hs]) (fun ⟨hs, L2⟩ => OArr v72 encLink 4 76 hs L2 ∧ L2.length = A.length ∧ RdsOk (rdsL L2)) [kx] ?_ ?_
              · rintro ⟨hs, L2⟩ ⟨OS, lS, okS⟩
                dsimp only [List.cons_append, List.nil_append]
                exact mt2 ((v72, hs, L2)) _ _ ⟨OArr.arr (s := OS), by dsimp only; omega, okS⟩ (.c rfl (.base 18 rfl rfl)) inferInstance
              · intro mtr11
                dsimp only [List.cons_append, List.nil_append] at mtr11
                refine XK.drawn [0, 1, 2, 3, 4, 5, 6, 8, 9, 10, 12, 14] [] [] (.q 0 (.q 1 (.q 2 (.q 3 (.q 4 (.q 5 (.q 6 (.q 8 (.q 9 (.q 10 (.br 7 true (.br 11 true (.q 12 (.br 13 true (.q 14 (.br 15 false .done .stop)) .stop)) .stop) (.br 11 true (.br 7 true (.q 12 (.br 13 true (.q 14 (.br 15 false .done .stop)) .stop)) .stop) .stop)))))))))))) Try.mixed rfl (by kernel_rfl) ?_
                refine XT.q rfl rfl (Q.move rfl) ?_
                refine XT.q rfl rfl (Q.move rfl) ?_
                refine XT.q rfl rfl (Q.move rfl) ?_
                refine XT.q rfl rfl (Q.move rfl) ?_
                refine XT.q rfl rfl (Q.move rfl) ?_
                refine XT.q rfl rfl (Q.move rfl) ?_
                refine XT.ix rfl rfl rfl rfl (by omega) (by omega) fun i81 => ?_
                refine XT.q rfl rfl (Q.move rfl) ?_
                refine XT.q rfl rfl (Q.move rfl) ?_
                refine XT.ix rfl rfl rfl rfl (by omega) (by omega) fun i85 => ?_
                refine XT.qs rfl rfl (Q.ldEA [_, _, _, _] rfl (by first | assumption | omega) rfl rfl) ⟨inferInstance, ?_⟩ ?_
                · skip
                  refine XT.qs rfl rfl (Q.ldEA [_, _, _, _] rfl (by first | assumption | omega) rfl rfl) ⟨inferInstance, ?_⟩ XT.stop
                  refine XT.ix rfl rfl rfl rfl (by omega) (by omega) fun i87 => ?_
                  refine XT.stE (A.getD q default) rfl rfl rfl rfl rfl (by assumption) rfl rfl (fun h11_13 O11_13 => ⟨inferInstance, ?_⟩) XT.stop
                  refine XT.ix rfl rfl rfl rfl (by omega) (by omega) fun i88 => ?_
                  refine XT.stE (A.getD p default) rfl rfl rfl rfl rfl (by assumption) rfl rfl (fun h11_15 O11_15 => ⟨inferInstance, ?_⟩) XT.stop
                  refine XT.done ?_
                  exact mtr11 ((h11_15, _)) _ _ ⟨O11_15, by rw [List.length_set, List.length_set], ok_swap okA hp hq⟩ (.base 14 rfl rfl) inferInstance
                · skip
                  refine XT.qs rfl rfl (Q.ldEA [_, _, _, _] rfl (by first | assumption | omega) rfl rfl) ⟨inferInstance, ?_⟩ XT.stop
                  refine XT.qs rfl rfl (Q.ldEA [_, _, _, _] rfl (by first | assumption | omega) rfl rfl) ⟨inferInstance, ?_⟩ XT.stop
                  refine XT.ix rfl rfl rfl rfl (by omega) (by omega) fun i87 => ?_
                  refine XT.stE (A.getD q default) rfl rfl rfl rfl rfl (by assumption) rfl rfl (fun h11_13 O11_13 => ⟨inferInstance, ?_⟩) XT.stop
                  refine XT.ix rfl rfl rfl rfl (by omega) (by omega) fun i88 => ?_
                  refine XT.stE (A.getD p default) rfl rfl rfl rfl rfl (by assumption) rfl rfl (fun h11_15 O11_15 => ⟨inferInstance, ?_⟩) XT.stop
                  refine XT.done ?_
                  exact mtr11 ((h11_15, _)) _ _ ⟨O11_15, by rw [List.length_set, List.length_set], ok_swap okA hp hq⟩ (.base 14 rfl rfl) inferInstance
end Go.X
