/- Contracts of functions of the program, each proved by a walk through its operations. No condition but those that stand in each theorem. -/
import Derived.Test.YtfenlpoaphbfgaaK10
import Derived.Test.YtfenlpoaphbfgaaP8
set_option linter.unusedSimpArgs false
set_option linter.unusedVariables false
set_option maxRecDepth 20000
namespace Go.X
open Go.Proofs
theorem solve_spec (S C K : Nat) (next : List Int) (good : List Bool) (ok : Ok S C K next good) (vn vg : Value) (hn : PHeap) [sn : Arr vn encI 1 hn next] (hg : PHeap) [sg : Arr vg encB 1 hg good] : Spec Try.prog 46 #[.agg #[.int .i64 (S : Nat), .int .i64 (C : Nat), .int .i64 (K : Nat), vn, vg]] [] [hn, hg]
    (fun v hs => ∃ v1 v2 v3 k1 k2 k3, v = .agg #[v1, v2, v3] ∧ hs = [k1, k2, k3] ∧ OArr v1 encB 1 4 k1 (solved S C K next good).1 ∧ OArr v2 encI 1 3 k2 (solved S C K next good).2.1 ∧ OArr v3 encI 1 3 k3 (solved S C K next good).2.2) := by
  refine Spec.intro (fn := Try.f46) (N := 87) Try.func46 rfl Try.ntmps46 rfl fun B => ?_
  have hnil : OArr (.slice none 0 0) encI 1 3 emp ([] : List Int) := OArr.nil (fun _ => rfl)
  have okg := ok.glen
  have oks := ok.s2
  have hcg := List.count_le_length (a := true) (l := good)
  have okc2 := ok.c2
  refine XK.seq ?_
  refine XK.region rfl ?_
  refine XO.box rfl fun b1 => ?_
  refine XO.alloc fun b2 => ?_
  refine XO.done ?_
  refine XK.scope ?_
  refine XK.seq ?_
  refine XK.meet (X := Nat × Value × PHeap × Value × PHeap × Value × PHeap) [3, 12, 13, 14, 15, 16, 17, 18, 19, 20, 21, 22] (fun ⟨b3, v14, h14, v18, h18, v21, h21⟩ => [(3, some (ptr b3 0))]) (fun ⟨b3, v14, h14, v18, h18, v21, h21⟩ => [blk b3 [v14, v18, v21] 44, h14, h18, h21]) (fun ⟨b3, v14, h14, v18, h18, v21, h21⟩ => OArr v14 encB 1 4 h14 good ∧ OArr v18 encI 1 3 h18 (List.replicate S (-1)) ∧ OArr v21 encI 1 3 h21 (List.replicate S 0)) [] ?_ ?_
  · rintro ⟨b3, v14, h14, v18, h18, v21, h21⟩ ⟨O14, O18, O21⟩
    dsimp only [List.cons_append, List.nil_append]
    refine XK.seq ?_
    refine XK.region rfl ?_
    refine XO.q (Q.ldA [_, _, _] rfl rfl rfl) ?_
    refine XO.q (Q.func (fun _ he => evs_rel he rfl) (fun _ he => rfl)) ?_
    refine XO.alloc fun b4 => ?_
    refine XO.st rfl rfl rfl ?_
    refine XO.done ?_
    refine XK.seq ?_
    refine XK.label ?_
    refine XK.seq ?_
    refine XK.seq ?_
    refine XK.region rfl ?_
    refine XO.q (Q.assign rfl) ?_
    refine XO.done ?_
    refine XK.block ?_
    refine XK.while (X := Int × List Bool × PHeap × List Int × PHeap × List Int × PHeap) [5, 6, 7, 8, 10, 25, 26, 27, 28, 30, 31, 32, 33, 34, 35, 36, 37, 38, 39, 40, 41, 42, 43, 44, 45, 46, 47, 48, 49, 50, 51, 52, 53, 54, 55, 56, 57, 58, 59, 60, 61, 62, 63, 64, 65, 66, 67, 68, 69, 70, 71, 72, 73, 74, 75, 76, 77, 78] (fun ⟨rank, ins, hI, ctl, hC, rnk, hR⟩ => [(5, some (.int .i64 rank))]) (fun ⟨rank, ins, hI, ctl, hC, rnk, hR⟩ => [hI, hC, hR]) (fun ⟨rank, ins, hI, ctl, hC, rnk, hR⟩ => 1 ≤ rank ∧ rank + ins.count true ≤ 401 ∧ ins.length = S ∧ ctl.length = S ∧ rnk.length = S ∧ (∃ f, ins.count true < f ∧ rounds next C K f rank ins ctl rnk = rounds next C K (S + 1) 1 good (List.replicate S (-1)) (List.replicate S 0)) ∧ OArr v14 encB 1 4 hI ins ∧ OArr v18 encI 1 3 hC ctl ∧ OArr v21 encI 1 3 hR rnk) (fun ⟨rank, ins, hI, ctl, hC, rnk, hR⟩ => ins.count true) (1, good, h14, List.replicate S (-1), h18, List.replicate S 0, h21) [h14, h18, h21] rfl ⟨by omega, by omega, okg, by simp, by simp, ⟨S + 1, by omega, rfl⟩, O14, O18, O21⟩ (.c rfl (.base 0 rfl rfl)) ?_
    rintro ⟨rank, ins, hI, ctl, hC, rnk, hR⟩ ⟨hr1, hr2, hli, hlc, hlr, ⟨fu, hfu, hro⟩, OI, OC, OR⟩ ih0
    dsimp only [List.cons_append, List.nil_append] at ih0 ⊢
    refine XK.seq ?_
    refine XK.block ?_
    refine XK.seq ?_
    refine XK.region rfl ?_
    refine XO.alloc fun b6 => ?_
    refine XO.done ?_
    refine XK.seq ?_
    refine XK.seq ?_
    refine XK.region rfl ?_
    refine XO.q (Q.ldA [_, _, _] rfl rfl rfl) ?_
    refine XO.call Try.call67 rfl rfl rfl (safe_spec _ _ _) fun v28 s28 R28 => ?_
    obtain ⟨b28, rfl, rfl⟩ := R28
    dsimp only [List.cons_append, List.nil_append]
    refine XO.done ?_
    refine XK.block ?_
    refine XK.range (X := List Int × PHeap × Value × PHeap) (ps := [29]) ((insL ins).map fun s => [Value.int .i64 ((s : Nat) : Int)]) (fun ⟨ctl2, hC2, vo, hO⟩ => [hC2, blk b6 [vo] 22, hO]) (fun i ⟨ctl2, hC2, vo, hO⟩ => ctl2 = ctlAt next C K ins ctl ((insL ins).take i) ∧ OArr v18 encI 1 3 hC2 ctl2 ∧ OArr vo encI 1 3 hO ((outsAt next C K ins ((insL ins).take i)).map fun s : Nat => (s : Int))) (fun _ _ => False) (ctl, hC, .slice none 0 0, emp) [hC, blk b6 [.slice none 0 0] 22, emp] rfl ⟨by simp [ctlAt], OC, by simpa [outsAt] using hnil⟩ rfl (safe1 b28 v14 v18 v21 hI ins) rfl (by intro i hi; rw [List.getD_eq_getElem?_getD, List.getElem?_eq_getElem hi]; simp) ?_ ?_ (fun _ _ hJ => hJ.elim)
    · rintro l rec B' i ⟨ctl2, hC2, vo, hO⟩ hi ⟨e2, OC2, OO⟩
      dsimp only [List.cons_append, List.nil_append]
      have hi2 : i < (insL ins).length := by rw [List.length_map] at hi; exact hi
      obtain ⟨s, hsL⟩ : ∃ s, (insL ins)[i]? = some s := ⟨_, List.getElem?_eq_getElem hi2⟩
      have hit : ((insL ins).map fun s => [Value.int .i64 ((s : Nat) : Int)]).getD i [] = [.int .i64 (s : Nat)] := by rw [List.getD_eq_getElem?_getD, List.getElem?_map, hsL]; rfl
      rw [hit]
      dsimp only [pars]
      obtain ⟨hsS, hsI⟩ := insL_mem hsL
      rw [hli] at hsS
      have hlc2 : ctl2.length = S := by rw [e2, ctlAt_len]; exact hlc
      have hol := outs_le (next := next) (C := C) (K := K) (ins := ins) (i := i)
      refine XK.region rfl ?_
      refine XO.q (Q.assign rfl) ?_
      refine XO.done ?_
      refine XK.beginRound ?_
      refine XK.block ?_
      refine XK.seq ?_
      refine XK.region rfl ?_
      refine XO.q (Q.fieldAddr rfl) ?_
      refine XO.q (Q.ld rfl rfl) ?_
      refine XO.q (Q.move rfl) ?_
      refine XO.ix rfl rfl (by omega) (by omega) fun i33 => ?_
      refine XO.stE _ rfl rfl rfl (by assumption) rfl rfl fun h8_4 O8_4 => ?_
      refine XO.done ?_
      refine XK.seq ?_
      refine XK.seq ?_
      refine XK.region rfl ?_
      refine XO.q (Q.fieldAddr rfl) ?_
      refine XO.q (Q.ld rfl rfl) ?_
      refine XO.q (Q.move rfl) ?_
      refine XO.done ?_
      refine XK.block ?_
      refine XK.while (X := Nat) [8, 36, 37, 38, 39, 40, 41, 42, 43, 44, 45, 46, 47, 48, 49] (fun u => [(36, some (.int .i64 (u : Nat)))]) (fun u => []) (fun u => u ≤ C ∧ ∀ u2 < u, keepsP next C K ins s u2 = false) (fun u => C - u) (0) [] rfl ⟨by omega, fun _ h => by omega⟩ (.c rfl (.base 0 rfl rfl)) ?_
      rintro u ⟨hu, hno⟩ ih1
      dsimp only [List.cons_append, List.nil_append] at ih1 ⊢
      refine XK.seq ?_
      refine XK.region rfl ?_
      refine XO.q (Q.lss rfl rfl) ?_
      refine XO.done ?_
      refine XK.seq ?_
      refine XK.if rfl (fun c0 => ?_) (fun c0 => ?_)
      · have _t0 := True.intro
        refine XK.skip ?_
        refine XK.seq ?_
        refine XK.block ?_
        refine XK.seq ?_
        refine XK.region rfl ?_
        refine XO.q (Q.move rfl) ?_
        refine XO.q (Q.assign rfl) ?_
        refine XO.done ?_
        refine XK.seq ?_
        refine XK.region rfl ?_
        refine XO.q (Q.ld rfl rfl) ?_
        refine XO.q (Q.ldA [_, _, _, _, _] rfl rfl rfl) ?_
        refine XO.q (Q.move rfl) ?_
        refine XO.q (Q.move rfl) ?_
        refine XO.call Try.call47 rfl rfl rfl (keeps_spec S C K next good ok vn vg hn v14 v18 v21 hI ins hli s u (by omega) (by omega)) fun v43 s43 R43 => ?_
        obtain ⟨rfl, rfl⟩ := R43
        dsimp only [List.cons_append, List.nil_append]
        refine XO.done ?_
        refine XK.if rfl (fun c1 => ?_) (fun c1 => ?_)
        · have _t1 := True.intro
          refine XK.seq ?_
          refine XK.region rfl ?_
          refine XO.q (Q.fieldAddr rfl) ?_
          refine XO.q (Q.ld rfl rfl) ?_
          refine XO.q (Q.move rfl) ?_
          refine XO.q (Q.move rfl) ?_
          refine XO.ix rfl rfl (by omega) (by simp only [List.length_set]; omega) fun i48 => ?_
          refine XO.stE _ rfl rfl rfl (by assumption) rfl rfl fun h13_5 O13_5 => ?_
          refine XO.done ?_
          refine XK.exit rfl ?_
          refine XK.seq ?_
          refine XK.region rfl ?_
          refine XO.q (Q.fieldAddr rfl) ?_
          refine XO.q (Q.ld rfl rfl) ?_
          refine XO.q (Q.move rfl) ?_
          refine XO.ix rfl rfl (by omega) (by simp only [List.length_set]; omega) fun i53 => ?_
          refine XO.q (Q.ldE rfl (by first | assumption | omega) rfl) ?_
          refine XO.q (Q.lss rfl rfl) ?_
          refine XO.done ?_
          refine XK.if rfl (fun c2 => ?_) (fun c2 => ?_)
          · have _t2 := True.intro
            have hg : ((ctl2.set s (-1)).set s (u : Int)).getD s default = (u : Int) := by rw [List.getD_eq_getElem?_getD]; simp [hlc2, hsS]
            exact absurd c2 (by rw [hg]; omega)
          · have _t2 := True.intro
            refine XK.skip ?_
            refine XK.inBlock ?_
            have hct := ctlOf_at (by omega) c1 hno
            exact XK.leave (j := none) [h13_5, blk b6 [vo] 22, hO] trivial ⟨((ctl2.set s (-1)).set s (u : Int), h13_5, vo, hO), ⟨by rw [take_snoc hsL, ctlAt_snoc, hct, ← e2, List.set_set], O13_5, by rw [take_snoc hsL, outs_no (by rw [hct]; omega)]; exact OO⟩, rfl⟩
        · have _t1 := True.intro
          refine XK.skip ?_
          refine XK.inBlock ?_
          refine XK.region rfl ?_
          refine XO.q (Q.add rfl rfl ⟨by omega, by omega⟩) ?_
          refine XO.q (Q.move rfl) ?_
          refine XO.done ?_
          exact ih1 (u + 1) _ _ ⟨by omega, fun u2 h2 => by rcases Nat.lt_or_ge u2 u with h3 | h3; exact hno u2 h3; rw [show u2 = u by omega]; simpa using c1⟩ (by first | omega | (dsimp only; omega)) (.c rfl (.base 26 rfl rfl)) inferInstance
      · have _t0 := True.intro
        refine XK.exit rfl ?_
        refine XK.seq ?_
        refine XK.region rfl ?_
        refine XO.q (Q.fieldAddr rfl) ?_
        refine XO.q (Q.ld rfl rfl) ?_
        refine XO.q (Q.move rfl) ?_
        refine XO.ix rfl rfl (by omega) (by simp only [List.length_set]; omega) fun i53 => ?_
        refine XO.q (Q.ldE rfl (by first | assumption | omega) rfl) ?_
        refine XO.q (Q.lss rfl rfl) ?_
        refine XO.done ?_
        refine XK.if rfl (fun c3 => ?_) (fun c3 => ?_)
        · have _t3 := True.intro
          refine XK.region rfl ?_
          refine XO.q (Q.ld rfl rfl) ?_
          refine XO.q (Q.move rfl) ?_
          refine XO.lit [_] [_] [_] encI (by rfl) (by rfl) rfl (by rfl) (by exact .c 0 1 rfl rfl rfl (.n _)) (fun _ => rfl) (by rfl) rfl (by infer_instance) rfl fun v58 h58 O58 => ?_
          refine XO.append rfl rfl rfl rfl (by simp only [List.length_map, List.length_cons, List.length_nil]; omega) fun v59 h59 O59 => ?_
          refine XO.st rfl rfl rfl ?_
          refine XO.done ?_
          refine XK.inBlock ?_
          have hct := ctlOf_none (fun u2 h2 => hno u2 (by omega))
          exact XK.leave (j := none) [h8_4, blk b6 [v59] 22, h59] trivial ⟨(ctl2.set s (-1), h8_4, v59, h59), ⟨by rw [take_snoc hsL, ctlAt_snoc, hct, ← e2], O8_4, by rw [take_snoc hsL, outs_yes (by rw [hct]; omega), List.map_append]; exact O59⟩, rfl⟩
        · have _t3 := True.intro
          have hg : (ctl2.set s (-1)).getD s default = -1 := by rw [List.getD_eq_getElem?_getD]; simp [hlc2, hsS]
          exact absurd (by rw [hg]; omega) c3
    · rintro ⟨ctl2, hC2, vo, hO⟩ ⟨e2, OC2, OO⟩
      dsimp only [List.cons_append, List.nil_append]
      rw [List.length_map, List.take_length] at e2 OO
      refine XK.inBlock ?_
      refine XK.seq ?_
      refine XK.seq ?_
      refine XK.region rfl ?_
      refine XO.q (Q.ld rfl rfl) ?_
      refine XO.len rfl fun l61 => ?_
      refine XO.q (Q.eql rfl rfl) ?_
      refine XO.done ?_
      refine XK.if rfl (fun c4 => ?_) (fun c4 => ?_)
      · have _t4 := True.intro
        have h0 : (outsAt next C K ins (insL ins)).length = 0 := by rw [List.length_map] at c4; omega
        have hout := List.length_eq_zero_iff.1 h0
        obtain ⟨f2, rfl⟩ : ∃ f2, fu = f2 + 1 := ⟨fu - 1, by omega⟩
        rw [rounds, if_pos hout, ← e2] at hro
        refine XK.exit rfl ?_
        refine XK.seq ?_
        refine XK.seq ?_
        refine XK.region rfl ?_
        refine XO.q (Q.ldA [_, _, _] rfl rfl rfl) ?_
        refine XO.call Try.call67 rfl rfl rfl (safe_spec _ _ _) fun v80 s80 R80 => ?_
        obtain ⟨b80, rfl, rfl⟩ := R80
        dsimp only [List.cons_append, List.nil_append]
        refine XO.done ?_
        refine XK.block ?_
        refine XK.range (X := List Int × PHeap) (ps := [81]) ((insL ins).map fun s => [Value.int .i64 ((s : Nat) : Int)]) (fun ⟨rn2, hR2⟩ => [hR2]) (fun i ⟨rn2, hR2⟩ => rn2 = setAll rnk ((insL ins).take i) (-1) ∧ OArr v21 encI 1 3 hR2 rn2) (fun _ _ => False) (rnk, hR) [hR] rfl ⟨by simp [setAll], OR⟩ rfl (safe1 b80 v14 v18 v21 hI ins) rfl (by intro i hi; rw [List.getD_eq_getElem?_getD, List.getElem?_eq_getElem hi]; simp) ?_ ?_ (fun _ _ hJ => hJ.elim)
        · rintro l rec B' i ⟨rn2, hR2⟩ hi ⟨e3, OR2⟩
          dsimp only [List.cons_append, List.nil_append]
          have hi2 : i < (insL ins).length := by rw [List.length_map] at hi; exact hi
          obtain ⟨s, hsL⟩ : ∃ s, (insL ins)[i]? = some s := ⟨_, List.getElem?_eq_getElem hi2⟩
          have hit : ((insL ins).map fun s => [Value.int .i64 ((s : Nat) : Int)]).getD i [] = [.int .i64 (s : Nat)] := by rw [List.getD_eq_getElem?_getD, List.getElem?_map, hsL]; rfl
          rw [hit]
          dsimp only [pars]
          obtain ⟨hsS, hsI⟩ := insL_mem hsL
          rw [hli] at hsS
          have hlr2 : rn2.length = S := by rw [e3, setAll_len]; exact hlr
          refine XK.region rfl ?_
          refine XO.q (Q.assign rfl) ?_
          refine XO.done ?_
          refine XK.beginRound ?_
          refine XK.block ?_
          refine XK.region rfl ?_
          refine XO.q (Q.fieldAddr rfl) ?_
          refine XO.q (Q.ld rfl rfl) ?_
          refine XO.q (Q.move rfl) ?_
          refine XO.ix rfl rfl (by omega) (by omega) fun i85 => ?_
          refine XO.stE _ rfl rfl rfl (by assumption) rfl rfl fun h25_4 O25_4 => ?_
          refine XO.done ?_
          refine XK.inBlock ?_
          exact XK.leave (j := none) [h25_4] trivial ⟨(rn2.set s (-1), h25_4), ⟨by rw [take_snoc hsL, setAll_snoc, ← e3], O25_4⟩, rfl⟩
        · rintro ⟨rn2, hR2⟩ ⟨e3, OR2⟩
          dsimp only [List.cons_append, List.nil_append]
          rw [List.length_map, List.take_length] at e3
          refine XK.inBlock ?_
          refine XK.seq ?_
          refine XK.region rfl ?_
          refine XO.q (Q.ldA [_, _, _] rfl rfl rfl) ?_
          refine XO.st rfl rfl rfl ?_
          refine XO.done ?_
          refine XK.rt [hI, hC2, hR2] Try.func46 Try.results46 (.cell [_, _, _] rfl rfl rfl (.n)) ?_
          have hsol : solved S C K next good = (ins, ctl2, setAll rnk (insL ins) (-1)) := by unfold solved; rw [← hro]
          rw [hsol]
          exact ⟨v14, v18, v21, hI, hC2, hR2, rfl, rfl, OI, OC2, by rw [← e3]; exact OR2⟩
      · have _t4 := True.intro
        have hne : outsAt next C K ins (insL ins) ≠ [] := by intro h0; rw [h0] at c4; exact c4 rfl
        obtain ⟨f2, rfl⟩ : ∃ f2, fu = f2 + 1 := ⟨fu - 1, by omega⟩
        have hlc2 : ctl2.length = S := by rw [e2, ctlAt_len]; exact hlc
        rw [rounds, if_neg hne, ← e2] at hro
        have hmem : ∀ s ∈ outsAt next C K ins (insL ins), s < ins.length ∧ ins.getD s false = true := fun s hs => by
          have h1 := List.mem_filter.1 (List.mem_filter.1 hs).1
          exact ⟨List.mem_range.1 h1.1, h1.2⟩
        have hlt := count_setAll_lt hne hmem
        obtain ⟨outs, hou⟩ : ∃ outs, outs = outsAt next C K ins (insL ins) := ⟨_, rfl⟩
        rw [← hou] at hro hlt OO hne hmem
        refine XK.skip ?_
        refine XK.seq ?_
        refine XK.region rfl ?_
        refine XO.q (Q.ld rfl rfl) ?_
        refine XO.len rfl fun l64 => ?_
        refine XO.q (Q.move rfl) ?_
        refine XO.done ?_
        refine XK.block ?_
        refine XK.while (X := Nat × PHeap × PHeap) [10, 65, 66, 67, 68, 69, 70, 71, 72, 73, 74, 75, 76, 77, 78] (fun ⟨j, hI2, hR2⟩ => [(65, some (.int .i64 (j : Nat)))]) (fun ⟨j, hI2, hR2⟩ => [hI2, hR2]) (fun ⟨j, hI2, hR2⟩ => j ≤ outs.length ∧ OArr v14 encB 1 4 hI2 (setAll ins (outs.take j) false) ∧ OArr v21 encI 1 3 hR2 (setAll rnk (outs.take j) rank)) (fun ⟨j, hI2, hR2⟩ => outs.length - j) (0, hI, hR) [hI, hR] rfl ⟨by omega, by simpa [setAll] using OI, by simpa [setAll] using OR⟩ (.c rfl (.base 0 rfl rfl)) ?_
        rintro ⟨j, hI2, hR2⟩ ⟨hj, OI2, OR2⟩ ih2
        dsimp only [List.cons_append, List.nil_append] at ih2 ⊢
        refine XK.seq ?_
        refine XK.region rfl ?_
        refine XO.q (Q.lss rfl rfl) ?_
        refine XO.done ?_
        refine XK.seq ?_
        refine XK.if rfl (fun c5 => ?_) (fun c5 => ?_)
        · have _t5 := True.intro
          have hj2 : j < outs.length := by simp only [List.length_map] at c5; omega
          obtain ⟨s, hsO⟩ : ∃ s, outs[j]? = some s := ⟨_, List.getElem?_eq_getElem hj2⟩
          have hsm := (hmem s (List.mem_of_getElem? hsO)).1
          rw [hli] at hsm
          have hgs : (outs.map fun s : Nat => (s : Int)).getD j default = (s : Int) := by rw [List.getD_eq_getElem?_getD, List.getElem?_map, hsO]; rfl
          refine XK.skip ?_
          refine XK.seq ?_
          refine XK.block ?_
          refine XK.seq ?_
          refine XK.region rfl ?_
          refine XO.ix rfl rfl (by omega) (by omega) fun i67 => ?_
          refine XO.q (Q.ldE rfl (by first | assumption | omega) rfl) ?_
          rw [hgs]
          refine XO.q (Q.assign rfl) ?_
          refine XO.done ?_
          refine XK.drawn [0, 1, 2, 3, 4, 5, 6, 7, 9] [b3] [] (.q 0 (.q 1 (.q 2 (.q 3 (.q 4 (.q 5 (.q 6 (.q 7 (.br 8 true (.q 9 (.br 10 false .done .stop)) .stop))))))))) Try.mixed rfl (by kernel_rfl) ?_
          refine XT.q rfl rfl (Q.fieldAddr rfl) ?_
          refine XT.q rfl rfl (Q.ld rfl rfl) ?_
          refine XT.q rfl rfl (Q.move rfl) ?_
          refine XT.q rfl rfl (Q.fieldAddr rfl) ?_
          refine XT.q rfl rfl (Q.ld rfl rfl) ?_
          refine XT.q rfl rfl (Q.move rfl) ?_
          refine XT.q rfl rfl (Q.move rfl) ?_
          refine XT.ix rfl rfl rfl rfl (by omega) (by rw [setAll_len]; omega) fun i76 => ?_
          refine XT.stE _ rfl rfl rfl rfl rfl (by assumption) rfl rfl (fun h21_8 O21_8 => ⟨inferInstance, ?_⟩) XT.stop
          refine XT.ix rfl rfl rfl rfl (by omega) (by rw [setAll_len]; omega) fun i77 => ?_
          refine XT.stE _ rfl rfl rfl rfl rfl (by assumption) rfl rfl (fun h21_10 O21_10 => ⟨inferInstance, ?_⟩) XT.stop
          refine XT.done ?_
          refine XK.inBlock ?_
          refine XK.region rfl ?_
          refine XO.q (Q.add rfl rfl ⟨by omega, by omega⟩) ?_
          refine XO.q (Q.move rfl) ?_
          refine XO.done ?_
          exact ih2 (j + 1, h21_8, h21_10) _ _ ⟨by dsimp only; omega, by dsimp only; rw [take_snoc hsO, setAll_snoc]; exact O21_8, by dsimp only; rw [take_snoc hsO, setAll_snoc]; exact O21_10⟩ (by first | omega | (dsimp only; omega)) (.c rfl (.base 31 rfl rfl)) inferInstance
        · have _t5 := True.intro
          simp only [List.length_map] at c5
          refine XK.exit rfl ?_
          refine XK.inBlock ?_
          refine XK.region rfl ?_
          refine XO.q (Q.move rfl) ?_
          refine XO.q (Q.add rfl rfl ⟨by omega, by omega⟩) ?_
          refine XO.q (Q.assign rfl) ?_
          refine XO.done ?_
          have hj2 : outs.take j = outs := List.take_of_length_le (by omega)
          rw [hj2] at OI2 OR2
          exact ih0 (rank + 1, setAll ins outs false, hI2, ctl2, hC2, setAll rnk outs rank, hR2) _ _ ⟨by dsimp only; omega, by dsimp only; omega, by dsimp only; rw [setAll_len]; exact hli, hlc2, by dsimp only; rw [setAll_len]; exact hlr, ⟨f2, by dsimp only; omega, hro⟩, OI2, OC2, OR2⟩ hlt (.c rfl (.base 88 rfl rfl)) inferInstance
  · intro mtr1
    dsimp only [List.cons_append, List.nil_append] at mtr1
    refine XK.drawn [0, 1, 4, 5, 7, 8, 10] [b1] [] (.q 0 (.q 1 (.q 4 (.q 5 (.q 7 (.q 8 (.br 2 true (.br 3 true (.br 6 true (.br 9 true (.q 10 (.br 11 true (.br 12 false .done .stop) .stop)) (.br 11 true (.br 9 true (.q 10 (.br 12 false .done .stop)) .stop) .stop)) (.br 9 true (.br 6 true (.q 10 (.br 11 true (.br 12 false .done .stop) .stop)) (.br 11 true (.br 6 true (.q 10 (.br 12 false .done .stop)) .stop) .stop)) (.br 11 true (.br 6 true (.br 9 true (.q 10 (.br 12 false .done .stop)) .stop) (.br 9 true (.br 6 true (.q 10 (.br 12 false .done .stop)) .stop) .stop)) .stop))) (.br 9 true (.br 3 true (.br 6 true (.q 10 (.br 11 true (.br 12 false .done .stop) .stop)) (.br 11 true (.br 6 true (.q 10 (.br 12 false .done .stop)) .stop) .stop)) (.br 11 true (.br 3 true (.br 6 true (.q 10 (.br 12 false .done .stop)) .stop) .stop) .stop)) (.br 11 true (.br 3 true (.br 6 true (.br 9 true (.q 10 (.br 12 false .done .stop)) .stop) (.br 9 true (.br 6 true (.q 10 (.br 12 false .done .stop)) .stop) .stop)) (.br 9 true (.br 3 true (.br 6 true (.q 10 (.br 12 false .done .stop)) .stop) .stop) .stop)) .stop))) (.br 3 true (.br 2 true (.br 6 true (.br 9 true (.q 10 (.br 11 true (.br 12 false .done .stop) .stop)) (.br 11 true (.br 9 true (.q 10 (.br 12 false .done .stop)) .stop) .stop)) (.br 9 true (.br 6 true (.q 10 (.br 11 true (.br 12 false .done .stop) .stop)) (.br 11 true (.br 6 true (.q 10 (.br 12 false .done .stop)) .stop) .stop)) (.br 11 true (.br 6 true (.br 9 true (.q 10 (.br 12 false .done .stop)) .stop) (.br 9 true (.br 6 true (.q 10 (.br 12 false .done .stop)) .stop) .stop)) .stop))) (.br 9 true (.br 2 true (.br 6 true (.q 10 (.br 11 true (.br 12 false .done .stop) .stop)) (.br 11 true (.br 6 true (.q 10 (.br 12 false .done .stop)) .stop) .stop)) (.br 11 true (.br 2 true (.br 6 true (.q 10 (.br 12 false .done .stop)) .stop) .stop) .stop)) (.br 11 true (.br 2 true (.br 6 true (.br 9 true (.q 10 (.br 12 false .done .stop)) .stop) (.br 9 true (.br 6 true (.q 10 (.br 12 false .done .stop)) .stop) .stop)) (.br 9 true (.br 2 true (.br 6 true (.q 10 (.br 12 false .done .stop)) .stop) .stop) .stop)) .stop))) (.br 9 true (.br 2 true (.br 3 true (.br 6 true (.q 10 (.br 11 true (.br 12 false .done .stop) .stop)) (.br 11 true (.br 6 true (.q 10 (.br 12 false .done .stop)) .stop) .stop)) (.br 11 true (.br 3 true (.br 6 true (.q 10 (.br 12 false .done .stop)) .stop) .stop) .stop)) (.br 3 true (.br 2 true (.br 6 true (.q 10 (.br 11 true (.br 12 false .done .stop) .stop)) (.br 11 true (.br 6 true (.q 10 (.br 12 false .done .stop)) .stop) .stop)) (.br 11 true (.br 2 true (.br 6 true (.q 10 (.br 12 false .done .stop)) .stop) .stop) .stop)) (.br 11 true (.br 2 true (.br 3 true (.br 6 true (.q 10 (.br 12 false .done .stop)) .stop) .stop) (.br 3 true (.br 2 true (.br 6 true (.q 10 (.br 12 false .done .stop)) .stop) .stop) .stop)) .stop))) (.br 11 true (.br 2 true (.br 3 true (.br 6 true (.br 9 true (.q 10 (.br 12 false .done .stop)) .stop) (.br 9 true (.br 6 true (.q 10 (.br 12 false .done .stop)) .stop) .stop)) (.br 9 true (.br 3 true (.br 6 true (.q 10 (.br 12 false .done .stop)) .stop) .stop) .stop)) (.br 3 true (.br 2 true (.br 6 true (.br 9 true (.q 10 (.br 12 false .done .stop)) .stop) (.br 9 true (.br 6 true (.q 10 (.br 12 false .done .stop)) .stop) .stop)) (.br 9 true (.br 2 true (.br 6 true (.q 10 (.br 12 false .done .stop)) .stop) .stop) .stop)) (.br 9 true (.br 2 true (.br 3 true (.br 6 true (.q 10 (.br 12 false .done .stop)) .stop) .stop) (.br 3 true (.br 2 true (.br 6 true (.q 10 (.br 12 false .done .stop)) .stop) .stop) .stop)) .stop))) .stop)))))))))) Try.mixed rfl (by kernel_rfl) ?_
    refine XT.q rfl rfl (Q.fieldAddr rfl) ?_
    refine XT.q rfl rfl (Q.ld rfl rfl) ?_
    refine XT.q rfl rfl (Q.fieldAddr rfl) ?_
    refine XT.q rfl rfl (Q.ld rfl rfl) ?_
    refine XT.q rfl rfl (Q.fieldAddr rfl) ?_
    refine XT.q rfl rfl (Q.ld rfl rfl) ?_
    refine XT.call rfl rfl Try.call24 rfl rfl rfl (cloneB _ _ _ (by omega)) (fun v14 s14 R14 => ?_) ?_
    · skip
      obtain ⟨h14, rfl, O14⟩ := R14
      dsimp only [List.cons_append, List.nil_append]
      refine ⟨inferInstance, ?_⟩
      refine XT.lit [_] [_] [-1] encI rfl rfl (by rfl) (by rfl) rfl (by rfl) (by exact .c 0 1 rfl rfl rfl (.n _)) (fun _ => rfl) (by rfl) rfl (by infer_instance) rfl (fun v15 h15 O15 => ⟨inferInstance, ?_⟩) ?_
      · skip
        refine XT.call rfl rfl Try.call66 rfl rfl rfl (repeatI _ _ _ S (by omega)) (fun v18 s18 R18 => ?_) ?_
        · skip
          obtain ⟨h18, rfl, O18⟩ := R18
          dsimp only [List.cons_append, List.nil_append]
          refine ⟨inferInstance, ?_⟩
          refine XT.make encI (0) rfl rfl rfl rfl rfl (by omega) (by omega) (fun _ => rfl) rfl rfl rfl (by dsimp only [encI]; infer_instance) (fun v21 h21 O21 => ⟨inferInstance, ?_⟩) ?_
          · skip
            refine XT.q rfl rfl (Q.build [_, _, _] (.c 0 1 rfl rfl rfl (.c 1 1 rfl rfl rfl (.c 2 1 rfl rfl rfl (.n _))))) ?_
            refine XT.alloc rfl rfl (fun b3 => ⟨inferInstance, ?_⟩) XT.stop
            refine XT.st rfl rfl rfl rfl rfl ⟨inferInstance, ?_⟩ XT.stop
            refine XT.done ?_
            exact mtr1 ((b3, v14, h14, v18, h18, v21, h21)) _ _ ⟨O14, O18, O21⟩ (.c rfl (.base 12 rfl rfl)) inferInstance
          · skip
            refine XT.alloc rfl rfl (fun b3 => ⟨inferInstance, ?_⟩) XT.stop
            refine XT.make encI (0) rfl rfl rfl rfl rfl (by omega) (by omega) (fun _ => rfl) rfl rfl rfl (by dsimp only [encI]; infer_instance) (fun v21 h21 O21 => ⟨inferInstance, ?_⟩) XT.stop
            refine XT.q rfl rfl (Q.build [_, _, _] (.c 0 1 rfl rfl rfl (.c 1 1 rfl rfl rfl (.c 2 1 rfl rfl rfl (.n _))))) ?_
            refine XT.st rfl rfl rfl rfl rfl ⟨inferInstance, ?_⟩ XT.stop
            refine XT.done ?_
            exact mtr1 ((b3, v14, h14, v18, h18, v21, h21)) _ _ ⟨O14, O18, O21⟩ (.c rfl (.base 12 rfl rfl)) inferInstance
        · skip
          refine XT.make encI (0) rfl rfl rfl rfl rfl (by omega) (by omega) (fun _ => rfl) rfl rfl rfl (by dsimp only [encI]; infer_instance) (fun v21 h21 O21 => ⟨inferInstance, ?_⟩) ?_
          · skip
            refine XT.call rfl rfl Try.call66 rfl rfl rfl (repeatI _ _ _ S (by omega)) (fun v18 s18 R18 => ?_) ?_
            · skip
              obtain ⟨h18, rfl, O18⟩ := R18
              dsimp only [List.cons_append, List.nil_append]
              refine ⟨inferInstance, ?_⟩
              refine XT.q rfl rfl (Q.build [_, _, _] (.c 0 1 rfl rfl rfl (.c 1 1 rfl rfl rfl (.c 2 1 rfl rfl rfl (.n _))))) ?_
              refine XT.alloc rfl rfl (fun b3 => ⟨inferInstance, ?_⟩) XT.stop
              refine XT.st rfl rfl rfl rfl rfl ⟨inferInstance, ?_⟩ XT.stop
              refine XT.done ?_
              exact mtr1 ((b3, v14, h14, v18, h18, v21, h21)) _ _ ⟨O14, O18, O21⟩ (.c rfl (.base 12 rfl rfl)) inferInstance
            · skip
              refine XT.alloc rfl rfl (fun b3 => ⟨inferInstance, ?_⟩) XT.stop
              refine XT.call rfl rfl Try.call66 rfl rfl rfl (repeatI _ _ _ S (by omega)) (fun v18 s18 R18 => ?_) XT.stop
              obtain ⟨h18, rfl, O18⟩ := R18
              dsimp only [List.cons_append, List.nil_append]
              refine ⟨inferInstance, ?_⟩
              refine XT.q rfl rfl (Q.build [_, _, _] (.c 0 1 rfl rfl rfl (.c 1 1 rfl rfl rfl (.c 2 1 rfl rfl rfl (.n _))))) ?_
              refine XT.st rfl rfl rfl rfl rfl ⟨inferInstance, ?_⟩ XT.stop
              refine XT.done ?_
              exact mtr1 ((b3, v14, h14, v18, h18, v21, h21)) _ _ ⟨O14, O18, O21⟩ (.c rfl (.base 12 rfl rfl)) inferInstance
          · skip
            refine XT.alloc rfl rfl (fun b3 => ⟨inferInstance, ?_⟩) XT.stop
            refine XT.call rfl rfl Try.call66 rfl rfl rfl (repeatI _ _ _ S (by omega)) (fun v18 s18 R18 => ?_) ?_
            · skip
              obtain ⟨h18, rfl, O18⟩ := R18
              dsimp only [List.cons_append, List.nil_append]
              refine ⟨inferInstance, ?_⟩
              refine XT.make encI (0) rfl rfl rfl rfl rfl (by omega) (by omega) (fun _ => rfl) rfl rfl rfl (by dsimp only [encI]; infer_instance) (fun v21 h21 O21 => ⟨inferInstance, ?_⟩) XT.stop
              refine XT.q rfl rfl (Q.build [_, _, _] (.c 0 1 rfl rfl rfl (.c 1 1 rfl rfl rfl (.c 2 1 rfl rfl rfl (.n _))))) ?_
              refine XT.st rfl rfl rfl rfl rfl ⟨inferInstance, ?_⟩ XT.stop
              refine XT.done ?_
              exact mtr1 ((b3, v14, h14, v18, h18, v21, h21)) _ _ ⟨O14, O18, O21⟩ (.c rfl (.base 12 rfl rfl)) inferInstance
            · skip
              refine XT.make encI (0) rfl rfl rfl rfl rfl (by omega) (by omega) (fun _ => rfl) rfl rfl rfl (by dsimp only [encI]; infer_instance) (fun v21 h21 O21 => ⟨inferInstance, ?_⟩) XT.stop
              refine XT.call rfl rfl Try.call66 rfl rfl rfl (repeatI _ _ _ S (by omega)) (fun v18 s18 R18 => ?_) XT.stop
              obtain ⟨h18, rfl, O18⟩ := R18
              dsimp only [List.cons_append, List.nil_append]
              refine ⟨inferInstance, ?_⟩
              refine XT.q rfl rfl (Q.build [_, _, _] (.c 0 1 rfl rfl rfl (.c 1 1 rfl rfl rfl (.c 2 1 rfl rfl rfl (.n _))))) ?_
              refine XT.st rfl rfl rfl rfl rfl ⟨inferInstance, ?_⟩ XT.stop
              refine XT.done ?_
              exact mtr1 ((b3, v14, h14, v18, h18, v21, h21)) _ _ ⟨O14, O18, O21⟩ (.c rfl (.base 12 rfl rfl)) inferInstance
      · skip
        refine XT.make encI (0) rfl rfl rfl rfl rfl (by omega) (by omega) (fun _ => rfl) rfl rfl rfl (by dsimp only [encI]; infer_instance) (fun v21 h21 O21 => ⟨inferInstance, ?_⟩) ?_
        · skip
          refine XT.lit [_] [_] [-1] encI rfl rfl (by rfl) (by rfl) rfl (by rfl) (by exact .c 0 1 rfl rfl rfl (.n _)) (fun _ => rfl) (by rfl) rfl (by infer_instance) rfl (fun v15 h15 O15 => ⟨inferInstance, ?_⟩) ?_
          · skip
            refine XT.call rfl rfl Try.call66 rfl rfl rfl (repeatI _ _ _ S (by omega)) (fun v18 s18 R18 => ?_) ?_
            · skip
              obtain ⟨h18, rfl, O18⟩ := R18
              dsimp only [List.cons_append, List.nil_append]
              refine ⟨inferInstance, ?_⟩
              refine XT.q rfl rfl (Q.build [_, _, _] (.c 0 1 rfl rfl rfl (.c 1 1 rfl rfl rfl (.c 2 1 rfl rfl rfl (.n _))))) ?_
              refine XT.alloc rfl rfl (fun b3 => ⟨inferInstance, ?_⟩) XT.stop
              refine XT.st rfl rfl rfl rfl rfl ⟨inferInstance, ?_⟩ XT.stop
              refine XT.done ?_
              exact mtr1 ((b3, v14, h14, v18, h18, v21, h21)) _ _ ⟨O14, O18, O21⟩ (.c rfl (.base 12 rfl rfl)) inferInstance
            · skip
              refine XT.alloc rfl rfl (fun b3 => ⟨inferInstance, ?_⟩) XT.stop
              refine XT.call rfl rfl Try.call66 rfl rfl rfl (repeatI _ _ _ S (by omega)) (fun v18 s18 R18 => ?_) XT.stop
              obtain ⟨h18, rfl, O18⟩ := R18
              dsimp only [List.cons_append, List.nil_append]
              refine ⟨inferInstance, ?_⟩
              refine XT.q rfl rfl (Q.build [_, _, _] (.c 0 1 rfl rfl rfl (.c 1 1 rfl rfl rfl (.c 2 1 rfl rfl rfl (.n _))))) ?_
              refine XT.st rfl rfl rfl rfl rfl ⟨inferInstance, ?_⟩ XT.stop
              refine XT.done ?_
              exact mtr1 ((b3, v14, h14, v18, h18, v21, h21)) _ _ ⟨O14, O18, O21⟩ (.c rfl (.base 12 rfl rfl)) inferInstance
          · skip
            refine XT.alloc rfl rfl (fun b3 => ⟨inferInstance, ?_⟩) XT.stop
            refine XT.lit [_] [_] [-1] encI rfl rfl (by rfl) (by rfl) rfl (by rfl) (by exact .c 0 1 rfl rfl rfl (.n _)) (fun _ => rfl) (by rfl) rfl (by infer_instance) rfl (fun v15 h15 O15 => ⟨inferInstance, ?_⟩) XT.stop
            refine XT.call rfl rfl Try.call66 rfl rfl rfl (repeatI _ _ _ S (by omega)) (fun v18 s18 R18 => ?_) XT.stop
            obtain ⟨h18, rfl, O18⟩ := R18
            dsimp only [List.cons_append, List.nil_append]
            refine ⟨inferInstance, ?_⟩
            refine XT.q rfl rfl (Q.build [_, _, _] (.c 0 1 rfl rfl rfl (.c 1 1 rfl rfl rfl (.c 2 1 rfl rfl rfl (.n _))))) ?_
            refine XT.st rfl rfl rfl rfl rfl ⟨inferInstance, ?_⟩ XT.stop
            refine XT.done ?_
            exact mtr1 ((b3, v14, h14, v18, h18, v21, h21)) _ _ ⟨O14, O18, O21⟩ (.c rfl (.base 12 rfl rfl)) inferInstance
        · skip
          refine XT.alloc rfl rfl (fun b3 => ⟨inferInstance, ?_⟩) XT.stop
          refine XT.lit [_] [_] [-1] encI rfl rfl (by rfl) (by rfl) rfl (by rfl) (by exact .c 0 1 rfl rfl rfl (.n _)) (fun _ => rfl) (by rfl) rfl (by infer_instance) rfl (fun v15 h15 O15 => ⟨inferInstance, ?_⟩) ?_
          · skip
            refine XT.call rfl rfl Try.call66 rfl rfl rfl (repeatI _ _ _ S (by omega)) (fun v18 s18 R18 => ?_) ?_
            · skip
              obtain ⟨h18, rfl, O18⟩ := R18
              dsimp only [List.cons_append, List.nil_append]
              refine ⟨inferInstance, ?_⟩
              refine XT.make encI (0) rfl rfl rfl rfl rfl (by omega) (by omega) (fun _ => rfl) rfl rfl rfl (by dsimp only [encI]; infer_instance) (fun v21 h21 O21 => ⟨inferInstance, ?_⟩) XT.stop
              refine XT.q rfl rfl (Q.build [_, _, _] (.c 0 1 rfl rfl rfl (.c 1 1 rfl rfl rfl (.c 2 1 rfl rfl rfl (.n _))))) ?_
              refine XT.st rfl rfl rfl rfl rfl ⟨inferInstance, ?_⟩ XT.stop
              refine XT.done ?_
              exact mtr1 ((b3, v14, h14, v18, h18, v21, h21)) _ _ ⟨O14, O18, O21⟩ (.c rfl (.base 12 rfl rfl)) inferInstance
            · skip
              refine XT.make encI (0) rfl rfl rfl rfl rfl (by omega) (by omega) (fun _ => rfl) rfl rfl rfl (by dsimp only [encI]; infer_instance) (fun v21 h21 O21 => ⟨inferInstance, ?_⟩) XT.stop
              refine XT.call rfl rfl Try.call66 rfl rfl rfl (repeatI _ _ _ S (by omega)) (fun v18 s18 R18 => ?_) XT.stop
              obtain ⟨h18, rfl, O18⟩ := R18
              dsimp only [List.cons_append, List.nil_append]
              refine ⟨inferInstance, ?_⟩
              refine XT.q rfl rfl (Q.build [_, _, _] (.c 0 1 rfl rfl rfl (.c 1 1 rfl rfl rfl (.c 2 1 rfl rfl rfl (.n _))))) ?_
              refine XT.st rfl rfl rfl rfl rfl ⟨inferInstance, ?_⟩ XT.stop
              refine XT.done ?_
              exact mtr1 ((b3, v14, h14, v18, h18, v21, h21)) _ _ ⟨O14, O18, O21⟩ (.c rfl (.base 12 rfl rfl)) inferInstance
          · skip
            refine XT.make encI (0) rfl rfl rfl rfl rfl (by omega) (by omega) (fun _ => rfl) rfl rfl rfl (by dsimp only [encI]; infer_instance) (fun v21 h21 O21 => ⟨inferInstance, ?_⟩) XT.stop
            refine XT.lit [_] [_] [-1] encI rfl rfl (by rfl) (by rfl) rfl (by rfl) (by exact .c 0 1 rfl rfl rfl (.n _)) (fun _ => rfl) (by rfl) rfl (by infer_instance) rfl (fun v15 h15 O15 => ⟨inferInstance, ?_⟩) XT.stop
            refine XT.call rfl rfl Try.call66 rfl rfl rfl (repeatI _ _ _ S (by omega)) (fun v18 s18 R18 => ?_) XT.stop
            obtain ⟨h18, rfl, O18⟩ := R18
            dsimp only [List.cons_append, List.nil_append]
            refine ⟨inferInstance, ?_⟩
            refine XT.q rfl rfl (Q.build [_, _, _] (.c 0 1 rfl rfl rfl (.c 1 1 rfl rfl rfl (.c 2 1 rfl rfl rfl (.n _))))) ?_
            refine XT.st rfl rfl rfl rfl rfl ⟨inferInstance, ?_⟩ XT.stop
            refine XT.done ?_
            exact mtr1 ((b3, v14, h14, v18, h18, v21, h21)) _ _ ⟨O14, O18, O21⟩ (.c rfl (.base 12 rfl rfl)) inferInstance
    · skip
      refine XT.lit [_] [_] [-1] encI rfl rfl (by rfl) (by rfl) rfl (by rfl) (by exact .c 0 1 rfl rfl rfl (.n _)) (fun _ => rfl) (by rfl) rfl (by infer_instance) rfl (fun v15 h15 O15 => ⟨inferInstance, ?_⟩) ?_
      · skip
        refine XT.call rfl rfl Try.call24 rfl rfl rfl (cloneB _ _ _ (by omega)) (fun v14 s14 R14 => ?_) ?_
        · skip
          obtain ⟨h14, rfl, O14⟩ := R14
          dsimp only [List.cons_append, List.nil_append]
          refine ⟨inferInstance, ?_⟩
          refine XT.call rfl rfl Try.call66 rfl rfl rfl (repeatI _ _ _ S (by omega)) (fun v18 s18 R18 => ?_) ?_
          · skip
            obtain ⟨h18, rfl, O18⟩ := R18
            dsimp only [List.cons_append, List.nil_append]
            refine ⟨inferInstance, ?_⟩
            refine XT.make encI (0) rfl rfl rfl rfl rfl (by omega) (by omega) (fun _ => rfl) rfl rfl rfl (by dsimp only [encI]; infer_instance) (fun v21 h21 O21 => ⟨inferInstance, ?_⟩) ?_
            · skip
              refine XT.q rfl rfl (Q.build [_, _, _] (.c 0 1 rfl rfl rfl (.c 1 1 rfl rfl rfl (.c 2 1 rfl rfl rfl (.n _))))) ?_
              refine XT.alloc rfl rfl (fun b3 => ⟨inferInstance, ?_⟩) XT.stop
              refine XT.st rfl rfl rfl rfl rfl ⟨inferInstance, ?_⟩ XT.stop
              refine XT.done ?_
              exact mtr1 ((b3, v14, h14, v18, h18, v21, h21)) _ _ ⟨O14, O18, O21⟩ (.c rfl (.base 12 rfl rfl)) inferInstance
            · skip
              refine XT.alloc rfl rfl (fun b3 => ⟨inferInstance, ?_⟩) XT.stop
              refine XT.make encI (0) rfl rfl rfl rfl rfl (by omega) (by omega) (fun _ => rfl) rfl rfl rfl (by dsimp only [encI]; infer_instance) (fun v21 h21 O21 => ⟨inferInstance, ?_⟩) XT.stop
              refine XT.q rfl rfl (Q.build [_, _, _] (.c 0 1 rfl rfl rfl (.c 1 1 rfl rfl rfl (.c 2 1 rfl rfl rfl (.n _))))) ?_
              refine XT.st rfl rfl rfl rfl rfl ⟨inferInstance, ?_⟩ XT.stop
              refine XT.done ?_
              exact mtr1 ((b3, v14, h14, v18, h18, v21, h21)) _ _ ⟨O14, O18, O21⟩ (.c rfl (.base 12 rfl rfl)) inferInstance
          · skip
            refine XT.make encI (0) rfl rfl rfl rfl rfl (by omega) (by omega) (fun _ => rfl) rfl rfl rfl (by dsimp only [encI]; infer_instance) (fun v21 h21 O21 => ⟨inferInstance, ?_⟩) ?_
            · skip
              refine XT.call rfl rfl Try.call66 rfl rfl rfl (repeatI _ _ _ S (by omega)) (fun v18 s18 R18 => ?_) ?_
              · skip
                obtain ⟨h18, rfl, O18⟩ := R18
                dsimp only [List.cons_append, List.nil_append]
                refine ⟨inferInstance, ?_⟩
                refine XT.q rfl rfl (Q.build [_, _, _] (.c 0 1 rfl rfl rfl (.c 1 1 rfl rfl rfl (.c 2 1 rfl rfl rfl (.n _))))) ?_
                refine XT.alloc rfl rfl (fun b3 => ⟨inferInstance, ?_⟩) XT.stop
                refine XT.st rfl rfl rfl rfl rfl ⟨inferInstance, ?_⟩ XT.stop
                refine XT.done ?_
                exact mtr1 ((b3, v14, h14, v18, h18, v21, h21)) _ _ ⟨O14, O18, O21⟩ (.c rfl (.base 12 rfl rfl)) inferInstance
              · skip
                refine XT.alloc rfl rfl (fun b3 => ⟨inferInstance, ?_⟩) XT.stop
                refine XT.call rfl rfl Try.call66 rfl rfl rfl (repeatI _ _ _ S (by omega)) (fun v18 s18 R18 => ?_) XT.stop
                obtain ⟨h18, rfl, O18⟩ := R18
                dsimp only [List.cons_append, List.nil_append]
                refine ⟨inferInstance, ?_⟩
                refine XT.q rfl rfl (Q.build [_, _, _] (.c 0 1 rfl rfl rfl (.c 1 1 rfl rfl rfl (.c 2 1 rfl rfl rfl (.n _))))) ?_
                refine XT.st rfl rfl rfl rfl rfl ⟨inferInstance, ?_⟩ XT.stop
                refine XT.done ?_
                exact mtr1 ((b3, v14, h14, v18, h18, v21, h21)) _ _ ⟨O14, O18, O21⟩ (.c rfl (.base 12 rfl rfl)) inferInstance
            · skip
              refine XT.alloc rfl rfl (fun b3 => ⟨inferInstance, ?_⟩) XT.stop
              refine XT.call rfl rfl Try.call66 rfl rfl rfl (repeatI _ _ _ S (by omega)) (fun v18 s18 R18 => ?_) ?_
              · skip
                obtain ⟨h18, rfl, O18⟩ := R18
                dsimp only [List.cons_append, List.nil_append]
                refine ⟨inferInstance, ?_⟩
                refine XT.make encI (0) rfl rfl rfl rfl rfl (by omega) (by omega) (fun _ => rfl) rfl rfl rfl (by dsimp only [encI]; infer_instance) (fun v21 h21 O21 => ⟨inferInstance, ?_⟩) XT.stop
                refine XT.q rfl rfl (Q.build [_, _, _] (.c 0 1 rfl rfl rfl (.c 1 1 rfl rfl rfl (.c 2 1 rfl rfl rfl (.n _))))) ?_
                refine XT.st rfl rfl rfl rfl rfl ⟨inferInstance, ?_⟩ XT.stop
                refine XT.done ?_
                exact mtr1 ((b3, v14, h14, v18, h18, v21, h21)) _ _ ⟨O14, O18, O21⟩ (.c rfl (.base 12 rfl rfl)) inferInstance
              · skip
                refine XT.make encI (0) rfl rfl rfl rfl rfl (by omega) (by omega) (fun _ => rfl) rfl rfl rfl (by dsimp only [encI]; infer_instance) (fun v21 h21 O21 => ⟨inferInstance, ?_⟩) XT.stop
                refine XT.call rfl rfl Try.call66 rfl rfl rfl (repeatI _ _ _ S (by omega)) (fun v18 s18 R18 => ?_) XT.stop
                obtain ⟨h18, rfl, O18⟩ := R18
                dsimp only [List.cons_append, List.nil_append]
                refine ⟨inferInstance, ?_⟩
                refine XT.q rfl rfl (Q.build [_, _, _] (.c 0 1 rfl rfl rfl (.c 1 1 rfl rfl rfl (.c 2 1 rfl rfl rfl (.n _))))) ?_
                refine XT.st rfl rfl rfl rfl rfl ⟨inferInstance, ?_⟩ XT.stop
                refine XT.done ?_
                exact mtr1 ((b3, v14, h14, v18, h18, v21, h21)) _ _ ⟨O14, O18, O21⟩ (.c rfl (.base 12 rfl rfl)) inferInstance
        · skip
          refine XT.make encI (0) rfl rfl rfl rfl rfl (by omega) (by omega) (fun _ => rfl) rfl rfl rfl (by dsimp only [encI]; infer_instance) (fun v21 h21 O21 => ⟨inferInstance, ?_⟩) ?_
          · skip
            refine XT.call rfl rfl Try.call24 rfl rfl rfl (cloneB _ _ _ (by omega)) (fun v14 s14 R14 => ?_) ?_
            · skip
              obtain ⟨h14, rfl, O14⟩ := R14
              dsimp only [List.cons_append, List.nil_append]
              refine ⟨inferInstance, ?_⟩
              refine XT.call rfl rfl Try.call66 rfl rfl rfl (repeatI _ _ _ S (by omega)) (fun v18 s18 R18 => ?_) ?_
              · skip
                obtain ⟨h18, rfl, O18⟩ := R18
                dsimp only [List.cons_append, List.nil_append]
                refine ⟨inferInstance, ?_⟩
                refine XT.q rfl rfl (Q.build [_, _, _] (.c 0 1 rfl rfl rfl (.c 1 1 rfl rfl rfl (.c 2 1 rfl rfl rfl (.n _))))) ?_
                refine XT.alloc rfl rfl (fun b3 => ⟨inferInstance, ?_⟩) XT.stop
                refine XT.st rfl rfl rfl rfl rfl ⟨inferInstance, ?_⟩ XT.stop
                refine XT.done ?_
                exact mtr1 ((b3, v14, h14, v18, h18, v21, h21)) _ _ ⟨O14, O18, O21⟩ (.c rfl (.base 12 rfl rfl)) inferInstance
              · skip
                refine XT.alloc rfl rfl (fun b3 => ⟨inferInstance, ?_⟩) XT.stop
                refine XT.call rfl rfl Try.call66 rfl rfl rfl (repeatI _ _ _ S (by omega)) (fun v18 s18 R18 => ?_) XT.stop
                obtain ⟨h18, rfl, O18⟩ := R18
                dsimp only [List.cons_append, List.nil_append]
                refine ⟨inferInstance, ?_⟩
                refine XT.q rfl rfl (Q.build [_, _, _] (.c 0 1 rfl rfl rfl (.c 1 1 rfl rfl rfl (.c 2 1 rfl rfl rfl (.n _))))) ?_
                refine XT.st rfl rfl rfl rfl rfl ⟨inferInstance, ?_⟩ XT.stop
                refine XT.done ?_
                exact mtr1 ((b3, v14, h14, v18, h18, v21, h21)) _ _ ⟨O14, O18, O21⟩ (.c rfl (.base 12 rfl rfl)) inferInstance
            · skip
              refine XT.alloc rfl rfl (fun b3 => ⟨inferInstance, ?_⟩) XT.stop
              refine XT.call rfl rfl Try.call24 rfl rfl rfl (cloneB _ _ _ (by omega)) (fun v14 s14 R14 => ?_) XT.stop
              obtain ⟨h14, rfl, O14⟩ := R14
              dsimp only [List.cons_append, List.nil_append]
              refine ⟨inferInstance, ?_⟩
              refine XT.call rfl rfl Try.call66 rfl rfl rfl (repeatI _ _ _ S (by omega)) (fun v18 s18 R18 => ?_) XT.stop
              obtain ⟨h18, rfl, O18⟩ := R18
              dsimp only [List.cons_append, List.nil_append]
              refine ⟨inferInstance, ?_⟩
              refine XT.q rfl rfl (Q.build [_, _, _] (.c 0 1 rfl rfl rfl (.c 1 1 rfl rfl rfl (.c 2 1 rfl rfl rfl (.n _))))) ?_
              refine XT.st rfl rfl rfl rfl rfl ⟨inferInstance, ?_⟩ XT.stop
              refine XT.done ?_
              exact mtr1 ((b3, v14, h14, v18, h18, v21, h21)) _ _ ⟨O14, O18, O21⟩ (.c rfl (.base 12 rfl rfl)) inferInstance
          · skip
            refine XT.alloc rfl rfl (fun b3 => ⟨inferInstance, ?_⟩) XT.stop
            refine XT.call rfl rfl Try.call24 rfl rfl rfl (cloneB _ _ _ (by omega)) (fun v14 s14 R14 => ?_) ?_
            · skip
              obtain ⟨h14, rfl, O14⟩ := R14
              dsimp only [List.cons_append, List.nil_append]
              refine ⟨inferInstance, ?_⟩
              refine XT.call rfl rfl Try.call66 rfl rfl rfl (repeatI _ _ _ S (by omega)) (fun v18 s18 R18 => ?_) ?_
              · skip
                obtain ⟨h18, rfl, O18⟩ := R18
                dsimp only [List.cons_append, List.nil_append]
                refine ⟨inferInstance, ?_⟩
                refine XT.make encI (0) rfl rfl rfl rfl rfl (by omega) (by omega) (fun _ => rfl) rfl rfl rfl (by dsimp only [encI]; infer_instance) (fun v21 h21 O21 => ⟨inferInstance, ?_⟩) XT.stop
                refine XT.q rfl rfl (Q.build [_, _, _] (.c 0 1 rfl rfl rfl (.c 1 1 rfl rfl rfl (.c 2 1 rfl rfl rfl (.n _))))) ?_
                refine XT.st rfl rfl rfl rfl rfl ⟨inferInstance, ?_⟩ XT.stop
                refine XT.done ?_
                exact mtr1 ((b3, v14, h14, v18, h18, v21, h21)) _ _ ⟨O14, O18, O21⟩ (.c rfl (.base 12 rfl rfl)) inferInstance
              · skip
                refine XT.make encI (0) rfl rfl rfl rfl rfl (by omega) (by omega) (fun _ => rfl) rfl rfl rfl (by dsimp only [encI]; infer_instance) (fun v21 h21 O21 => ⟨inferInstance, ?_⟩) XT.stop
                refine XT.call rfl rfl Try.call66 rfl rfl rfl (repeatI _ _ _ S (by omega)) (fun v18 s18 R18 => ?_) XT.stop
                obtain ⟨h18, rfl, O18⟩ := R18
                dsimp only [List.cons_append, List.nil_append]
                refine ⟨inferInstance, ?_⟩
                refine XT.q rfl rfl (Q.build [_, _, _] (.c 0 1 rfl rfl rfl (.c 1 1 rfl rfl rfl (.c 2 1 rfl rfl rfl (.n _))))) ?_
                refine XT.st rfl rfl rfl rfl rfl ⟨inferInstance, ?_⟩ XT.stop
                refine XT.done ?_
                exact mtr1 ((b3, v14, h14, v18, h18, v21, h21)) _ _ ⟨O14, O18, O21⟩ (.c rfl (.base 12 rfl rfl)) inferInstance
            · skip
              refine XT.make encI (0) rfl rfl rfl rfl rfl (by omega) (by omega) (fun _ => rfl) rfl rfl rfl (by dsimp only [encI]; infer_instance) (fun v21 h21 O21 => ⟨inferInstance, ?_⟩) XT.stop
              refine XT.call rfl rfl Try.call24 rfl rfl rfl (cloneB _ _ _ (by omega)) (fun v14 s14 R14 => ?_) XT.stop
              obtain ⟨h14, rfl, O14⟩ := R14
              dsimp only [List.cons_append, List.nil_append]
              refine ⟨inferInstance, ?_⟩
              refine XT.call rfl rfl Try.call66 rfl rfl rfl (repeatI _ _ _ S (by omega)) (fun v18 s18 R18 => ?_) XT.stop
              obtain ⟨h18, rfl, O18⟩ := R18
              dsimp only [List.cons_append, List.nil_append]
              refine ⟨inferInstance, ?_⟩
              refine XT.q rfl rfl (Q.build [_, _, _] (.c 0 1 rfl rfl rfl (.c 1 1 rfl rfl rfl (.c 2 1 rfl rfl rfl (.n _))))) ?_
              refine XT.st rfl rfl rfl rfl rfl ⟨inferInstance, ?_⟩ XT.stop
              refine XT.done ?_
              exact mtr1 ((b3, v14, h14, v18, h18, v21, h21)) _ _ ⟨O14, O18, O21⟩ (.c rfl (.base 12 rfl rfl)) inferInstance
      · skip
        refine XT.make encI (0) rfl rfl rfl rfl rfl (by omega) (by omega) (fun _ => rfl) rfl rfl rfl (by dsimp only [encI]; infer_instance) (fun v21 h21 O21 => ⟨inferInstance, ?_⟩) ?_
        · skip
          refine XT.call rfl rfl Try.call24 rfl rfl rfl (cloneB _ _ _ (by omega)) (fun v14 s14 R14 => ?_) ?_
          · skip
            obtain ⟨h14, rfl, O14⟩ := R14
            dsimp only [List.cons_append, List.nil_append]
            refine ⟨inferInstance, ?_⟩
            refine XT.lit [_] [_] [-1] encI rfl rfl (by rfl) (by rfl) rfl (by rfl) (by exact .c 0 1 rfl rfl rfl (.n _)) (fun _ => rfl) (by rfl) rfl (by infer_instance) rfl (fun v15 h15 O15 => ⟨inferInstance, ?_⟩) ?_
            · skip
              refine XT.call rfl rfl Try.call66 rfl rfl rfl (repeatI _ _ _ S (by omega)) (fun v18 s18 R18 => ?_) ?_
              · skip
                obtain ⟨h18, rfl, O18⟩ := R18
                dsimp only [List.cons_append, List.nil_append]
                refine ⟨inferInstance, ?_⟩
                refine XT.q rfl rfl (Q.build [_, _, _] (.c 0 1 rfl rfl rfl (.c 1 1 rfl rfl rfl (.c 2 1 rfl rfl rfl (.n _))))) ?_
                refine XT.alloc rfl rfl (fun b3 => ⟨inferInstance, ?_⟩) XT.stop
                refine XT.st rfl rfl rfl rfl rfl ⟨inferInstance, ?_⟩ XT.stop
                refine XT.done ?_
                exact mtr1 ((b3, v14, h14, v18, h18, v21, h21)) _ _ ⟨O14, O18, O21⟩ (.c rfl (.base 12 rfl rfl)) inferInstance
              · skip
                refine XT.alloc rfl rfl (fun b3 => ⟨inferInstance, ?_⟩) XT.stop
                refine XT.call rfl rfl Try.call66 rfl rfl rfl (repeatI _ _ _ S (by omega)) (fun v18 s18 R18 => ?_) XT.stop
                obtain ⟨h18, rfl, O18⟩ := R18
                dsimp only [List.cons_append, List.nil_append]
                refine ⟨inferInstance, ?_⟩
                refine XT.q rfl rfl (Q.build [_, _, _] (.c 0 1 rfl rfl rfl (.c 1 1 rfl rfl rfl (.c 2 1 rfl rfl rfl (.n _))))) ?_
                refine XT.st rfl rfl rfl rfl rfl ⟨inferInstance, ?_⟩ XT.stop
                refine XT.done ?_
                exact mtr1 ((b3, v14, h14, v18, h18, v21, h21)) _ _ ⟨O14, O18, O21⟩ (.c rfl (.base 12 rfl rfl)) inferInstance
            · skip
              refine XT.alloc rfl rfl (fun b3 => ⟨inferInstance, ?_⟩) XT.stop
              refine XT.lit [_] [_] [-1] encI rfl rfl (by rfl) (by rfl) rfl (by rfl) (by exact .c 0 1 rfl rfl rfl (.n _)) (fun _ => rfl) (by rfl) rfl (by infer_instance) rfl (fun v15 h15 O15 => ⟨inferInstance, ?_⟩) XT.stop
              refine XT.call rfl rfl Try.call66 rfl rfl rfl (repeatI _ _ _ S (by omega)) (fun v18 s18 R18 => ?_) XT.stop
              obtain ⟨h18, rfl, O18⟩ := R18
              dsimp only [List.cons_append, List.nil_append]
              refine ⟨inferInstance, ?_⟩
              refine XT.q rfl rfl (Q.build [_, _, _] (.c 0 1 rfl rfl rfl (.c 1 1 rfl rfl rfl (.c 2 1 rfl rfl rfl (.n _))))) ?_
              refine XT.st rfl rfl rfl rfl rfl ⟨inferInstance, ?_⟩ XT.stop
              refine XT.done ?_
              exact mtr1 ((b3, v14, h14, v18, h18, v21, h21)) _ _ ⟨O14, O18, O21⟩ (.c rfl (.base 12 rfl rfl)) inferInstance
          · skip
            refine XT.lit [_] [_] [-1] encI rfl rfl (by rfl) (by rfl) rfl (by rfl) (by exact .c 0 1 rfl rfl rfl (.n _)) (fun _ => rfl) (by rfl) rfl (by infer_instance) rfl (fun v15 h15 O15 => ⟨inferInstance, ?_⟩) ?_
            · skip
              refine XT.call rfl rfl Try.call24 rfl rfl rfl (cloneB _ _ _ (by omega)) (fun v14 s14 R14 => ?_) ?_
              · skip
                obtain ⟨h14, rfl, O14⟩ := R14
                dsimp only [List.cons_append, List.nil_append]
                refine ⟨inferInstance, ?_⟩
                refine XT.call rfl rfl Try.call66 rfl rfl rfl (repeatI _ _ _ S (by omega)) (fun v18 s18 R18 => ?_) ?_
                · skip
                  obtain ⟨h18, rfl, O18⟩ := R18
                  dsimp only [List.cons_append, List.nil_append]
                  refine ⟨inferInstance, ?_⟩
                  refine XT.q rfl rfl (Q.build [_, _, _] (.c 0 1 rfl rfl rfl (.c 1 1 rfl rfl rfl (.c 2 1 rfl rfl rfl (.n _))))) ?_
                  refine XT.alloc rfl rfl (fun b3 => ⟨inferInstance, ?_⟩) XT.stop
                  refine XT.st rfl rfl rfl rfl rfl ⟨inferInstance, ?_⟩ XT.stop
                  refine XT.done ?_
                  exact mtr1 ((b3, v14, h14, v18, h18, v21, h21)) _ _ ⟨O14, O18, O21⟩ (.c rfl (.base 12 rfl rfl)) inferInstance
                · skip
                  refine XT.alloc rfl rfl (fun b3 => ⟨inferInstance, ?_⟩) XT.stop
                  refine XT.call rfl rfl Try.call66 rfl rfl rfl (repeatI _ _ _ S (by omega)) (fun v18 s18 R18 => ?_) XT.stop
                  obtain ⟨h18, rfl, O18⟩ := R18
                  dsimp only [List.cons_append, List.nil_append]
                  refine ⟨inferInstance, ?_⟩
                  refine XT.q rfl rfl (Q.build [_, _, _] (.c 0 1 rfl rfl rfl (.c 1 1 rfl rfl rfl (.c 2 1 rfl rfl rfl (.n _))))) ?_
                  refine XT.st rfl rfl rfl rfl rfl ⟨inferInstance, ?_⟩ XT.stop
                  refine XT.done ?_
                  exact mtr1 ((b3, v14, h14, v18, h18, v21, h21)) _ _ ⟨O14, O18, O21⟩ (.c rfl (.base 12 rfl rfl)) inferInstance
              · skip
                refine XT.alloc rfl rfl (fun b3 => ⟨inferInstance, ?_⟩) XT.stop
                refine XT.call rfl rfl Try.call24 rfl rfl rfl (cloneB _ _ _ (by omega)) (fun v14 s14 R14 => ?_) XT.stop
                obtain ⟨h14, rfl, O14⟩ := R14
                dsimp only [List.cons_append, List.nil_append]
                refine ⟨inferInstance, ?_⟩
                refine XT.call rfl rfl Try.call66 rfl rfl rfl (repeatI _ _ _ S (by omega)) (fun v18 s18 R18 => ?_) XT.stop
                obtain ⟨h18, rfl, O18⟩ := R18
                dsimp only [List.cons_append, List.nil_append]
                refine ⟨inferInstance, ?_⟩
                refine XT.q rfl rfl (Q.build [_, _, _] (.c 0 1 rfl rfl rfl (.c 1 1 rfl rfl rfl (.c 2 1 rfl rfl rfl (.n _))))) ?_
                refine XT.st rfl rfl rfl rfl rfl ⟨inferInstance, ?_⟩ XT.stop
                refine XT.done ?_
                exact mtr1 ((b3, v14, h14, v18, h18, v21, h21)) _ _ ⟨O14, O18, O21⟩ (.c rfl (.base 12 rfl rfl)) inferInstance
            · skip
              refine XT.alloc rfl rfl (fun b3 => ⟨inferInstance, ?_⟩) XT.stop
              refine XT.call rfl rfl Try.call24 rfl rfl rfl (cloneB _ _ _ (by omega)) (fun v14 s14 R14 => ?_) ?_
              · skip
                obtain ⟨h14, rfl, O14⟩ := R14
                dsimp only [List.cons_append, List.nil_append]
                refine ⟨inferInstance, ?_⟩
                refine XT.lit [_] [_] [-1] encI rfl rfl (by rfl) (by rfl) rfl (by rfl) (by exact .c 0 1 rfl rfl rfl (.n _)) (fun _ => rfl) (by rfl) rfl (by infer_instance) rfl (fun v15 h15 O15 => ⟨inferInstance, ?_⟩) XT.stop
                refine XT.call rfl rfl Try.call66 rfl rfl rfl (repeatI _ _ _ S (by omega)) (fun v18 s18 R18 => ?_) XT.stop
                obtain ⟨h18, rfl, O18⟩ := R18
                dsimp only [List.cons_append, List.nil_append]
                refine ⟨inferInstance, ?_⟩
                refine XT.q rfl rfl (Q.build [_, _, _] (.c 0 1 rfl rfl rfl (.c 1 1 rfl rfl rfl (.c 2 1 rfl rfl rfl (.n _))))) ?_
                refine XT.st rfl rfl rfl rfl rfl ⟨inferInstance, ?_⟩ XT.stop
                refine XT.done ?_
                exact mtr1 ((b3, v14, h14, v18, h18, v21, h21)) _ _ ⟨O14, O18, O21⟩ (.c rfl (.base 12 rfl rfl)) inferInstance
              · skip
                refine XT.lit [_] [_] [-1] encI rfl rfl (by rfl) (by rfl) rfl (by rfl) (by exact .c 0 1 rfl rfl rfl (.n _)) (fun _ => rfl) (by rfl) rfl (by infer_instance) rfl (fun v15 h15 O15 => ⟨inferInstance, ?_⟩) XT.stop
                refine XT.call rfl rfl Try.call24 rfl rfl rfl (cloneB _ _ _ (by omega)) (fun v14 s14 R14 => ?_) XT.stop
                obtain ⟨h14, rfl, O14⟩ := R14
                dsimp only [List.cons_append, List.nil_append]
                refine ⟨inferInstance, ?_⟩
                refine XT.call rfl rfl Try.call66 rfl rfl rfl (repeatI _ _ _ S (by omega)) (fun v18 s18 R18 => ?_) XT.stop
                obtain ⟨h18, rfl, O18⟩ := R18
                dsimp only [List.cons_append, List.nil_append]
                refine ⟨inferInstance, ?_⟩
                refine XT.q rfl rfl (Q.build [_, _, _] (.c 0 1 rfl rfl rfl (.c 1 1 rfl rfl rfl (.c 2 1 rfl rfl rfl (.n _))))) ?_
                refine XT.st rfl rfl rfl rfl rfl ⟨inferInstance, ?_⟩ XT.stop
                refine XT.done ?_
                exact mtr1 ((b3, v14, h14, v18, h18, v21, h21)) _ _ ⟨O14, O18, O21⟩ (.c rfl (.base 12 rfl rfl)) inferInstance
        · skip
          refine XT.alloc rfl rfl (fun b3 => ⟨inferInstance, ?_⟩) XT.stop
          refine XT.call rfl rfl Try.call24 rfl rfl rfl (cloneB _ _ _ (by omega)) (fun v14 s14 R14 => ?_) ?_
          · skip
            obtain ⟨h14, rfl, O14⟩ := R14
            dsimp only [List.cons_append, List.nil_append]
            refine ⟨inferInstance, ?_⟩
            refine XT.lit [_] [_] [-1] encI rfl rfl (by rfl) (by rfl) rfl (by rfl) (by exact .c 0 1 rfl rfl rfl (.n _)) (fun _ => rfl) (by rfl) rfl (by infer_instance) rfl (fun v15 h15 O15 => ⟨inferInstance, ?_⟩) ?_
            · skip
              refine XT.call rfl rfl Try.call66 rfl rfl rfl (repeatI _ _ _ S (by omega)) (fun v18 s18 R18 => ?_) ?_
              · skip
                obtain ⟨h18, rfl, O18⟩ := R18
                dsimp only [List.cons_append, List.nil_append]
                refine ⟨inferInstance, ?_⟩
                refine XT.make encI (0) rfl rfl rfl rfl rfl (by omega) (by omega) (fun _ => rfl) rfl rfl rfl (by dsimp only [encI]; infer_instance) (fun v21 h21 O21 => ⟨inferInstance, ?_⟩) XT.stop
                refine XT.q rfl rfl (Q.build [_, _, _] (.c 0 1 rfl rfl rfl (.c 1 1 rfl rfl rfl (.c 2 1 rfl rfl rfl (.n _))))) ?_
                refine XT.st rfl rfl rfl rfl rfl ⟨inferInstance, ?_⟩ XT.stop
                refine XT.done ?_
                exact mtr1 ((b3, v14, h14, v18, h18, v21, h21)) _ _ ⟨O14, O18, O21⟩ (.c rfl (.base 12 rfl rfl)) inferInstance
              · skip
                refine XT.make encI (0) rfl rfl rfl rfl rfl (by omega) (by omega) (fun _ => rfl) rfl rfl rfl (by dsimp only [encI]; infer_instance) (fun v21 h21 O21 => ⟨inferInstance, ?_⟩) XT.stop
                refine XT.call rfl rfl Try.call66 rfl rfl rfl (repeatI _ _ _ S (by omega)) (fun v18 s18 R18 => ?_) XT.stop
                obtain ⟨h18, rfl, O18⟩ := R18
                dsimp only [List.cons_append, List.nil_append]
                refine ⟨inferInstance, ?_⟩
                refine XT.q rfl rfl (Q.build [_, _, _] (.c 0 1 rfl rfl rfl (.c 1 1 rfl rfl rfl (.c 2 1 rfl rfl rfl (.n _))))) ?_
                refine XT.st rfl rfl rfl rfl rfl ⟨inferInstance, ?_⟩ XT.stop
                refine XT.done ?_
                exact mtr1 ((b3, v14, h14, v18, h18, v21, h21)) _ _ ⟨O14, O18, O21⟩ (.c rfl (.base 12 rfl rfl)) inferInstance
            · skip
              refine XT.make encI (0) rfl rfl rfl rfl rfl (by omega) (by omega) (fun _ => rfl) rfl rfl rfl (by dsimp only [encI]; infer_instance) (fun v21 h21 O21 => ⟨inferInstance, ?_⟩) XT.stop
              refine XT.lit [_] [_] [-1] encI rfl rfl (by rfl) (by rfl) rfl (by rfl) (by exact .c 0 1 rfl rfl rfl (.n _)) (fun _ => rfl) (by rfl) rfl (by infer_instance) rfl (fun v15 h15 O15 => ⟨inferInstance, ?_⟩) XT.stop
              refine XT.call rfl rfl Try.call66 rfl rfl rfl (repeatI _ _ _ S (by omega)) (fun v18 s18 R18 => ?_) XT.stop
              obtain ⟨h18, rfl, O18⟩ := R18
              dsimp only [List.cons_append, List.nil_append]
              refine ⟨inferInstance, ?_⟩
              refine XT.q rfl rfl (Q.build [_, _, _] (.c 0 1 rfl rfl rfl (.c 1 1 rfl rfl rfl (.c 2 1 rfl rfl rfl (.n _))))) ?_
              refine XT.st rfl rfl rfl rfl rfl ⟨inferInstance, ?_⟩ XT.stop
              refine XT.done ?_
              exact mtr1 ((b3, v14, h14, v18, h18, v21, h21)) _ _ ⟨O14, O18, O21⟩ (.c rfl (.base 12 rfl rfl)) inferInstance
          · skip
            refine XT.lit [_] [_] [-1] encI rfl rfl (by rfl) (by rfl) rfl (by rfl) (by exact .c 0 1 rfl rfl rfl (.n _)) (fun _ => rfl) (by rfl) rfl (by infer_instance) rfl (fun v15 h15 O15 => ⟨inferInstance, ?_⟩) ?_
            · skip
              refine XT.call rfl rfl Try.call24 rfl rfl rfl (cloneB _ _ _ (by omega)) (fun v14 s14 R14 => ?_) ?_
              · skip
                obtain ⟨h14, rfl, O14⟩ := R14
                dsimp only [List.cons_append, List.nil_append]
                refine ⟨inferInstance, ?_⟩
                refine XT.call rfl rfl Try.call66 rfl rfl rfl (repeatI _ _ _ S (by omega)) (fun v18 s18 R18 => ?_) ?_
                · skip
                  obtain ⟨h18, rfl, O18⟩ := R18
                  dsimp only [List.cons_append, List.nil_append]
                  refine ⟨inferInstance, ?_⟩
                  refine XT.make encI (0) rfl rfl rfl rfl rfl (by omega) (by omega) (fun _ => rfl) rfl rfl rfl (by dsimp only [encI]; infer_instance) (fun v21 h21 O21 => ⟨inferInstance, ?_⟩) XT.stop
                  refine XT.q rfl rfl (Q.build [_, _, _] (.c 0 1 rfl rfl rfl (.c 1 1 rfl rfl rfl (.c 2 1 rfl rfl rfl (.n _))))) ?_
                  refine XT.st rfl rfl rfl rfl rfl ⟨inferInstance, ?_⟩ XT.stop
                  refine XT.done ?_
                  exact mtr1 ((b3, v14, h14, v18, h18, v21, h21)) _ _ ⟨O14, O18, O21⟩ (.c rfl (.base 12 rfl rfl)) inferInstance
                · skip
                  refine XT.make encI (0) rfl rfl rfl rfl rfl (by omega) (by omega) (fun _ => rfl) rfl rfl rfl (by dsimp only [encI]; infer_instance) (fun v21 h21 O21 => ⟨inferInstance, ?_⟩) XT.stop
                  refine XT.call rfl rfl Try.call66 rfl rfl rfl (repeatI _ _ _ S (by omega)) (fun v18 s18 R18 => ?_) XT.stop
                  obtain ⟨h18, rfl, O18⟩ := R18
                  dsimp only [List.cons_append, List.nil_append]
                  refine ⟨inferInstance, ?_⟩
                  refine XT.q rfl rfl (Q.build [_, _, _] (.c 0 1 rfl rfl rfl (.c 1 1 rfl rfl rfl (.c 2 1 rfl rfl rfl (.n _))))) ?_
                  refine XT.st rfl rfl rfl rfl rfl ⟨inferInstance, ?_⟩ XT.stop
                  refine XT.done ?_
                  exact mtr1 ((b3, v14, h14, v18, h18, v21, h21)) _ _ ⟨O14, O18, O21⟩ (.c rfl (.base 12 rfl rfl)) inferInstance
              · skip
                refine XT.make encI (0) rfl rfl rfl rfl rfl (by omega) (by omega) (fun _ => rfl) rfl rfl rfl (by dsimp only [encI]; infer_instance) (fun v21 h21 O21 => ⟨inferInstance, ?_⟩) XT.stop
                refine XT.call rfl rfl Try.call24 rfl rfl rfl (cloneB _ _ _ (by omega)) (fun v14 s14 R14 => ?_) XT.stop
                obtain ⟨h14, rfl, O14⟩ := R14
                dsimp only [List.cons_append, List.nil_append]
                refine ⟨inferInstance, ?_⟩
                refine XT.call rfl rfl Try.call66 rfl rfl rfl (repeatI _ _ _ S (by omega)) (fun v18 s18 R18 => ?_) XT.stop
                obtain ⟨h18, rfl, O18⟩ := R18
                dsimp only [List.cons_append, List.nil_append]
                refine ⟨inferInstance, ?_⟩
                refine XT.q rfl rfl (Q.build [_, _, _] (.c 0 1 rfl rfl rfl (.c 1 1 rfl rfl rfl (.c 2 1 rfl rfl rfl (.n _))))) ?_
                refine XT.st rfl rfl rfl rfl rfl ⟨inferInstance, ?_⟩ XT.stop
                refine XT.done ?_
                exact mtr1 ((b3, v14, h14, v18, h18, v21, h21)) _ _ ⟨O14, O18, O21⟩ (.c rfl (.base 12 rfl rfl)) inferInstance
            · skip
              refine XT.make encI (0) rfl rfl rfl rfl rfl (by omega) (by omega) (fun _ => rfl) rfl rfl rfl (by dsimp only [encI]; infer_instance) (fun v21 h21 O21 => ⟨inferInstance, ?_⟩) XT.stop
              refine XT.call rfl rfl Try.call24 rfl rfl rfl (cloneB _ _ _ (by omega)) (fun v14 s14 R14 => ?_) ?_
              · skip
                obtain ⟨h14, rfl, O14⟩ := R14
                dsimp only [List.cons_append, List.nil_append]
                refine ⟨inferInstance, ?_⟩
                refine XT.lit [_] [_] [-1] encI rfl rfl (by rfl) (by rfl) rfl (by rfl) (by exact .c 0 1 rfl rfl rfl (.n _)) (fun _ => rfl) (by rfl) rfl (by infer_instance) rfl (fun v15 h15 O15 => ⟨inferInstance, ?_⟩) XT.stop
                refine XT.call rfl rfl Try.call66 rfl rfl rfl (repeatI _ _ _ S (by omega)) (fun v18 s18 R18 => ?_) XT.stop
                obtain ⟨h18, rfl, O18⟩ := R18
                dsimp only [List.cons_append, List.nil_append]
                refine ⟨inferInstance, ?_⟩
                refine XT.q rfl rfl (Q.build [_, _, _] (.c 0 1 rfl rfl rfl (.c 1 1 rfl rfl rfl (.c 2 1 rfl rfl rfl (.n _))))) ?_
                refine XT.st rfl rfl rfl rfl rfl ⟨inferInstance, ?_⟩ XT.stop
                refine XT.done ?_
                exact mtr1 ((b3, v14, h14, v18, h18, v21, h21)) _ _ ⟨O14, O18, O21⟩ (.c rfl (.base 12 rfl rfl)) inferInstance
              · skip
                refine XT.lit [_] [_] [-1] encI rfl rfl (by rfl) (by rfl) rfl (by rfl) (by exact .c 0 1 rfl rfl rfl (.n _)) (fun _ => rfl) (by rfl) rfl (by infer_instance) rfl (fun v15 h15 O15 => ⟨inferInstance, ?_⟩) XT.stop
                refine XT.call rfl rfl Try.call24 rfl rfl rfl (cloneB _ _ _ (by omega)) (fun v14 s14 R14 => ?_) XT.stop
                obtain ⟨h14, rfl, O14⟩ := R14
                dsimp only [List.cons_append, List.nil_append]
                refine ⟨inferInstance, ?_⟩
                refine XT.call rfl rfl Try.call66 rfl rfl rfl (repeatI _ _ _ S (by omega)) (fun v18 s18 R18 => ?_) XT.stop
                obtain ⟨h18, rfl, O18⟩ := R18
                dsimp only [List.cons_append, List.nil_append]
                refine ⟨inferInstance, ?_⟩
                refine XT.q rfl rfl (Q.build [_, _, _] (.c 0 1 rfl rfl rfl (.c 1 1 rfl rfl rfl (.c 2 1 rfl rfl rfl (.n _))))) ?_
                refine XT.st rfl rfl rfl rfl rfl ⟨inferInstance, ?_⟩ XT.stop
                refine XT.done ?_
                exact mtr1 ((b3, v14, h14, v18, h18, v21, h21)) _ _ ⟨O14, O18, O21⟩ (.c rfl (.base 12 rfl rfl)) inferInstance
end Go.X
