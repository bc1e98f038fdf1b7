/- A part of the proof: a small program logic, plain laws and contracts of functions, each proved by a walk through its operations. No condition but those that stand in each theorem. -/
import Derived.Test.YteofmoaloiaadaaA2
import Derived.KernelRfl
import Derived.Test.YteofmoaloiaadaaProg
/- Energy is balanced. No condition. -/
set_option linter.unusedVariables false
namespace Go.X
def sumI (f : Nat → Int) : Nat → Int
  | 0 => 0
  | n + 1 => sumI f n + f n
theorem sumI_congr {f g : Nat → Int} : ∀ n, (∀ j, j < n → f j = g j) → sumI f n = sumI g n
  | 0, _ => rfl
  | n + 1, h => by rw [sumI, sumI, sumI_congr n (fun j hj => h j (by omega)), h n (by omega)]
theorem sumI_upd {f g : Nat → Int} {i : Nat} : ∀ n, i < n → (∀ j, j < n → j ≠ i → g j = f j) → sumI g n = sumI f n + (g i - f i)
  | 0, h, _ => absurd h (Nat.not_lt_zero i)
  | n + 1, h, hg => by
    rw [sumI, sumI]
    rcases Nat.lt_or_ge i n with h1 | h1
    · rw [sumI_upd n h1 (fun j hj hne => hg j (by omega) hne), hg n (by omega) (by omega)]; omega
    · obtain rfl : i = n := by omega
      rw [sumI_congr i (fun j hj => hg j (by omega) (by omega))]; omega
theorem sumI_add {f g : Nat → Int} : ∀ n, sumI (fun j => f j + g j) n = sumI f n + sumI g n
  | 0 => rfl
  | n + 1 => by rw [sumI, sumI, sumI, sumI_add n]; omega
theorem sumI_zero {f : Nat → Int} : ∀ n, (∀ j, j < n → f j = 0) → sumI f n = 0
  | 0, _ => rfl
  | n + 1, h => by rw [sumI, sumI_zero n (fun j hj => h j (by omega)), h n (by omega)]; rfl
theorem sumI_nonneg {f : Nat → Int} : ∀ n, (∀ j, j < n → 0 ≤ f j) → 0 ≤ sumI f n
  | 0, _ => Int.le_refl _
  | n + 1, h => by
    have := sumI_nonneg n (fun j hj => h j (by omega))
    have := h n (by omega)
    rw [sumI]; omega
abbrev dI (l : List Int) (j : Nat) : Int := l.getD j default
abbrev dN (l : List BCell) (j : Nat) : Int := (l.getD j default).now
theorem genTo_rest {c : Nat → Int} {u : List Int} {need : Int} : ∀ i, i ≤ u.length → (genTo c u need i).1.length = u.length ∧ ∀ j, i ≤ j → (genTo c u need i).1.getD j default = u.getD j default
  | 0, _ => ⟨rfl, fun j _ => rfl⟩
  | i + 1, hi => by
    obtain ⟨h1, h2⟩ := genTo_rest (c := c) (u := u) (need := need) i (by omega)
    refine ⟨by rw [genTo]; simp [h1], fun j hj => ?_⟩
    rw [genTo]
    dsimp only
    rw [getD_set' (by omega), if_neg (by omega), h2 j (by omega)]
theorem genTo_sum {c : Nat → Int} {u : List Int} {need : Int} {n : Nat} (hn : u.length = n) : ∀ i, i ≤ n → sumI (dI (genTo c u need i).1) n = sumI (dI u) n + need - (genTo c u need i).2
  | 0, _ => by rw [genTo]; dsimp only; omega
  | i + 1, hi => by
    obtain ⟨h1, h2⟩ := genTo_rest (c := c) (u := u) (need := need) i (by omega)
    have ih := genTo_sum (c := c) (need := need) hn i (by omega)
    rw [genTo]
    dsimp only
    rw [sumI_upd (f := dI (genTo c u need i).1) (i := i) n (by omega) (fun j hj hne => by
      show List.getD _ _ _ = _
      rw [getD_set' (by omega), if_neg (by omega)])]
    show _ + (List.getD _ _ _ - List.getD _ _ _) = _
    rw [getD_set' (by omega), if_pos rfl]
    omega
theorem genTo_left {c : Nat → Int} {u : List Int} {need : Int} {n : Nat} (h : UsedOk c n u) (hn : 0 ≤ need) : ∀ i, i ≤ n → (genTo c u need i).2 = max (need - spareTo c u i) 0
  | 0, _ => by rw [genTo, spareTo]; omega
  | i + 1, hi => by
    have hl := h.len
    obtain ⟨h1, h2⟩ := genTo_rest (c := c) (u := u) (need := need) i (by omega)
    have hb := h.b i (by omega)
    rw [genTo, spareTo, genTo_left h hn i (by omega), h2 i (Nat.le_refl _)]
    omega
theorem giveTo_sum {cs : List BCell} {need : Int} {n : Nat} (hn : cs.length = n) : ∀ i, i ≤ n → (giveTo cs need i).1.length = n ∧ sumI (dN (giveTo cs need i).1) n = sumI (dN cs) n - (need - (giveTo cs need i).2)
  | 0, _ => ⟨hn, by rw [giveTo]; dsimp only; omega⟩
  | i + 1, hi => by
    obtain ⟨hl, ih⟩ := giveTo_sum (need := need) hn i (by omega)
    refine ⟨by rw [giveTo]; simp [hl], ?_⟩
    rw [giveTo]
    dsimp only
    rw [sumI_upd (f := dN (giveTo cs need i).1) (i := i) n (by omega) (fun j hj hne => by
      show BCell.now (List.getD _ _ _) = _
      rw [getD_set' (by omega), if_neg (by omega)])]
    show _ + (BCell.now (List.getD _ _ _) - BCell.now (List.getD _ _ _)) = _
    rw [getD_set' (by omega), if_pos rfl]
    dsimp only
    omega
theorem takeTo_sum {cs : List BCell} {sp : Int} {n : Nat} (hn : cs.length = n) : ∀ i, i ≤ n → (takeTo cs sp i).1.length = n ∧ sumI (dN (takeTo cs sp i).1) n = sumI (dN cs) n + (takeTo cs sp i).2
  | 0, _ => ⟨hn, by rw [takeTo]; dsimp only; omega⟩
  | i + 1, hi => by
    obtain ⟨hl, ih⟩ := takeTo_sum (sp := sp) hn i (by omega)
    refine ⟨by rw [takeTo]; simp [hl], ?_⟩
    rw [takeTo]
    dsimp only
    rw [sumI_upd (f := dN (takeTo cs sp i).1) (i := i) n (by omega) (fun j hj hne => by
      show BCell.now (List.getD _ _ _) = _
      rw [getD_set' (by omega), if_neg (by omega)])]
    show _ + (BCell.now (List.getD _ _ _) - BCell.now (List.getD _ _ _)) = _
    rw [getD_set' (by omega), if_pos rfl]
    dsimp only
    omega
theorem addTo_sum {bs us : List Int} {n : Nat} (hn : bs.length = n) : sumI (dI (addTo bs us n)) n = sumI (dI bs) n + sumI (dI us) n := by
  obtain ⟨h1, h2⟩ := addTo_at (bs := bs) (us := us) n (by omega)
  rw [← sumI_add]
  refine sumI_congr n fun j hj => ?_
  show List.getD _ _ _ = _
  rw [h2, if_pos hj]
/-! ### batteries stay what they are -/
def SameBat (cs ds : List BCell) : Prop := ∀ j, (cs.getD j default).bat = (ds.getD j default).bat
theorem SameBat.rfl' (cs : List BCell) : SameBat cs cs := fun j => rfl
theorem SameBat.set {cs ds : List BCell} (h : SameBat cs ds) (i : Nat) (m : Int) : SameBat (cs.set i { bat := (cs.getD i default).bat, now := m }) ds := fun j => by
  rcases Nat.lt_or_ge i cs.length with hi | hi
  · rw [getD_set' hi]
    split
    · rename_i he; subst he; exact h i
    · exact h j
  · rw [List.set_eq_of_length_le hi]; exact h j
theorem giveTo_bat (cs : List BCell) (need : Int) : ∀ i, SameBat (giveTo cs need i).1 cs
  | 0 => SameBat.rfl' cs
  | i + 1 => by rw [giveTo]; exact (giveTo_bat cs need i).set i _
theorem takeTo_bat (cs : List BCell) (sp : Int) : ∀ i, SameBat (takeTo cs sp i).1 cs
  | 0 => SameBat.rfl' cs
  | i + 1 => by rw [takeTo]; exact (takeTo_bat cs sp i).set i _
theorem second_bat (gens : List BGen) (sts : List Int) (t load : Int) (strict : Bool) (s : BSt) : SameBat (secondP gens sts t load strict s).2.cells s.cells := by
  unfold secondP
  split
  · split
    · exact SameBat.rfl' _
    · exact giveTo_bat _ _ _
  · exact takeTo_bat _ _ _
theorem play_bat (gens : List BGen) (sts : List Int) (strict : Bool) (pw : List Int) (s0 : BSt) : ∀ i, SameBat (playTo gens sts strict pw s0 i).cells s0.cells
  | 0 => SameBat.rfl' _
  | i + 1 => fun j => (second_bat _ _ _ _ _ _ j).trans (play_bat gens sts strict pw s0 i j)
theorem begun_at {b : BBank} {j : Nat} (hj : j < b.bats.length) : (begun b).cells.getD j default = ⟨b.bats.getD j default, (b.bats.getD j default).energy⟩ := by
  simp [begun, List.getD_eq_getElem?_getD, List.getElem?_map, List.getElem?_eq_getElem hj]
theorem state_bat (b : BBank) (pw fs : List Int) (strict : Bool) (i : Nat) {j : Nat} (hj : j < b.bats.length) : ((stateP b pw fs strict i).cells.getD j default).bat = b.bats.getD j default := by
  rw [stateP, play_bat, begun_at hj]
/-! ### the balance -/
def BalOk (b : BBank) (s : BSt) : Prop := s.served + (sumI (dN s.cells) b.bats.length - sumI (fun j => (b.bats.getD j default).energy) b.bats.length) - sumI (dI s.burnt) b.gens.length = 0
theorem bal_second {b : BBank} {sts : List Int} (p : PlayOk b.gens sts) {t load : Int} (h2 : t ≤ 20000) (h3 : 0 ≤ load) {k : Nat} {s : BSt} (h : StOk sts b.bats.length k s) (strict : Bool) (hb : BalOk b s) : BalOk b (secondP b.gens sts t load strict s).2 := by
  have hg := gen0_ok p h2 h3
  have hn := p.n
  have hz : sumI (dI (List.replicate sts.length 0)) sts.length = 0 := sumI_zero _ fun j hj => by
    show List.getD _ _ _ = _
    rw [List.getD_eq_getElem?_getD, List.getElem?_replicate, if_pos hj]; rfl
  have hs0 : sumI (dI (gen0 b.gens sts t load).1) sts.length = load - (gen0 b.gens sts t load).2 := by
    rw [gen0, genTo_sum (by simp) _ (Nat.le_refl _), hz]; omega
  unfold BalOk at *
  rw [← hn] at hb ⊢
  unfold secondP
  split
  · split
    · dsimp only; exact hb
    · dsimp only
      have e1 := (giveTo_sum (need := (gen0 b.gens sts t load).2) h.c.len b.bats.length (Nat.le_refl _)).2
      rw [addTo_sum h.b.len, hs0]
      rw [give0, h.c.len, e1]
      omega
  · rename_i h0
    dsimp only
    have e1 := (takeTo_sum (sp := spare0 b.gens sts t load) h.c.len b.bats.length (Nat.le_refl _)).2
    have ht := take0_ok p h2 h3 h
    have htk := (takeTo_ok h.c (spare0_ok p h2 h3).1 b.bats.length (Nat.le_refl _)).2.2
    have hz1 : (gen1 b.gens sts t load s).2 = 0 := by
      rw [gen1, genTo_left hg.1 ht.2.1 _ (Nat.le_refl _)]
      have : (take0 b.gens sts t load s).2 ≤ spareTo (canAt b.gens sts t) (gen0 b.gens sts t load).1 sts.length := by
        rw [take0, h.c.len]; exact htk
      omega
    have hs1 : sumI (dI (gen1 b.gens sts t load s).1) sts.length = load - (gen0 b.gens sts t load).2 + (take0 b.gens sts t load s).2 := by
      have := genTo_sum (c := canAt b.gens sts t) (need := (take0 b.gens sts t load s).2) hg.1.len sts.length (Nat.le_refl _)
      rw [gen1] at hz1 ⊢
      rw [this, hs0, hz1]; omega
    rw [addTo_sum h.b.len, hs1, take0, h.c.len, e1]
    omega
theorem bal_play {b : BBank} (ok : BOk b) {pw fs : List Int} (fk : FOk b fs) (hw : PwOk pw) (strict : Bool) : ∀ i, i ≤ pw.length → BalOk b (stateP b pw fs strict i)
  | 0, _ => by
    unfold BalOk
    show (0 : Int) + (sumI (dN (begun b).cells) _ - _) - sumI (dI (begun b).burnt) _ = 0
    rw [sumI_congr (g := fun j => (b.bats.getD j default).energy) b.bats.length (fun j hj => by show BCell.now (List.getD _ _ _) = _; rw [begun_at hj]), sumI_zero b.gens.length (fun j hj => by
      show List.getD _ _ _ = _
      rw [begun, List.getD_eq_getElem?_getD, List.getElem?_replicate, if_pos hj]; rfl)]
    omega
  | i + 1, hi => bal_second (playOk ok fk) (by have := hw.n; omega) (hw.p i (by omega)).1 (playTo_ok (playOk ok fk) hw (begun_ok ok fk) strict i (by omega)) strict (bal_play ok fk hw strict i (by omega))
/-! ### what was served -/
theorem second_served {gens : List BGen} {sts : List Int} {t load : Int} {s : BSt} (h : ¬ 0 < (secondP gens sts t load true s).1) (h0 : 0 ≤ (secondP gens sts t load true s).1) : (secondP gens sts t load true s).2.served = s.served + load := by
  unfold secondP at *
  split at h
  · split at h
    · dsimp only at h; rename_i a b2; omega
    · rename_i a b2
      rw [if_pos a, if_neg b2] at h0 ⊢
      dsimp only at *
      omega
  · rename_i a
    rw [if_neg a] at h0 ⊢
    dsimp only at *
    omega
theorem served_play {b : BBank} (ok : BOk b) {pw fs : List Int} (fk : FOk b fs) (hw : PwOk pw) : ∀ i, i ≤ pw.length → (∀ j, j < i → isDark b pw fs j = false) → (stateP b pw fs true i).served = sumI (dI pw) i
  | 0, _, _ => rfl
  | i + 1, hi, hd => by
    have h1 := served_play ok fk hw i (by omega) (fun j hj => hd j (by omega))
    have h2 := hd i (by omega)
    have h3 := (lackAt_ok (playOk ok fk) hw (begun_ok ok fk) true (i := i) (by omega)).1
    unfold isDark at h2
    rw [decide_eq_false_iff_not] at h2
    have := second_served (gens := b.gens) (sts := startsP b fs) (t := (i : Nat)) (load := pw.getD i default) (s := stateP b pw fs true i) h2 h3
    rw [sumI, ← h1]
    exact this
theorem end_ok (b : BBank) (pw fs : List Int) : endP b pw fs ≤ pw.length ∧ (∀ j, j < endP b pw fs → isDark b pw fs j = false) ∧ ((darkP b pw fs = -1 ∧ endP b pw fs = pw.length) ∨ (darkP b pw fs = (endP b pw fs : Nat) ∧ endP b pw fs < pw.length)) := by
  rcases dark_cases b pw fs with ⟨h1, h2⟩ | ⟨m, h1, h2, h3, h4⟩
  · have e : endP b pw fs = pw.length := (run_never h2).2
    rw [e]; exact ⟨Nat.le_refl _, h2, .inl ⟨h1, rfl⟩⟩
  · have e : endP b pw fs = m := (run_here h1 h4 h3).2
    rw [e]; exact ⟨by omega, h4, .inr ⟨h2, h1⟩⟩
theorem energies_at {cs : List BCell} {j : Nat} (hj : j < cs.length) : (energiesP cs).getD j default = (cs.getD j default).now := by
  rw [energiesP, List.getD_eq_getElem?_getD, List.getElem?_map, List.getElem?_eq_getElem hj, List.getD_eq_getElem?_getD, List.getElem?_eq_getElem hj]; rfl
/-- All that the law of the balance asks. -/
theorem balance_law {b : BBank} (ok : BOk b) {pw fs : List Int} (fk : FOk b fs) (hw : PwOk pw) :
    (runP b pw fs).energy.length = b.bats.length ∧ (runP b pw fs).burnt.length = b.gens.length ∧
    ((runP b pw fs).served + sumI (fun j => (runP b pw fs).energy.getD j default - (b.bats.getD j default).energy) b.bats.length) + sumI (fun j => - (runP b pw fs).burnt.getD j default) b.gens.length = 0 ∧
    sumI (fun j => if (runP b pw fs).dark < 0 ∨ (j : Int) < (runP b pw fs).dark then pw.getD j default else 0) pw.length = (runP b pw fs).served := by
  obtain ⟨h1, h2, h3⟩ := end_ok b pw fs
  have so := playTo_ok (playOk ok fk) hw (begun_ok ok fk) true (endP b pw fs) h1
  have hb := bal_play ok fk hw true (endP b pw fs) h1
  have hs := served_play ok fk hw (endP b pw fs) h1 h2
  have sl : (startsP b fs).length = b.gens.length := startsTo_len _ _ _
  have hcl : (stateP b pw fs true (endP b pw fs)).cells.length = b.bats.length := so.c.len
  refine ⟨by show (energiesP _).length = _; rw [energiesP, List.length_map]; exact hcl, so.b.len.trans sl, ?_, ?_⟩
  · unfold BalOk at hb
    have e1 : sumI (fun j => (runP b pw fs).energy.getD j default - (b.bats.getD j default).energy) b.bats.length = sumI (dN (stateP b pw fs true (endP b pw fs)).cells) b.bats.length - sumI (fun j => (b.bats.getD j default).energy) b.bats.length := by
      have : ∀ n, n ≤ b.bats.length → sumI (fun j => (runP b pw fs).energy.getD j default - (b.bats.getD j default).energy) n = sumI (dN (stateP b pw fs true (endP b pw fs)).cells) n - sumI (fun j => (b.bats.getD j default).energy) n := by
        intro n
        induction n with
        | zero => intro _; rfl
        | succ n ih =>
          intro hn
          rw [sumI, sumI, sumI, ih (by omega)]
          have : (runP b pw fs).energy.getD n default = ((stateP b pw fs true (endP b pw fs)).cells.getD n default).now := energies_at (by rw [hcl]; omega)
          rw [this]
          show _ = (_ + BCell.now (List.getD _ _ _)) - (_ + _)
          omega
      exact this _ (Nat.le_refl _)
    have e2 : ∀ n, sumI (fun j => - (runP b pw fs).burnt.getD j default) n = - sumI (dI (stateP b pw fs true (endP b pw fs)).burnt) n := by
      intro n
      induction n with
      | zero => rfl
      | succ n ih =>
        rw [sumI, sumI, ih]
        show _ + - (stateP b pw fs true (endP b pw fs)).burnt.getD n default = - (_ + (stateP b pw fs true (endP b pw fs)).burnt.getD n default)
        omega
    rw [e1, e2]
    show (stateP b pw fs true (endP b pw fs)).served + _ + _ = 0
    omega
  · show sumI (fun j => if darkP b pw fs < 0 ∨ (j : Int) < darkP b pw fs then pw.getD j default else 0) pw.length = (stateP b pw fs true (endP b pw fs)).served
    rw [hs]
    rcases h3 with ⟨h4, h5⟩ | ⟨h4, h5⟩
    · rw [h5]
      exact sumI_congr _ fun j hj => by rw [if_pos (by rw [h4]; exact .inl (by decide))]
    · have : ∀ n, endP b pw fs + n ≤ pw.length → sumI (fun j => if darkP b pw fs < 0 ∨ (j : Int) < darkP b pw fs then pw.getD j default else 0) (endP b pw fs + n) = sumI (dI pw) (endP b pw fs) := by
        intro n
        induction n with
        | zero =>
          intro _
          exact sumI_congr _ fun j hj => by rw [if_pos (by rw [h4]; right; omega)]
        | succ n ih =>
          intro hn
          rw [← Nat.add_assoc, sumI, ih (by omega), if_neg (by rw [h4]; omega)]; omega
      have := this (pw.length - endP b pw fs) (by omega)
      rwa [show endP b pw fs + (pw.length - endP b pw fs) = pw.length by omega] at this
theorem rowsTo_at (b : BBank) (pw fs : List Int) {i : Nat} : ∀ n, i < n → (rowsTo b pw fs n).getD i default = energiesP (stateP b pw fs true (i + 1)).cells
  | 0, h => absurd h (Nat.not_lt_zero i)
  | n + 1, h => by
    have hl : ∀ m, (rowsTo b pw fs m).length = m := by
      intro m
      induction m with
      | zero => rfl
      | succ m ih => rw [rowsTo, List.length_append, ih]; rfl
    rw [rowsTo, List.getD_eq_getElem?_getD, List.getElem?_append]
    split
    · rename_i h1
      rw [hl] at h1
      rw [← List.getD_eq_getElem?_getD]; exact rowsTo_at b pw fs n h1
    · rename_i h1
      rw [hl] at h1
      have : i = n := by omega
      subst this
      simp [hl]
theorem row_ok {b : BBank} (ok : BOk b) {pw fs : List Int} (fk : FOk b fs) (hw : PwOk pw) {i j : Nat} (hi : i < endP b pw fs) (hj : j < b.bats.length) :
    ((traceP b pw fs).getD i default).length = b.bats.length ∧ 0 ≤ ((traceP b pw fs).getD i default).getD j default ∧ ((traceP b pw fs).getD i default).getD j default ≤ (b.bats.getD j default).full := by
  have h1 := (end_ok b pw fs).1
  have so : StOk (startsP b fs) b.bats.length (i + 1) (stateP b pw fs true (i + 1)) := playTo_ok (playOk ok fk) hw (begun_ok ok fk) true (i + 1) (by omega)
  have e : (traceP b pw fs).getD i default = energiesP (stateP b pw fs true (i + 1)).cells := rowsTo_at b pw fs _ hi
  have cl := so.c.len
  have hb := state_bat b pw fs true (i + 1) hj
  have ck := so.c.ok j hj
  rw [e, energies_at (by omega)]
  refine ⟨by rw [energiesP, List.length_map]; exact cl, ck.n0, ?_⟩
  rw [← hb]; exact ck.nf
theorem trace_len (b : BBank) (pw fs : List Int) : (traceP b pw fs).length = endP b pw fs := by
  unfold traceP
  generalize endP b pw fs = n
  induction n with
  | zero => rfl
  | succ n ih => rw [rowsTo, List.length_append, ih]; rfl
theorem trace_last {b : BBank} {pw fs : List Int} (h : 0 < endP b pw fs) : (traceP b pw fs).getD (endP b pw fs - 1) default = (runP b pw fs).energy := by
  rw [traceP, rowsTo_at b pw fs _ (by omega), show endP b pw fs - 1 + 1 = endP b pw fs by omega]; rfl
end Go.X

/- Sums as the loops form them; bounds. No condition. -/
set_option linter.unusedVariables false
namespace Go.X
def accI (s : Int) (f : Nat → Int) : Nat → Int
  | 0 => s
  | n + 1 => accI s f n + f n
def decI (s : Int) (f : Nat → Int) : Nat → Int
  | 0 => s
  | n + 1 => decI s f n - f n
theorem accI_eq (s : Int) (f : Nat → Int) : ∀ n, accI s f n = s + sumI f n
  | 0 => by rw [accI, sumI]; omega
  | n + 1 => by rw [accI, sumI, accI_eq s f n]; omega
theorem decI_eq (s : Int) (f : Nat → Int) : ∀ n, decI s f n = s + sumI (fun j => - f j) n
  | 0 => by rw [decI, sumI]; omega
  | n + 1 => by rw [decI, sumI, decI_eq s f n]; omega
theorem accI_rng {s : Int} {f : Nat → Int} {B : Int} (hB : 0 ≤ B) : ∀ n, (∀ j, j < n → -B ≤ f j ∧ f j ≤ B) → s - B * n ≤ accI s f n ∧ accI s f n ≤ s + B * n
  | 0, _ => by rw [accI]; constructor <;> simp
  | n + 1, h => by
    have h1 := accI_rng (s := s) hB n (fun j hj => h j (by omega))
    have h2 := h n (by omega)
    rw [accI]
    have e : B * ((n + 1 : Nat) : Int) = B * n + B := by rw [Int.natCast_add, Int.mul_add]; simp
    rw [e]; omega
theorem decI_rng {s : Int} {f : Nat → Int} {B : Int} (hB : 0 ≤ B) : ∀ n, (∀ j, j < n → -B ≤ f j ∧ f j ≤ B) → s - B * n ≤ decI s f n ∧ decI s f n ≤ s + B * n
  | 0, _ => by rw [decI]; constructor <;> simp
  | n + 1, h => by
    have h1 := decI_rng (s := s) hB n (fun j hj => h j (by omega))
    have h2 := h n (by omega)
    rw [decI]
    have e : B * ((n + 1 : Nat) : Int) = B * n + B := by rw [Int.natCast_add, Int.mul_add]; simp
    rw [e]; omega
theorem run_rng {b : BBank} (ok : BOk b) {pw fs : List Int} (fk : FOk b fs) (hw : PwOk pw) :
    (-1 ≤ (runP b pw fs).dark ∧ (runP b pw fs).dark ≤ 20000) ∧ (0 ≤ (runP b pw fs).served ∧ (runP b pw fs).served ≤ 20000000000) ∧
    (∀ j, j < b.bats.length → 0 ≤ (runP b pw fs).energy.getD j default ∧ (runP b pw fs).energy.getD j default ≤ 100000000000) ∧
    (∀ j, j < b.gens.length → 0 ≤ (runP b pw fs).burnt.getD j default ∧ (runP b pw fs).burnt.getD j default ≤ 20000000000) ∧
    (runP b pw fs).energy.length = b.bats.length ∧ (runP b pw fs).burnt.length = b.gens.length := by
  obtain ⟨h1, h2, h3⟩ := end_ok b pw fs
  have so : StOk (startsP b fs) b.bats.length (endP b pw fs) (stateP b pw fs true (endP b pw fs)) := playTo_ok (playOk ok fk) hw (begun_ok ok fk) true (endP b pw fs) h1
  have sl : (startsP b fs).length = b.gens.length := startsTo_len _ _ _
  have hcl := so.c.len
  have h20 := hw.n
  have s1 := so.s1
  refine ⟨?_, ⟨so.s0, ?_⟩, fun j hj => ?_, fun j hj => ?_, ?_, so.b.len.trans sl⟩
  · show -1 ≤ darkP b pw fs ∧ darkP b pw fs ≤ 20000
    omega
  · show (stateP b pw fs true (endP b pw fs)).served ≤ _
    omega
  · show 0 ≤ (energiesP (stateP b pw fs true (endP b pw fs)).cells).getD j default ∧ (energiesP (stateP b pw fs true (endP b pw fs)).cells).getD j default ≤ _
    rw [energies_at (by omega)]
    have ck := so.c.ok j hj
    have := ck.nf; have := ck.f1
    exact ⟨ck.n0, by omega⟩
  · have := so.b.b j (by omega)
    show 0 ≤ (stateP b pw fs true (endP b pw fs)).burnt.getD j default ∧ (stateP b pw fs true (endP b pw fs)).burnt.getD j default ≤ _
    omega
  · show (energiesP _).length = _
    rw [energiesP, List.length_map]; exact hcl
theorem row_len {b : BBank} (ok : BOk b) {pw fs : List Int} (fk : FOk b fs) (hw : PwOk pw) {i : Nat} (hi : i < endP b pw fs) : ((traceP b pw fs).getD i default).length = b.bats.length := by
  have h1 := (end_ok b pw fs).1
  have so : StOk (startsP b fs) b.bats.length (i + 1) (stateP b pw fs true (i + 1)) := playTo_ok (playOk ok fk) hw (begun_ok ok fk) true (i + 1) (by omega)
  have e : (traceP b pw fs).getD i default = energiesP (stateP b pw fs true (i + 1)).cells := rowsTo_at b pw fs _ hi
  rw [e, energiesP, List.length_map]; exact so.c.len
end Go.X

/- More energy, smaller loads, fewer fails. No condition. -/
set_option linter.unusedVariables false
namespace Go.X
theorem sumI_le {f g : Nat → Int} : ∀ n, (∀ j, j < n → f j ≤ g j) → sumI f n ≤ sumI g n
  | 0, _ => Int.le_refl _
  | n + 1, h => by
    have := sumI_le n (fun j hj => h j (by omega))
    have := h n (by omega)
    rw [sumI, sumI]; omega
theorem spareTo_eq (c : Nat → Int) (u : List Int) : ∀ n, spareTo c u n = sumI c n - sumI (dI u) n
  | 0 => rfl
  | n + 1 => by rw [spareTo, sumI, sumI, spareTo_eq c u n]; show _ = _ - (_ + List.getD _ _ _); omega
theorem rep_sum (n : Nat) : sumI (dI (List.replicate n 0)) n = 0 := sumI_zero _ fun j hj => by
  show List.getD _ _ _ = _
  rw [List.getD_eq_getElem?_getD, List.getElem?_replicate, if_pos hj]; rfl
theorem gen0_need {gens : List BGen} {sts : List Int} (p : PlayOk gens sts) {t load : Int} (h2 : t ≤ 20000) (h3 : 0 ≤ load) : (gen0 gens sts t load).2 = max (load - sumI (canAt gens sts t) sts.length) 0 := by
  rw [gen0, genTo_left (zero_used fun j hj => (canAt_ok p h2 hj).1) h3 _ (Nat.le_refl _), spareTo_eq, rep_sum]; omega
theorem spare0_eq {gens : List BGen} {sts : List Int} (p : PlayOk gens sts) {t load : Int} (h2 : t ≤ 20000) (h3 : 0 ≤ load) : spare0 gens sts t load = sumI (canAt gens sts t) sts.length - (load - (gen0 gens sts t load).2) := by
  rw [spare0, spareTo_eq]
  have := genTo_sum (c := canAt gens sts t) (u := List.replicate sts.length 0) (need := load) (n := sts.length) (by simp) sts.length (Nat.le_refl _)
  rw [rep_sum] at this
  rw [gen0, this]; omega
def CLe (n : Nat) (cs ds : List BCell) : Prop := ∀ j, j < n → (cs.getD j default).bat.full = (ds.getD j default).bat.full ∧ (cs.getD j default).bat.power = (ds.getD j default).bat.power ∧ (cs.getD j default).bat.charge = (ds.getD j default).bat.charge ∧ (cs.getD j default).now ≤ (ds.getD j default).now
theorem CLe.refl (n : Nat) (cs : List BCell) : CLe n cs cs := fun j hj => ⟨rfl, rfl, rfl, Int.le_refl _⟩
theorem CLe.trans {n : Nat} {a b c : List BCell} (h1 : CLe n a b) (h2 : CLe n b c) : CLe n a c := fun j hj => by
  obtain ⟨p, q, r, s⟩ := h1 j hj
  obtain ⟨p2, q2, r2, s2⟩ := h2 j hj
  exact ⟨p.trans p2, q.trans q2, r.trans r2, Int.le_trans s s2⟩
theorem CLe.set {n i : Nat} {cs ds : List BCell} (h : CLe n cs ds) (l1 : cs.length = n) (l2 : ds.length = n) (hi : i < n) {x y : Int} (hxy : x ≤ y) :
    CLe n (cs.set i { bat := (cs.getD i default).bat, now := x }) (ds.set i { bat := (ds.getD i default).bat, now := y }) := fun j hj => by
  rw [getD_set' (by omega), getD_set' (by omega)]
  obtain ⟨p, q, r, s⟩ := h j hj
  split
  · rename_i he; subst he; exact ⟨p, q, r, hxy⟩
  · exact ⟨p, q, r, s⟩
theorem giveTo_le {n : Nat} {cs ds : List BCell} {m1 m2 : Int} (k1 : CellsOk n cs) (k2 : CellsOk n ds) (h : CLe n cs ds) (h0 : 0 ≤ m2) (hm : m2 ≤ m1) : ∀ i, i ≤ n → CLe n (giveTo cs m1 i).1 (giveTo ds m2 i).1 ∧ (giveTo ds m2 i).2 ≤ (giveTo cs m1 i).2
  | 0, _ => ⟨h, hm⟩
  | i + 1, hi => by
    obtain ⟨h1, h2⟩ := giveTo_le k1 k2 h h0 hm i (by omega)
    have a := giveTo_ok k1 (need := m1) (by omega) i (by omega)
    have b := giveTo_ok k2 (need := m2) h0 i (by omega)
    obtain ⟨p, q, r, s⟩ := h1 i (by omega)
    have ca := a.1.ok i (by omega)
    have cb := b.1.ok i (by omega)
    have n1 := ca.n0; have n2 := cb.n0; have p1 := ca.p0
    rw [giveTo, giveTo]
    dsimp only
    unfold giveC
    refine ⟨h1.set a.1.len b.1.len (by omega) ?_, ?_⟩
    · rw [← q]; omega
    · rw [← q]; omega
theorem takeTo_le {n : Nat} {cs ds : List BCell} {m1 m2 : Int} (k1 : CellsOk n cs) (k2 : CellsOk n ds) (h : CLe n cs ds) (h0 : 0 ≤ m1) (hm : m1 ≤ m2) : ∀ i, i ≤ n → CLe n (takeTo cs m1 i).1 (takeTo ds m2 i).1 ∧ m1 - (takeTo cs m1 i).2 ≤ m2 - (takeTo ds m2 i).2
  | 0, _ => ⟨h, by rw [takeTo, takeTo]; dsimp only; omega⟩
  | i + 1, hi => by
    obtain ⟨h1, h2⟩ := takeTo_le k1 k2 h h0 hm i (by omega)
    have a := takeTo_ok k1 (sp := m1) h0 i (by omega)
    have b := takeTo_ok k2 (sp := m2) (by omega) i (by omega)
    obtain ⟨p, q, r, s⟩ := h1 i (by omega)
    have ca := a.1.ok i (by omega)
    have cb := b.1.ok i (by omega)
    have n1 := ca.nf; have n2 := cb.nf; have c1 := ca.c0
    rw [takeTo, takeTo]
    dsimp only
    unfold takeC
    refine ⟨h1.set a.1.len b.1.len (by omega) ?_, ?_⟩
    · rw [← p, ← r]; omega
    · rw [← p, ← r]; omega
theorem giveTo_less {n : Nat} {cs : List BCell} {m : Int} (k : CellsOk n cs) (h0 : 0 ≤ m) : ∀ i, i ≤ n → CLe n (giveTo cs m i).1 cs
  | 0, _ => CLe.refl n cs
  | i + 1, hi => by
    have a := giveTo_ok k h0 i (by omega)
    have g := giveC_ok (a.1.ok i (by omega)) a.2.1
    have h1 := giveTo_less k h0 i (by omega)
    rw [giveTo]
    refine fun j hj => ?_
    obtain ⟨p, q, r, s⟩ := h1 j hj
    dsimp only
    rw [getD_set' (by have := a.1.len; omega)]
    split
    · rename_i he; subst he; exact ⟨p, q, r, by dsimp only; omega⟩
    · exact ⟨p, q, r, s⟩
theorem takeTo_more {n : Nat} {cs : List BCell} {m : Int} (k : CellsOk n cs) (h0 : 0 ≤ m) : ∀ i, i ≤ n → CLe n cs (takeTo cs m i).1
  | 0, _ => CLe.refl n cs
  | i + 1, hi => by
    have a := takeTo_ok k h0 i (by omega)
    have g := takeC_ok (a.1.ok i (by omega)) (need := m - (takeTo cs m i).2) (by omega)
    have h1 := takeTo_more k h0 i (by omega)
    rw [takeTo]
    refine fun j hj => ?_
    obtain ⟨p, q, r, s⟩ := h1 j hj
    dsimp only
    rw [getD_set' (by have := a.1.len; omega)]
    split
    · rename_i he; subst he; exact ⟨p, q, r, by dsimp only; omega⟩
    · exact ⟨p, q, r, s⟩
structure SLe (sa sb : List Int) : Prop where
  n : sa.length = sb.length
  s : ∀ i, i < sa.length → sa.getD i default = -1 ∨ (0 ≤ sb.getD i default ∧ sb.getD i default ≤ sa.getD i default)
theorem can_le {g : BGen} (gk : GenOk g) {s1 s2 t : Int} (h : s1 = -1 ∨ (0 ≤ s2 ∧ s2 ≤ s1)) : canP g s1 t ≤ canP g s2 t := by
  have := gk.p0; have := gk.r0
  unfold canP
  by_cases h1 : s1 < 0 ∨ t < s1
  · rw [if_pos h1]
    split
    · omega
    · have := Int.mul_nonneg gk.r0 (show (0 : Int) ≤ t - s2 + 1 by omega)
      omega
  · rw [if_neg h1, if_neg (by omega)]
    have := Int.mul_le_mul_of_nonneg_left (show t - s1 + 1 ≤ t - s2 + 1 by omega) gk.r0
    omega
theorem canSum_le {gens : List BGen} {sa sb : List Int} (p : PlayOk gens sa) (h : SLe sa sb) (t : Int) : sumI (canAt gens sa t) sa.length ≤ sumI (canAt gens sb t) sa.length :=
  sumI_le _ fun j hj => can_le (p.g _ (getD_memB (by have := p.n; omega))) (h.s j hj)
theorem second_le {gens : List BGen} {sa sb : List Int} (pa : PlayOk gens sa) (pb : PlayOk gens sb) (hs : SLe sa sb) {t l1 l2 : Int} (ht : t ≤ 20000) (h0 : 0 ≤ l2) (h1 : l2 ≤ l1) {n k : Nat} {u v : BSt} (ku : StOk sa n k u) (kv : StOk sb n k v) (hc : CLe n u.cells v.cells)
    (hd : ¬ 0 < (secondP gens sa t l1 true u).1) : CLe n (secondP gens sa t l1 true u).2.cells (secondP gens sb t l2 true v).2.cells ∧ ¬ 0 < (secondP gens sb t l2 true v).1 := by
  have ea := gen0_need pa ht (show 0 ≤ l1 by omega)
  have eb := gen0_need pb ht h0
  have hsum := canSum_le pa hs t
  rw [hs.n] at hsum
  rw [hs.n] at ea
  have fa := spare0_eq pa ht (show 0 ≤ l1 by omega)
  have fb := spare0_eq pb ht h0
  rw [hs.n] at fa
  have ga := gen0_ok pa ht (show 0 ≤ l1 by omega)
  have gb := gen0_ok pb ht h0
  have sa0 := spare0_ok pa ht (show 0 ≤ l1 by omega)
  have sb0 := spare0_ok pb ht h0
  unfold secondP at hd ⊢
  by_cases c1 : 0 < (gen0 gens sa t l1).2
  · rw [if_pos c1] at hd ⊢
    have hn1 : ¬ (0 < (give0 gens sa t l1 u).2 ∧ true = true) := fun h => by rw [if_pos h] at hd; exact hd h.1
    rw [if_neg hn1] at hd ⊢
    dsimp only at hd
    by_cases c2 : 0 < (gen0 gens sb t l2).2
    · rw [if_pos c2]
      have g := giveTo_le ku.c kv.c hc gb.2.1 (show (gen0 gens sb t l2).2 ≤ (gen0 gens sa t l1).2 by omega) n (Nat.le_refl _)
      have hn2 : ¬ 0 < (give0 gens sb t l2 v).2 := by
        rw [give0, ku.c.len] at hd
        rw [give0, kv.c.len]; omega
      rw [if_neg (fun h => hn2 h.1)]
      refine ⟨?_, hn2⟩
      dsimp only
      rw [give0, give0, ku.c.len, kv.c.len]; exact g.1
    · rw [if_neg c2]
      refine ⟨?_, c2⟩
      dsimp only
      rw [give0, take0, ku.c.len, kv.c.len]
      exact ((giveTo_less ku.c ga.2.1 n (Nat.le_refl _)).trans hc).trans (takeTo_more kv.c sb0.1 n (Nat.le_refl _))
  · rw [if_neg c1]
    have c2 : ¬ 0 < (gen0 gens sb t l2).2 := by omega
    rw [if_neg c2]
    refine ⟨?_, c2⟩
    dsimp only
    rw [take0, take0, ku.c.len, kv.c.len]
    exact (takeTo_le ku.c kv.c hc sa0.1 (by omega) n (Nat.le_refl _)).1
structure BLe (b c : BBank) : Prop where
  g : c.gens = b.gens
  n : c.bats.length = b.bats.length
  b : ∀ i, i < b.bats.length → (c.bats.getD i default).full = (b.bats.getD i default).full ∧ (c.bats.getD i default).power = (b.bats.getD i default).power ∧ (c.bats.getD i default).charge = (b.bats.getD i default).charge ∧ (b.bats.getD i default).energy ≤ (c.bats.getD i default).energy
structure PLe (pw pv : List Int) : Prop where
  n : pv.length = pw.length
  p : ∀ i, i < pw.length → pv.getD i default ≤ pw.getD i default
theorem starts_le {b c : BBank} (hb : BLe b c) (ok : BOk b) {fs gs : List Int} (ff : FOk b fs) (fg : FOk c gs) (h : ∀ i, i < b.gens.length → gs.getD i default ≤ fs.getD i default) : SLe (startsP b fs) (startsP c gs) := by
  have e1 : (startsP b fs).length = b.gens.length := startsTo_len _ _ _
  have e2 : (startsP c gs).length = b.gens.length := by rw [← hb.g]; exact startsTo_len _ _ _
  refine ⟨e1.trans e2.symm, fun i hi => ?_⟩
  rw [e1] at hi
  have f1 := ff.f i hi
  have f2 := fg.f i (by rw [hb.g]; exact hi)
  have f3 := h i hi
  have gk := ok.gen _ (getD_memB hi)
  rw [startsP, startsP, startsTo_at _ _ _ hi, startsTo_at _ _ _ (by rw [hb.g]; exact hi), hb.g]
  rw [hb.g] at f2
  generalize b.gens.getD i default = g at *
  unfold startP
  split
  · exact .inl rfl
  · right
    rw [if_neg (by omega)]
    have m1 := Int.mul_le_mul_of_nonneg_right (show gs.getD i default + 1 ≤ fs.getD i default + 1 by omega) gk.d0
    have m2 := Int.mul_le_mul_of_nonneg_right f3 gk.q0
    have m3 := Int.mul_nonneg (show 0 ≤ gs.getD i default + 1 by omega) gk.d0
    have m4 := Int.mul_nonneg f2.1 gk.q0
    omega
theorem play_le {b c : BBank} (hb : BLe b c) (okb : BOk b) (okc : BOk c) {fs gs pw pv : List Int} (ff : FOk b fs) (fg : FOk c gs) (h : ∀ i, i < b.gens.length → gs.getD i default ≤ fs.getD i default) (wp : PwOk pw) (wv : PwOk pv) (hp : PLe pw pv) :
    ∀ i, i ≤ pw.length → (∀ j, j < i → isDark b pw fs j = false) → CLe b.bats.length (stateP b pw fs true i).cells (stateP c pv gs true i).cells ∧ ∀ j, j < i → isDark c pv gs j = false
  | 0, _, _ => ⟨fun j hj => by
      obtain ⟨p, q, r, s⟩ := hb.b j hj
      show (List.getD (begun b).cells _ _).bat.full = (List.getD (begun c).cells _ _).bat.full ∧ _
      show _ ∧ (List.getD (begun b).cells _ _).bat.power = (List.getD (begun c).cells _ _).bat.power ∧ (List.getD (begun b).cells _ _).bat.charge = (List.getD (begun c).cells _ _).bat.charge ∧ (List.getD (begun b).cells _ _).now ≤ (List.getD (begun c).cells _ _).now
      rw [begun_at hj, begun_at (by rw [hb.n]; exact hj)]
      exact ⟨p.symm, q.symm, r.symm, s⟩, fun j hj => absurd hj (Nat.not_lt_zero j)⟩
  | i + 1, hi, hd => by
    obtain ⟨h1, h2⟩ := play_le hb okb okc ff fg h wp wv hp i (by omega) (fun j hj => hd j (by omega))
    have hdi := hd i (by omega)
    unfold isDark at hdi
    rw [decide_eq_false_iff_not] at hdi
    have ku : StOk (startsP b fs) b.bats.length i (stateP b pw fs true i) := playTo_ok (playOk okb ff) wp (begun_ok okb ff) true i (by omega)
    have kv : StOk (startsP c gs) b.bats.length i (stateP c pv gs true i) := by rw [← hb.n]; exact playTo_ok (playOk okc fg) wv (begun_ok okc fg) true i (by rw [hp.n]; omega)
    have pc := playOk okc fg
    have hl := wv.p i (by rw [hp.n]; omega)
    have hle := hp.p i (by omega)
    have h20 := wp.n
    have e1 : stateP c pv gs true (i + 1) = (secondP b.gens (startsP c gs) (i : Nat) (pv.getD i default) true (stateP c pv gs true i)).2 := by rw [← hb.g]; rfl
    have e2 : lackAt c.gens (startsP c gs) true pv (begun c) i = (secondP b.gens (startsP c gs) (i : Nat) (pv.getD i default) true (stateP c pv gs true i)).1 := by rw [← hb.g]; rfl
    obtain ⟨g1, g2⟩ := second_le (playOk okb ff) (by rw [hb.g] at pc; exact pc) (starts_le hb okb ff fg h) (t := (i : Nat)) (by omega) hl.1 hle ku kv h1 hdi
    refine ⟨by rw [e1]; exact g1, fun j hj => ?_⟩
    rcases Nat.lt_or_ge j i with h3 | h3
    · exact h2 j h3
    · obtain rfl : j = i := by omega
      rw [isDark, e2]; exact decide_eq_false g2
/-- All that the theorem asks. -/
theorem monotone_law {b c : BBank} (hb : BLe b c) (okb : BOk b) (okc : BOk c) {fs gs pw pv : List Int} (ff : FOk b fs) (fg : FOk c gs) (h : ∀ i, i < b.gens.length → gs.getD i default ≤ fs.getD i default) (wp : PwOk pw) (wv : PwOk pv) (hp : PLe pw pv) :
    laterP (darkP c pv gs) (darkP b pw fs) = true ∧ endP b pw fs ≤ endP c pv gs ∧ ∀ i j, i < endP b pw fs → j < b.bats.length → ((traceP b pw fs).getD i default).getD j default ≤ ((traceP c pv gs).getD i default).getD j default := by
  obtain ⟨a1, a2, a3⟩ := end_ok b pw fs
  obtain ⟨b1, b2, b3⟩ := end_ok c pv gs
  obtain ⟨g1, g2⟩ := play_le hb okb okc ff fg h wp wv hp _ a1 a2
  have hle : endP b pw fs ≤ endP c pv gs := by
    rcases dark_cases c pv gs with ⟨d1, d2⟩ | ⟨m, d1, d2, d3, d4⟩
    · have := hp.n; omega
    · have hm : endP c pv gs = m := by omega
      rcases Nat.lt_or_ge m (endP b pw fs) with h5 | h5
      · rw [g2 m h5] at d3; cases d3
      · omega
  refine ⟨?_, hle, fun i j hi hj => ?_⟩
  · unfold laterP
    rw [Bool.or_eq_true, Bool.and_eq_true, decide_eq_true_eq, decide_eq_true_eq, decide_eq_true_eq]
    have := hp.n
    omega
  · obtain ⟨e1, _⟩ := play_le hb okb okc ff fg h wp wv hp (i + 1) (by omega) (fun k hk => a2 k (by omega))
    have ku : StOk (startsP b fs) b.bats.length (i + 1) (stateP b pw fs true (i + 1)) := playTo_ok (playOk okb ff) wp (begun_ok okb ff) true (i + 1) (by omega)
    have kv : StOk (startsP c gs) c.bats.length (i + 1) (stateP c pv gs true (i + 1)) := playTo_ok (playOk okc fg) wv (begun_ok okc fg) true (i + 1) (by rw [hp.n]; omega)
    have cl1 := ku.c.len
    have cl2 := kv.c.len
    have hbn := hb.n
    rw [traceP, traceP, rowsTo_at b pw fs _ hi, rowsTo_at c pv gs _ (by omega), energies_at (by omega), energies_at (by omega)]
    exact (e1 j hj).2.2.2
/-! ### the changes of the law -/
def updTo {α : Type} [Inhabited α] (f : Nat → α → α) (l : List α) : Nat → List α
  | 0 => l
  | i + 1 => (updTo f l i).set i (f i ((updTo f l i).getD i default))
theorem updTo_at {α : Type} [Inhabited α] {f : Nat → α → α} {l : List α} : ∀ i, i ≤ l.length → (updTo f l i).length = l.length ∧ ∀ j, (updTo f l i).getD j default = if j < i then f j (l.getD j default) else l.getD j default
  | 0, _ => ⟨rfl, fun j => by rw [if_neg (by omega)]; rfl⟩
  | i + 1, hi => by
    obtain ⟨h1, h2⟩ := updTo_at (f := f) (l := l) i (by omega)
    refine ⟨by rw [updTo]; simp [h1], fun j => ?_⟩
    rw [updTo, getD_set' (by omega)]
    split
    · rename_i he; subst he; rw [if_pos (by omega), h2, if_neg (by omega)]
    · rw [h2]
      by_cases hj : j < i
      · rw [if_pos hj, if_pos (by omega)]
      · rw [if_neg hj, if_neg (by omega)]
theorem set_self {α : Type} [Inhabited α] (l : List α) (i : Nat) : l.set i (l.getD i default) = l := by
  rcases Nat.lt_or_ge i l.length with h | h
  · rw [List.getD_eq_getElem?_getD, List.getElem?_eq_getElem h]
    exact List.set_getElem_self h
  · exact List.set_eq_of_length_le h
def moreB (m : List UInt8) (i : Nat) (x : BBat) : BBat := if i < m.length then ⟨x.energy + (x.full - x.energy) * byt m i / 255, x.full, x.power, x.charge⟩ else x
def lessS (m : List UInt8) (i : Nat) (x : BSpan) : BSpan := if i < m.length then ⟨x.seconds, x.power - x.power * byt m i / 255⟩ else x
def fewF (m : List UInt8) (i : Nat) (x : Int) : Int := if i < m.length then x - byt m i % (x + 1) else x
theorem part_le {x y : Int} (h0 : 0 ≤ x) (h1 : 0 ≤ y) (h2 : y ≤ 255) : 0 ≤ x * y ∧ x * y ≤ x * 255 ∧ 0 ≤ x * y / 255 ∧ x * y / 255 ≤ x := by
  have a := Int.mul_nonneg h0 h1
  have b := Int.mul_le_mul_of_nonneg_left h2 h0
  omega
theorem moreB_ok {m : List UInt8} {i : Nat} {x : BBat} (h : BatOk x) : BatOk (moreB m i x) ∧ x.energy ≤ (moreB m i x).energy ∧ (moreB m i x).full = x.full ∧ (moreB m i x).power = x.power ∧ (moreB m i x).charge = x.charge := by
  have hb := byt_ok m i
  have e0 := h.e0; have ef := h.ef; have f1 := h.f1
  have q := part_le (x := x.full - x.energy) (by omega) hb.1 hb.2
  unfold moreB
  split
  · exact ⟨⟨by dsimp only; omega, by dsimp only; omega, h.f1, h.p0, h.p1, h.c0, h.c1⟩, by dsimp only; omega, rfl, rfl, rfl⟩
  · exact ⟨h, Int.le_refl _, rfl, rfl, rfl⟩
theorem lessS_ok {m : List UInt8} {i : Nat} {x : BSpan} (h : 0 ≤ x.power) : (lessS m i x).seconds = x.seconds ∧ 0 ≤ (lessS m i x).power ∧ (lessS m i x).power ≤ x.power := by
  have hb := byt_ok m i
  have q := part_le h hb.1 hb.2
  unfold lessS
  split
  · exact ⟨rfl, by dsimp only; omega, by dsimp only; omega⟩
  · exact ⟨rfl, h, Int.le_refl _⟩
theorem fewF_ok {m : List UInt8} {i : Nat} {x : Int} (h : 0 ≤ x) : 0 ≤ fewF m i x ∧ fewF m i x ≤ x := by
  have hb := byt_ok m i
  have a := Int.emod_nonneg (byt m i) (show x + 1 ≠ 0 by omega)
  have b := Int.emod_lt_of_pos (byt m i) (show 0 < x + 1 by omega)
  unfold fewF
  split <;> omega
theorem all_getD {α : Type} [Inhabited α] {p : α → Prop} {l : List α} (h : ∀ i, i < l.length → p (l.getD i default)) : ∀ x ∈ l, p x := fun x hx => by
  obtain ⟨i, hi, rfl⟩ := List.mem_iff_getElem.1 hx
  have := h i hi
  rwa [List.getD_eq_getElem?_getD, List.getElem?_eq_getElem hi] at this
theorem more_le {b : BBank} (ok : BOk b) (m : List UInt8) : BOk ⟨updTo (moreB m) b.bats b.bats.length, b.gens⟩ ∧ BLe b ⟨updTo (moreB m) b.bats b.bats.length, b.gens⟩ := by
  obtain ⟨h1, h2⟩ := updTo_at (f := moreB m) (l := b.bats) b.bats.length (Nat.le_refl _)
  have hg : ∀ i, i < b.bats.length → (updTo (moreB m) b.bats b.bats.length).getD i default = moreB m i (b.bats.getD i default) := fun i hi => by rw [h2, if_pos hi]
  refine ⟨⟨by rw [h1]; exact ok.nb, ok.ng, all_getD fun i hi => ?_, ok.gen⟩, ⟨rfl, h1, fun i hi => ?_⟩⟩
  · rw [h1] at hi
    rw [hg i hi]; exact (moreB_ok (ok.bat _ (getD_memB hi))).1
  · obtain ⟨_, a, b, c, d⟩ := moreB_ok (m := m) (i := i) (ok.bat _ (getD_memB hi))
    dsimp only
    rw [hg i hi]; exact ⟨b, c, d, a⟩
theorem powers_eq_len : ∀ (l k : List BSpan), l.length = k.length → (∀ i, i < l.length → (k.getD i default).seconds = (l.getD i default).seconds ∧ (k.getD i default).power ≤ (l.getD i default).power) → PLe (powers l) (powers k)
  | [], [], _, _ => ⟨rfl, fun i hi => absurd hi (Nat.not_lt_zero i)⟩
  | [], _ :: _, h, _ => by cases h
  | _ :: _, [], h, _ => by cases h
  | x :: l, y :: k, h, hp => by
    have ih := powers_eq_len l k (by simpa using h) (fun i hi => hp (i + 1) (by simpa using hi))
    have h0 := hp 0 (by simp)
    have h0' : y.seconds = x.seconds ∧ y.power ≤ x.power := h0
    refine ⟨by rw [powers, powers, List.length_append, List.length_append, ih.n, List.length_replicate, List.length_replicate, h0'.1], fun i hi => ?_⟩
    rw [powers, List.length_append, List.length_replicate] at hi
    rw [powers, powers, List.getD_eq_getElem?_getD, List.getD_eq_getElem?_getD, List.getElem?_append, List.getElem?_append, List.length_replicate, List.length_replicate, h0'.1]
    split
    · rename_i hlt
      rw [List.getElem?_replicate, List.getElem?_replicate, if_pos hlt, if_pos hlt]; exact h0'.2
    · have := ih.p (i - x.seconds.toNat) (by omega)
      rwa [List.getD_eq_getElem?_getD, List.getD_eq_getElem?_getD] at this
theorem less_le {l : List BSpan} (ok : LOk l) (m : List UInt8) : LOk (updTo (lessS m) l l.length) ∧ PLe (powers l) (powers (updTo (lessS m) l l.length)) := by
  obtain ⟨h1, h2⟩ := updTo_at (f := lessS m) (l := l) l.length (Nat.le_refl _)
  have hg : ∀ i, i < l.length → (updTo (lessS m) l l.length).getD i default = lessS m i (l.getD i default) := fun i hi => by rw [h2, if_pos hi]
  have hs : ∀ i, i ≤ l.length → secs (updTo (lessS m) l l.length) i = secs l i := by
    intro i
    induction i with
    | zero => intro _; rfl
    | succ i ih =>
      intro hi
      have := (ok.s _ (getD_memB (show i < l.length by omega))).2.1
      rw [secs, secs, ih (by omega), hg i (by omega), (lessS_ok this).1]
  refine ⟨⟨by rw [h1]; exact ok.n, all_getD fun i hi => ?_, by rw [h1, hs _ (Nat.le_refl _)]; exact ok.t⟩, powers_eq_len _ _ h1.symm fun i hi => ?_⟩
  · rw [h1] at hi
    have := ok.s _ (getD_memB hi)
    have q := lessS_ok (m := m) (i := i) this.2.1
    rw [hg i hi, q.1]; omega
  · have := ok.s _ (getD_memB hi)
    have q := lessS_ok (m := m) (i := i) this.2.1
    rw [hg i hi]; exact ⟨q.1, q.2.2⟩
theorem few_le {b c : BBank} (hg : c.gens = b.gens) {fs : List Int} (ff : FOk b fs) (m : List UInt8) : FOk c (updTo (fewF m) fs fs.length) ∧ ∀ i, i < b.gens.length → (updTo (fewF m) fs fs.length).getD i default ≤ fs.getD i default := by
  obtain ⟨h1, h2⟩ := updTo_at (f := fewF m) (l := fs) fs.length (Nat.le_refl _)
  have hn := ff.n
  refine ⟨⟨by rw [h1, hg]; exact hn, fun i hi => ?_⟩, fun i hi => ?_⟩
  · rw [hg] at hi ⊢
    have f := ff.f i hi
    have q := fewF_ok (m := m) (i := i) f.1
    rw [h2, if_pos (by omega)]; omega
  · have f := ff.f i hi
    have q := fewF_ok (m := m) (i := i) f.1
    rw [h2, if_pos (by omega)]; omega
end Go.X

/- Nothing is worse than the worst. No condition. -/
set_option linter.unusedVariables false
namespace Go.X
theorem laterP_iff {a b : Int} : laterP a b = true ↔ a < 0 ∨ (0 ≤ b ∧ b ≤ a) := by
  unfold laterP
  rw [Bool.or_eq_true, Bool.and_eq_true, decide_eq_true_eq, decide_eq_true_eq, decide_eq_true_eq]
theorem worstTo_law (b : BBank) (pw : List Int) (ls : List (List Int)) : ∀ k, 0 < k → ∃ j, j < k ∧ worstTo b pw ls k = (ls.getD j default, runP b pw (ls.getD j default)) ∧ ∀ i, i < k → laterP (runP b pw (ls.getD i default)).dark (runP b pw (ls.getD j default)).dark = true
  | 0, h => absurd h (Nat.lt_irrefl 0)
  | k + 1, _ => by
    rw [worstTo_succ]
    rcases Nat.eq_zero_or_pos k with h0 | h0
    · subst h0
      refine ⟨0, by omega, by rw [if_pos (better_iff.2 (.inl rfl))], fun i hi => ?_⟩
      obtain rfl : i = 0 := by omega
      rw [laterP_iff]; omega
    · obtain ⟨j, hj, e, hl⟩ := worstTo_law b pw ls k h0
      rw [e]
      dsimp only
      have hf : flagP k ≠ true := by
        cases k with
        | zero => omega
        | succ k => exact fun h => by cases h
      by_cases hb : better k (runP b pw (ls.getD k default)) (runP b pw (ls.getD j default)) = true
      · rw [if_pos hb]
        refine ⟨k, by omega, rfl, fun i hi => ?_⟩
        have hb' := (better_iff.1 hb).resolve_left hf
        rcases Nat.lt_or_ge i k with h1 | h1
        · have := laterP_iff.1 (hl i h1)
          rw [laterP_iff]; omega
        · obtain rfl : i = k := by omega
          rw [laterP_iff]; omega
      · rw [if_neg hb]
        refine ⟨j, by omega, rfl, fun i hi => ?_⟩
        rcases Nat.lt_or_ge i k with h1 | h1
        · exact hl i h1
        · obtain rfl : i = k := by omega
          have : ¬ (0 ≤ (runP b pw (ls.getD i default)).dark ∧ ((runP b pw (ls.getD j default)).dark < 0 ∨ (runP b pw (ls.getD i default)).dark < (runP b pw (ls.getD j default)).dark)) := fun h => hb (better_iff.2 (.inr h))
          rw [laterP_iff]; omega
theorem worst_law {b : BBank} (ok : BOk b) (pw : List Int) {m : Int} (hm : 0 ≤ m) : ∃ w, worstP b pw m = (w, runP b pw w) ∧ FOk b w ∧ sumL w ≤ m ∧ ∀ f, FOk b f → sumL f ≤ m → laterP (runP b pw f).dark (runP b pw w).dark = true := by
  obtain ⟨j, hj, e, hl⟩ := worstTo_law b pw (listsP b m) _ (listsP_ne ok hm)
  obtain ⟨h1, h2⟩ := lists_in ok hm hj
  refine ⟨_, e, h1, h2, fun f hf hs => ?_⟩
  obtain ⟨i, hi, rfl⟩ := List.mem_iff_getElem.1 ((mem_listsP ok hm).2 ⟨hf, hs⟩)
  have := hl i hi
  rwa [show (listsP b m).getD i default = (listsP b m)[i] by rw [List.getD_eq_getElem?_getD, List.getElem?_eq_getElem hi]; rfl] at this
theorem leastTo_ge (b : BBank) (pw : List Int) (ls : List (List Int)) : ∀ k i, i < k → lackP b pw (ls.getD i default) ≤ leastTo b pw ls k
  | 0, i, h => absurd h (Nat.not_lt_zero i)
  | k + 1, i, h => by
    rw [leastTo]
    rcases Nat.lt_or_ge i k with h1 | h1
    · have := leastTo_ge b pw ls k i h1; omega
    · obtain rfl : i = k := by omega
      omega
theorem least_law {b : BBank} (ok : BOk b) (pw : List Int) {m : Int} (hm : 0 ≤ m) {f : List Int} (hf : FOk b f) (hs : sumL f ≤ m) : lackP b pw f ≤ leastP b pw m := by
  obtain ⟨i, hi, rfl⟩ := List.mem_iff_getElem.1 ((mem_listsP ok hm).2 ⟨hf, hs⟩)
  have := leastTo_ge b pw (listsP b m) _ i hi
  rwa [show (listsP b m).getD i default = (listsP b m)[i] by rw [List.getD_eq_getElem?_getD, List.getElem?_eq_getElem hi]; rfl] at this
theorem second_same (gens : List BGen) (sts : List Int) (t load : Int) (s : BSt) : (secondP gens sts t load false s).1 = (secondP gens sts t load true s).1 ∧ (¬ 0 < (secondP gens sts t load true s).1 → (secondP gens sts t load false s).2 = (secondP gens sts t load true s).2) := by
  unfold secondP
  split
  · rw [if_neg (fun h => by cases h.2)]
    split
    · rename_i h; exact ⟨rfl, fun h2 => absurd h.1 h2⟩
    · exact ⟨rfl, fun _ => rfl⟩
  · exact ⟨rfl, fun _ => rfl⟩
theorem state_same (b : BBank) (pw fs : List Int) : ∀ i, (∀ j, j < i → isDark b pw fs j = false) → stateP b pw fs false i = stateP b pw fs true i
  | 0, _ => rfl
  | i + 1, h => by
    have ih := state_same b pw fs i (fun j hj => h j (by omega))
    have hd := h i (by omega)
    unfold isDark at hd
    rw [decide_eq_false_iff_not] at hd
    have := (second_same b.gens (startsP b fs) (i : Nat) (pw.getD i default) (stateP b pw fs true i)).2 hd
    show (secondP b.gens (startsP b fs) (i : Nat) (pw.getD i default) false (stateP b pw fs false i)).2 = _
    rw [ih, this]; rfl
theorem lack_same (b : BBank) (pw fs : List Int) {i : Nat} (h : ∀ j, j < i → isDark b pw fs j = false) : lackAt b.gens (startsP b fs) false pw (begun b) i = lackAt b.gens (startsP b fs) true pw (begun b) i := by
  show (secondP b.gens (startsP b fs) (i : Nat) (pw.getD i default) false (stateP b pw fs false i)).1 = _
  rw [state_same b pw fs i h, (second_same _ _ _ _ _).1]; rfl
theorem lackTo_mono {b : BBank} (ok : BOk b) {pw fs : List Int} (fk : FOk b fs) (hw : PwOk pw) : ∀ n k, k + n ≤ pw.length → lackTo b pw fs k ≤ lackTo b pw fs (k + n)
  | 0, k, _ => Int.le_refl _
  | n + 1, k, h => by
    have := lackTo_mono ok fk hw n k (by omega)
    have := (lackAt_ok (playOk ok fk) hw (begun_ok ok fk) false (i := k + n) (by omega)).1
    rw [← Nat.add_assoc, lackTo]; omega
theorem lackTo_zero {b : BBank} (ok : BOk b) {pw fs : List Int} (fk : FOk b fs) (hw : PwOk pw) : ∀ k, k ≤ pw.length → (∀ j, j < k → isDark b pw fs j = false) → lackTo b pw fs k = 0
  | 0, _, _ => rfl
  | k + 1, hk, h => by
    have h1 := (lackAt_ok (playOk ok fk) hw (begun_ok ok fk) true (i := k) (by omega)).1
    have hd := h k (by omega)
    unfold isDark at hd
    rw [decide_eq_false_iff_not] at hd
    rw [lackTo, lackTo_zero ok fk hw k (by omega) (fun j hj => h j (by omega)), lack_same b pw fs (fun j hj => h j (by omega))]; omega
theorem lack_law {b : BBank} (ok : BOk b) {pw fs : List Int} (fk : FOk b fs) (hw : PwOk pw) : (lackP b pw fs = 0 ↔ darkP b pw fs < 0) ∧ 0 ≤ lackP b pw fs := by
  refine ⟨?_, (lackTo_ok ok fk hw _ (Nat.le_refl _)).1⟩
  rcases dark_cases b pw fs with ⟨h1, h2⟩ | ⟨m, h1, h2, h3, h4⟩
  · rw [h1, lackP, lackTo_zero ok fk hw _ (Nat.le_refl _) h2]; decide
  · have a := lackTo_mono ok fk hw (pw.length - (m + 1)) (m + 1) (by omega)
    rw [show m + 1 + (pw.length - (m + 1)) = pw.length by omega, lackTo, lackTo_zero ok fk hw m (by omega) h4, lack_same b pw fs h4] at a
    unfold isDark at h3
    rw [decide_eq_true_eq] at h3
    have : 0 < lackP b pw fs := by unfold lackP; omega
    omega
theorem sumL_sumI : ∀ (l : List Int), sumL l = sumI (dI l) l.length := by
  intro l
  have h : ∀ n, n ≤ l.length → sumL (l.take n) = sumI (dI l) n := by
    intro n
    induction n with
    | zero => intro _; rfl
    | succ n ih => intro hn; rw [sumL_take_succ (by omega), ih (by omega)]; rfl
  have := h l.length (Nat.le_refl _)
  rwa [List.take_length] at this
theorem search_made {b : BBank} (ok : BOk b) {l : List BSpan} (lk : LOk l) {m : Int} (hm : 0 ≤ m) : searchP b l m = 0 ∨ searchP b l m = 8 := by
  unfold searchP
  rw [if_neg (by rw [bcheck_iff.2 ok]; decide), if_neg (by rw [loadedP_iff.2 lk]; decide), if_neg (by omega)]
  split
  · exact .inr rfl
  · exact .inl rfl
theorem FOk.rng {b : BBank} (ok : BOk b) {f : List Int} (h : FOk b f) : f.length ≤ 6 ∧ ∀ j, j < f.length → -5 ≤ f.getD j default ∧ f.getD j default ≤ 5 := by
  have := h.n; have := ok.ng
  refine ⟨by omega, fun j hj => ?_⟩
  have a := h.f j (by omega)
  have g := (ok.gen _ (getD_memB (show j < b.gens.length by omega))).t1
  omega
end Go.X

/- A second as the document plays it. No condition. -/
set_option linter.unusedVariables false
namespace Go.X
def inR (n m : Int) : Bool := decide (0 ≤ n) && decide (n ≤ m)
theorem inR_iff {n m : Int} : inR n m = true ↔ 0 ≤ n ∧ n ≤ m := by
  unfold inR; rw [Bool.and_eq_true, decide_eq_true_eq, decide_eq_true_eq]
theorem genOk_ref (g : BGen) : (((((inR g.power 1000000 && inR g.ramp 1000000) && inR g.delay 3600) && inR g.pause 3600) && decide (0 < g.tries)) && decide (g.tries < 6)) = genOk g := by
  rw [Bool.eq_iff_iff, genOk_iff]
  simp only [Bool.and_eq_true, inR_iff, decide_eq_true_eq]
  exact ⟨fun h => ⟨by omega, by omega, by omega, by omega, by omega, by omega, by omega, by omega, by omega, by omega⟩, fun ⟨a, b, c, d, e, f, g, h, i, j⟩ => by omega⟩
theorem batOk_ref {x : BBat} : ¬ (((¬ inR x.full 100000000000 = true ∨ ¬ inR x.energy x.full = true) ∨ ¬ inR x.power 1000000 = true) ∨ ¬ inR x.charge 1000000 = true) ↔ batOk x = true := by
  rw [batOk_iff]
  simp only [inR_iff, not_or, Classical.not_not]
  exact ⟨fun h => ⟨by omega, by omega, by omega, by omega, by omega, by omega, by omega⟩, fun ⟨a, b, c, d, e, f, g⟩ => by omega⟩
theorem badSpan_ref {s : BSpan} : badSpan s = true ↔ (s.seconds < 1 ∨ 3600 < s.seconds) ∨ ¬ inR s.power 1000000 = true := by
  unfold badSpan
  rw [Bool.or_eq_true, Bool.or_eq_true, decide_eq_true_eq, decide_eq_true_eq, Bool.not_eq_true', inR_iff]
  constructor
  · rintro (h | h)
    · exact .inl h
    · right
      intro h2
      rw [inA_one.2 h2] at h; cases h
  · rintro (h | h)
    · exact .inl h
    · right
      rw [Bool.eq_false_iff]
      exact fun h2 => h (inA_one.1 h2)
def startQ (g : BGen) (f : Int) : Int × Int := if ¬ genOk g = true then (0, 6) else if f < 0 ∨ g.tries < f then (0, 1) else (startP g f, 0)
def stepT (g : BGen) : Nat → Int
  | 0 => 0
  | n + 1 => stepT g n + g.delay + g.pause
theorem stepT_eq (g : BGen) : ∀ n : Nat, stepT g n = n * g.delay + n * g.pause
  | 0 => by simp [stepT]
  | n + 1 => by
    rw [stepT, stepT_eq g n, Int.natCast_add, Int.add_mul, Int.add_mul]
    omega
theorem stepT_rng {g : BGen} (gk : GenOk g) : ∀ n : Nat, 0 ≤ stepT g n ∧ stepT g n ≤ 7200 * n
  | 0 => by simp [stepT]
  | n + 1 => by
    have := stepT_rng gk n
    have := gk.d0; have := gk.d1; have := gk.q0; have := gk.q1
    rw [stepT]; omega
theorem stepT_start {g : BGen} {f : Nat} (h : (f : Int) ≠ g.tries) : stepT g f + g.delay = startP g f := by
  rw [startP, if_neg h, stepT_eq, Int.add_mul]
  omega
/-! ### how generators share -/
theorem genTo_stop {c : Nat → Int} {u : List Int} {m : Int} {n : Nat} (h : UsedOk c n u) (hm : 0 ≤ m) {k : Nat} (h0 : (genTo c u m k).2 = 0) : ∀ j, k + j ≤ n → genTo c u m (k + j) = genTo c u m k
  | 0, _ => rfl
  | j + 1, hj => by
    have ih := genTo_stop h hm h0 j (by omega)
    have gk := genTo_ok h hm k (by omega)
    have hb := gk.1.b (k + j) (by omega)
    rw [← Nat.add_assoc, genTo, ih, h0, show min (0 : Int) (c (k + j) - (genTo c u m k).1.getD (k + j) default) = 0 by omega, Int.add_zero, Int.sub_zero, set_self, ← h0]
theorem genTo_one {c : Nat → Int} {u : List Int} {m : Int} {n : Nat} (h : UsedOk c n u) (hm : 0 ≤ m) : ∀ i, i ≤ n → ∀ j, (genTo c u m i).1.getD j default = if j < i then u.getD j default + min (max (m - spareTo c u j) 0) (c j - u.getD j default) else u.getD j default
  | 0, _, j => by rw [if_neg (by omega)]; rfl
  | i + 1, hi, j => by
    have hl := h.len
    obtain ⟨h1, h2⟩ := genTo_rest (c := c) (u := u) (need := m) i (by omega)
    rw [genTo]
    dsimp only
    rw [getD_set' (by omega), genTo_left h hm i (by omega), h2 i (Nat.le_refl _)]
    split
    · rename_i he; subst he; rw [if_pos (by omega)]
    · rw [genTo_one h hm i (by omega) j]
      by_cases hj : j < i
      · rw [if_pos hj, if_pos (by omega)]
      · rw [if_neg hj, if_neg (by omega)]
theorem spareTo_gen {c : Nat → Int} {u : List Int} {m : Int} {n : Nat} (h : UsedOk c n u) (hm : 0 ≤ m) : ∀ j, j ≤ n → spareTo c (genTo c u m n).1 j = max (spareTo c u j - m) 0
  | 0, _ => by rw [spareTo, spareTo]; omega
  | j + 1, hj => by
    have hb := h.b j (by omega)
    rw [spareTo, spareTo, spareTo_gen h hm j (by omega), genTo_one h hm n (Nat.le_refl _) j, if_pos (by omega)]
    have : 0 ≤ spareTo c u j := by
      have : ∀ q, q ≤ n → 0 ≤ spareTo c u q := by
        intro q
        induction q with
        | zero => intro _; exact Int.le_refl _
        | succ q ih => intro hq; rw [spareTo]; have := ih (by omega); have := h.b q (by omega); omega
      exact this j (by omega)
    omega
theorem ext_getD {a b : List Int} {n : Nat} (ha : a.length = n) (hb : b.length = n) (h : ∀ j, j < n → a.getD j default = b.getD j default) : a = b := by
  refine List.ext_getElem (by omega) fun i h1 h2 => ?_
  have := h i (by omega)
  rwa [List.getD_eq_getElem?_getD, List.getElem?_eq_getElem h1, List.getD_eq_getElem?_getD, List.getElem?_eq_getElem h2] at this
/-- What is shared in two parts is shared as one. -/
theorem genTo_add {c : Nat → Int} {u : List Int} {a m : Int} {n : Nat} (h : UsedOk c n u) (ha : 0 ≤ a) (hm : 0 ≤ m) : (genTo c (genTo c u a n).1 m n).1 = (genTo c u (a + m) n).1 := by
  have g1 := genTo_ok h ha n (Nat.le_refl _)
  have g2 := genTo_ok g1.1 hm n (Nat.le_refl _)
  have g3 := genTo_ok h (show 0 ≤ a + m by omega) n (Nat.le_refl _)
  refine ext_getD g2.1.len g3.1.len fun j hj => ?_
  have hb := h.b j hj
  rw [genTo_one g1.1 hm n (Nat.le_refl _) j, if_pos hj, spareTo_gen h ha j (by omega), genTo_one h ha n (Nat.le_refl _) j, if_pos hj, genTo_one h (by omega) n (Nat.le_refl _) j, if_pos hj]
  omega
/-! ### a second of the document -/
def rgiveTo (bats : List BBat) (now : List Int) (need : Int) : Nat → List Int × Int
  | 0 => (now, need)
  | i + 1 => ((rgiveTo bats now need i).1.set i ((rgiveTo bats now need i).1.getD i default - min (min (rgiveTo bats now need i).2 ((rgiveTo bats now need i).1.getD i default)) (bats.getD i default).power), (rgiveTo bats now need i).2 - min (min (rgiveTo bats now need i).2 ((rgiveTo bats now need i).1.getD i default)) (bats.getD i default).power)
structure RT where
  now : List Int
  gives : List Int
  spare : Int
def rtx (bats : List BBat) (r : RT) (i : Nat) : Int := min (min r.spare (bats.getD i default).charge) ((bats.getD i default).full - r.now.getD i default)
def rtakeTo (bats : List BBat) (c : Nat → Int) (n : Nat) (r0 : RT) : Nat → RT
  | 0 => r0
  | i + 1 => ⟨(rtakeTo bats c n r0 i).now.set i ((rtakeTo bats c n r0 i).now.getD i default + rtx bats (rtakeTo bats c n r0 i) i), (genTo c (rtakeTo bats c n r0 i).gives (rtx bats (rtakeTo bats c n r0 i) i) n).1, (rtakeTo bats c n r0 i).spare - rtx bats (rtakeTo bats c n r0 i) i⟩
def spR (c : Nat → Int) (g : Nat → List Int × Int) : Nat → Int
  | 0 => 0
  | i + 1 => spR c g i + c i - min (g i).2 (c i)
def cL (able : List Int) (j : Nat) : Int := able.getD j default
def rg0 (able : List Int) (load : Int) : Nat → List Int × Int := genTo (cL able) (List.replicate able.length 0) load
def oneP (bats : List BBat) (now able : List Int) (load : Int) : List Int × List Int × Int :=
  if 0 < (rg0 able load able.length).2 then ((rgiveTo bats now (rg0 able load able.length).2 now.length).1, (rg0 able load able.length).1, (rgiveTo bats now (rg0 able load able.length).2 now.length).2)
  else ((rtakeTo bats (cL able) able.length ⟨now, (rg0 able load able.length).1, spR (cL able) (rg0 able load) able.length⟩ now.length).now, (rtakeTo bats (cL able) able.length ⟨now, (rg0 able load able.length).1, spR (cL able) (rg0 able load) able.length⟩ now.length).gives, 0)
/-! ### it is the same second -/
theorem energies_set (cs : List BCell) (i : Nat) (x : BCell) : energiesP (cs.set i x) = (energiesP cs).set i x.now := by
  unfold energiesP; rw [List.map_set]
def Bats (bats : List BBat) (cs : List BCell) : Prop := ∀ j, j < cs.length → (cs.getD j default).bat.full = (bats.getD j default).full ∧ (cs.getD j default).bat.power = (bats.getD j default).power ∧ (cs.getD j default).bat.charge = (bats.getD j default).charge
theorem rgive_eq {bats : List BBat} {cs : List BCell} {n : Nat} (hn : cs.length = n) (hb : Bats bats cs) (m : Int) : ∀ i, i ≤ n → rgiveTo bats (energiesP cs) m i = (energiesP (giveTo cs m i).1, (giveTo cs m i).2)
  | 0, _ => rfl
  | i + 1, hi => by
    have ih := rgive_eq hn hb m i (by omega)
    have hl := giveTo_sum (need := m) hn i (by omega)
    have hs := giveTo_bat cs m i i
    have hbi := hb i (by omega)
    rw [rgiveTo, ih, giveTo]
    dsimp only
    rw [energies_at (by omega), energies_set]
    dsimp only
    have e : min (min (giveTo cs m i).2 ((giveTo cs m i).1.getD i default).now) (bats.getD i default).power = giveC ((giveTo cs m i).1.getD i default) (giveTo cs m i).2 := by
      unfold giveC
      rw [hs, hbi.2.1]; omega
    rw [e]
theorem rtake_eq {bats : List BBat} {cs : List BCell} {n : Nat} (hn : cs.length = n) (hb : Bats bats cs) (hk : CellsOk n cs) {c : Nat → Int} {g : List Int} {k : Nat} (hu : UsedOk c k g) {sp : Int} (h0 : 0 ≤ sp) : ∀ i, i ≤ n → rtakeTo bats c k ⟨energiesP cs, g, sp⟩ i = ⟨energiesP (takeTo cs sp i).1, (genTo c g (takeTo cs sp i).2 k).1, sp - (takeTo cs sp i).2⟩
  | 0, _ => by
    have hz := genTo_stop (k := 0) hu (Int.le_refl 0) rfl k (by omega)
    rw [Nat.zero_add] at hz
    rw [rtakeTo, takeTo]
    dsimp only
    rw [hz, Int.sub_zero]; rfl
  | i + 1, hi => by
    have ih := rtake_eq hn hb hk hu h0 i (by omega)
    have hl := takeTo_sum (sp := sp) hn i (by omega)
    have hs := takeTo_bat cs sp i i
    have hbi := hb i (by omega)
    have tk := takeTo_ok hk h0 i (by omega)
    have e : rtx bats ⟨energiesP (takeTo cs sp i).1, (genTo c g (takeTo cs sp i).2 k).1, sp - (takeTo cs sp i).2⟩ i = takeC ((takeTo cs sp i).1.getD i default) (sp - (takeTo cs sp i).2) := by
      unfold rtx takeC
      dsimp only
      rw [energies_at (by omega), hs, hbi.1, hbi.2.2]; omega
    have tc := takeC_ok (tk.1.ok i (by omega)) (need := sp - (takeTo cs sp i).2) (by omega)
    rw [rtakeTo, ih, e, takeTo]
    dsimp only
    rw [energies_at (by omega), energies_set, genTo_add hu tk.2.1 tc.1]
    dsimp only
    rw [Int.sub_sub]
theorem spR_eq {c : Nat → Int} {u : List Int} {load : Int} (hu : ∀ j, u.getD j default = 0) : ∀ i, i ≤ u.length → spR c (genTo c u load) i = sumI c i - (load - (genTo c u load i).2)
  | 0, _ => by rw [spR, sumI, genTo]; dsimp only; omega
  | i + 1, hi => by
    have h2 := (genTo_rest (c := c) (u := u) (need := load) i (by omega)).2 i (Nat.le_refl _)
    rw [spR, sumI, spR_eq hu i (by omega), genTo, h2, hu]
    dsimp only
    omega
theorem genTo_congr {c d : Nat → Int} {u : List Int} {m : Int} : ∀ i, (∀ j, j < i → c j = d j) → genTo c u m i = genTo d u m i
  | 0, _ => rfl
  | i + 1, h => by rw [genTo, genTo, genTo_congr i (fun j hj => h j (by omega)), h i (by omega)]
theorem rep_getD (n j : Nat) : (List.replicate n (0 : Int)).getD j default = 0 := by
  rw [List.getD_eq_getElem?_getD, List.getElem?_replicate]; split <;> rfl
def cansTo (gens : List BGen) (sts : List Int) (t : Int) : Nat → List Int
  | 0 => []
  | i + 1 => cansTo gens sts t i ++ [canAt gens sts t i]
theorem cansTo_len (gens : List BGen) (sts : List Int) (t : Int) : ∀ i, (cansTo gens sts t i).length = i
  | 0 => rfl
  | i + 1 => by rw [cansTo, List.length_append, cansTo_len gens sts t i]; rfl
theorem cansTo_at (gens : List BGen) (sts : List Int) (t : Int) {j : Nat} : ∀ i, j < i → (cansTo gens sts t i).getD j default = canAt gens sts t j
  | 0, h => by omega
  | i + 1, h => by
    have hl := cansTo_len gens sts t i
    rw [cansTo, List.getD_eq_getElem?_getD, List.getElem?_append]
    split
    · rw [← List.getD_eq_getElem?_getD]; exact cansTo_at gens sts t i (by omega)
    · have : j = i := by omega
      subst this
      simp [hl]
/-- What a second adds to what was burnt. -/
def usedP (gens : List BGen) (sts : List Int) (t load : Int) (s : BSt) : List Int := if 0 < (gen0 gens sts t load).2 then (gen0 gens sts t load).1 else (gen1 gens sts t load s).1
theorem one_eq {gens : List BGen} {sts : List Int} (p : PlayOk gens sts) {t load : Int} (h2 : t ≤ 20000) (h3 : 0 ≤ load) {nc k : Nat} {s : BSt} (h : StOk sts nc k s) {bats : List BBat} (hb : Bats bats s.cells) :
    oneP bats (energiesP s.cells) (cansTo gens sts t sts.length) load = (energiesP (secondP gens sts t load false s).2.cells, usedP gens sts t load s, (secondP gens sts t load false s).1) := by
  have hcl := cansTo_len gens sts t sts.length
  have hc : ∀ j, j < sts.length → cL (cansTo gens sts t sts.length) j = canAt gens sts t j := fun j hj => cansTo_at gens sts t _ hj
  have hg0 : ∀ i, i ≤ sts.length → rg0 (cansTo gens sts t sts.length) load i = genTo (canAt gens sts t) (List.replicate sts.length 0) load i := fun i hi => by
    rw [rg0, hcl]; exact genTo_congr i (fun j hj => hc j (by omega))
  have g0 : rg0 (cansTo gens sts t sts.length) load sts.length = gen0 gens sts t load := hg0 _ (Nat.le_refl _)
  have el : (energiesP s.cells).length = nc := by rw [energiesP, List.length_map]; exact h.c.len
  have hu := gen0_ok p h2 h3
  unfold oneP usedP secondP
  rw [hcl, g0]
  by_cases c1 : 0 < (gen0 gens sts t load).2
  · rw [if_pos c1, if_pos c1, if_pos c1, if_neg (fun hh => by cases hh.2)]
    rw [el, rgive_eq h.c.len hb _ nc (Nat.le_refl _), give0, h.c.len]
  · rw [if_neg c1, if_neg c1, if_neg c1]
    have hz : (gen0 gens sts t load).2 = 0 := by omega
    have es : spR (cL (cansTo gens sts t sts.length)) (rg0 (cansTo gens sts t sts.length) load) sts.length = spare0 gens sts t load := by
      rw [spare0_eq p h2 h3]
      have e1 := spR_eq (c := cL (cansTo gens sts t sts.length)) (u := List.replicate sts.length 0) (load := load) (rep_getD _) sts.length (by simp)
      have e2 : genTo (cL (cansTo gens sts t sts.length)) (List.replicate sts.length 0) load = rg0 (cansTo gens sts t sts.length) load := by
        funext i; rw [rg0, hcl]
      rw [e2, g0, sumI_congr _ hc] at e1
      exact e1
    have sp := spare0_ok p h2 h3
    rw [es, el]
    have hcc : ∀ m (u : List Int), genTo (cL (cansTo gens sts t sts.length)) u m sts.length = genTo (canAt gens sts t) u m sts.length := fun m u => genTo_congr _ hc
    have huc : UsedOk (cL (cansTo gens sts t sts.length)) sts.length (gen0 gens sts t load).1 := ⟨hu.1.len, fun j hj => by rw [hc j hj]; exact hu.1.b j hj⟩
    rw [rtake_eq h.c.len hb h.c huc sp.1 nc (Nat.le_refl _), hcc]
    rw [take0, gen1, take0, h.c.len, hz]
theorem burnt_used {gens : List BGen} {sts : List Int} {t load : Int} {s : BSt} : (secondP gens sts t load false s).2.burnt = addTo s.burnt (usedP gens sts t load s) sts.length ∧ (secondP gens sts t load false s).2.served = s.served + (load - (secondP gens sts t load false s).1) := by
  unfold secondP usedP
  split
  · rw [if_neg (fun hh => by cases hh.2)]; exact ⟨rfl, rfl⟩
  · exact ⟨rfl, rfl⟩
end Go.X

/- The document's second stays small. No condition. -/
set_option linter.unusedVariables false
namespace Go.X
theorem energies_rng {cs : List BCell} {n : Nat} (h : CellsOk n cs) : (energiesP cs).length = n ∧ ∀ j, j < n → 0 ≤ (energiesP cs).getD j default ∧ (energiesP cs).getD j default ≤ (cs.getD j default).bat.full ∧ (energiesP cs).getD j default ≤ 100000000000 := by
  have hl := h.len
  refine ⟨by rw [energiesP, List.length_map]; exact hl, fun j hj => ?_⟩
  have k := h.ok j hj
  have := k.nf; have := k.f1
  rw [energies_at (by omega)]
  exact ⟨k.n0, k.nf, by omega⟩
theorem rgive_ok {bats : List BBat} {cs : List BCell} {n : Nat} (h : CellsOk n cs) (hb : Bats bats cs) {m : Int} (hm : 0 ≤ m) {i : Nat} (hi : i ≤ n) :
    (rgiveTo bats (energiesP cs) m i).1.length = n ∧ (0 ≤ (rgiveTo bats (energiesP cs) m i).2 ∧ (rgiveTo bats (energiesP cs) m i).2 ≤ m) ∧ ∀ j, j < n → 0 ≤ (rgiveTo bats (energiesP cs) m i).1.getD j default ∧ (rgiveTo bats (energiesP cs) m i).1.getD j default ≤ 100000000000 := by
  have g := giveTo_ok h hm i hi
  have e := energies_rng g.1
  rw [rgive_eq h.len hb m i hi]
  exact ⟨e.1, g.2, fun j hj => ⟨(e.2 j hj).1, (e.2 j hj).2.2⟩⟩
theorem rtake_ok {bats : List BBat} {cs : List BCell} {n : Nat} (h : CellsOk n cs) (hb : Bats bats cs) {c : Nat → Int} {g : List Int} {k : Nat} (hu : UsedOk c k g) {sp : Int} (h0 : 0 ≤ sp) {i : Nat} (hi : i ≤ n) :
    (rtakeTo bats c k ⟨energiesP cs, g, sp⟩ i).now.length = n ∧ (0 ≤ (rtakeTo bats c k ⟨energiesP cs, g, sp⟩ i).spare ∧ (rtakeTo bats c k ⟨energiesP cs, g, sp⟩ i).spare ≤ sp) ∧
    (∀ j, j < n → 0 ≤ (rtakeTo bats c k ⟨energiesP cs, g, sp⟩ i).now.getD j default ∧ (rtakeTo bats c k ⟨energiesP cs, g, sp⟩ i).now.getD j default ≤ (bats.getD j default).full ∧ (rtakeTo bats c k ⟨energiesP cs, g, sp⟩ i).now.getD j default ≤ 100000000000) ∧
    UsedOk c k (rtakeTo bats c k ⟨energiesP cs, g, sp⟩ i).gives := by
  have t := takeTo_ok h h0 i hi
  have e := energies_rng t.1
  have gg := genTo_ok hu t.2.1 k (Nat.le_refl _)
  have hl := h.len
  rw [rtake_eq h.len hb h hu h0 i hi]
  refine ⟨e.1, by dsimp only; omega, fun j hj => ?_, gg.1⟩
  have q := e.2 j hj
  have hs := takeTo_bat cs sp i j
  have hf := (hb j (by omega)).1
  rw [hs, hf] at q
  exact q
theorem rtx_ok {bats : List BBat} {r : RT} {i : Nat} (h0 : 0 ≤ r.spare) (hc : 0 ≤ (bats.getD i default).charge) (hf : r.now.getD i default ≤ (bats.getD i default).full) : 0 ≤ rtx bats r i ∧ rtx bats r i ≤ r.spare ∧ rtx bats r i ≤ (bats.getD i default).full - r.now.getD i default := by
  unfold rtx; omega
theorem rg0_ok {able : List Int} (h : ∀ j, j < able.length → 0 ≤ able.getD j default ∧ able.getD j default ≤ 1000000) {load : Int} (h0 : 0 ≤ load) : ∀ i, i ≤ able.length → UsedOk (cL able) able.length (rg0 able load i).1 ∧ 0 ≤ (rg0 able load i).2 ∧ (rg0 able load i).2 ≤ load ∧ (i < able.length → (rg0 able load i).1.getD i default = 0) := fun i hi => by
  have u0 : UsedOk (cL able) able.length (List.replicate able.length 0) := zero_used fun j hj => (h j hj).1
  have g := genTo_ok u0 h0 i hi
  refine ⟨g.1, g.2.1, g.2.2, fun _ => ?_⟩
  have := (genTo_rest (c := cL able) (u := List.replicate able.length 0) (need := load) i (by simpa using hi)).2 i (Nat.le_refl _)
  rw [rg0, this, rep_getD]
theorem rg0_succ {able : List Int} {load : Int} {i : Nat} (h : (rg0 able load i).1.getD i default = 0) : rg0 able load (i + 1) = ((rg0 able load i).1.set i (min (rg0 able load i).2 (able.getD i default)), (rg0 able load i).2 - min (rg0 able load i).2 (able.getD i default)) := by
  show ((rg0 able load i).1.set i ((rg0 able load i).1.getD i default + min (rg0 able load i).2 (able.getD i default - (rg0 able load i).1.getD i default)), (rg0 able load i).2 - min (rg0 able load i).2 (able.getD i default - (rg0 able load i).1.getD i default)) = _
  rw [h, Int.zero_add, Int.sub_zero]
theorem spR_ok {able : List Int} (h : ∀ j, j < able.length → 0 ≤ able.getD j default ∧ able.getD j default ≤ 1000000) {load : Int} (h0 : 0 ≤ load) : ∀ i, i ≤ able.length → 0 ≤ spR (cL able) (rg0 able load) i ∧ spR (cL able) (rg0 able load) i ≤ 1000000 * i
  | 0, _ => by simp [spR]
  | i + 1, hi => by
    have := spR_ok h h0 i (by omega)
    have a := h i (by omega)
    have g := (rg0_ok h h0 i (by omega)).2
    rw [spR]
    have e : cL able i = able.getD i default := rfl
    rw [e]; omega
theorem state_bats (b : BBank) (pw fs : List Int) (strict : Bool) (i : Nat) (hl : (stateP b pw fs strict i).cells.length = b.bats.length) : Bats b.bats (stateP b pw fs strict i).cells := fun j hj => by
  rw [state_bat b pw fs strict i (by omega)]; exact ⟨rfl, rfl, rfl⟩
theorem gen_exit {c : Nat → Int} {u : List Int} {m : Int} {n k : Nat} (h : UsedOk c n u) (hm : 0 ≤ m) (hk : k ≤ n) (hx : ¬ (k < n ∧ 0 < (genTo c u m k).2)) : (genTo c u m n).1 = (genTo c u m k).1 := by
  rcases Nat.lt_or_ge k n with h1 | h1
  · have g := genTo_ok h hm k hk
    have := genTo_stop h hm (k := k) (by omega) (n - k) (by omega)
    rw [show k + (n - k) = n by omega] at this
    rw [this]
  · rw [show k = n by omega]
end Go.X

/- Repeated lists. No condition. -/
set_option linter.unusedVariables false
namespace Go.X
theorem repeat_first {α : Type} (x z : α) (n : Nat) : splice (List.replicate n z) [x] 0 = List.replicate (min 1 n) x ++ List.replicate (n - min 1 n) z := by
  unfold splice
  cases n with
  | zero => simp
  | succ n => simp [List.replicate_succ, show min 1 (n + 1) = 1 by omega]
theorem repeat_step {α : Type} (x z : α) {m n : Nat} (h : m ≤ n) :
    splice (List.replicate m x ++ List.replicate (n - m) z) (((List.replicate m x ++ List.replicate (n - m) z).drop 0).take (m - 0)) m =
      List.replicate (m + min m (n - m)) x ++ List.replicate (n - (m + min m (n - m))) z := by
  unfold splice
  have e1 : (List.replicate m x ++ List.replicate (n - m) z).take m = List.replicate m x := by
    rw [List.take_append, List.length_replicate, Nat.sub_self, List.take_zero, List.append_nil, List.take_of_length_le (by simp)]
  have e2 : (List.replicate m x ++ List.replicate (n - m) z).length = n := by simp; omega
  rw [List.drop_zero, Nat.sub_zero, e1, e2, List.length_replicate, List.take_replicate, Nat.min_eq_left (Nat.min_le_left _ _), List.drop_append, List.length_replicate,
    List.drop_of_length_le (l := List.replicate m x) (by simp), List.nil_append, List.drop_replicate, List.replicate_append_replicate]
  congr 2
  omega
end Go.X

/- Lists of fails: how many and how long. No condition. -/
set_option linter.unusedVariables false
namespace Go.X
theorem listsL_len_pos : ∀ (ts : List Int) (m : Int), (∀ t ∈ ts, 0 ≤ t) → 0 ≤ m → 0 < (listsL ts m).length := fun ts m h hm => by
  have := (lists_good ts m h hm).1
  rcases Nat.eq_zero_or_pos (listsL ts m).length with e | e
  · rw [List.getElem?_eq_none (by omega)] at this; cases this
  · exact e
theorem block_len (L : Int → List (List Int)) (n : Nat) : (block L n).length = (L (n : Int)).length := by rw [block, List.length_map]
theorem block_at (L : Int → List (List Int)) (n i : Nat) (h : i < (L (n : Int)).length) : (block L n).getD i default = (n : Int) :: (L (n : Int)).getD i default := by
  rw [block, List.getD_eq_getElem?_getD, List.getElem?_map, List.getElem?_eq_getElem h, List.getD_eq_getElem?_getD, List.getElem?_eq_getElem h]; rfl
theorem block_part (L : Int → List (List Int)) (n i : Nat) (h : i < (L (n : Int)).length) : (block L n).take (i + 1) = (block L n).take i ++ [(n : Int) :: (L (n : Int)).getD i default] := by
  have hb : i < (block L n).length := by rw [block_len]; exact h
  rw [List.take_add_one, List.getElem?_eq_getElem hb, ← block_at L n i h, List.getD_eq_getElem?_getD, List.getElem?_eq_getElem hb]; rfl
theorem block_all (L : Int → List (List Int)) (n : Nat) : (block L n).take (L (n : Int)).length = block L n := by rw [← block_len, List.take_length]
theorem blocks_len (L : Int → List (List Int)) (c : Nat) (h : ∀ q, (L q).length ≤ c) : ∀ k, (blocks L k).length ≤ c * k
  | 0 => by simp [blocks]
  | k + 1 => by
    have := blocks_len L c h k
    have := h k
    rw [blocks, List.length_append, block_len, Nat.mul_succ]; omega
def capL : Nat → Nat
  | 0 => 1
  | n + 1 => 6 * capL n
theorem listsL_le : ∀ (ts : List Int) (m : Int), (∀ t ∈ ts, t ≤ 5) → (listsL ts m).length ≤ capL ts.length
  | [], m, _ => by simp [listsL, capL]
  | t :: ts, m, h => by
    have ht := h t List.mem_cons_self
    have := blocks_len (fun n => listsL ts (m - n)) (capL ts.length) (fun q => listsL_le ts (m - q) (fun t ht => h t (List.mem_cons_of_mem _ ht))) (min t m + 1).toNat
    rw [listsL, List.length_cons, capL, Nat.mul_comm]
    exact Nat.le_trans this (Nat.mul_le_mul_left _ (by omega))
theorem capL_le (n : Nat) (h : n ≤ 6) : capL n ≤ 46656 := by
  have : n = 0 ∨ n = 1 ∨ n = 2 ∨ n = 3 ∨ n = 4 ∨ n = 5 ∨ n = 6 := by omega
  rcases this with rfl | rfl | rfl | rfl | rfl | rfl | rfl <;> decide
theorem listsL_each : ∀ (ts : List Int) (m : Int) (x : List Int), x ∈ listsL ts m → x.length = ts.length
  | [], m, x, h => by
    rw [listsL, List.mem_singleton] at h; subst h; rfl
  | t :: ts, m, x, h => by
    rw [listsL, mem_blocks] at h
    obtain ⟨n, hn, y, hy, rfl⟩ := h
    rw [List.length_cons, List.length_cons, listsL_each ts _ y hy]
end Go.X

/- Holding with few generators. No condition. -/
set_option linter.unusedVariables false
namespace Go.X
theorem holdLoad_ok {p : Int} (h0 : 0 ≤ p) (h1 : p ≤ 1000000) : LOk (holdLoad p) := by
  refine ⟨by show 2 ≤ 64; decide, fun x hx => ?_, ?_⟩
  · unfold holdLoad at hx
    simp only [List.mem_cons, List.not_mem_nil, or_false] at hx
    rcases hx with rfl | rfl
    · exact ⟨⟨by dsimp only; omega, by dsimp only; omega⟩, h0, h1⟩
    · exact ⟨⟨by dsimp only; omega, by dsimp only; omega⟩, h0, h1⟩
  · show (0 + 3600 + 400 : Int) ≤ 20000
    decide
theorem holdLoad_len (p : Int) : (powers (holdLoad p)).length = 4000 := by
  show (List.replicate 3600 p ++ (List.replicate 400 p ++ [])).length = 4000
  simp only [List.length_append, List.length_replicate, List.length_nil]
theorem search_few {b : BBank} (ok : BOk b) (hg : b.gens.length ≤ 2) {p m : Int} (h0 : 0 ≤ p) (h1 : p ≤ 1000000) (hm : 0 ≤ m) : searchP b (holdLoad p) m = 0 := by
  rw [searchP_iff]
  refine ⟨ok, holdLoad_ok h0 h1, hm, ?_⟩
  have e : (loadedP (holdLoad p)).1 = 4000 := by rw [loadedP_one (holdLoad_ok h0 h1)]; rfl
  rw [e]
  have t : ∀ i, i < b.gens.length → 0 ≤ (b.gens.getD i default).tries + 1 ∧ (b.gens.getD i default).tries + 1 ≤ 6 := fun i hi => by
    have g := ok.gen _ (getD_memB hi)
    have := g.t0; have := g.t1; omega
  have c : ∀ i, i ≤ b.gens.length → 0 ≤ casesTo b 4000 i ∧ casesTo b 4000 i ≤ 4000 * 6 ^ i := by
    intro i
    induction i with
    | zero => intro _; exact ⟨by rw [casesTo]; decide, by rw [casesTo]; decide⟩
    | succ i ih =>
      intro hi
      obtain ⟨a, b1⟩ := ih (by omega)
      have ti := t i (by omega)
      have m := mulLe a b1 ti.1 ti.2
      rw [casesTo, Int.pow_succ, ← Int.mul_assoc]; exact m
  have c2 := (c _ (Nat.le_refl _)).2
  have : (6 : Int) ^ b.gens.length ≤ 36 := by
    match h : b.gens.length, hg with
    | 0, _ => decide
    | 1, _ => decide
    | 2, _ => decide
  omega
theorem hold_law {b : BBank} (ok : BOk b) (hg : b.gens.length ≤ 2) {p m : Int} (h0 : 0 ≤ p) (h1 : p ≤ 1000000) (hm : 0 ≤ m) :
    ∃ w, worstP b (powers (holdLoad p)) m = (w, runP b (powers (holdLoad p)) w) ∧ FOk b w ∧ (∀ f, FOk b f → sumL f ≤ m → laterP (runP b (powers (holdLoad p)) f).dark (runP b (powers (holdLoad p)) w).dark = true) ∧
      holdP b p m = (if (runP b (powers (holdLoad p)) w).dark < 0 then 4000 else (runP b (powers (holdLoad p)) w).dark, 0) ∧ -1 ≤ (runP b (powers (holdLoad p)) w).dark ∧ (runP b (powers (holdLoad p)) w).dark < 4000 := by
  obtain ⟨w, e, fw, _, lw⟩ := worst_law ok (powers (holdLoad p)) hm
  refine ⟨w, e, fw, lw, ?_, ?_⟩
  · rw [holdP_of (bcheck_iff.2 ok) (inA_one.2 ⟨h0, h1⟩) (search_few ok hg h0 h1 hm), e]
  · have := end_ok b (powers (holdLoad p)) w
    have hl := holdLoad_len p
    generalize powers (holdLoad p) = pw at this hl ⊢
    show -1 ≤ darkP b pw w ∧ darkP b pw w < 4000
    omega
theorem few_gens {b : BBank} (ok : BOk b) (n : Nat) (hn : n ≤ 2) : BOk ⟨b.bats, (b.gens.drop 0).take (n - 0)⟩ ∧ ((b.gens.drop 0).take (n - 0)).length ≤ 2 := by
  refine ⟨⟨ok.nb, ?_, ok.bat, fun x hx => ok.gen x (List.mem_of_mem_drop (List.mem_of_mem_take hx))⟩, by rw [List.length_take]; omega⟩
  show ((b.gens.drop 0).take (n - 0)).length ≤ 6
  rw [List.length_take]; omega
end Go.X

/- The document's way to hold. No condition. -/
set_option linter.unusedVariables false

namespace Go.X
theorem loaded_len {l : List BSpan} (h : LOk l) : ((powers l).length : Int) = (loadedP l).1 := by
  rw [loadedP_one h, ← cnt_all]
  exact cnt_secs (l := l) (fun x hx => by have := (h.s x hx).1; omega) l.length (Nat.le_refl _)
def refLoad (p : Int) : List BSpan := [⟨2000, p⟩, ⟨2000, p⟩]
theorem refLoad_ok {p : Int} (h0 : 0 ≤ p) (h1 : p ≤ 1000000) : LOk (refLoad p) := by
  refine ⟨by show 2 ≤ 64; decide, fun x hx => ?_, ?_⟩
  · unfold refLoad at hx
    simp only [List.mem_cons, List.not_mem_nil, or_false] at hx
    rcases hx with rfl | rfl
    · exact ⟨⟨by dsimp only; omega, by dsimp only; omega⟩, h0, h1⟩
    · exact ⟨⟨by dsimp only; omega, by dsimp only; omega⟩, h0, h1⟩
  · show (0 + 2000 + 2000 : Int) ≤ 20000
    decide
theorem refLoad_powers (p : Int) : powers (refLoad p) = powers (holdLoad p) := by
  show List.replicate 2000 p ++ (List.replicate 2000 p ++ []) = List.replicate 3600 p ++ (List.replicate 400 p ++ [])
  rw [List.append_nil, List.append_nil, List.replicate_append_replicate, List.replicate_append_replicate]
theorem refLoad_loaded {p : Int} (h0 : 0 ≤ p) (h1 : p ≤ 1000000) : loadedP (refLoad p) = loadedP (holdLoad p) := by
  rw [loadedP_one (refLoad_ok h0 h1), loadedP_one (holdLoad_ok h0 h1)]; rfl
theorem refLoad_search {b : BBank} {p m : Int} (h0 : 0 ≤ p) (h1 : p ≤ 1000000) : searchP b (refLoad p) m = searchP b (holdLoad p) m := by
  unfold searchP
  rw [refLoad_loaded h0 h1]
theorem better_ref {k : Nat} {r out : BRes} : ((k : Int) = 0 ∨ (0 ≤ r.dark ∧ (out.dark < 0 ∨ r.dark < out.dark))) ↔ better k r out = true := by
  rw [better_iff]
  have e : flagP k = true ↔ (k : Int) = 0 := by
    cases k with
    | zero => simp [flagP]
    | succ k => simp [flagP]; omega
  rw [e]
def casesW (b : BBank) : Nat → Int
  | 0 => 1
  | i + 1 => IntKind.wrap .i64 (casesW b i * IntKind.wrap .i64 ((b.gens.getD i default).tries + 1))
def secsW (l : List BSpan) : Nat → Int
  | 0 => 0
  | i + 1 => IntKind.wrap .i64 (secsW l i + (l.getD i default).seconds)
def badG (g : BGen) : Bool := decide (g.tries < 1) || decide (5 < g.tries)
def badS (s : BSpan) : Bool := decide (s.seconds < 0) || decide (3600 < s.seconds)
def heavyP (b : BBank) (l : List BSpan) : Bool :=
  if b.gens.any badG = true then false else if l.any badS = true then false
  else (decide (300 < secsW l l.length) && decide (secsW l l.length ≤ 20000)) || (decide (25 < casesW b b.gens.length) && decide (casesW b b.gens.length ≤ 2000))
theorem in_same {p : Int} : (inA 1000000 [p] = true) = (inR p 1000000 = true) := by rw [inA_one, inR_iff]
end Go.X

/- Arguments that hold slices of structs of numbers, opened. No condition. -/
set_option linter.unusedSimpArgs false
set_option linter.unusedVariables false
namespace Go.X
open Go.ChangeShapes Go.WideShapes Go.Deep
section
variable {H : Type} {enc : TypeId × Value → H} {P : Program} {W : World} {base : Nat} {v : Value} {d : DataW H} {ps : List MemPlace}
theorem arr_cells {α : Type} {f : α → List Value} {sz : Nat} (hf : ∀ x, (f x).length = sz) (hone : ∀ x, ∀ c ∈ f x, one c = true) (hsz : 0 < sz) {a : Addr} {len cap : Nat} {xs : List α} (hlen : xs.length = len) (hc : len ≤ cap) (h47 : len ≤ 140737488355328)
    (hcell : ∀ i (hi : i < xs.length) j, j < sz → W.cell? (a.add (i * sz + j)) = (f xs[i])[j]?) : Arr (.slice (some a) len cap) f sz (heapOf W) xs := by
  subst hlen
  refine ⟨hf, ⟨h47, fun x _ c hc => hone x c hc⟩, some a, cap, rfl, hc, (fun h => by cases h), fun hp => ?_⟩
  have h0 := hcell 0 hp 0 hsz
  rw [List.getElem?_eq_getElem (by rw [hf]; exact hsz)] at h0
  obtain ⟨b, k, sp⟩ := a
  obtain ⟨cs, T, fr, hsp, hb, _⟩ := cell_heap h0
  have hsp' : sp = none := by simpa [Addr.add] using hsp
  subst hsp'
  have hb' : W.heap[b]? = some (.cells cs T fr) := by simpa [Addr.add] using hb
  refine ⟨b, k, cs, T, fr, rfl, hb', fun i j hi hj => ?_⟩
  have hi' := hcell i hi j hj
  rw [add_none, List.getElem?_eq_getElem (by rw [hf]; exact hj)] at hi'
  obtain ⟨cs2, T2, fr2, _, hb2, hc2⟩ := cell_heap hi'
  have hb2' : W.heap[b]? = some (.cells cs2 T2 fr2) := hb2
  rw [hb'] at hb2'
  simp only [Option.some.injEq, Obj.cells.injEq] at hb2'
  obtain ⟨rfl, rfl, rfl⟩ := hb2'
  rw [List.getElem?_eq_getElem hi, Option.bind_some, List.getElem?_eq_getElem (by rw [hf]; exact hj), Nat.add_assoc]
  exact hc2
theorem arr_recs {α : Type} [Inhabited α] {held : Bool} {f : α → List Value} {sz : Nat} (hf : ∀ x, (f x).length = sz) (hone : ∀ x, ∀ c ∈ f x, one c = true) (hsz : 0 < sz) {t e : TypeId} {fuel : Nat} {cs : List Value} {x : DataW H × List MemPlace} (ht : P.underlying t = some (.slice e)) (hc : P.cellsOf e = sz)
    (h : DataW.trod enc P W 0 (fun _ => true) held fuel t cs = some x) (hw : ∀ elems spare, x.1 = .slice elems spare → elems.length + spare.length ≤ 140737488355328)
    (dec : ∀ n cs' y, DataW.trod enc P W 0 (fun _ => true) held n e cs' = some y → ∃ r, cs' = f r) : ∃ v xs, cs = [v] ∧ Arr v f sz (heapOf W) xs := by
  rcases open_slice ht h with ⟨rfl, _⟩ | ⟨a, len, cap, m, n, D, Pl, rfl, _, hl, hm, hmm, hx, hr⟩
  · exact ⟨_, [], rfl, Arr.nil hf⟩
  · simp only [if_true] at hmm
    subst hmm
    have hb : len ≤ 140737488355328 := by
      have := hw _ _ (by rw [hx])
      simp at this
      omega
    have hrec : ∀ i, ∃ r : α, i < len → W.cells? 0 (a.add (i * sz)) sz = some (f r) := fun i => by
      by_cases hi : i < len
      · obtain ⟨cs', h1, h2⟩ := hr i (by omega)
        obtain ⟨r, rfl⟩ := dec _ _ _ h2
        rw [hc] at h1
        exact ⟨r, fun _ => h1⟩
      · exact ⟨default, fun h => absurd h hi⟩
    have hch : ∃ g : Nat → α, ∀ i, i < len → W.cells? 0 (a.add (i * sz)) sz = some (f (g i)) := ⟨fun i => (hrec i).choose, fun i => (hrec i).choose_spec⟩
    obtain ⟨g, hg⟩ := hch
    refine ⟨_, (List.range len).map g, rfl, arr_cells hf hone hsz (by simp) hl hb fun i hi j hj => ?_⟩
    have hi2 : i < len := by simpa using hi
    have h3 := (World.cells?_some (hg i hi2)).2.2 j hj
    simp only [List.getElem_map, List.getElem_range]
    rw [← h3]
    congr 1
    simp only [Addr.add, Nat.add_assoc]
    by_cases hj0 : j = 0
    · subst hj0
      rw [if_pos rfl, Nat.add_zero]
    · rw [if_neg hj0, if_neg (by omega)]
      by_cases hi0 : i * sz = 0
      · rw [if_pos hi0, hi0, Nat.zero_add]
      · rw [if_neg hi0]
        simp only [Nat.add_assoc]
theorem open_recs {α : Type} [Inhabited α] {f : α → List Value} {sz : Nat} (hf : ∀ x, (f x).length = sz) (hone : ∀ x, ∀ c ∈ f x, one c = true) (hsz : 0 < sz) {t e : TypeId} (ht : P.underlying t = some (.slice e)) (hc : P.cellsOf e = sz) (hb : 0 < P.bytesOf e)
    (hv : Value.okWide P W .any base t v) (h : DataW.Trod enc P W 0 (fun _ => true) true t v d ps) (hw : ∀ n ∈ d.weights P t, n ≤ reachBytes)
    (dec : ∀ n cs' y, DataW.trod enc P W 0 (fun _ => true) true n e cs' = some y → ∃ r, cs' = f r) : ∃ xs : List α, Arr v f sz (heapOf W) xs := by
  obtain ⟨fuel, hfu⟩ := h
  rw [slice_cells ht hv] at hfu
  obtain ⟨v', xs, hcs, hA⟩ := arr_recs hf hone hsz ht hc hfu (slice_weight ht hb hw) dec
  simp only [List.cons.injEq, and_true] at hcs
  subst hcs
  exact ⟨xs, hA⟩
end
end Go.X

/- The type table of this seat as instances; written by program. No condition. -/
namespace Go.X
open Go.Proofs
set_option maxRecDepth 10000
instance : Und Try.prog 0 (Go.TypeDesc.tuple #[]) := ⟨Try.runUnderlying0⟩
instance : IsAgg Try.prog 0 false := ⟨Try.isAgg0⟩
instance : TySize Try.prog 0 1 := ⟨Try.sizeOf0⟩
instance : TyBytes Try.prog 0 0 := ⟨_, Try.typeInfo0, rfl⟩
instance : Zero Try.prog 0 [(Go.Value.tuple #[])] := ⟨_, Try.zeroValue0, rfl⟩
instance : Und Try.prog 1 (Go.TypeDesc.func #[] #[] Bool.false) := ⟨Try.runUnderlying1⟩
instance : IsAgg Try.prog 1 false := ⟨Try.isAgg1⟩
instance : TySize Try.prog 1 1 := ⟨Try.sizeOf1⟩
instance : TyBytes Try.prog 1 8 := ⟨_, Try.typeInfo1, rfl⟩
instance : Zero Try.prog 1 [Go.Value.nilFunc] := ⟨_, Try.zeroValue1, rfl⟩
instance : Und Try.prog 2 (Go.TypeDesc.int Go.IntKind.i64) := ⟨Try.runUnderlying2⟩
instance : IsAgg Try.prog 2 false := ⟨Try.isAgg2⟩
instance : TySize Try.prog 2 1 := ⟨Try.sizeOf2⟩
instance : TyBytes Try.prog 2 8 := ⟨_, Try.typeInfo2, rfl⟩
instance : Zero Try.prog 2 [(Go.Value.int Go.IntKind.i64 0)] := ⟨_, Try.zeroValue2, rfl⟩
instance : Und Try.prog 3 (Go.TypeDesc.int Go.IntKind.i64) := ⟨Try.runUnderlying3⟩
instance : IsAgg Try.prog 3 false := ⟨Try.isAgg3⟩
instance : TySize Try.prog 3 1 := ⟨Try.sizeOf3⟩
instance : TyBytes Try.prog 3 8 := ⟨_, Try.typeInfo3, rfl⟩
instance : Zero Try.prog 3 [(Go.Value.int Go.IntKind.i64 0)] := ⟨_, Try.zeroValue3, rfl⟩
instance : Und Try.prog 4 Go.TypeDesc.bool := ⟨Try.runUnderlying4⟩
instance : IsAgg Try.prog 4 false := ⟨Try.isAgg4⟩
instance : TySize Try.prog 4 1 := ⟨Try.sizeOf4⟩
instance : TyBytes Try.prog 4 1 := ⟨_, Try.typeInfo4, rfl⟩
instance : Zero Try.prog 4 [(Go.Value.bool Bool.false)] := ⟨_, Try.zeroValue4, rfl⟩
instance : Und Try.prog 5 (Go.TypeDesc.int Go.IntKind.u8) := ⟨Try.runUnderlying5⟩
instance : IsAgg Try.prog 5 false := ⟨Try.isAgg5⟩
instance : TySize Try.prog 5 1 := ⟨Try.sizeOf5⟩
instance : TyBytes Try.prog 5 1 := ⟨_, Try.typeInfo5, rfl⟩
instance : Zero Try.prog 5 [(Go.Value.int Go.IntKind.u8 0)] := ⟨_, Try.zeroValue5, rfl⟩
instance : Und Try.prog 6 (Go.TypeDesc.int Go.IntKind.u8) := ⟨Try.runUnderlying6⟩
instance : IsAgg Try.prog 6 false := ⟨Try.isAgg6⟩
instance : TySize Try.prog 6 1 := ⟨Try.sizeOf6⟩
instance : TyBytes Try.prog 6 1 := ⟨_, Try.typeInfo6, rfl⟩
instance : Zero Try.prog 6 [(Go.Value.int Go.IntKind.u8 0)] := ⟨_, Try.zeroValue6, rfl⟩
instance : Und Try.prog 9 Go.TypeDesc.string := ⟨Try.runUnderlying9⟩
instance : IsAgg Try.prog 9 false := ⟨Try.isAgg9⟩
instance : TySize Try.prog 9 1 := ⟨Try.sizeOf9⟩
instance : TyBytes Try.prog 9 16 := ⟨_, Try.typeInfo9, rfl⟩
instance : Zero Try.prog 9 [(Go.Value.string (ByteArray.mk #[]))] := ⟨_, Try.zeroValue9, rfl⟩
instance : Und Try.prog 11 Go.TypeDesc.string := ⟨Try.runUnderlying11⟩
instance : IsAgg Try.prog 11 false := ⟨Try.isAgg11⟩
instance : TySize Try.prog 11 1 := ⟨Try.sizeOf11⟩
instance : TyBytes Try.prog 11 16 := ⟨_, Try.typeInfo11, rfl⟩
instance : Zero Try.prog 11 [(Go.Value.string (ByteArray.mk #[]))] := ⟨_, Try.zeroValue11, rfl⟩
instance : Und Try.prog 22 (Go.TypeDesc.slice 73) := ⟨Try.runUnderlying22⟩
instance : IsAgg Try.prog 22 false := ⟨Try.isAgg22⟩
instance : TySize Try.prog 22 1 := ⟨Try.sizeOf22⟩
instance : TyBytes Try.prog 22 24 := ⟨_, Try.typeInfo22, rfl⟩
instance : Zero Try.prog 22 [(Go.Value.slice none 0 0)] := ⟨_, Try.zeroValue22, rfl⟩
instance : Und Try.prog 23 (Go.TypeDesc.slice 85) := ⟨Try.runUnderlying23⟩
instance : IsAgg Try.prog 23 false := ⟨Try.isAgg23⟩
instance : TySize Try.prog 23 1 := ⟨Try.sizeOf23⟩
instance : TyBytes Try.prog 23 24 := ⟨_, Try.typeInfo23, rfl⟩
instance : Zero Try.prog 23 [(Go.Value.slice none 0 0)] := ⟨_, Try.zeroValue23, rfl⟩
instance : Und Try.prog 25 (Go.TypeDesc.struct #[(Go.Field.mk "Batteries" 22 0 Bool.false "" "" 0), (Go.Field.mk "Generators" 23 1 Bool.false "" "" 24)]) := ⟨Try.runUnderlying25⟩
instance : IsAgg Try.prog 25 true := ⟨Try.isAgg25⟩
instance : TySize Try.prog 25 2 := ⟨Try.sizeOf25⟩
instance : TyBytes Try.prog 25 48 := ⟨_, Try.typeInfo25, rfl⟩
instance : Zero Try.prog 25 [(Go.Value.slice none 0 0), (Go.Value.slice none 0 0)] := ⟨_, Try.zeroValue25, rfl⟩
instance : Fld Try.prog 25 0 0 := Fld.of (n := 1) ⟨Try.runUnderlying25⟩ rfl ⟨Try.sizeOf22⟩ (by decide) rfl
instance : Fld Try.prog 25 1 1 := Fld.of (n := 1) ⟨Try.runUnderlying25⟩ rfl ⟨Try.sizeOf23⟩ (by decide) rfl
instance : Places Try.prog 25 (fun i => ([(0, 1), (1, 1)] : List (Nat × Nat))[i]?) := Places.struct ⟨Try.runUnderlying25⟩ (.c Try.sizeOf22 (.c Try.sizeOf23 .n))
instance : Und Try.prog 26 (Go.TypeDesc.slice 38) := ⟨Try.runUnderlying26⟩
instance : IsAgg Try.prog 26 false := ⟨Try.isAgg26⟩
instance : TySize Try.prog 26 1 := ⟨Try.sizeOf26⟩
instance : TyBytes Try.prog 26 24 := ⟨_, Try.typeInfo26, rfl⟩
instance : Zero Try.prog 26 [(Go.Value.slice none 0 0)] := ⟨_, Try.zeroValue26, rfl⟩
instance : Und Try.prog 30 (Go.TypeDesc.slice 104) := ⟨Try.runUnderlying30⟩
instance : IsAgg Try.prog 30 false := ⟨Try.isAgg30⟩
instance : TySize Try.prog 30 1 := ⟨Try.sizeOf30⟩
instance : TyBytes Try.prog 30 24 := ⟨_, Try.typeInfo30, rfl⟩
instance : Zero Try.prog 30 [(Go.Value.slice none 0 0)] := ⟨_, Try.zeroValue30, rfl⟩
instance : Und Try.prog 31 (Go.TypeDesc.slice 88) := ⟨Try.runUnderlying31⟩
instance : IsAgg Try.prog 31 false := ⟨Try.isAgg31⟩
instance : TySize Try.prog 31 1 := ⟨Try.sizeOf31⟩
instance : TyBytes Try.prog 31 24 := ⟨_, Try.typeInfo31, rfl⟩
instance : Zero Try.prog 31 [(Go.Value.slice none 0 0)] := ⟨_, Try.zeroValue31, rfl⟩
instance : Und Try.prog 33 (Go.TypeDesc.struct #[(Go.Field.mk "Batteries" 30 0 Bool.false "" "" 0), (Go.Field.mk "Generators" 31 1 Bool.false "" "" 24)]) := ⟨Try.runUnderlying33⟩
instance : IsAgg Try.prog 33 true := ⟨Try.isAgg33⟩
instance : TySize Try.prog 33 2 := ⟨Try.sizeOf33⟩
instance : TyBytes Try.prog 33 48 := ⟨_, Try.typeInfo33, rfl⟩
instance : Zero Try.prog 33 [(Go.Value.slice none 0 0), (Go.Value.slice none 0 0)] := ⟨_, Try.zeroValue33, rfl⟩
instance : Fld Try.prog 33 0 0 := Fld.of (n := 1) ⟨Try.runUnderlying33⟩ rfl ⟨Try.sizeOf30⟩ (by decide) rfl
instance : Fld Try.prog 33 1 1 := Fld.of (n := 1) ⟨Try.runUnderlying33⟩ rfl ⟨Try.sizeOf31⟩ (by decide) rfl
instance : Places Try.prog 33 (fun i => ([(0, 1), (1, 1)] : List (Nat × Nat))[i]?) := Places.struct ⟨Try.runUnderlying33⟩ (.c Try.sizeOf30 (.c Try.sizeOf31 .n))
instance : Und Try.prog 38 (Go.TypeDesc.struct #[(Go.Field.mk "Seconds" 3 0 Bool.false "" "" 0), (Go.Field.mk "Power" 3 1 Bool.false "" "" 8)]) := ⟨Try.runUnderlying38⟩
instance : IsAgg Try.prog 38 true := ⟨Try.isAgg38⟩
instance : TySize Try.prog 38 2 := ⟨Try.sizeOf38⟩
instance : TyBytes Try.prog 38 16 := ⟨_, Try.typeInfo38, rfl⟩
instance : Zero Try.prog 38 [(Go.Value.int Go.IntKind.i64 0), (Go.Value.int Go.IntKind.i64 0)] := ⟨_, Try.zeroValue38, rfl⟩
instance : Fld Try.prog 38 0 0 := Fld.of (n := 1) ⟨Try.runUnderlying38⟩ rfl ⟨Try.sizeOf3⟩ (by decide) rfl
instance : Fld Try.prog 38 1 1 := Fld.of (n := 1) ⟨Try.runUnderlying38⟩ rfl ⟨Try.sizeOf3⟩ (by decide) rfl
instance : Places Try.prog 38 (fun i => ([(0, 1), (1, 1)] : List (Nat × Nat))[i]?) := Places.struct ⟨Try.runUnderlying38⟩ (.c Try.sizeOf3 (.c Try.sizeOf3 .n))
instance : Und Try.prog 39 (Go.TypeDesc.slice 3) := ⟨Try.runUnderlying39⟩
instance : IsAgg Try.prog 39 false := ⟨Try.isAgg39⟩
instance : TySize Try.prog 39 1 := ⟨Try.sizeOf39⟩
instance : TyBytes Try.prog 39 24 := ⟨_, Try.typeInfo39, rfl⟩
instance : Zero Try.prog 39 [(Go.Value.slice none 0 0)] := ⟨_, Try.zeroValue39, rfl⟩
instance : Und Try.prog 41 (Go.TypeDesc.struct #[(Go.Field.mk "Dark" 3 0 Bool.false "" "" 0), (Go.Field.mk "Energy" 39 1 Bool.false "" "" 8), (Go.Field.mk "Burnt" 39 2 Bool.false "" "" 32), (Go.Field.mk "Served" 3 3 Bool.false "" "" 56)]) := ⟨Try.runUnderlying41⟩
instance : IsAgg Try.prog 41 true := ⟨Try.isAgg41⟩
instance : TySize Try.prog 41 4 := ⟨Try.sizeOf41⟩
instance : TyBytes Try.prog 41 64 := ⟨_, Try.typeInfo41, rfl⟩
instance : Zero Try.prog 41 [(Go.Value.int Go.IntKind.i64 0), (Go.Value.slice none 0 0), (Go.Value.slice none 0 0), (Go.Value.int Go.IntKind.i64 0)] := ⟨_, Try.zeroValue41, rfl⟩
instance : Fld Try.prog 41 0 0 := Fld.of (n := 1) ⟨Try.runUnderlying41⟩ rfl ⟨Try.sizeOf3⟩ (by decide) rfl
instance : Fld Try.prog 41 1 1 := Fld.of (n := 1) ⟨Try.runUnderlying41⟩ rfl ⟨Try.sizeOf39⟩ (by decide) rfl
instance : Fld Try.prog 41 2 2 := Fld.of (n := 1) ⟨Try.runUnderlying41⟩ rfl ⟨Try.sizeOf39⟩ (by decide) rfl
instance : Fld Try.prog 41 3 3 := Fld.of (n := 1) ⟨Try.runUnderlying41⟩ rfl ⟨Try.sizeOf3⟩ (by decide) rfl
instance : Places Try.prog 41 (fun i => ([(0, 1), (1, 1), (2, 1), (3, 1)] : List (Nat × Nat))[i]?) := Places.struct ⟨Try.runUnderlying41⟩ (.c Try.sizeOf3 (.c Try.sizeOf39 (.c Try.sizeOf39 (.c Try.sizeOf3 .n))))
instance : Und Try.prog 42 (Go.TypeDesc.int Go.IntKind.i64) := ⟨Try.runUnderlying42⟩
instance : IsAgg Try.prog 42 false := ⟨Try.isAgg42⟩
instance : TySize Try.prog 42 1 := ⟨Try.sizeOf42⟩
instance : TyBytes Try.prog 42 8 := ⟨_, Try.typeInfo42, rfl⟩
instance : Zero Try.prog 42 [(Go.Value.int Go.IntKind.i64 0)] := ⟨_, Try.zeroValue42, rfl⟩
instance : Und Try.prog 45 (Go.TypeDesc.struct #[(Go.Field.mk "Dark" 3 0 Bool.false "" "" 0), (Go.Field.mk "Energy" 39 1 Bool.false "" "" 8), (Go.Field.mk "Burnt" 39 2 Bool.false "" "" 32), (Go.Field.mk "Served" 3 3 Bool.false "" "" 56)]) := ⟨Try.runUnderlying45⟩
instance : IsAgg Try.prog 45 true := ⟨Try.isAgg45⟩
instance : TySize Try.prog 45 4 := ⟨Try.sizeOf45⟩
instance : TyBytes Try.prog 45 64 := ⟨_, Try.typeInfo45, rfl⟩
instance : Zero Try.prog 45 [(Go.Value.int Go.IntKind.i64 0), (Go.Value.slice none 0 0), (Go.Value.slice none 0 0), (Go.Value.int Go.IntKind.i64 0)] := ⟨_, Try.zeroValue45, rfl⟩
instance : Fld Try.prog 45 0 0 := Fld.of (n := 1) ⟨Try.runUnderlying45⟩ rfl ⟨Try.sizeOf3⟩ (by decide) rfl
instance : Fld Try.prog 45 1 1 := Fld.of (n := 1) ⟨Try.runUnderlying45⟩ rfl ⟨Try.sizeOf39⟩ (by decide) rfl
instance : Fld Try.prog 45 2 2 := Fld.of (n := 1) ⟨Try.runUnderlying45⟩ rfl ⟨Try.sizeOf39⟩ (by decide) rfl
instance : Fld Try.prog 45 3 3 := Fld.of (n := 1) ⟨Try.runUnderlying45⟩ rfl ⟨Try.sizeOf3⟩ (by decide) rfl
instance : Places Try.prog 45 (fun i => ([(0, 1), (1, 1), (2, 1), (3, 1)] : List (Nat × Nat))[i]?) := Places.struct ⟨Try.runUnderlying45⟩ (.c Try.sizeOf3 (.c Try.sizeOf39 (.c Try.sizeOf39 (.c Try.sizeOf3 .n))))
instance : Und Try.prog 48 (Go.TypeDesc.slice 113) := ⟨Try.runUnderlying48⟩
instance : IsAgg Try.prog 48 false := ⟨Try.isAgg48⟩
instance : TySize Try.prog 48 1 := ⟨Try.sizeOf48⟩
instance : TyBytes Try.prog 48 24 := ⟨_, Try.typeInfo48, rfl⟩
instance : Zero Try.prog 48 [(Go.Value.slice none 0 0)] := ⟨_, Try.zeroValue48, rfl⟩
instance : Und Try.prog 60 (Go.TypeDesc.slice 5) := ⟨Try.runUnderlying60⟩
instance : IsAgg Try.prog 60 false := ⟨Try.isAgg60⟩
instance : TySize Try.prog 60 1 := ⟨Try.sizeOf60⟩
instance : TyBytes Try.prog 60 24 := ⟨_, Try.typeInfo60, rfl⟩
instance : Zero Try.prog 60 [(Go.Value.slice none 0 0)] := ⟨_, Try.zeroValue60, rfl⟩
instance : Und Try.prog 70 (Go.TypeDesc.int Go.IntKind.u16) := ⟨Try.runUnderlying70⟩
instance : IsAgg Try.prog 70 false := ⟨Try.isAgg70⟩
instance : TySize Try.prog 70 1 := ⟨Try.sizeOf70⟩
instance : TyBytes Try.prog 70 2 := ⟨_, Try.typeInfo70, rfl⟩
instance : Zero Try.prog 70 [(Go.Value.int Go.IntKind.u16 0)] := ⟨_, Try.zeroValue70, rfl⟩
instance : Und Try.prog 73 (Go.TypeDesc.struct #[(Go.Field.mk "Energy" 3 0 Bool.false "" "" 0), (Go.Field.mk "Full" 3 1 Bool.false "" "" 8), (Go.Field.mk "Power" 3 2 Bool.false "" "" 16), (Go.Field.mk "Charge" 3 3 Bool.false "" "" 24)]) := ⟨Try.runUnderlying73⟩
instance : IsAgg Try.prog 73 true := ⟨Try.isAgg73⟩
instance : TySize Try.prog 73 4 := ⟨Try.sizeOf73⟩
instance : TyBytes Try.prog 73 32 := ⟨_, Try.typeInfo73, rfl⟩
instance : Zero Try.prog 73 [(Go.Value.int Go.IntKind.i64 0), (Go.Value.int Go.IntKind.i64 0), (Go.Value.int Go.IntKind.i64 0), (Go.Value.int Go.IntKind.i64 0)] := ⟨_, Try.zeroValue73, rfl⟩
instance : Fld Try.prog 73 0 0 := Fld.of (n := 1) ⟨Try.runUnderlying73⟩ rfl ⟨Try.sizeOf3⟩ (by decide) rfl
instance : Fld Try.prog 73 1 1 := Fld.of (n := 1) ⟨Try.runUnderlying73⟩ rfl ⟨Try.sizeOf3⟩ (by decide) rfl
instance : Fld Try.prog 73 2 2 := Fld.of (n := 1) ⟨Try.runUnderlying73⟩ rfl ⟨Try.sizeOf3⟩ (by decide) rfl
instance : Fld Try.prog 73 3 3 := Fld.of (n := 1) ⟨Try.runUnderlying73⟩ rfl ⟨Try.sizeOf3⟩ (by decide) rfl
instance : Places Try.prog 73 (fun i => ([(0, 1), (1, 1), (2, 1), (3, 1)] : List (Nat × Nat))[i]?) := Places.struct ⟨Try.runUnderlying73⟩ (.c Try.sizeOf3 (.c Try.sizeOf3 (.c Try.sizeOf3 (.c Try.sizeOf3 .n))))
instance : Und Try.prog 77 (Go.TypeDesc.slice 39) := ⟨Try.runUnderlying77⟩
instance : IsAgg Try.prog 77 false := ⟨Try.isAgg77⟩
instance : TySize Try.prog 77 1 := ⟨Try.sizeOf77⟩
instance : TyBytes Try.prog 77 24 := ⟨_, Try.typeInfo77, rfl⟩
instance : Zero Try.prog 77 [(Go.Value.slice none 0 0)] := ⟨_, Try.zeroValue77, rfl⟩
instance : Und Try.prog 85 (Go.TypeDesc.struct #[(Go.Field.mk "Power" 3 0 Bool.false "" "" 0), (Go.Field.mk "Ramp" 3 1 Bool.false "" "" 8), (Go.Field.mk "Delay" 3 2 Bool.false "" "" 16), (Go.Field.mk "Pause" 3 3 Bool.false "" "" 24), (Go.Field.mk "Tries" 3 4 Bool.false "" "" 32)]) := ⟨Try.runUnderlying85⟩
instance : IsAgg Try.prog 85 true := ⟨Try.isAgg85⟩
instance : TySize Try.prog 85 5 := ⟨Try.sizeOf85⟩
instance : TyBytes Try.prog 85 40 := ⟨_, Try.typeInfo85, rfl⟩
instance : Zero Try.prog 85 [(Go.Value.int Go.IntKind.i64 0), (Go.Value.int Go.IntKind.i64 0), (Go.Value.int Go.IntKind.i64 0), (Go.Value.int Go.IntKind.i64 0), (Go.Value.int Go.IntKind.i64 0)] := ⟨_, Try.zeroValue85, rfl⟩
instance : Fld Try.prog 85 0 0 := Fld.of (n := 1) ⟨Try.runUnderlying85⟩ rfl ⟨Try.sizeOf3⟩ (by decide) rfl
instance : Fld Try.prog 85 1 1 := Fld.of (n := 1) ⟨Try.runUnderlying85⟩ rfl ⟨Try.sizeOf3⟩ (by decide) rfl
instance : Fld Try.prog 85 2 2 := Fld.of (n := 1) ⟨Try.runUnderlying85⟩ rfl ⟨Try.sizeOf3⟩ (by decide) rfl
instance : Fld Try.prog 85 3 3 := Fld.of (n := 1) ⟨Try.runUnderlying85⟩ rfl ⟨Try.sizeOf3⟩ (by decide) rfl
instance : Fld Try.prog 85 4 4 := Fld.of (n := 1) ⟨Try.runUnderlying85⟩ rfl ⟨Try.sizeOf3⟩ (by decide) rfl
instance : Places Try.prog 85 (fun i => ([(0, 1), (1, 1), (2, 1), (3, 1), (4, 1)] : List (Nat × Nat))[i]?) := Places.struct ⟨Try.runUnderlying85⟩ (.c Try.sizeOf3 (.c Try.sizeOf3 (.c Try.sizeOf3 (.c Try.sizeOf3 (.c Try.sizeOf3 .n)))))
instance : Und Try.prog 88 (Go.TypeDesc.struct #[(Go.Field.mk "Power" 3 0 Bool.false "" "" 0), (Go.Field.mk "Ramp" 3 1 Bool.false "" "" 8), (Go.Field.mk "Delay" 3 2 Bool.false "" "" 16), (Go.Field.mk "Pause" 3 3 Bool.false "" "" 24), (Go.Field.mk "Tries" 3 4 Bool.false "" "" 32)]) := ⟨Try.runUnderlying88⟩
instance : IsAgg Try.prog 88 true := ⟨Try.isAgg88⟩
instance : TySize Try.prog 88 5 := ⟨Try.sizeOf88⟩
instance : TyBytes Try.prog 88 40 := ⟨_, Try.typeInfo88, rfl⟩
instance : Zero Try.prog 88 [(Go.Value.int Go.IntKind.i64 0), (Go.Value.int Go.IntKind.i64 0), (Go.Value.int Go.IntKind.i64 0), (Go.Value.int Go.IntKind.i64 0), (Go.Value.int Go.IntKind.i64 0)] := ⟨_, Try.zeroValue88, rfl⟩
instance : Fld Try.prog 88 0 0 := Fld.of (n := 1) ⟨Try.runUnderlying88⟩ rfl ⟨Try.sizeOf3⟩ (by decide) rfl
instance : Fld Try.prog 88 1 1 := Fld.of (n := 1) ⟨Try.runUnderlying88⟩ rfl ⟨Try.sizeOf3⟩ (by decide) rfl
instance : Fld Try.prog 88 2 2 := Fld.of (n := 1) ⟨Try.runUnderlying88⟩ rfl ⟨Try.sizeOf3⟩ (by decide) rfl
instance : Fld Try.prog 88 3 3 := Fld.of (n := 1) ⟨Try.runUnderlying88⟩ rfl ⟨Try.sizeOf3⟩ (by decide) rfl
instance : Fld Try.prog 88 4 4 := Fld.of (n := 1) ⟨Try.runUnderlying88⟩ rfl ⟨Try.sizeOf3⟩ (by decide) rfl
instance : Places Try.prog 88 (fun i => ([(0, 1), (1, 1), (2, 1), (3, 1), (4, 1)] : List (Nat × Nat))[i]?) := Places.struct ⟨Try.runUnderlying88⟩ (.c Try.sizeOf3 (.c Try.sizeOf3 (.c Try.sizeOf3 (.c Try.sizeOf3 (.c Try.sizeOf3 .n)))))
instance : Und Try.prog 96 (Go.TypeDesc.pointer 3) := ⟨Try.runUnderlying96⟩
instance : IsAgg Try.prog 96 false := ⟨Try.isAgg96⟩
instance : TySize Try.prog 96 1 := ⟨Try.sizeOf96⟩
instance : TyBytes Try.prog 96 8 := ⟨_, Try.typeInfo96, rfl⟩
instance : Zero Try.prog 96 [(Go.Value.pointer none)] := ⟨_, Try.zeroValue96, rfl⟩
instance : Und Try.prog 97 (Go.TypeDesc.slice 96) := ⟨Try.runUnderlying97⟩
instance : IsAgg Try.prog 97 false := ⟨Try.isAgg97⟩
instance : TySize Try.prog 97 1 := ⟨Try.sizeOf97⟩
instance : TyBytes Try.prog 97 24 := ⟨_, Try.typeInfo97, rfl⟩
instance : Zero Try.prog 97 [(Go.Value.slice none 0 0)] := ⟨_, Try.zeroValue97, rfl⟩
instance : Und Try.prog 99 (Go.TypeDesc.slice 26) := ⟨Try.runUnderlying99⟩
instance : IsAgg Try.prog 99 false := ⟨Try.isAgg99⟩
instance : TySize Try.prog 99 1 := ⟨Try.sizeOf99⟩
instance : TyBytes Try.prog 99 24 := ⟨_, Try.typeInfo99, rfl⟩
instance : Zero Try.prog 99 [(Go.Value.slice none 0 0)] := ⟨_, Try.zeroValue99, rfl⟩
instance : Und Try.prog 104 (Go.TypeDesc.struct #[(Go.Field.mk "Energy" 3 0 Bool.false "" "" 0), (Go.Field.mk "Full" 3 1 Bool.false "" "" 8), (Go.Field.mk "Power" 3 2 Bool.false "" "" 16), (Go.Field.mk "Charge" 3 3 Bool.false "" "" 24)]) := ⟨Try.runUnderlying104⟩
instance : IsAgg Try.prog 104 true := ⟨Try.isAgg104⟩
instance : TySize Try.prog 104 4 := ⟨Try.sizeOf104⟩
instance : TyBytes Try.prog 104 32 := ⟨_, Try.typeInfo104, rfl⟩
instance : Zero Try.prog 104 [(Go.Value.int Go.IntKind.i64 0), (Go.Value.int Go.IntKind.i64 0), (Go.Value.int Go.IntKind.i64 0), (Go.Value.int Go.IntKind.i64 0)] := ⟨_, Try.zeroValue104, rfl⟩
instance : Fld Try.prog 104 0 0 := Fld.of (n := 1) ⟨Try.runUnderlying104⟩ rfl ⟨Try.sizeOf3⟩ (by decide) rfl
instance : Fld Try.prog 104 1 1 := Fld.of (n := 1) ⟨Try.runUnderlying104⟩ rfl ⟨Try.sizeOf3⟩ (by decide) rfl
instance : Fld Try.prog 104 2 2 := Fld.of (n := 1) ⟨Try.runUnderlying104⟩ rfl ⟨Try.sizeOf3⟩ (by decide) rfl
instance : Fld Try.prog 104 3 3 := Fld.of (n := 1) ⟨Try.runUnderlying104⟩ rfl ⟨Try.sizeOf3⟩ (by decide) rfl
instance : Places Try.prog 104 (fun i => ([(0, 1), (1, 1), (2, 1), (3, 1)] : List (Nat × Nat))[i]?) := Places.struct ⟨Try.runUnderlying104⟩ (.c Try.sizeOf3 (.c Try.sizeOf3 (.c Try.sizeOf3 (.c Try.sizeOf3 .n))))
instance : Und Try.prog 113 (Go.TypeDesc.struct #[(Go.Field.mk "Seconds" 3 0 Bool.false "" "" 0), (Go.Field.mk "Power" 3 1 Bool.false "" "" 8)]) := ⟨Try.runUnderlying113⟩
instance : IsAgg Try.prog 113 true := ⟨Try.isAgg113⟩
instance : TySize Try.prog 113 2 := ⟨Try.sizeOf113⟩
instance : TyBytes Try.prog 113 16 := ⟨_, Try.typeInfo113, rfl⟩
instance : Zero Try.prog 113 [(Go.Value.int Go.IntKind.i64 0), (Go.Value.int Go.IntKind.i64 0)] := ⟨_, Try.zeroValue113, rfl⟩
instance : Fld Try.prog 113 0 0 := Fld.of (n := 1) ⟨Try.runUnderlying113⟩ rfl ⟨Try.sizeOf3⟩ (by decide) rfl
instance : Fld Try.prog 113 1 1 := Fld.of (n := 1) ⟨Try.runUnderlying113⟩ rfl ⟨Try.sizeOf3⟩ (by decide) rfl
instance : Places Try.prog 113 (fun i => ([(0, 1), (1, 1)] : List (Nat × Nat))[i]?) := Places.struct ⟨Try.runUnderlying113⟩ (.c Try.sizeOf3 (.c Try.sizeOf3 .n))
instance : Und Try.prog 123 (Go.TypeDesc.func #[39] #[] Bool.false) := ⟨Try.runUnderlying123⟩
instance : IsAgg Try.prog 123 false := ⟨Try.isAgg123⟩
instance : TySize Try.prog 123 1 := ⟨Try.sizeOf123⟩
instance : TyBytes Try.prog 123 8 := ⟨_, Try.typeInfo123, rfl⟩
instance : Zero Try.prog 123 [Go.Value.nilFunc] := ⟨_, Try.zeroValue123, rfl⟩
instance : Und Try.prog 131 (Go.TypeDesc.int Go.IntKind.u64) := ⟨Try.runUnderlying131⟩
instance : IsAgg Try.prog 131 false := ⟨Try.isAgg131⟩
instance : TySize Try.prog 131 1 := ⟨Try.sizeOf131⟩
instance : TyBytes Try.prog 131 8 := ⟨_, Try.typeInfo131, rfl⟩
instance : Zero Try.prog 131 [(Go.Value.int Go.IntKind.u64 0)] := ⟨_, Try.zeroValue131, rfl⟩
instance : Und Try.prog 141 (Go.TypeDesc.pointer 153) := ⟨Try.runUnderlying141⟩
instance : IsAgg Try.prog 141 false := ⟨Try.isAgg141⟩
instance : TySize Try.prog 141 1 := ⟨Try.sizeOf141⟩
instance : TyBytes Try.prog 141 8 := ⟨_, Try.typeInfo141, rfl⟩
instance : Zero Try.prog 141 [(Go.Value.pointer none)] := ⟨_, Try.zeroValue141, rfl⟩
instance : Und Try.prog 146 (Go.TypeDesc.func #[3, 3, 4] #[3] Bool.false) := ⟨Try.runUnderlying146⟩
instance : IsAgg Try.prog 146 false := ⟨Try.isAgg146⟩
instance : TySize Try.prog 146 1 := ⟨Try.sizeOf146⟩
instance : TyBytes Try.prog 146 8 := ⟨_, Try.typeInfo146, rfl⟩
instance : Zero Try.prog 146 [Go.Value.nilFunc] := ⟨_, Try.zeroValue146, rfl⟩
instance : Und Try.prog 151 (Go.TypeDesc.slice 163) := ⟨Try.runUnderlying151⟩
instance : IsAgg Try.prog 151 false := ⟨Try.isAgg151⟩
instance : TySize Try.prog 151 1 := ⟨Try.sizeOf151⟩
instance : TyBytes Try.prog 151 24 := ⟨_, Try.typeInfo151, rfl⟩
instance : Zero Try.prog 151 [(Go.Value.slice none 0 0)] := ⟨_, Try.zeroValue151, rfl⟩
instance : Und Try.prog 153 (Go.TypeDesc.struct #[(Go.Field.mk "bank" 25 0 Bool.false "" "switchgear/bank" 0), (Go.Field.mk "starts" 39 2 Bool.false "" "switchgear/bank" 48), (Go.Field.mk "cells" 151 3 Bool.false "" "switchgear/bank" 72), (Go.Field.mk "burnt" 39 4 Bool.false "" "switchgear/bank" 96), (Go.Field.mk "served" 3 5 Bool.false "" "switchgear/bank" 120)]) := ⟨Try.runUnderlying153⟩
instance : IsAgg Try.prog 153 true := ⟨Try.isAgg153⟩
instance : TySize Try.prog 153 6 := ⟨Try.sizeOf153⟩
instance : TyBytes Try.prog 153 128 := ⟨_, Try.typeInfo153, rfl⟩
instance : Zero Try.prog 153 [(Go.Value.slice none 0 0), (Go.Value.slice none 0 0), (Go.Value.slice none 0 0), (Go.Value.slice none 0 0), (Go.Value.slice none 0 0), (Go.Value.int Go.IntKind.i64 0)] := ⟨_, Try.zeroValue153, rfl⟩
instance : Fld Try.prog 153 0 0 := Fld.of (n := 2) ⟨Try.runUnderlying153⟩ rfl ⟨Try.sizeOf25⟩ (by decide) rfl
instance : Fld Try.prog 153 1 2 := Fld.of (n := 1) ⟨Try.runUnderlying153⟩ rfl ⟨Try.sizeOf39⟩ (by decide) rfl
instance : Fld Try.prog 153 2 3 := Fld.of (n := 1) ⟨Try.runUnderlying153⟩ rfl ⟨Try.sizeOf151⟩ (by decide) rfl
instance : Fld Try.prog 153 3 4 := Fld.of (n := 1) ⟨Try.runUnderlying153⟩ rfl ⟨Try.sizeOf39⟩ (by decide) rfl
instance : Fld Try.prog 153 4 5 := Fld.of (n := 1) ⟨Try.runUnderlying153⟩ rfl ⟨Try.sizeOf3⟩ (by decide) rfl
instance : Places Try.prog 153 (fun i => ([(0, 2), (2, 1), (3, 1), (4, 1), (5, 1)] : List (Nat × Nat))[i]?) := Places.struct ⟨Try.runUnderlying153⟩ (.c Try.sizeOf25 (.c Try.sizeOf39 (.c Try.sizeOf151 (.c Try.sizeOf39 (.c Try.sizeOf3 .n)))))
instance : Und Try.prog 156 (Go.TypeDesc.int Go.IntKind.u32) := ⟨Try.runUnderlying156⟩
instance : IsAgg Try.prog 156 false := ⟨Try.isAgg156⟩
instance : TySize Try.prog 156 1 := ⟨Try.sizeOf156⟩
instance : TyBytes Try.prog 156 4 := ⟨_, Try.typeInfo156, rfl⟩
instance : Zero Try.prog 156 [(Go.Value.int Go.IntKind.u32 0)] := ⟨_, Try.zeroValue156, rfl⟩
instance : Und Try.prog 159 (Go.TypeDesc.int Go.IntKind.u64) := ⟨Try.runUnderlying159⟩
instance : IsAgg Try.prog 159 false := ⟨Try.isAgg159⟩
instance : TySize Try.prog 159 1 := ⟨Try.sizeOf159⟩
instance : TyBytes Try.prog 159 8 := ⟨_, Try.typeInfo159, rfl⟩
instance : Zero Try.prog 159 [(Go.Value.int Go.IntKind.u64 0)] := ⟨_, Try.zeroValue159, rfl⟩
instance : Und Try.prog 163 (Go.TypeDesc.struct #[(Go.Field.mk "Battery" 73 0 Bool.true "" "" 0), (Go.Field.mk "now" 3 4 Bool.false "" "switchgear/bank" 32)]) := ⟨Try.runUnderlying163⟩
instance : IsAgg Try.prog 163 true := ⟨Try.isAgg163⟩
instance : TySize Try.prog 163 5 := ⟨Try.sizeOf163⟩
instance : TyBytes Try.prog 163 40 := ⟨_, Try.typeInfo163, rfl⟩
instance : Zero Try.prog 163 [(Go.Value.int Go.IntKind.i64 0), (Go.Value.int Go.IntKind.i64 0), (Go.Value.int Go.IntKind.i64 0), (Go.Value.int Go.IntKind.i64 0), (Go.Value.int Go.IntKind.i64 0)] := ⟨_, Try.zeroValue163, rfl⟩
instance : Fld Try.prog 163 0 0 := Fld.of (n := 4) ⟨Try.runUnderlying163⟩ rfl ⟨Try.sizeOf73⟩ (by decide) rfl
instance : Fld Try.prog 163 1 4 := Fld.of (n := 1) ⟨Try.runUnderlying163⟩ rfl ⟨Try.sizeOf3⟩ (by decide) rfl
instance : Places Try.prog 163 (fun i => ([(0, 4), (4, 1)] : List (Nat × Nat))[i]?) := Places.struct ⟨Try.runUnderlying163⟩ (.c Try.sizeOf73 (.c Try.sizeOf3 .n))
theorem _root_.Go.Proofs.Try.mixed : Try.prog.follows .mixedOrders = true := by kernel_rfl
end Go.X

set_option linter.unusedSimpArgs false
set_option linter.unusedVariables false
set_option maxRecDepth 20000
namespace Go.X
open Go.Proofs
def encBat (x : BBat) : List Value := [.int .i64 x.energy, .int .i64 x.full, .int .i64 x.power, .int .i64 x.charge]
def encGen (x : BGen) : List Value := [.int .i64 x.power, .int .i64 x.ramp, .int .i64 x.delay, .int .i64 x.pause, .int .i64 x.tries]
def encSpan (x : BSpan) : List Value := [.int .i64 x.seconds, .int .i64 x.power]
def encCell (x : BCell) : List Value := [.int .i64 x.bat.energy, .int .i64 x.bat.full, .int .i64 x.bat.power, .int .i64 x.bat.charge, .int .i64 x.now]
abbrev batV (x : BBat) : Value := .agg #[.int .i64 x.energy, .int .i64 x.full, .int .i64 x.power, .int .i64 x.charge]
abbrev genV (x : BGen) : Value := .agg #[.int .i64 x.power, .int .i64 x.ramp, .int .i64 x.delay, .int .i64 x.pause, .int .i64 x.tries]
theorem cloneI (v : Value) (h : PHeap) (xs : List Int) [s : Arr v encI 1 h xs] (hl : xs.length ≤ 68719476736) :
    Spec Try.prog 35 #[v] [] [h] (fun v' hs => ∃ h', hs = [h'] ∧ OArr v' encI 1 3 h' xs) := by
  refine Spec.intro (fn := Try.f35) (N := 8) Try.func35 rfl Try.ntmps35 rfl fun B => ?_
  refine XK.seq ?_
  refine XK.region rfl ?_
  refine XO.q (Q.assign rfl) ?_
  refine XO.done ?_
  refine XK.seq ?_
  refine XK.seq ?_
  refine XK.region rfl ?_
  refine XO.q (Q.move rfl) ?_
  refine XO.eqNil rfl fun z4 hz4 => ?_
  refine XO.done ?_
  refine XK.if rfl (fun c0 => ?_) (fun c0 => ?_)
  · have _t0 := True.intro
    refine XK.seq ?_
    refine XK.region rfl ?_
    refine XO.q (Q.assign rfl) ?_
    refine XO.done ?_
    refine XK.rt [emp] Try.func35 Try.results35 (.t rfl .n) ?_
    exact ⟨emp, rfl, by rw [(hz4 c0).1]; exact OArr.nil (fun _ => rfl)⟩
  · have _t0 := True.intro
    refine XK.skip ?_
    refine XK.seq ?_
    refine XK.region rfl ?_
    refine XO.lit [] [] [] encI (by rfl) (by rfl) rfl (by rfl) (by exact .n _) (fun _ => rfl) (by rfl) rfl (by infer_instance) rfl fun v5 h5 O5 => ?_
    refine XO.q (Q.move rfl) ?_
    refine XO.append rfl rfl rfl rfl (by first | omega | (simp; omega)) fun v7 h7 O7 => ?_
    refine XO.q (Q.assign rfl) ?_
    refine XO.done ?_
    refine XK.rt [h7] Try.func35 Try.results35 (.t rfl .n) ?_
    exact ⟨h7, rfl, O7⟩
theorem cloneS (v : Value) (h : PHeap) (xs : List BSpan) [s : Arr v encSpan 2 h xs] (hl : xs.length ≤ 68719476736) :
    Spec Try.prog 16 #[v] [] [h] (fun v' hs => ∃ h', hs = [h'] ∧ OArr v' encSpan 2 38 h' xs) := by
  refine Spec.intro (fn := Try.f16) (N := 8) Try.func16 rfl Try.ntmps16 rfl fun B => ?_
  refine XK.seq ?_
  refine XK.region rfl ?_
  refine XO.q (Q.assign rfl) ?_
  refine XO.done ?_
  refine XK.seq ?_
  refine XK.seq ?_
  refine XK.region rfl ?_
  refine XO.q (Q.move rfl) ?_
  refine XO.eqNil rfl fun z4 hz4 => ?_
  refine XO.done ?_
  refine XK.if rfl (fun c0 => ?_) (fun c0 => ?_)
  · have _t0 := True.intro
    refine XK.seq ?_
    refine XK.region rfl ?_
    refine XO.q (Q.assign rfl) ?_
    refine XO.done ?_
    refine XK.rt [emp] Try.func16 Try.results16 (.t rfl .n) ?_
    exact ⟨emp, rfl, by rw [(hz4 c0).1]; exact OArr.nil (fun _ => rfl)⟩
  · have _t0 := True.intro
    refine XK.skip ?_
    refine XK.seq ?_
    refine XK.region rfl ?_
    refine XO.lit [] [] [] encSpan (by rfl) (by rfl) rfl (by rfl) (by exact .n _) (fun _ => rfl) (by rfl) rfl (by infer_instance) rfl fun v5 h5 O5 => ?_
    refine XO.q (Q.move rfl) ?_
    refine XO.append rfl rfl rfl rfl (by first | omega | (simp; omega)) fun v7 h7 O7 => ?_
    refine XO.q (Q.assign rfl) ?_
    refine XO.done ?_
    refine XK.rt [h7] Try.func16 Try.results16 (.t rfl .n) ?_
    exact ⟨h7, rfl, O7⟩
theorem cloneB (v : Value) (h : PHeap) (xs : List BBat) [s : Arr v encBat 4 h xs] (hl : xs.length ≤ 68719476736) :
    Spec Try.prog 34 #[v] [] [h] (fun v' hs => ∃ h', hs = [h'] ∧ OArr v' encBat 4 73 h' xs) := by
  refine Spec.intro (fn := Try.f34) (N := 8) Try.func34 rfl Try.ntmps34 rfl fun B => ?_
  refine XK.seq ?_
  refine XK.region rfl ?_
  refine XO.q (Q.assign rfl) ?_
  refine XO.done ?_
  refine XK.seq ?_
  refine XK.seq ?_
  refine XK.region rfl ?_
  refine XO.q (Q.move rfl) ?_
  refine XO.eqNil rfl fun z4 hz4 => ?_
  refine XO.done ?_
  refine XK.if rfl (fun c0 => ?_) (fun c0 => ?_)
  · have _t0 := True.intro
    refine XK.seq ?_
    refine XK.region rfl ?_
    refine XO.q (Q.assign rfl) ?_
    refine XO.done ?_
    refine XK.rt [emp] Try.func34 Try.results34 (.t rfl .n) ?_
    exact ⟨emp, rfl, by rw [(hz4 c0).1]; exact OArr.nil (fun _ => rfl)⟩
  · have _t0 := True.intro
    refine XK.skip ?_
    refine XK.seq ?_
    refine XK.region rfl ?_
    refine XO.lit [] [] [] encBat (by rfl) (by rfl) rfl (by rfl) (by exact .n _) (fun _ => rfl) (by rfl) rfl (by infer_instance) rfl fun v5 h5 O5 => ?_
    refine XO.q (Q.move rfl) ?_
    refine XO.append rfl rfl rfl rfl (by first | omega | (simp; omega)) fun v7 h7 O7 => ?_
    refine XO.q (Q.assign rfl) ?_
    refine XO.done ?_
    refine XK.rt [h7] Try.func34 Try.results34 (.t rfl .n) ?_
    exact ⟨h7, rfl, O7⟩
theorem cloneC (v : Value) (h : PHeap) (xs : List BCell) [s : Arr v encCell 5 h xs] (hl : xs.length ≤ 68719476736) :
    Spec Try.prog 98 #[v] [] [h] (fun v' hs => ∃ h', hs = [h'] ∧ OArr v' encCell 5 163 h' xs) := by
  refine Spec.intro (fn := Try.f98) (N := 8) Try.func98 rfl Try.ntmps98 rfl fun B => ?_
  refine XK.seq ?_
  refine XK.region rfl ?_
  refine XO.q (Q.assign rfl) ?_
  refine XO.done ?_
  refine XK.seq ?_
  refine XK.seq ?_
  refine XK.region rfl ?_
  refine XO.q (Q.move rfl) ?_
  refine XO.eqNil rfl fun z4 hz4 => ?_
  refine XO.done ?_
  refine XK.if rfl (fun c0 => ?_) (fun c0 => ?_)
  · have _t0 := True.intro
    refine XK.seq ?_
    refine XK.region rfl ?_
    refine XO.q (Q.assign rfl) ?_
    refine XO.done ?_
    refine XK.rt [emp] Try.func98 Try.results98 (.t rfl .n) ?_
    exact ⟨emp, rfl, by rw [(hz4 c0).1]; exact OArr.nil (fun _ => rfl)⟩
  · have _t0 := True.intro
    refine XK.skip ?_
    refine XK.seq ?_
    refine XK.region rfl ?_
    refine XO.lit [] [] [] encCell (by rfl) (by rfl) rfl (by rfl) (by exact .n _) (fun _ => rfl) (by rfl) rfl (by infer_instance) rfl fun v5 h5 O5 => ?_
    refine XO.q (Q.move rfl) ?_
    refine XO.append rfl rfl rfl rfl (by first | omega | (simp; omega)) fun v7 h7 O7 => ?_
    refine XO.q (Q.assign rfl) ?_
    refine XO.done ?_
    refine XK.rt [h7] Try.func98 Try.results98 (.t rfl .n) ?_
    exact ⟨h7, rfl, O7⟩
theorem equalI (v1 v2 : Value) (h1 h2 : PHeap) (xs ys : List Int) [s1 : Arr v1 encI 1 h1 xs] [s2 : Arr v2 encI 1 h2 ys] :
    Spec Try.prog 24 #[v1, v2] [] [h1, h2] (fun v hs => v = .bool (decide (xs = ys)) ∧ hs = []) := by
  refine Spec.intro (fn := Try.f24) (N := 26) Try.func24 rfl Try.ntmps24 rfl fun B => ?_
  refine XK.seq ?_
  refine XK.region rfl ?_
  refine XO.q (Q.assign rfl) ?_
  refine XO.done ?_
  refine XK.seq ?_
  refine XK.seq ?_
  refine XK.region rfl ?_
  refine XO.q (Q.move rfl) ?_
  refine XO.len rfl fun l7 => ?_
  refine XO.q (Q.move rfl) ?_
  refine XO.len rfl fun l9 => ?_
  refine XO.q (Q.neq rfl rfl) ?_
  refine XO.done ?_
  refine XK.if rfl (fun c0 => ?_) (fun c0 => ?_)
  · have _t0 := True.intro
    refine XK.seq ?_
    refine XK.region rfl ?_
    refine XO.q (Q.assign rfl) ?_
    refine XO.done ?_
    refine XK.rt [] Try.func24 Try.results24 (.t rfl .n) ?_
    exact ⟨by rw [decide_eq_false (fun h => c0 (by rw [h]))], rfl⟩
  · have _t0 := True.intro
    refine XK.skip ?_
    refine XK.seq ?_
    refine XK.seq ?_
    refine XK.region rfl ?_
    refine XO.q (Q.move rfl) ?_
    refine XO.len rfl fun l12 => ?_
    refine XO.q (Q.move rfl) ?_
    refine XO.done ?_
    refine XK.block ?_
    refine XK.while (X := Nat) [4, 5, 13, 14, 15, 16, 17, 18, 19, 20, 21, 22, 23, 24, 25] (fun i => [(13, some (.int .i64 (i : Nat)))]) (fun i => []) (fun i => i ≤ xs.length ∧ xs.take i = ys.take i) (fun i => xs.length - i) (0) [] rfl ⟨by omega, rfl⟩ (.c rfl (.base 0 rfl rfl)) ?_
    rintro i ⟨hi, ht⟩ ih0
    dsimp only [List.cons_append, List.nil_append] at ih0 ⊢
    refine XK.seq ?_
    refine XK.region rfl ?_
    refine XO.q (Q.lss rfl rfl) ?_
    refine XO.done ?_
    refine XK.seq ?_
    refine XK.if rfl (fun c1 => ?_) (fun c1 => ?_)
    · have _t1 := True.intro
      refine XK.skip ?_
      refine XK.seq ?_
      refine XK.block ?_
      refine XK.seq ?_
      refine XK.region rfl ?_
      refine XO.q (Q.move rfl) ?_
      refine XO.q (Q.assign rfl) ?_
      refine XO.done ?_
      refine XK.seq ?_
      refine XK.drawn [0, 1, 2, 3, 4, 5, 6, 7, 8] [] [] (.q 0 (.q 1 (.q 2 (.q 3 (.q 4 (.q 5 (.q 6 (.q 7 (.q 8 .done))))))))) Try.mixed rfl (by kernel_rfl) ?_
      refine XT.q rfl rfl (Q.move rfl) ?_
      refine XT.q rfl rfl (Q.move rfl) ?_
      refine XT.ix rfl rfl rfl rfl (by omega) (by omega) fun i18 => ?_
      refine XT.q rfl rfl (Q.ldE rfl (by first | assumption | omega) rfl) ?_
      refine XT.q rfl rfl (Q.move rfl) ?_
      refine XT.q rfl rfl (Q.move rfl) ?_
      refine XT.ix rfl rfl rfl rfl (by omega) (by omega) fun i22 => ?_
      refine XT.q rfl rfl (Q.ldE rfl (by first | assumption | omega) rfl) ?_
      refine XT.q rfl rfl (Q.neq rfl rfl) ?_
      refine XT.done ?_
      refine XK.if rfl (fun c2 => ?_) (fun c2 => ?_)
      · have _t2 := True.intro
        refine XK.seq ?_
        refine XK.region rfl ?_
        refine XO.q (Q.assign rfl) ?_
        refine XO.done ?_
        refine XK.rt [] Try.func24 Try.results24 (.t rfl .n) ?_
        exact ⟨by rw [decide_eq_false (fun h => c2 (by rw [h]))], rfl⟩
      · have _t2 := True.intro
        refine XK.skip ?_
        refine XK.inBlock ?_
        refine XK.region rfl ?_
        refine XO.q (Q.add rfl rfl ⟨by omega, by omega⟩) ?_
        refine XO.q (Q.move rfl) ?_
        refine XO.done ?_
        exact ih0 (i + 1) _ _ ⟨by omega, take_step ht (by omega) (by omega) (Decidable.of_not_not c2)⟩ (by first | omega | (dsimp only; omega)) (.c rfl (.base 30 rfl rfl)) inferInstance
    · have _t1 := True.intro
      refine XK.exit rfl ?_
      refine XK.seq ?_
      refine XK.region rfl ?_
      refine XO.q (Q.assign rfl) ?_
      refine XO.done ?_
      refine XK.rt [] Try.func24 Try.results24 (.t rfl .n) ?_
      exact ⟨by rw [decide_eq_true (take_all ht c1 (by omega))], rfl⟩
theorem indexFuncI (v : Value) (h : PHeap) (xs : List Int) [s : Arr v encI 1 h xs] (gid : FuncId) (cap : List Value) (Hr : List PHeap) (p : Int → Bool)
    (hc : ∀ args w, (callFunc gid args).run Try.prog w = .ok (.enter gid args) w) (hS : ∀ x ∈ xs, Spec Try.prog gid (.int .i64 x :: cap).toArray [] Hr (fun v hs => v = .bool (p x) ∧ hs = [])) :
    Spec Try.prog 103 #[v, .func (.func gid) #[] cap.toArray] [] (h :: Hr) (fun v hs => v = .int .i64 (findFirst p xs) ∧ hs = []) := by
  refine Spec.intro (fn := Try.f103) (N := 19) Try.func103 rfl Try.ntmps103 rfl fun B => ?_
  refine XK.seq ?_
  refine XK.region rfl ?_
  refine XO.q (Q.assign rfl) ?_
  refine XO.done ?_
  refine XK.seq ?_
  refine XK.seq ?_
  refine XK.region rfl ?_
  refine XO.q (Q.move rfl) ?_
  refine XO.len rfl fun l7 => ?_
  refine XO.q (Q.move rfl) ?_
  refine XO.done ?_
  refine XK.block ?_
  refine XK.while (X := Nat) [4, 5, 8, 9, 10, 11, 12, 13, 14, 15, 16, 17, 18] (fun i => [(8, some (.int .i64 (i : Nat)))]) (fun i => []) (fun i => i ≤ xs.length ∧ (xs.take i).any p = false) (fun i => xs.length - i) (0) [] rfl ⟨by omega, rfl⟩ (.c rfl (.base 0 rfl rfl)) ?_
  rintro i ⟨hi, ht⟩ ih0
  dsimp only [List.cons_append, List.nil_append] at ih0 ⊢
  refine XK.seq ?_
  refine XK.region rfl ?_
  refine XO.q (Q.lss rfl rfl) ?_
  refine XO.done ?_
  refine XK.seq ?_
  refine XK.if rfl (fun c0 => ?_) (fun c0 => ?_)
  · have _t0 := True.intro
    refine XK.skip ?_
    refine XK.seq ?_
    refine XK.block ?_
    refine XK.seq ?_
    refine XK.region rfl ?_
    refine XO.q (Q.move rfl) ?_
    refine XO.q (Q.assign rfl) ?_
    refine XO.done ?_
    refine XK.seq ?_
    refine XK.region rfl ?_
    refine XO.q (Q.move rfl) ?_
    refine XO.q (Q.move rfl) ?_
    refine XO.q (Q.move rfl) ?_
    refine XO.ix rfl rfl (by omega) (by omega) fun i14 => ?_
    refine XO.q (Q.ldE rfl (by first | assumption | omega) rfl) ?_
    refine XO.call hc rfl rfl rfl (hS _ (getD_mem (by omega))) fun v16 s16 R16 => ?_
    obtain ⟨rfl, rfl⟩ := R16
    dsimp only [List.cons_append, List.nil_append]
    refine XO.done ?_
    refine XK.if rfl (fun c1 => ?_) (fun c1 => ?_)
    · have _t1 := True.intro
      refine XK.seq ?_
      refine XK.region rfl ?_
      refine XO.q (Q.move rfl) ?_
      refine XO.q (Q.assign rfl) ?_
      refine XO.done ?_
      refine XK.rt [] Try.func103 Try.results103 (.t rfl .n) ?_
      exact ⟨by rw [findFirst_here ht (by omega) c1], rfl⟩
    · have _t1 := True.intro
      refine XK.skip ?_
      refine XK.inBlock ?_
      refine XK.region rfl ?_
      refine XO.q (Q.add rfl rfl ⟨by omega, by omega⟩) ?_
      refine XO.q (Q.move rfl) ?_
      refine XO.done ?_
      exact ih0 (i + 1) _ _ ⟨by omega, any_step ht (by omega) (Bool.eq_false_iff.2 c1)⟩ (by first | omega | (dsimp only; omega)) (.c rfl (.base 25 rfl rfl)) inferInstance
  · have _t0 := True.intro
    refine XK.exit rfl ?_
    refine XK.seq ?_
    refine XK.region rfl ?_
    refine XO.q (Q.assign rfl) ?_
    refine XO.done ?_
    refine XK.rt [] Try.func103 Try.results103 (.t rfl .n) ?_
    exact ⟨by rw [findFirst_none ht c0], rfl⟩
theorem containsFuncI (v : Value) (h : PHeap) (xs : List Int) [s : Arr v encI 1 h xs] (gid : FuncId) (cap : List Value) (Hr : List PHeap) (p : Int → Bool)
    (hc : ∀ args w, (callFunc gid args).run Try.prog w = .ok (.enter gid args) w) (hS : ∀ x ∈ xs, Spec Try.prog gid (.int .i64 x :: cap).toArray [] Hr (fun v hs => v = .bool (p x) ∧ hs = [])) :
    Spec Try.prog 88 #[v, .func (.func gid) #[] cap.toArray] [] (h :: Hr) (fun v hs => v = .bool (xs.any p) ∧ hs = []) := by
  refine Spec.intro (fn := Try.f88) (N := 9) Try.func88 rfl Try.ntmps88 rfl fun B => ?_
  refine XK.seq ?_
  refine XK.region rfl ?_
  refine XO.q (Q.assign rfl) ?_
  refine XO.done ?_
  refine XK.seq ?_
  refine XK.region rfl ?_
  refine XO.q (Q.move rfl) ?_
  refine XO.q (Q.move rfl) ?_
  refine XO.call Try.call103 rfl rfl rfl (indexFuncI v h xs gid cap Hr p hc hS) fun v7 s7 R7 => ?_
  obtain ⟨rfl, rfl⟩ := R7
  dsimp only [List.cons_append, List.nil_append]
  refine XO.q (Q.geq rfl rfl) ?_
  refine XO.q (Q.assign rfl) ?_
  refine XO.done ?_
  refine XK.rt [] Try.func88 Try.results88 (.t rfl .n) ?_
  exact ⟨by rw [← findFirst_any], rfl⟩
theorem indexFuncB (v : Value) (h : PHeap) (xs : List BBat) [s : Arr v encBat 4 h xs] (gid : FuncId) (cap : List Value) (Hr : List PHeap) (p : BBat → Bool)
    (hc : ∀ args w, (callFunc gid args).run Try.prog w = .ok (.enter gid args) w) (hS : ∀ x ∈ xs, Spec Try.prog gid (batV x :: cap).toArray [] Hr (fun v hs => v = .bool (p x) ∧ hs = [])) :
    Spec Try.prog 92 #[v, .func (.func gid) #[] cap.toArray] [] (h :: Hr) (fun v hs => v = .int .i64 (findFirst p xs) ∧ hs = []) := by
  refine Spec.intro (fn := Try.f92) (N := 19) Try.func92 rfl Try.ntmps92 rfl fun B => ?_
  refine XK.seq ?_
  refine XK.region rfl ?_
  refine XO.q (Q.assign rfl) ?_
  refine XO.done ?_
  refine XK.seq ?_
  refine XK.seq ?_
  refine XK.region rfl ?_
  refine XO.q (Q.move rfl) ?_
  refine XO.len rfl fun l7 => ?_
  refine XO.q (Q.move rfl) ?_
  refine XO.done ?_
  refine XK.block ?_
  refine XK.while (X := Nat) [4, 5, 8, 9, 10, 11, 12, 13, 14, 15, 16, 17, 18] (fun i => [(8, some (.int .i64 (i : Nat)))]) (fun i => []) (fun i => i ≤ xs.length ∧ (xs.take i).any p = false) (fun i => xs.length - i) (0) [] rfl ⟨by omega, rfl⟩ (.c rfl (.base 0 rfl rfl)) ?_
  rintro i ⟨hi, ht⟩ ih0
  dsimp only [List.cons_append, List.nil_append] at ih0 ⊢
  refine XK.seq ?_
  refine XK.region rfl ?_
  refine XO.q (Q.lss rfl rfl) ?_
  refine XO.done ?_
  refine XK.seq ?_
  refine XK.if rfl (fun c0 => ?_) (fun c0 => ?_)
  · have _t0 := True.intro
    refine XK.skip ?_
    refine XK.seq ?_
    refine XK.block ?_
    refine XK.seq ?_
    refine XK.region rfl ?_
    refine XO.q (Q.move rfl) ?_
    refine XO.q (Q.assign rfl) ?_
    refine XO.done ?_
    refine XK.seq ?_
    refine XK.region rfl ?_
    refine XO.q (Q.move rfl) ?_
    refine XO.q (Q.move rfl) ?_
    refine XO.q (Q.move rfl) ?_
    refine XO.ix rfl rfl (by omega) (by omega) fun i14 => ?_
    refine XO.q (Q.ldEA [_, _, _, _] rfl (by first | assumption | omega) rfl rfl) ?_
    refine XO.call hc rfl rfl rfl (hS _ (getD_mem (by omega))) fun v16 s16 R16 => ?_
    obtain ⟨rfl, rfl⟩ := R16
    dsimp only [List.cons_append, List.nil_append]
    refine XO.done ?_
    refine XK.if rfl (fun c1 => ?_) (fun c1 => ?_)
    · have _t1 := True.intro
      refine XK.seq ?_
      refine XK.region rfl ?_
      refine XO.q (Q.move rfl) ?_
      refine XO.q (Q.assign rfl) ?_
      refine XO.done ?_
      refine XK.rt [] Try.func92 Try.results92 (.t rfl .n) ?_
      exact ⟨by rw [findFirst_here ht (by omega) c1], rfl⟩
    · have _t1 := True.intro
      refine XK.skip ?_
      refine XK.inBlock ?_
      refine XK.region rfl ?_
      refine XO.q (Q.add rfl rfl ⟨by omega, by omega⟩) ?_
      refine XO.q (Q.move rfl) ?_
      refine XO.done ?_
      exact ih0 (i + 1) _ _ ⟨by omega, any_step ht (by omega) (Bool.eq_false_iff.2 c1)⟩ (by first | omega | (dsimp only; omega)) (.c rfl (.base 25 rfl rfl)) inferInstance
  · have _t0 := True.intro
    refine XK.exit rfl ?_
    refine XK.seq ?_
    refine XK.region rfl ?_
    refine XO.q (Q.assign rfl) ?_
    refine XO.done ?_
    refine XK.rt [] Try.func92 Try.results92 (.t rfl .n) ?_
    exact ⟨by rw [findFirst_none ht c0], rfl⟩
theorem containsFuncB (v : Value) (h : PHeap) (xs : List BBat) [s : Arr v encBat 4 h xs] (gid : FuncId) (cap : List Value) (Hr : List PHeap) (p : BBat → Bool)
    (hc : ∀ args w, (callFunc gid args).run Try.prog w = .ok (.enter gid args) w) (hS : ∀ x ∈ xs, Spec Try.prog gid (batV x :: cap).toArray [] Hr (fun v hs => v = .bool (p x) ∧ hs = [])) :
    Spec Try.prog 66 #[v, .func (.func gid) #[] cap.toArray] [] (h :: Hr) (fun v hs => v = .bool (xs.any p) ∧ hs = []) := by
  refine Spec.intro (fn := Try.f66) (N := 9) Try.func66 rfl Try.ntmps66 rfl fun B => ?_
  refine XK.seq ?_
  refine XK.region rfl ?_
  refine XO.q (Q.assign rfl) ?_
  refine XO.done ?_
  refine XK.seq ?_
  refine XK.region rfl ?_
  refine XO.q (Q.move rfl) ?_
  refine XO.q (Q.move rfl) ?_
  refine XO.call Try.call92 rfl rfl rfl (indexFuncB v h xs gid cap Hr p hc hS) fun v7 s7 R7 => ?_
  obtain ⟨rfl, rfl⟩ := R7
  dsimp only [List.cons_append, List.nil_append]
  refine XO.q (Q.geq rfl rfl) ?_
  refine XO.q (Q.assign rfl) ?_
  refine XO.done ?_
  refine XK.rt [] Try.func66 Try.results66 (.t rfl .n) ?_
  exact ⟨by rw [← findFirst_any], rfl⟩
theorem indexFuncG (v : Value) (h : PHeap) (xs : List BGen) [s : Arr v encGen 5 h xs] (gid : FuncId) (cap : List Value) (Hr : List PHeap) (p : BGen → Bool)
    (hc : ∀ args w, (callFunc gid args).run Try.prog w = .ok (.enter gid args) w) (hS : ∀ x ∈ xs, Spec Try.prog gid (genV x :: cap).toArray [] Hr (fun v hs => v = .bool (p x) ∧ hs = [])) :
    Spec Try.prog 93 #[v, .func (.func gid) #[] cap.toArray] [] (h :: Hr) (fun v hs => v = .int .i64 (findFirst p xs) ∧ hs = []) := by
  refine Spec.intro (fn := Try.f93) (N := 19) Try.func93 rfl Try.ntmps93 rfl fun B => ?_
  refine XK.seq ?_
  refine XK.region rfl ?_
  refine XO.q (Q.assign rfl) ?_
  refine XO.done ?_
  refine XK.seq ?_
  refine XK.seq ?_
  refine XK.region rfl ?_
  refine XO.q (Q.move rfl) ?_
  refine XO.len rfl fun l7 => ?_
  refine XO.q (Q.move rfl) ?_
  refine XO.done ?_
  refine XK.block ?_
  refine XK.while (X := Nat) [4, 5, 8, 9, 10, 11, 12, 13, 14, 15, 16, 17, 18] (fun i => [(8, some (.int .i64 (i : Nat)))]) (fun i => []) (fun i => i ≤ xs.length ∧ (xs.take i).any p = false) (fun i => xs.length - i) (0) [] rfl ⟨by omega, rfl⟩ (.c rfl (.base 0 rfl rfl)) ?_
  rintro i ⟨hi, ht⟩ ih0
  dsimp only [List.cons_append, List.nil_append] at ih0 ⊢
  refine XK.seq ?_
  refine XK.region rfl ?_
  refine XO.q (Q.lss rfl rfl) ?_
  refine XO.done ?_
  refine XK.seq ?_
  refine XK.if rfl (fun c0 => ?_) (fun c0 => ?_)
  · have _t0 := True.intro
    refine XK.skip ?_
    refine XK.seq ?_
    refine XK.block ?_
    refine XK.seq ?_
    refine XK.region rfl ?_
    refine XO.q (Q.move rfl) ?_
    refine XO.q (Q.assign rfl) ?_
    refine XO.done ?_
    refine XK.seq ?_
    refine XK.region rfl ?_
    refine XO.q (Q.move rfl) ?_
    refine XO.q (Q.move rfl) ?_
    refine XO.q (Q.move rfl) ?_
    refine XO.ix rfl rfl (by omega) (by omega) fun i14 => ?_
    refine XO.q (Q.ldEA [_, _, _, _, _] rfl (by first | assumption | omega) rfl rfl) ?_
    refine XO.call hc rfl rfl rfl (hS _ (getD_mem (by omega))) fun v16 s16 R16 => ?_
    obtain ⟨rfl, rfl⟩ := R16
    dsimp only [List.cons_append, List.nil_append]
    refine XO.done ?_
    refine XK.if rfl (fun c1 => ?_) (fun c1 => ?_)
    · have _t1 := True.intro
      refine XK.seq ?_
      refine XK.region rfl ?_
      refine XO.q (Q.move rfl) ?_
      refine XO.q (Q.assign rfl) ?_
      refine XO.done ?_
      refine XK.rt [] Try.func93 Try.results93 (.t rfl .n) ?_
      exact ⟨by rw [findFirst_here ht (by omega) c1], rfl⟩
    · have _t1 := True.intro
      refine XK.skip ?_
      refine XK.inBlock ?_
      refine XK.region rfl ?_
      refine XO.q (Q.add rfl rfl ⟨by omega, by omega⟩) ?_
      refine XO.q (Q.move rfl) ?_
      refine XO.done ?_
      exact ih0 (i + 1) _ _ ⟨by omega, any_step ht (by omega) (Bool.eq_false_iff.2 c1)⟩ (by first | omega | (dsimp only; omega)) (.c rfl (.base 25 rfl rfl)) inferInstance
  · have _t0 := True.intro
    refine XK.exit rfl ?_
    refine XK.seq ?_
    refine XK.region rfl ?_
    refine XO.q (Q.assign rfl) ?_
    refine XO.done ?_
    refine XK.rt [] Try.func93 Try.results93 (.t rfl .n) ?_
    exact ⟨by rw [findFirst_none ht c0], rfl⟩
theorem containsFuncG (v : Value) (h : PHeap) (xs : List BGen) [s : Arr v encGen 5 h xs] (gid : FuncId) (cap : List Value) (Hr : List PHeap) (p : BGen → Bool)
    (hc : ∀ args w, (callFunc gid args).run Try.prog w = .ok (.enter gid args) w) (hS : ∀ x ∈ xs, Spec Try.prog gid (genV x :: cap).toArray [] Hr (fun v hs => v = .bool (p x) ∧ hs = [])) :
    Spec Try.prog 69 #[v, .func (.func gid) #[] cap.toArray] [] (h :: Hr) (fun v hs => v = .bool (xs.any p) ∧ hs = []) := by
  refine Spec.intro (fn := Try.f69) (N := 9) Try.func69 rfl Try.ntmps69 rfl fun B => ?_
  refine XK.seq ?_
  refine XK.region rfl ?_
  refine XO.q (Q.assign rfl) ?_
  refine XO.done ?_
  refine XK.seq ?_
  refine XK.region rfl ?_
  refine XO.q (Q.move rfl) ?_
  refine XO.q (Q.move rfl) ?_
  refine XO.call Try.call93 rfl rfl rfl (indexFuncG v h xs gid cap Hr p hc hS) fun v7 s7 R7 => ?_
  obtain ⟨rfl, rfl⟩ := R7
  dsimp only [List.cons_append, List.nil_append]
  refine XO.q (Q.geq rfl rfl) ?_
  refine XO.q (Q.assign rfl) ?_
  refine XO.done ?_
  refine XK.rt [] Try.func69 Try.results69 (.t rfl .n) ?_
  exact ⟨by rw [← findFirst_any], rfl⟩
theorem within1 (b : Nat) (m x : Int) : Spec Try.prog 89 #[.int .i64 x, ptr b 0] [] [blk b [.int .i64 m] 3] (fun v hs => v = .bool (outP m x) ∧ hs = []) := by
  refine Spec.intro (fn := Try.f89) (N := 11) Try.func89 rfl Try.ntmps89 rfl fun B => ?_
  refine XK.seq ?_
  refine XK.region rfl ?_
  refine XO.q (Q.assign rfl) ?_
  refine XO.done ?_
  refine XK.seq ?_
  refine XK.region rfl ?_
  refine XO.q (Q.move rfl) ?_
  refine XO.q (Q.lss rfl rfl) ?_
  refine XO.q (Q.move rfl) ?_
  refine XO.q (Quiet.guardF rfl rfl fun g7 p7 => Q.move rfl) ?_
  refine XO.q (Quiet.guardF rfl rfl fun g8 p8 => Q.ld rfl rfl) ?_
  refine XO.q (Quiet.guardF rfl rfl fun g9 p9 => Q.gtr (lzv g9 rfl) (lzv g9 rfl)) ?_
  refine XO.q (Q.or rfl (fun hp => lzv hp rfl)) ?_
  refine XO.q (Q.assign rfl) ?_
  refine XO.done ?_
  refine XK.rt [] Try.func89 Try.results89 (.t rfl .n) ?_
  exact ⟨rfl, rfl⟩
theorem within_spec (m : Int) (v : Value) (h : PHeap) (xs : List Int) [s : Arr v encI 1 h xs] : Spec Try.prog 59 #[.int .i64 m, v] [] [h] (fun v hs => v = .bool (inA m xs) ∧ hs = []) := by
  refine Spec.intro (fn := Try.f59) (N := 9) Try.func59 rfl Try.ntmps59 rfl fun B => ?_
  refine XK.seq ?_
  refine XK.region rfl ?_
  refine XO.box rfl fun b2 => ?_
  refine XO.q (Q.assign rfl) ?_
  refine XO.done ?_
  refine XK.seq ?_
  refine XK.region rfl ?_
  refine XO.q (Q.move rfl) ?_
  refine XO.q (Q.func (fun _ he => rfl) (fun _ he => evs_rel he rfl)) ?_
  refine XO.call Try.call88 rfl rfl rfl (containsFuncI v h xs 89 [ptr b2 0] [blk b2 [.int .i64 m] 3] (outP m) Try.call89 (fun x hx => within1 b2 m x)) fun v7 s7 R7 => ?_
  obtain ⟨rfl, rfl⟩ := R7
  dsimp only [List.cons_append, List.nil_append]
  refine XO.q (Q.not rfl) ?_
  refine XO.q (Q.assign rfl) ?_
  refine XO.done ?_
  refine XK.rt [] Try.func59 Try.results59 (.t rfl .n) ?_
  exact ⟨rfl, rfl⟩
theorem batRight (x : BBat) : Spec Try.prog 68 #[batV x] [] [] (fun v hs => v = .bool (batOk x) ∧ hs = []) := by
  refine Spec.intro (fn := Try.f68) (N := 24) Try.func68 rfl Try.ntmps68 rfl fun B => ?_
  refine XK.seq ?_
  refine XK.region rfl ?_
  refine XO.box rfl fun b1 => ?_
  refine XO.q (Q.assign rfl) ?_
  refine XO.done ?_
  refine XK.seq ?_
  refine XK.region rfl ?_
  refine XO.q (Q.fieldAddr rfl) ?_
  refine XO.q (Q.ld rfl rfl) ?_
  refine XO.q (Q.fieldAddr rfl) ?_
  refine XO.q (Q.ld rfl rfl) ?_
  refine XO.lit [_, _] [_, _] [x.energy, x.full] encI (by rfl) (by rfl) rfl (by rfl) (by exact .c 0 1 rfl rfl rfl (.c 1 1 rfl rfl rfl (.n _))) (fun _ => rfl) (by rfl) rfl (by infer_instance) rfl fun v7 h7 O7 => ?_
  refine XO.call Try.call59 rfl rfl rfl (within_spec 100000000000 v7 h7 [x.energy, x.full]) fun v8 s8 R8 => ?_
  obtain ⟨rfl, rfl⟩ := R8
  dsimp only [List.cons_append, List.nil_append]
  refine XO.q (Q.move rfl) ?_
  refine XO.q (Quiet.guardT rfl rfl fun g10 p10 => Q.fieldAddr rfl) ?_
  refine XO.q (Quiet.guardT rfl rfl fun g11 p11 => Q.ld (lzv g11 rfl) rfl) ?_
  refine XO.q (Quiet.guardT rfl rfl fun g12 p12 => Q.fieldAddr rfl) ?_
  refine XO.q (Quiet.guardT rfl rfl fun g13 p13 => Q.ld (lzv g13 rfl) rfl) ?_
  refine XO.q (Quiet.guardT rfl rfl fun g14 p14 => Q.leq (lzv g14 rfl) (lzv g14 rfl)) ?_
  refine XO.q (Q.and rfl (fun hp => lzv hp rfl)) ?_
  refine XO.q (Q.move rfl) ?_
  refine XO.q (Quiet.guardT rfl rfl fun g17 p17 => Q.fieldAddr rfl) ?_
  refine XO.q (Quiet.guardT rfl rfl fun g18 p18 => Q.ld (lzv g18 rfl) rfl) ?_
  refine XO.q (Quiet.guardT rfl rfl fun g19 p19 => Q.fieldAddr rfl) ?_
  refine XO.q (Quiet.guardT rfl rfl fun g20 p20 => Q.ld (lzv g20 rfl) rfl) ?_
  refine XO.lit1 [_, _] [_, _] [x.power, x.charge] encI rfl rfl (by rfl) (by rfl) rfl (by rfl) (fun g21 => by exact .c 0 1 (lzv g21 rfl) rfl rfl (.c 1 1 (lzv g21 rfl) rfl rfl (.n _))) (fun _ => rfl) (by rfl) rfl (fun _ => by infer_instance) rfl (fun v21 h21 O21 => ?_)
  refine XO.gcallT rfl rfl Try.call59 rfl (fun g22 => .c rfl (.c (lzv g22 rfl) .n)) rfl (fun g22 p22 => by haveI := O21 g22; exact within_spec 1000000 v21 h21 [x.power, x.charge]) ?_
  refine XO.q (Q.and rfl (fun hp => lzv hp rfl)) ?_
  refine XO.q (Q.assign rfl) ?_
  refine XO.done ?_
  refine XK.rt [] Try.func68 Try.results68 (.t rfl .n) ?_
  exact ⟨rfl, rfl⟩
theorem genRight (x : BGen) : Spec Try.prog 71 #[genV x] [] [] (fun v hs => v = .bool (genOk x) ∧ hs = []) := by
  refine Spec.intro (fn := Try.f71) (N := 27) Try.func71 rfl Try.ntmps71 rfl fun B => ?_
  refine XK.seq ?_
  refine XK.region rfl ?_
  refine XO.box rfl fun b1 => ?_
  refine XO.q (Q.assign rfl) ?_
  refine XO.done ?_
  refine XK.seq ?_
  refine XK.region rfl ?_
  refine XO.q (Q.fieldAddr rfl) ?_
  refine XO.q (Q.ld rfl rfl) ?_
  refine XO.q (Q.fieldAddr rfl) ?_
  refine XO.q (Q.ld rfl rfl) ?_
  refine XO.lit [_, _] [_, _] [x.power, x.ramp] encI (by rfl) (by rfl) rfl (by rfl) (by exact .c 0 1 rfl rfl rfl (.c 1 1 rfl rfl rfl (.n _))) (fun _ => rfl) (by rfl) rfl (by infer_instance) rfl fun v7 h7 O7 => ?_
  refine XO.call Try.call59 rfl rfl rfl (within_spec 1000000 v7 h7 [x.power, x.ramp]) fun v8 s8 R8 => ?_
  obtain ⟨rfl, rfl⟩ := R8
  dsimp only [List.cons_append, List.nil_append]
  refine XO.q (Q.move rfl) ?_
  refine XO.q (Quiet.guardT rfl rfl fun g10 p10 => Q.fieldAddr rfl) ?_
  refine XO.q (Quiet.guardT rfl rfl fun g11 p11 => Q.ld (lzv g11 rfl) rfl) ?_
  refine XO.q (Quiet.guardT rfl rfl fun g12 p12 => Q.fieldAddr rfl) ?_
  refine XO.q (Quiet.guardT rfl rfl fun g13 p13 => Q.ld (lzv g13 rfl) rfl) ?_
  refine XO.lit1 [_, _] [_, _] [x.delay, x.pause] encI rfl rfl (by rfl) (by rfl) rfl (by rfl) (fun g14 => by exact .c 0 1 (lzv g14 rfl) rfl rfl (.c 1 1 (lzv g14 rfl) rfl rfl (.n _))) (fun _ => rfl) (by rfl) rfl (fun _ => by infer_instance) rfl (fun v14 h14 O14 => ?_)
  refine XO.gcallT rfl rfl Try.call59 rfl (fun g15 => .c rfl (.c (lzv g15 rfl) .n)) rfl (fun g15 p15 => by haveI := O14 g15; exact within_spec 3600 v14 h14 [x.delay, x.pause]) ?_
  refine XO.q (Q.and rfl (fun hp => lzv hp rfl)) ?_
  refine XO.q (Q.move rfl) ?_
  refine XO.q (Quiet.guardT rfl rfl fun g18 p18 => Q.fieldAddr rfl) ?_
  refine XO.q (Quiet.guardT rfl rfl fun g19 p19 => Q.ld (lzv g19 rfl) rfl) ?_
  refine XO.q (Quiet.guardT rfl rfl fun g20 p20 => Q.geq (lzv g20 rfl) rfl) ?_
  refine XO.q (Q.and rfl (fun hp => lzv hp rfl)) ?_
  refine XO.q (Q.move rfl) ?_
  refine XO.q (Quiet.guardT rfl rfl fun g23 p23 => Q.fieldAddr rfl) ?_
  refine XO.q (Quiet.guardT rfl rfl fun g24 p24 => Q.ld (lzv g24 rfl) rfl) ?_
  refine XO.q (Quiet.guardT rfl rfl fun g25 p25 => Q.leq (lzv g25 rfl) rfl) ?_
  refine XO.q (Q.and rfl (fun hp => lzv hp rfl)) ?_
  refine XO.q (Q.assign rfl) ?_
  refine XO.done ?_
  refine XK.rt [] Try.func71 Try.results71 (.t rfl .n) ?_
  exact ⟨rfl, rfl⟩
theorem check1 (x : BBat) : Spec Try.prog 67 #[batV x] [] [] (fun v hs => v = .bool (!batOk x) ∧ hs = []) := by
  refine Spec.intro (fn := Try.f67) (N := 6) Try.func67 rfl Try.ntmps67 rfl fun B => ?_
  refine XK.seq ?_
  refine XK.region rfl ?_
  refine XO.box rfl fun b1 => ?_
  refine XO.q (Q.assign rfl) ?_
  refine XO.done ?_
  refine XK.seq ?_
  refine XK.region rfl ?_
  refine XO.q (Q.ldA [_, _, _, _] rfl rfl rfl) ?_
  refine XO.call Try.call68 rfl rfl rfl (batRight x) fun v4 s4 R4 => ?_
  obtain ⟨rfl, rfl⟩ := R4
  dsimp only [List.cons_append, List.nil_append]
  refine XO.q (Q.not rfl) ?_
  refine XO.q (Q.assign rfl) ?_
  refine XO.done ?_
  refine XK.rt [] Try.func67 Try.results67 (.t rfl .n) ?_
  exact ⟨rfl, rfl⟩
theorem check2 (x : BGen) : Spec Try.prog 70 #[genV x] [] [] (fun v hs => v = .bool (!genOk x) ∧ hs = []) := by
  refine Spec.intro (fn := Try.f70) (N := 6) Try.func70 rfl Try.ntmps70 rfl fun B => ?_
  refine XK.seq ?_
  refine XK.region rfl ?_
  refine XO.box rfl fun b1 => ?_
  refine XO.q (Q.assign rfl) ?_
  refine XO.done ?_
  refine XK.seq ?_
  refine XK.region rfl ?_
  refine XO.q (Q.ldA [_, _, _, _, _] rfl rfl rfl) ?_
  refine XO.call Try.call71 rfl rfl rfl (genRight x) fun v4 s4 R4 => ?_
  obtain ⟨rfl, rfl⟩ := R4
  dsimp only [List.cons_append, List.nil_append]
  refine XO.q (Q.not rfl) ?_
  refine XO.q (Q.assign rfl) ?_
  refine XO.done ?_
  refine XK.rt [] Try.func70 Try.results70 (.t rfl .n) ?_
  exact ⟨rfl, rfl⟩
theorem Check_spec (b : BBank) (vb vg : Value) (hb hg : PHeap) [ib : Arr vb encBat 4 hb b.bats] [ig : Arr vg encGen 5 hg b.gens] : Spec Try.prog 38 #[.agg #[vb, vg]] [] [hb, hg] (fun v hs => v = .int .i64 (bcheck b) ∧ hs = []) := by
  have lb := ib.le
  have lg := ig.le
  refine Spec.intro (fn := Try.f38) (N := 23) Try.func38 rfl Try.ntmps38 rfl fun B => ?_
  refine XK.seq ?_
  refine XK.region rfl ?_
  refine XO.box rfl fun b1 => ?_
  refine XO.q (Q.assign rfl) ?_
  refine XO.done ?_
  refine XK.seq ?_
  refine XK.block ?_
  refine XK.seq ?_
  refine XK.region rfl ?_
  refine XO.q (Q.fieldAddr rfl) ?_
  refine XO.q (Q.ld rfl rfl) ?_
  refine XO.len rfl fun l6 => ?_
  refine XO.q (Q.gtr rfl rfl) ?_
  refine XO.q (Q.move rfl) ?_
  refine XO.q (Quiet.guardF rfl rfl fun g9 p9 => Q.fieldAddr rfl) ?_
  refine XO.q (Quiet.guardF rfl rfl fun g10 p10 => Q.ld (lzv g10 rfl) rfl) ?_
  refine XO.q (Quiet.guardF rfl rfl fun g11 p11 => Q.len (lzv g11 rfl)) ?_
  refine XO.q (Quiet.guardF rfl rfl fun g12 p12 => Q.gtr (lzv g12 rfl) rfl) ?_
  refine XO.q (Q.or rfl (fun hp => lzv hp rfl)) ?_
  refine XO.q (Q.assign rfl) ?_
  refine XO.done ?_
  refine XK.if rfl (fun c0 => ?_) (fun c0 => ?_)
  · have _t0 := True.intro
    refine XK.seq ?_
    refine XK.region rfl ?_
    refine XO.q (Q.assign rfl) ?_
    refine XO.done ?_
    refine XK.rt [] Try.func38 Try.results38 (.t rfl .n) ?_
    exact ⟨by rw [bcheck, if_pos (by omega)], rfl⟩
  · have _t0 := True.intro
    refine XK.seq ?_
    refine XK.region rfl ?_
    refine XO.q (Q.fieldAddr rfl) ?_
    refine XO.q (Q.ld rfl rfl) ?_
    refine XO.call Try.call66 rfl rfl rfl (containsFuncB vb hb b.bats 67 [] [] (fun x => !batOk x) Try.call67 (fun x hx => check1 x)) fun v17 s17 R17 => ?_
    obtain ⟨rfl, rfl⟩ := R17
    dsimp only [List.cons_append, List.nil_append]
    refine XO.q (Q.move rfl) ?_
    refine XO.q (Quiet.guardF rfl rfl fun g19 p19 => Q.fieldAddr rfl) ?_
    refine XO.q (Quiet.guardF rfl rfl fun g20 p20 => Q.ld (lzv g20 rfl) rfl) ?_
    refine XO.gcallF rfl rfl Try.call69 rfl (fun g21 => .c (lzv g21 rfl) (.c rfl .n)) rfl (fun g21 p21 => containsFuncG vg hg b.gens 70 [] [] (fun x => !genOk x) Try.call70 (fun x hx => check2 x)) ?_
    refine XO.q (Q.or rfl (fun hp => lzv hp rfl)) ?_
    refine XO.q (Q.assign rfl) ?_
    refine XO.done ?_
    refine XK.if rfl (fun c1 => ?_) (fun c1 => ?_)
    · have _t1 := True.intro
      refine XK.seq ?_
      refine XK.region rfl ?_
      refine XO.q (Q.assign rfl) ?_
      refine XO.done ?_
      refine XK.rt [] Try.func38 Try.results38 (.t rfl .n) ?_
      exact ⟨by rw [bcheck, if_neg (by omega), if_pos (by simpa using c1)], rfl⟩
    · have _t1 := True.intro
      refine XK.skip ?_
      refine XK.inBlock ?_
      refine XK.seq ?_
      refine XK.region rfl ?_
      refine XO.q (Q.assign rfl) ?_
      refine XO.done ?_
      refine XK.rt [] Try.func38 Try.results38 (.t rfl .n) ?_
      exact ⟨by rw [bcheck, if_neg (by omega), if_neg (by simpa using c1)], rfl⟩
end Go.X

set_option linter.unusedSimpArgs false
set_option linter.unusedVariables false
set_option maxRecDepth 20000
namespace Go.X
open Go.Proofs
theorem mul_le {a b m n : Int} (h1 : 0 ≤ a) (h2 : a ≤ m) (h3 : 0 ≤ b) (h4 : b ≤ n) : 0 ≤ a * b ∧ a * b ≤ m * n :=
  ⟨Int.mul_nonneg h1 h3, Int.mul_le_mul h2 h4 h3 (by omega)⟩
theorem start_spec (g : BGen) (gk : GenOk g) (f : Int) (hf : 0 ≤ f) (hf1 : f ≤ g.tries) : Spec Try.prog 73 #[genV g, .int .i64 f] [] [] (fun v hs => v = .int .i64 (startP g f) ∧ hs = []) := by
  have q1 := gk.t1
  have m1 := mul_le (a := f + 1) (b := g.delay) (m := 6) (n := 3600) (by omega) (by omega) gk.d0 gk.d1
  have m2 := mul_le (a := f) (b := g.pause) (m := 5) (n := 3600) (by omega) (by omega) gk.q0 gk.q1
  refine Spec.intro (fn := Try.f73) (N := 19) Try.func73 rfl Try.ntmps73 rfl fun B => ?_
  refine XK.seq ?_
  refine XK.region rfl ?_
  refine XO.box rfl fun b2 => ?_
  refine XO.q (Q.assign rfl) ?_
  refine XO.done ?_
  refine XK.seq ?_
  refine XK.seq ?_
  refine XK.region rfl ?_
  refine XO.q (Q.move rfl) ?_
  refine XO.q (Q.fieldAddr rfl) ?_
  refine XO.q (Q.ld rfl rfl) ?_
  refine XO.q (Q.eql rfl rfl) ?_
  refine XO.done ?_
  refine XK.if rfl (fun c0 => ?_) (fun c0 => ?_)
  · have _t0 := True.intro
    refine XK.seq ?_
    refine XK.region rfl ?_
    refine XO.q (Q.assign rfl) ?_
    refine XO.done ?_
    refine XK.rt [] Try.func73 Try.results73 (.t rfl .n) ?_
    exact ⟨by rw [startP, if_pos c0], rfl⟩
  · have _t0 := True.intro
    refine XK.skip ?_
    refine XK.seq ?_
    refine XK.region rfl ?_
    refine XO.q (Q.move rfl) ?_
    refine XO.q (Q.add rfl rfl ⟨by omega, by omega⟩) ?_
    refine XO.q (Q.fieldAddr rfl) ?_
    refine XO.q (Q.ld rfl rfl) ?_
    refine XO.q (Q.mul rfl rfl ⟨by omega, by omega⟩) ?_
    refine XO.q (Q.move rfl) ?_
    refine XO.q (Q.fieldAddr rfl) ?_
    refine XO.q (Q.ld rfl rfl) ?_
    refine XO.q (Q.mul rfl rfl ⟨by omega, by omega⟩) ?_
    refine XO.q (Q.add rfl rfl ⟨by omega, by omega⟩) ?_
    refine XO.q (Q.assign rfl) ?_
    refine XO.done ?_
    refine XK.rt [] Try.func73 Try.results73 (.t rfl .n) ?_
    exact ⟨by rw [startP, if_neg c0], rfl⟩
theorem loaded_spec (l : List BSpan) (vl : Value) (hl : PHeap) [il : Arr vl encSpan 2 hl l] : Spec Try.prog 79 #[vl] [] [hl] (fun v hs => v = .tuple #[.int .i64 (loadedP l).1, .int .i64 (loadedP l).2] ∧ hs = []) := by
  have ll := il.le
  refine Spec.intro (fn := Try.f79) (N := 39) Try.func79 rfl Try.ntmps79 rfl fun B => ?_
  refine XK.seq ?_
  refine XK.region rfl ?_
  refine XO.q (Q.assign rfl) ?_
  refine XO.q (Q.assign rfl) ?_
  refine XO.done ?_
  refine XK.seq ?_
  refine XK.seq ?_
  refine XK.region rfl ?_
  refine XO.q (Q.move rfl) ?_
  refine XO.len rfl fun l8 => ?_
  refine XO.q (Q.gtr rfl rfl) ?_
  refine XO.done ?_
  refine XK.if rfl (fun c0 => ?_) (fun c0 => ?_)
  · have _t0 := True.intro
    refine XK.seq ?_
    refine XK.region rfl ?_
    refine XO.q (Q.assign rfl) ?_
    refine XO.q (Q.assign rfl) ?_
    refine XO.done ?_
    refine XK.rt [] Try.func79 Try.results79 (.t rfl (.t rfl .n)) ?_
    exact ⟨by rw [loadedP, if_pos (by omega)], rfl⟩
  · have _t0 := True.intro
    refine XK.skip ?_
    refine XK.seq ?_
    refine XK.region rfl ?_
    refine XO.q (Q.assign rfl) ?_
    refine XO.done ?_
    refine XK.seq ?_
    refine XK.seq ?_
    refine XK.region rfl ?_
    refine XO.q (Q.move rfl) ?_
    refine XO.len rfl fun l11 => ?_
    refine XO.q (Q.move rfl) ?_
    refine XO.done ?_
    refine XK.block ?_
    refine XK.while (X := Nat) [2, 3, 4, 6, 12, 13, 14, 15, 16, 17, 18, 19, 20, 21, 22, 23, 24, 25, 26, 27, 28, 29, 30, 31, 32, 33, 34, 35] (fun i => [(4, some (.int .i64 (secs l i))), (12, some (.int .i64 (i : Nat)))]) (fun i => []) (fun i => i ≤ l.length ∧ i ≤ 64 ∧ (l.take i).any badSpan = false ∧ 0 ≤ secs l i ∧ secs l i ≤ 3600 * i) (fun i => l.length - i) (0) [] rfl ⟨by omega, by omega, rfl, by simp [secs], by simp [secs]⟩ (.c rfl (.c rfl (.base 0 rfl rfl))) ?_
    rintro i ⟨hi, hi2, ha, hs0, hs1⟩ ih0
    dsimp only [List.cons_append, List.nil_append] at ih0 ⊢
    refine XK.seq ?_
    refine XK.region rfl ?_
    refine XO.q (Q.lss rfl rfl) ?_
    refine XO.done ?_
    refine XK.seq ?_
    refine XK.if rfl (fun c1 => ?_) (fun c1 => ?_)
    · have _t1 := True.intro
      refine XK.skip ?_
      refine XK.seq ?_
      refine XK.block ?_
      refine XK.seq ?_
      refine XK.region rfl ?_
      refine XO.ix rfl rfl (by omega) (by omega) fun i14 => ?_
      refine XO.q (Q.ldEA [_, _] rfl (by first | assumption | omega) rfl rfl) ?_
      refine XO.alloc fun b6 => ?_
      refine XO.st rfl rfl rfl ?_
      refine XO.done ?_
      refine XK.seq ?_
      refine XK.seq ?_
      refine XK.region rfl ?_
      refine XO.q (Q.fieldAddr rfl) ?_
      refine XO.q (Q.ld rfl rfl) ?_
      refine XO.q (Q.lss rfl rfl) ?_
      refine XO.q (Q.move rfl) ?_
      refine XO.q (Quiet.guardF rfl rfl fun g20 p20 => Q.fieldAddr rfl) ?_
      refine XO.q (Quiet.guardF rfl rfl fun g21 p21 => Q.ld (lzv g21 rfl) rfl) ?_
      refine XO.q (Quiet.guardF rfl rfl fun g22 p22 => Q.gtr (lzv g22 rfl) rfl) ?_
      refine XO.q (Q.or rfl (fun hp => lzv hp rfl)) ?_
      refine XO.q (Q.move rfl) ?_
      refine XO.q (Quiet.guardF rfl rfl fun g25 p25 => Q.fieldAddr rfl) ?_
      refine XO.q (Quiet.guardF rfl rfl fun g26 p26 => Q.ld (lzv g26 rfl) rfl) ?_
      refine XO.lit1 [_] [_] [(l.getD i default).power] encI rfl rfl (by rfl) (by rfl) rfl (by rfl) (fun g27 => by exact .c 0 1 (lzv g27 rfl) rfl rfl (.n _)) (fun _ => rfl) (by rfl) rfl (fun _ => by infer_instance) rfl (fun v27 h27 O27 => ?_)
      refine XO.gcallF rfl rfl Try.call59 rfl (fun g28 => .c rfl (.c (lzv g28 rfl) .n)) rfl (fun g28 p28 => by haveI := O27 g28; exact within_spec 1000000 v27 h27 [(l.getD i default).power]) ?_
      refine XO.q (Quiet.guardF rfl rfl fun g29 p29 => Q.not (lzv g29 rfl)) ?_
      refine XO.q (Q.or rfl (fun hp => lzv hp rfl)) ?_
      refine XO.done ?_
      refine XK.if rfl (fun c2 => ?_) (fun c2 => ?_)
      · have _t2 := True.intro
        refine XK.seq ?_
        refine XK.region rfl ?_
        refine XO.q (Q.assign rfl) ?_
        refine XO.q (Q.assign rfl) ?_
        refine XO.done ?_
        refine XK.rt [] Try.func79 Try.results79 (.t rfl (.t rfl .n)) ?_
        have hb : badSpan (l.getD i default) = true := by simpa [badSpan, or_assoc] using c2
        exact ⟨by rw [loadedP, if_neg (by omega), if_pos (List.any_eq_true.2 ⟨_, getD_mem (by omega), hb⟩)], rfl⟩
      · have _t2 := True.intro
        have bs : badSpan (l.getD i default) = false := by
          rw [Bool.eq_false_iff]
          exact fun hh => c2 (by simpa [badSpan, or_assoc] using hh)
        have bt := badSpan_false.1 bs
        refine XK.skip ?_
        refine XK.region rfl ?_
        refine XO.q (Q.move rfl) ?_
        refine XO.q (Q.fieldAddr rfl) ?_
        refine XO.q (Q.ld rfl rfl) ?_
        refine XO.q (Q.add rfl rfl ⟨by omega, by omega⟩) ?_
        refine XO.q (Q.assign rfl) ?_
        refine XO.done ?_
        refine XK.inBlock ?_
        refine XK.region rfl ?_
        refine XO.q (Q.add rfl rfl ⟨by omega, by omega⟩) ?_
        refine XO.q (Q.move rfl) ?_
        refine XO.done ?_
        exact ih0 (i + 1) _ _ ⟨by omega, by omega, any_step ha (by omega) bs, by rw [secs]; omega, by rw [secs]; omega⟩ (by first | omega | (dsimp only; omega)) (.c rfl (.c rfl (.base 56 rfl rfl))) inferInstance
    · have _t1 := True.intro
      refine XK.exit rfl ?_
      refine XK.seq ?_
      refine XK.seq ?_
      refine XK.region rfl ?_
      refine XO.q (Q.move rfl) ?_
      refine XO.q (Q.gtr rfl rfl) ?_
      refine XO.done ?_
      refine XK.if rfl (fun c3 => ?_) (fun c3 => ?_)
      · have _t3 := True.intro
        refine XK.seq ?_
        refine XK.region rfl ?_
        refine XO.q (Q.assign rfl) ?_
        refine XO.q (Q.assign rfl) ?_
        refine XO.done ?_
        refine XK.rt [] Try.func79 Try.results79 (.t rfl (.t rfl .n)) ?_
        have hil : i = l.length := by omega
        subst hil
        rw [List.take_length] at ha
        exact ⟨by rw [loadedP, if_neg (by omega), if_neg (by rw [ha]; decide), if_pos (by omega)], rfl⟩
      · have _t3 := True.intro
        refine XK.skip ?_
        refine XK.seq ?_
        refine XK.region rfl ?_
        refine XO.q (Q.move rfl) ?_
        refine XO.q (Q.assign rfl) ?_
        refine XO.q (Q.assign rfl) ?_
        refine XO.done ?_
        refine XK.rt [] Try.func79 Try.results79 (.t rfl (.t rfl .n)) ?_
        have hil : i = l.length := by omega
        subst hil
        rw [List.take_length] at ha
        exact ⟨by rw [loadedP, if_neg (by omega), if_neg (by rw [ha]; decide), if_neg (by omega)], rfl⟩
theorem fit_spec (b : BBank) (vb vg : Value) (hb hg : PHeap) [ib : Arr vb encBat 4 hb b.bats] [ig : Arr vg encGen 5 hg b.gens] (fs : List Int) (vf : Value) (hf : PHeap) [jf : Arr vf encI 1 hf fs] : Spec Try.prog 90 #[.agg #[vb, vg], vf] [] [hb, hg, hf] (fun v hs => v = .bool (fitP b fs) ∧ hs = []) := by
  have lg := ig.le
  have lf := jf.le
  refine Spec.intro (fn := Try.f90) (N := 36) Try.func90 rfl Try.ntmps90 rfl fun B => ?_
  refine XK.seq ?_
  refine XK.region rfl ?_
  refine XO.box rfl fun b2 => ?_
  refine XO.q (Q.assign rfl) ?_
  refine XO.done ?_
  refine XK.seq ?_
  refine XK.seq ?_
  refine XK.region rfl ?_
  refine XO.q (Q.move rfl) ?_
  refine XO.len rfl fun l8 => ?_
  refine XO.q (Q.fieldAddr rfl) ?_
  refine XO.q (Q.ld rfl rfl) ?_
  refine XO.len rfl fun l11 => ?_
  refine XO.q (Q.neq rfl rfl) ?_
  refine XO.done ?_
  refine XK.if rfl (fun c0 => ?_) (fun c0 => ?_)
  · have _t0 := True.intro
    refine XK.seq ?_
    refine XK.region rfl ?_
    refine XO.q (Q.assign rfl) ?_
    refine XO.done ?_
    refine XK.rt [] Try.func90 Try.results90 (.t rfl .n) ?_
    exact ⟨by rw [fitP, decide_eq_false (by omega)]; rfl, rfl⟩
  · have _t0 := True.intro
    refine XK.skip ?_
    refine XK.seq ?_
    refine XK.seq ?_
    refine XK.region rfl ?_
    refine XO.q (Q.fieldAddr rfl) ?_
    refine XO.q (Q.ld rfl rfl) ?_
    refine XO.len rfl fun l15 => ?_
    refine XO.q (Q.move rfl) ?_
    refine XO.done ?_
    refine XK.block ?_
    refine XK.while (X := Nat) [4, 5, 6, 16, 17, 18, 19, 20, 21, 22, 23, 24, 25, 26, 27, 28, 29, 30, 31, 32, 33, 34, 35] (fun i => [(16, some (.int .i64 (i : Nat)))]) (fun i => []) (fun i => i ≤ b.gens.length ∧ allTo (fun i => !badFail b fs i) i = true) (fun i => b.gens.length - i) (0) [] rfl ⟨by omega, rfl⟩ (.c rfl (.base 0 rfl rfl)) ?_
    rintro i ⟨hi, ha⟩ ih0
    dsimp only [List.cons_append, List.nil_append] at ih0 ⊢
    refine XK.seq ?_
    refine XK.region rfl ?_
    refine XO.q (Q.lss rfl rfl) ?_
    refine XO.done ?_
    refine XK.seq ?_
    refine XK.if rfl (fun c1 => ?_) (fun c1 => ?_)
    · have _t1 := True.intro
      refine XK.skip ?_
      refine XK.seq ?_
      refine XK.block ?_
      refine XK.seq ?_
      refine XK.region rfl ?_
      refine XO.q (Q.move rfl) ?_
      refine XO.ix rfl rfl (by omega) (by omega) fun i19 => ?_
      refine XO.q (Q.ldEA [_, _, _, _, _] rfl (by first | assumption | omega) rfl rfl) ?_
      refine XO.alloc fun b6 => ?_
      refine XO.q (Q.assign rfl) ?_
      refine XO.st rfl rfl rfl ?_
      refine XO.done ?_
      refine XK.seq ?_
      refine XK.drawn [0, 1, 2, 3, 4, 5, 6, 7, 8, 9, 10, 11, 12, 13] [b6] [] (.q 0 (.q 1 (.q 2 (.q 3 (.q 4 (.q 5 (.q 6 (.q 7 (.q 8 (.q 9 (.q 10 (.q 11 (.q 12 (.q 13 .done)))))))))))))) Try.mixed rfl (by kernel_rfl) ?_
      refine XT.q rfl rfl (Q.move rfl) ?_
      refine XT.q rfl rfl (Q.move rfl) ?_
      refine XT.ix rfl rfl rfl rfl (by omega) (by omega) fun i23 => ?_
      refine XT.q rfl rfl (Q.ldE rfl (by first | assumption | omega) rfl) ?_
      refine XT.q rfl rfl (Q.lss rfl rfl) ?_
      refine XT.q rfl rfl (Q.move rfl) ?_
      refine XT.q rfl rfl (Quiet.guardF rfl rfl fun g27 p27 => Q.move rfl) ?_
      refine XT.q rfl rfl (Quiet.guardF rfl rfl fun g28 p28 => Q.move rfl) ?_
      refine XT.q rfl rfl (Quiet.guardF rfl rfl fun g29 p29 => Q.ix (lzv g29 rfl) (lzv g29 rfl) (by omega) (by omega)) ?_
      refine XT.q rfl rfl (Quiet.guardF rfl rfl fun g30 p30 => Q.ldE (lzv g30 rfl) (by first | assumption | omega) rfl) ?_
      refine XT.q rfl rfl (Quiet.guardF rfl rfl fun g31 p31 => Q.fieldAddr rfl) ?_
      refine XT.q rfl rfl (Quiet.guardF rfl rfl fun g32 p32 => Q.ld (lzv g32 rfl) rfl) ?_
      refine XT.q rfl rfl (Quiet.guardF rfl rfl fun g33 p33 => Q.gtr (lzv g33 rfl) (lzv g33 rfl)) ?_
      refine XT.q rfl rfl (Q.or rfl (fun hp => lzv hp rfl)) ?_
      refine XT.done ?_
      refine XK.if rfl (fun c2 => ?_) (fun c2 => ?_)
      · have _t2 := True.intro
        refine XK.seq ?_
        refine XK.region rfl ?_
        refine XO.q (Q.assign rfl) ?_
        refine XO.done ?_
        refine XK.rt [] Try.func90 Try.results90 (.t rfl .n) ?_
        have hb : badFail b fs i = true := by simpa [badFail] using c2
        exact ⟨by rw [fitP, allTo_false (s := i) (by omega) (by rw [hb]; rfl), Bool.and_false], rfl⟩
      · have _t2 := True.intro
        refine XK.skip ?_
        refine XK.inBlock ?_
        refine XK.region rfl ?_
        refine XO.q (Q.add rfl rfl ⟨by omega, by omega⟩) ?_
        refine XO.q (Q.move rfl) ?_
        refine XO.done ?_
        exact ih0 (i + 1) _ _ ⟨by omega, by rw [allTo_succ, ha, Bool.true_and, Bool.not_eq_true', Bool.eq_false_iff]; exact fun hh => c2 (by simpa [badFail] using hh)⟩ (by first | omega | (dsimp only; omega)) (.c rfl (.base 46 rfl rfl)) inferInstance
    · have _t1 := True.intro
      refine XK.exit rfl ?_
      refine XK.seq ?_
      refine XK.region rfl ?_
      refine XO.q (Q.assign rfl) ?_
      refine XO.done ?_
      refine XK.rt [] Try.func90 Try.results90 (.t rfl .n) ?_
      have hil : i = b.gens.length := by omega
      subst hil
      exact ⟨by rw [fitP, ha, decide_eq_true (by omega)]; rfl, rfl⟩
theorem ready_spec (b : BBank) (vb vg : Value) (hb hg : PHeap) [ib : Arr vb encBat 4 hb b.bats] [ig : Arr vg encGen 5 hg b.gens] (l : List BSpan) (vl : Value) (hl : PHeap) [il : Arr vl encSpan 2 hl l] (fs : List Int) (vf : Value) (hf : PHeap) [jf : Arr vf encI 1 hf fs] : Spec Try.prog 63 #[.agg #[vb, vg], vl, vf] [] [hb, hg, hl, hf] (fun v hs => v = .int .i64 (readyP b l fs) ∧ hs = []) := by
  refine Spec.intro (fn := Try.f63) (N := 27) Try.func63 rfl Try.ntmps63 rfl fun B => ?_
  refine XK.seq ?_
  refine XK.region rfl ?_
  refine XO.box rfl fun b3 => ?_
  refine XO.q (Q.assign rfl) ?_
  refine XO.done ?_
  refine XK.seq ?_
  refine XK.seq ?_
  refine XK.region rfl ?_
  refine XO.q (Q.ldA [_, _] rfl rfl rfl) ?_
  refine XO.call Try.call38 rfl rfl rfl (Check_spec b vb vg hb hg) fun v11 s11 R11 => ?_
  obtain ⟨rfl, rfl⟩ := R11
  dsimp only [List.cons_append, List.nil_append]
  refine XO.q (Q.assign rfl) ?_
  refine XO.done ?_
  refine XK.seq ?_
  refine XK.region rfl ?_
  refine XO.q (Q.move rfl) ?_
  refine XO.q (Q.neq rfl rfl) ?_
  refine XO.done ?_
  refine XK.if rfl (fun c0 => ?_) (fun c0 => ?_)
  · have _t0 := True.intro
    refine XK.seq ?_
    refine XK.region rfl ?_
    refine XO.q (Q.move rfl) ?_
    refine XO.q (Q.assign rfl) ?_
    refine XO.done ?_
    refine XK.rt [] Try.func63 Try.results63 (.t rfl .n) ?_
    exact ⟨by rw [readyP, if_pos c0], rfl⟩
  · have _t0 := True.intro
    refine XK.skip ?_
    refine XK.seq ?_
    refine XK.seq ?_
    refine XK.region rfl ?_
    refine XO.q (Q.move rfl) ?_
    refine XO.call Try.call79 rfl rfl rfl (loaded_spec l vl hl) fun v17 s17 R17 => ?_
    obtain ⟨rfl, rfl⟩ := R17
    dsimp only [List.cons_append, List.nil_append]
    refine XO.q (Q.move rfl) ?_
    refine XO.q (Q.extract rfl rfl) ?_
    refine XO.q (Q.extract rfl rfl) ?_
    refine XO.q (Q.assign rfl) ?_
    refine XO.q (Q.assign rfl) ?_
    refine XO.done ?_
    refine XK.seq ?_
    refine XK.region rfl ?_
    refine XO.q (Q.move rfl) ?_
    refine XO.q (Q.neq rfl rfl) ?_
    refine XO.done ?_
    refine XK.if rfl (fun c1 => ?_) (fun c1 => ?_)
    · have _t1 := True.intro
      refine XK.seq ?_
      refine XK.region rfl ?_
      refine XO.q (Q.move rfl) ?_
      refine XO.q (Q.assign rfl) ?_
      refine XO.done ?_
      refine XK.rt [] Try.func63 Try.results63 (.t rfl .n) ?_
      exact ⟨by rw [readyP, if_neg c0, if_pos c1], rfl⟩
    · have _t1 := True.intro
      refine XK.skip ?_
      refine XK.seq ?_
      refine XK.seq ?_
      refine XK.region rfl ?_
      refine XO.q (Q.ldA [_, _] rfl rfl rfl) ?_
      refine XO.q (Q.move rfl) ?_
      refine XO.call Try.call90 rfl rfl rfl (fit_spec b vb vg hb hg fs vf hf) fun v25 s25 R25 => ?_
      obtain ⟨rfl, rfl⟩ := R25
      dsimp only [List.cons_append, List.nil_append]
      refine XO.q (Q.not rfl) ?_
      refine XO.done ?_
      refine XK.if rfl (fun c2 => ?_) (fun c2 => ?_)
      · have _t2 := True.intro
        refine XK.seq ?_
        refine XK.region rfl ?_
        refine XO.q (Q.assign rfl) ?_
        refine XO.done ?_
        refine XK.rt [] Try.func63 Try.results63 (.t rfl .n) ?_
        exact ⟨by rw [readyP, if_neg c0, if_neg c1, if_pos (by simpa using c2)], rfl⟩
      · have _t2 := True.intro
        refine XK.skip ?_
        refine XK.seq ?_
        refine XK.region rfl ?_
        refine XO.q (Q.assign rfl) ?_
        refine XO.done ?_
        refine XK.rt [] Try.func63 Try.results63 (.t rfl .n) ?_
        exact ⟨by rw [readyP, if_neg c0, if_neg c1, if_neg (by simpa using c2)], rfl⟩
end Go.X

set_option linter.unusedSimpArgs false
set_option linter.unusedVariables false
set_option maxRecDepth 20000
namespace Go.X
open Go.Proofs
theorem can_spec (p : Nat) (vb vg vs vc vn : Value) [ob : One vb] [oc : One vc] [on : One vn] (sv : Int) (gens : List BGen) (sts : List Int) (pk : PlayOk gens sts) (hg hs : PHeap) [ig : Arr vg encGen 5 hg gens] [is : Arr vs encI 1 hs sts] (i : Nat) (hi : i < sts.length) (t : Int) (ht0 : 0 ≤ t) (ht : t ≤ 20000) :
    Spec Try.prog 101 #[ptr p 0, .int .i64 (i : Nat), .int .i64 t] [] [blk p [vb, vg, vs, vc, vn, .int .i64 (sv)] 153, hg, hs] (fun v hs => v = .int .i64 (canAt gens sts t i) ∧ hs = []) := by
  have lg := ig.le
  have ls := is.le
  have hn := pk.n
  have hs1 := pk.s i hi
  have gk := pk.g _ (getD_memB (show i < gens.length by omega))
  have gr0 := gk.r0
  have gr1 := gk.r1
  refine Spec.intro (fn := Try.f101) (N := 41) Try.func101 rfl Try.ntmps101 rfl fun B => ?_
  refine XK.seq ?_
  refine XK.region rfl ?_
  refine XO.q (Q.assign rfl) ?_
  refine XO.done ?_
  refine XK.seq ?_
  refine XK.drawn [0, 1, 2, 3, 4, 5, 6, 7, 8, 9, 10, 11, 12, 13, 14, 17] [p] [] (.q 0 (.q 1 (.q 2 (.q 3 (.q 4 (.q 5 (.q 6 (.q 7 (.q 8 (.q 9 (.q 10 (.q 11 (.q 12 (.q 13 (.q 14 (.br 15 true (.br 16 true (.q 17 .done) .stop) .stop)))))))))))))))) Try.mixed rfl (by kernel_rfl) ?_
  refine XT.q rfl rfl (Q.move rfl) ?_
  refine XT.q rfl rfl (Q.nilCheck rfl) ?_
  refine XT.q rfl rfl (Q.fieldAddr rfl) ?_
  refine XT.q rfl rfl (Q.fieldAddr rfl) ?_
  refine XT.q rfl rfl (Q.ld rfl rfl) ?_
  refine XT.q rfl rfl (Q.move rfl) ?_
  refine XT.ix rfl rfl rfl rfl (by omega) (by omega) fun i15 => ?_
  refine XT.q rfl rfl (Q.ldEA [_, _, _, _, _] rfl (by first | assumption | omega) rfl rfl) ?_
  refine XT.q rfl rfl (Q.move rfl) ?_
  refine XT.q rfl rfl (Q.nilCheck rfl) ?_
  refine XT.q rfl rfl (Q.fieldAddr rfl) ?_
  refine XT.q rfl rfl (Q.ld rfl rfl) ?_
  refine XT.q rfl rfl (Q.move rfl) ?_
  refine XT.ix rfl rfl rfl rfl (by omega) (by omega) fun i22 => ?_
  refine XT.q rfl rfl (Q.ldE rfl (by first | assumption | omega) rfl) ?_
  refine XT.alloc rfl rfl (fun b7 => ⟨inferInstance, ?_⟩) XT.stop
  refine XT.st rfl rfl rfl rfl rfl ⟨inferInstance, ?_⟩ XT.stop
  refine XT.q rfl rfl (Q.assign rfl) ?_
  refine XT.done ?_
  refine XK.seq ?_
  refine XK.seq ?_
  refine XK.region rfl ?_
  refine XO.q (Q.move rfl) ?_
  refine XO.q (Q.lss rfl rfl) ?_
  refine XO.q (Q.move rfl) ?_
  refine XO.q (Quiet.guardF rfl rfl fun g27 p27 => Q.move rfl) ?_
  refine XO.q (Quiet.guardF rfl rfl fun g28 p28 => Q.move rfl) ?_
  refine XO.q (Quiet.guardF rfl rfl fun g29 p29 => Q.lss (lzv g29 rfl) (lzv g29 rfl)) ?_
  refine XO.q (Q.or rfl (fun hp => lzv hp rfl)) ?_
  refine XO.done ?_
  refine XK.if rfl (fun c0 => ?_) (fun c0 => ?_)
  · have _t0 := True.intro
    refine XK.seq ?_
    refine XK.region rfl ?_
    refine XO.q (Q.assign rfl) ?_
    refine XO.done ?_
    refine XK.rt [] Try.func101 Try.results101 (.t rfl .n) ?_
    exact ⟨by rw [canAt, canP, if_pos c0], rfl⟩
  · have _t0 := True.intro
    refine XK.skip ?_
    refine XK.seq ?_
    refine XK.region rfl ?_
    refine XO.q (Q.fieldAddr rfl) ?_
    refine XO.q (Q.ld rfl rfl) ?_
    refine XO.q (Q.fieldAddr rfl) ?_
    refine XO.q (Q.ld rfl rfl) ?_
    refine XO.q (Q.move rfl) ?_
    refine XO.q (Q.move rfl) ?_
    refine XO.q (Q.sub rfl rfl ⟨by omega, by omega⟩) ?_
    have m := mulLe (a := (gens.getD i default).ramp) (b := t - sts.getD i default + 1) (m := 1000000) (n := 20002) gk.r0 gk.r1 (by omega) (by omega)
    refine XO.q (Q.add rfl rfl ⟨by omega, by omega⟩) ?_
    refine XO.q (Q.mul rfl rfl ⟨by omega, by omega⟩) ?_
    refine XO.q (Q.min rfl rfl) ?_
    refine XO.q (Q.assign rfl) ?_
    refine XO.done ?_
    refine XK.rt [] Try.func101 Try.results101 (.t rfl .n) ?_
    exact ⟨by rw [canAt, canP, if_neg c0], rfl⟩
theorem generate_spec (p : Nat) (vb vg vs vc vn : Value) [ob : One vb] [oc : One vc] [on : One vn] (sv : Int) (gens : List BGen) (sts : List Int) (pk : PlayOk gens sts) (hg hs : PHeap) [ig : Arr vg encGen 5 hg gens] [is : Arr vs encI 1 hs sts] (t : Int) (ht0 : 0 ≤ t) (ht : t ≤ 20000) (need : Int) (hn0 : 0 ≤ need) (hn1 : need ≤ 6000000) (vu : Value) (hu : PHeap) (us : List Int) [iu : OArr vu encI 1 3 hu us] (uk : UsedOk (canAt gens sts t) sts.length us) :
    Spec Try.prog 99 #[ptr p 0, .int .i64 t, .int .i64 need, vu] [hu] [blk p [vb, vg, vs, vc, vn, .int .i64 (sv)] 153, hg, hs] (fun v hs' => ∃ h', v = .int .i64 (genTo (canAt gens sts t) us need sts.length).2 ∧ hs' = [h'] ∧ OArr vu encI 1 3 h' (genTo (canAt gens sts t) us need sts.length).1) := by
  have ls := is.le
  have hall := fun i hi => genTo_ok uk hn0 i hi
  have hcan := fun j hj => canAt_ok (i := j) pk ht hj
  refine Spec.intro (fn := Try.f99) (N := 42) Try.func99 rfl Try.ntmps99 rfl fun B => ?_
  refine XK.seq ?_
  refine XK.region rfl ?_
  refine XO.q (Q.assign rfl) ?_
  refine XO.done ?_
  refine XK.seq ?_
  refine XK.seq ?_
  refine XK.region rfl ?_
  refine XO.q (Q.move rfl) ?_
  refine XO.q (Q.nilCheck rfl) ?_
  refine XO.q (Q.fieldAddr rfl) ?_
  refine XO.q (Q.ld rfl rfl) ?_
  refine XO.len rfl fun l15 => ?_
  refine XO.q (Q.move rfl) ?_
  refine XO.done ?_
  refine XK.block ?_
  refine XK.while (X := Nat × PHeap) [2, 9, 10, 16, 17, 18, 19, 20, 21, 22, 23, 24, 25, 26, 27, 28, 29, 30, 31, 32, 33, 34, 35, 36, 37, 38, 39, 40] (fun ⟨i, ku⟩ => [(2, some (.int .i64 ((genTo (canAt gens sts t) us need (i)).2))), (16, some (.int .i64 (i : Nat)))]) (fun ⟨i, ku⟩ => [ku]) (fun ⟨i, ku⟩ => i ≤ sts.length ∧ OArr vu encI 1 3 ku (genTo (canAt gens sts t) us need (i)).1) (fun ⟨i, ku⟩ => sts.length - i) (0, hu) [hu] rfl ⟨by omega, iu⟩ (.c rfl (.c rfl (.base 0 rfl rfl))) ?_
  rintro ⟨i, ku⟩ ⟨hi, OU⟩ ih0
  dsimp only [List.cons_append, List.nil_append] at ih0 ⊢
  obtain ⟨uk1, un0, un1⟩ := hall i hi
  have ul := uk1.len
  refine XK.seq ?_
  refine XK.region rfl ?_
  refine XO.q (Q.lss rfl rfl) ?_
  refine XO.done ?_
  refine XK.seq ?_
  refine XK.if rfl (fun c0 => ?_) (fun c0 => ?_)
  · have _t0 := True.intro
    have ub := uk1.b i (by omega)
    have cb := hcan i (by omega)
    refine XK.skip ?_
    refine XK.seq ?_
    refine XK.block ?_
    refine XK.seq ?_
    refine XK.region rfl ?_
    refine XO.q (Q.move rfl) ?_
    refine XO.q (Q.assign rfl) ?_
    refine XO.done ?_
    refine XK.seq ?_
    refine XK.drawn [0, 1, 2, 3, 5, 6, 7, 8, 9, 10, 11] [] [ku] (.q 0 (.q 1 (.q 2 (.q 3 (.q 5 (.q 6 (.q 7 (.q 8 (.br 4 true (.q 9 (.q 10 (.q 11 .done))) .stop))))))))) Try.mixed rfl (by kernel_rfl) ?_
    refine XT.q rfl rfl (Q.move rfl) ?_
    refine XT.q rfl rfl (Q.move rfl) ?_
    refine XT.q rfl rfl (Q.move rfl) ?_
    refine XT.q rfl rfl (Q.move rfl) ?_
    refine XT.q rfl rfl (Q.move rfl) ?_
    refine XT.q rfl rfl (Q.move rfl) ?_
    refine XT.ix rfl rfl rfl rfl (by omega) (by omega) fun i26 => ?_
    refine XT.q rfl rfl (Q.ldE rfl (by first | assumption | omega) rfl) ?_
    refine XT.call rfl rfl Try.call101 rfl rfl rfl (can_spec p vb vg vs vc vn sv gens sts pk hg hs i (by omega) t ht0 ht) (fun v23 s23 R23 => ?_) XT.stop
    obtain ⟨rfl, rfl⟩ := R23
    dsimp only [List.cons_append, List.nil_append]
    refine ⟨inferInstance, ?_⟩
    refine XT.q rfl rfl (Q.sub rfl rfl ⟨by omega, by omega⟩) ?_
    refine XT.q rfl rfl (Q.min rfl rfl) ?_
    refine XT.q rfl rfl (Q.assign rfl) ?_
    refine XT.done ?_
    refine XK.seq ?_
    refine XK.region rfl ?_
    refine XO.q (Q.move rfl) ?_
    refine XO.q (Q.move rfl) ?_
    refine XO.ix rfl rfl (by omega) (by omega) fun i32 => ?_
    refine XO.q (Q.ldE rfl (by first | assumption | omega) rfl) ?_
    refine XO.q (Q.move rfl) ?_
    refine XO.q (Q.add rfl rfl ⟨by omega, by omega⟩) ?_
    refine XO.ix rfl rfl (by omega) (by omega) fun i36 => ?_
    refine XO.stE _ rfl rfl rfl (by assumption) rfl rfl fun h5_7 O5_7 => ?_
    refine XO.done ?_
    refine XK.region rfl ?_
    refine XO.q (Q.move rfl) ?_
    refine XO.q (Q.move rfl) ?_
    refine XO.q (Q.sub rfl rfl ⟨by omega, by omega⟩) ?_
    refine XO.q (Q.assign rfl) ?_
    refine XO.done ?_
    refine XK.inBlock ?_
    refine XK.region rfl ?_
    refine XO.q (Q.add rfl rfl ⟨by omega, by omega⟩) ?_
    refine XO.q (Q.move rfl) ?_
    refine XO.done ?_
    exact ih0 (i + 1, h5_7) _ _ ⟨by dsimp only; omega, by dsimp only; exact O5_7⟩ (by first | omega | (dsimp only; omega)) (.c rfl (.c rfl (.base 58 rfl rfl))) inferInstance
  · have _t0 := True.intro
    have hil : i = sts.length := by omega
    subst hil
    refine XK.exit rfl ?_
    refine XK.seq ?_
    refine XK.region rfl ?_
    refine XO.q (Q.move rfl) ?_
    refine XO.q (Q.assign rfl) ?_
    refine XO.done ?_
    refine XK.rt [ku] Try.func99 Try.results99 (.t rfl .n) ?_
    exact ⟨ku, rfl, rfl, OU⟩
theorem give_spec (v : Value) (h : PHeap) (cs : List BCell) [ic : OArr v encCell 5 163 h cs] (i : Nat) (hi : i < cs.length) (ck : CellOk (cs.getD i default)) (need : Int) (hn0 : 0 ≤ need) (hn1 : need ≤ 6000000) :
    Spec Try.prog 100 #[pat v 5 i 0, .int .i64 need] [h] [] (fun v' hs => ∃ h', v' = .int .i64 (giveC (cs.getD i default) need) ∧ hs = [h'] ∧ OArr v encCell 5 163 h' (cs.set i { bat := (cs.getD i default).bat, now := (cs.getD i default).now - giveC (cs.getD i default) need })) := by
  have g := giveC_ok ck hn0
  have n0 := ck.n0
  have nf := ck.nf
  have f1 := ck.f1
  unfold giveC at g
  refine Spec.intro (fn := Try.f100) (N := 26) Try.func100 rfl Try.ntmps100 rfl fun B => ?_
  refine XK.seq ?_
  refine XK.region rfl ?_
  refine XO.q (Q.assign rfl) ?_
  refine XO.done ?_
  refine XK.seq ?_
  refine XK.drawn [0, 1, 2, 3, 4, 5, 6, 7, 8, 9, 10, 11] [] [h] (.q 0 (.q 1 (.q 2 (.q 3 (.q 4 (.q 5 (.q 6 (.q 7 (.q 8 (.q 9 (.q 10 (.q 11 .done)))))))))))) Try.mixed rfl (by kernel_rfl) ?_
  refine XT.q rfl rfl (Q.move rfl) ?_
  refine XT.q rfl rfl (Q.nilCheckE rfl (by first | assumption | omega)) ?_
  refine XT.q rfl rfl (Q.fieldQ rfl (by first | assumption | omega)) ?_
  refine XT.q rfl rfl (Q.fieldQ rfl (by first | assumption | omega)) ?_
  refine XT.q rfl rfl (Q.ldE rfl (by first | assumption | omega) rfl) ?_
  refine XT.q rfl rfl (Q.move rfl) ?_
  refine XT.q rfl rfl (Q.nilCheckE rfl (by first | assumption | omega)) ?_
  refine XT.q rfl rfl (Q.fieldQ rfl (by first | assumption | omega)) ?_
  refine XT.q rfl rfl (Q.ldE rfl (by first | assumption | omega) rfl) ?_
  refine XT.q rfl rfl (Q.move rfl) ?_
  refine XT.q rfl rfl (Q.min3 rfl rfl rfl) ?_
  refine XT.q rfl rfl (Q.assign rfl) ?_
  refine XT.done ?_
  refine XK.seq ?_
  refine XK.region rfl ?_
  refine XO.q (Q.move rfl) ?_
  refine XO.q (Q.nilCheckE rfl (by first | assumption | omega)) ?_
  refine XO.q (Q.fieldQ rfl (by first | assumption | omega)) ?_
  refine XO.q (Q.ldE rfl (by first | assumption | omega) rfl) ?_
  refine XO.q (Q.move rfl) ?_
  refine XO.q (Q.sub rfl rfl ⟨by omega, by omega⟩) ?_
  refine XO.q (Q.nilCheckE rfl (by first | assumption | omega)) ?_
  refine XO.q (Q.fieldQ rfl (by first | assumption | omega)) ?_
  refine XO.stE { bat := (cs.getD i default).bat, now := (cs.getD i default).now - giveC (cs.getD i default) need } rfl rfl rfl (by assumption) rfl rfl fun h2_8 O2_8 => ?_
  refine XO.done ?_
  refine XK.seq ?_
  refine XK.region rfl ?_
  refine XO.q (Q.move rfl) ?_
  refine XO.q (Q.assign rfl) ?_
  refine XO.done ?_
  refine XK.rt [h2_8] Try.func100 Try.results100 (.t rfl .n) ?_
  exact ⟨h2_8, rfl, rfl, O2_8⟩
theorem take_spec (v : Value) (h : PHeap) (cs : List BCell) [ic : OArr v encCell 5 163 h cs] (i : Nat) (hi : i < cs.length) (ck : CellOk (cs.getD i default)) (need : Int) (hn0 : 0 ≤ need) (hn1 : need ≤ 6000000) :
    Spec Try.prog 102 #[pat v 5 i 0, .int .i64 need] [h] [] (fun v' hs => ∃ h', v' = .int .i64 (takeC (cs.getD i default) need) ∧ hs = [h'] ∧ OArr v encCell 5 163 h' (cs.set i { bat := (cs.getD i default).bat, now := (cs.getD i default).now + takeC (cs.getD i default) need })) := by
  have g := takeC_ok ck hn0
  have n0 := ck.n0
  have nf := ck.nf
  have f1 := ck.f1
  unfold takeC at g
  refine Spec.intro (fn := Try.f102) (N := 32) Try.func102 rfl Try.ntmps102 rfl fun B => ?_
  refine XK.seq ?_
  refine XK.region rfl ?_
  refine XO.q (Q.assign rfl) ?_
  refine XO.done ?_
  refine XK.seq ?_
  refine XK.drawn [0, 1, 2, 3, 4, 5, 6, 7, 8, 9, 10, 11, 12, 13, 14, 15, 16, 17] [] [h] (.q 0 (.q 1 (.q 2 (.q 3 (.q 4 (.q 5 (.q 6 (.q 7 (.q 8 (.q 9 (.q 10 (.q 11 (.q 12 (.q 13 (.q 14 (.q 15 (.q 16 (.q 17 .done)))))))))))))))))) Try.mixed rfl (by kernel_rfl) ?_
  refine XT.q rfl rfl (Q.move rfl) ?_
  refine XT.q rfl rfl (Q.nilCheckE rfl (by first | assumption | omega)) ?_
  refine XT.q rfl rfl (Q.fieldQ rfl (by first | assumption | omega)) ?_
  refine XT.q rfl rfl (Q.fieldQ rfl (by first | assumption | omega)) ?_
  refine XT.q rfl rfl (Q.ldE rfl (by first | assumption | omega) rfl) ?_
  refine XT.q rfl rfl (Q.move rfl) ?_
  refine XT.q rfl rfl (Q.nilCheckE rfl (by first | assumption | omega)) ?_
  refine XT.q rfl rfl (Q.fieldQ rfl (by first | assumption | omega)) ?_
  refine XT.q rfl rfl (Q.fieldQ rfl (by first | assumption | omega)) ?_
  refine XT.q rfl rfl (Q.ldE rfl (by first | assumption | omega) rfl) ?_
  refine XT.q rfl rfl (Q.move rfl) ?_
  refine XT.q rfl rfl (Q.nilCheckE rfl (by first | assumption | omega)) ?_
  refine XT.q rfl rfl (Q.fieldQ rfl (by first | assumption | omega)) ?_
  refine XT.q rfl rfl (Q.ldE rfl (by first | assumption | omega) rfl) ?_
  refine XT.q rfl rfl (Q.sub rfl rfl ⟨by omega, by omega⟩) ?_
  refine XT.q rfl rfl (Q.move rfl) ?_
  refine XT.q rfl rfl (Q.min3 rfl rfl rfl) ?_
  refine XT.q rfl rfl (Q.assign rfl) ?_
  refine XT.done ?_
  refine XK.seq ?_
  refine XK.region rfl ?_
  refine XO.q (Q.move rfl) ?_
  refine XO.q (Q.nilCheckE rfl (by first | assumption | omega)) ?_
  refine XO.q (Q.fieldQ rfl (by first | assumption | omega)) ?_
  refine XO.q (Q.ldE rfl (by first | assumption | omega) rfl) ?_
  refine XO.q (Q.move rfl) ?_
  refine XO.q (Q.add rfl rfl ⟨by omega, by omega⟩) ?_
  refine XO.q (Q.nilCheckE rfl (by first | assumption | omega)) ?_
  refine XO.q (Q.fieldQ rfl (by first | assumption | omega)) ?_
  refine XO.stE { bat := (cs.getD i default).bat, now := (cs.getD i default).now + takeC (cs.getD i default) need } rfl rfl rfl (by assumption) rfl rfl fun h2_8 O2_8 => ?_
  refine XO.done ?_
  refine XK.seq ?_
  refine XK.region rfl ?_
  refine XO.q (Q.move rfl) ?_
  refine XO.q (Q.assign rfl) ?_
  refine XO.done ?_
  refine XK.rt [h2_8] Try.func102 Try.results102 (.t rfl .n) ?_
  exact ⟨h2_8, rfl, rfl, O2_8⟩
theorem energies_spec (p : Nat) (vb vg vs vc vn : Value) [ob : One vb] [on : One vn] (sv : Int) [os : One vs] [og : One vg] (hc : PHeap) (cs : List BCell) [ic : Arr vc encCell 5 hc cs] (hl : cs.length ≤ 8) :
    Spec Try.prog 91 #[ptr p 0] [] [blk p [vb, vg, vs, vc, vn, .int .i64 (sv)] 153, hc] (fun v hs => ∃ h', hs = [h'] ∧ OArr v encI 1 3 h' (energiesP cs)) := by
  have lc := ic.le
  refine Spec.intro (fn := Try.f91) (N := 22) Try.func91 rfl Try.ntmps91 rfl fun B => ?_
  refine XK.seq ?_
  refine XK.region rfl ?_
  refine XO.q (Q.assign rfl) ?_
  refine XO.done ?_
  refine XK.seq ?_
  refine XK.region rfl ?_
  refine XO.q (Q.assign rfl) ?_
  refine XO.done ?_
  refine XK.seq ?_
  refine XK.seq ?_
  refine XK.region rfl ?_
  refine XO.q (Q.move rfl) ?_
  refine XO.q (Q.nilCheck rfl) ?_
  refine XO.q (Q.fieldAddr rfl) ?_
  refine XO.q (Q.ld rfl rfl) ?_
  refine XO.len rfl fun l10 => ?_
  refine XO.q (Q.move rfl) ?_
  refine XO.done ?_
  refine XK.block ?_
  refine XK.while (X := Nat × PHeap × Value) [3, 5, 11, 12, 13, 14, 15, 16, 17, 18, 19, 20] (fun ⟨i, ko, vo⟩ => [(3, some (vo)), (11, some (.int .i64 (i : Nat)))]) (fun ⟨i, ko, vo⟩ => [ko]) (fun ⟨i, ko, vo⟩ => i ≤ cs.length ∧ OArr vo encI 1 3 ko (energiesP (cs.take i))) (fun ⟨i, ko, vo⟩ => cs.length - i) (0, emp, .slice none 0 0) [emp] rfl ⟨by omega, OArr.nil (fun _ => rfl)⟩ (.c rfl (.c rfl (.base 0 rfl rfl))) ?_
  rintro ⟨i, ko, vo⟩ ⟨hi, OE⟩ ih0
  dsimp only [List.cons_append, List.nil_append] at ih0 ⊢
  have le : (energiesP (cs.take i)).length = i := by unfold energiesP; rw [List.length_map, List.length_take]; omega
  refine XK.seq ?_
  refine XK.region rfl ?_
  refine XO.q (Q.lss rfl rfl) ?_
  refine XO.done ?_
  refine XK.seq ?_
  refine XK.if rfl (fun c0 => ?_) (fun c0 => ?_)
  · have _t0 := True.intro
    refine XK.skip ?_
    refine XK.seq ?_
    refine XK.block ?_
    refine XK.seq ?_
    refine XK.region rfl ?_
    refine XO.ix rfl rfl (by omega) (by omega) fun i13 => ?_
    refine XO.q (Q.ldEA [_, _, _, _, _] rfl (by first | assumption | omega) rfl rfl) ?_
    refine XO.alloc fun b5 => ?_
    refine XO.st rfl rfl rfl ?_
    refine XO.done ?_
    refine XK.region rfl ?_
    refine XO.q (Q.move rfl) ?_
    refine XO.q (Q.fieldAddr rfl) ?_
    refine XO.q (Q.ld rfl rfl) ?_
    refine XO.lit [_] [_] [(cs.getD i default).now] encI (by rfl) (by rfl) rfl (by rfl) (by exact .c 0 1 rfl rfl rfl (.n _)) (fun _ => rfl) (by rfl) rfl (by infer_instance) rfl fun v18 h18 O18 => ?_
    refine XO.append rfl rfl rfl rfl (by first | omega | (simp; omega)) fun v19 h19 O19 => ?_
    refine XO.q (Q.assign rfl) ?_
    refine XO.done ?_
    refine XK.inBlock ?_
    refine XK.region rfl ?_
    refine XO.q (Q.add rfl rfl ⟨by omega, by omega⟩) ?_
    refine XO.q (Q.move rfl) ?_
    refine XO.done ?_
    exact ih0 (i + 1, h19, v19) _ _ ⟨by dsimp only; omega, by dsimp only; rw [energies_snoc (by omega)]; exact O19⟩ (by first | omega | (dsimp only; omega)) (.c rfl (.c rfl (.base 26 rfl rfl))) inferInstance
  · have _t0 := True.intro
    refine XK.exit rfl ?_
    refine XK.seq ?_
    refine XK.region rfl ?_
    refine XO.q (Q.move rfl) ?_
    refine XO.q (Q.assign rfl) ?_
    refine XO.done ?_
    refine XK.rt [ko] Try.func91 Try.results91 (.t rfl .n) ?_
    have hil : i = cs.length := by omega
    subst hil
    rw [List.take_length] at OE
    exact ⟨ko, rfl, OE⟩
end Go.X

set_option linter.unusedSimpArgs false
set_option linter.unusedVariables false
set_option maxRecDepth 20000
namespace Go.X
open Go.Proofs
theorem begin_spec (b : BBank) (vb vg : Value) (hb hg : PHeap) [ib : Arr vb encBat 4 hb b.bats] [ig : Arr vg encGen 5 hg b.gens] (fs : List Int) (vf : Value) (hf : PHeap) [jf : Arr vf encI 1 hf fs] (ok : BOk b) (fk : FOk b fs) : Spec Try.prog 85 #[.agg #[vb, vg], vf] [] [hb, hg, hf] (fun v hs => ∃ p vs vc vn ks kc kn, v = ptr p 0 ∧ hs = [blk p [vb, vg, vs, vc, vn, .int .i64 0] 153, ks, kc, kn] ∧ OArr vs encI 1 3 ks (startsP b fs) ∧ OArr vc encCell 5 163 kc (begun b).cells ∧ OArr vn encI 1 3 kn (begun b).burnt) := by
  have lb := ib.le
  have lg := ig.le
  have n8 := ok.nb
  have n6 := ok.ng
  have nf := fk.n
  refine Spec.intro (fn := Try.f85) (N := 63) Try.func85 rfl Try.ntmps85 rfl fun B => ?_
  refine XK.seq ?_
  refine XK.region rfl ?_
  refine XO.box rfl fun b2 => ?_
  refine XO.q (Q.assign rfl) ?_
  refine XO.done ?_
  refine XK.seq ?_
  refine XK.drawn [0, 1, 2, 3, 5, 7] [b2] [] (.q 0 (.q 1 (.q 2 (.q 3 (.br 4 true (.q 5 (.br 6 true (.q 7 .done) .stop)) .stop))))) Try.mixed rfl (by kernel_rfl) ?_
  refine XT.q rfl rfl (Q.ldA [_, _] rfl rfl rfl) ?_
  refine XT.q rfl rfl (Q.fieldAddr rfl) ?_
  refine XT.q rfl rfl (Q.ld rfl rfl) ?_
  refine XT.q rfl rfl (Q.len rfl) ?_
  refine XT.make encI (0) rfl rfl rfl rfl rfl (by omega) (by omega) (fun _ => rfl) rfl rfl rfl (by dsimp only [encI]; infer_instance) (fun v14 h14 O14 => ⟨inferInstance, ?_⟩) XT.stop
  refine XT.q rfl rfl (Q.build [_, _, _, _, _, _] (.c 0 2 rfl rfl rfl (.c 4 1 rfl rfl rfl (.n _)))) ?_
  refine XT.box rfl rfl rfl (fun b16 => ⟨inferInstance, ?_⟩) XT.stop
  refine XT.q rfl rfl (Q.assign rfl) ?_
  refine XT.done ?_
  refine XK.seq ?_
  refine XK.seq ?_
  refine XK.region rfl ?_
  refine XO.q (Q.fieldAddr rfl) ?_
  refine XO.q (Q.ld rfl rfl) ?_
  refine XO.len rfl fun l19 => ?_
  refine XO.q (Q.move rfl) ?_
  refine XO.done ?_
  refine XK.block ?_
  refine XK.while (X := Nat × PHeap × Value) [7, 20, 21, 22, 23, 24, 25, 26, 27, 28, 29, 30, 31, 32, 33, 34, 35, 36, 37] (fun ⟨i, kc, vc⟩ => [(20, some (.int .i64 (i : Nat)))]) (fun ⟨i, kc, vc⟩ => [blk b16 [vb, vg, .slice none 0 0, vc, v14, .int .i64 0] 153, kc]) (fun ⟨i, kc, vc⟩ => i ≤ b.bats.length ∧ OArr vc encCell 5 163 kc ((b.bats.take i).map (fun x => ⟨x, x.energy⟩))) (fun ⟨i, kc, vc⟩ => b.bats.length - i) (0, emp, .slice none 0 0) [blk b16 [vb, vg, .slice none 0 0, .slice none 0 0, v14, .int .i64 0] 153, emp] rfl ⟨by omega, OArr.nil (fun _ => rfl)⟩ (.c rfl (.base 0 rfl rfl)) ?_
  rintro ⟨i, kc, vc⟩ ⟨hi, OC⟩ ih0
  dsimp only [List.cons_append, List.nil_append] at ih0 ⊢
  have lc : ((b.bats.take i).map (fun x => (⟨x, x.energy⟩ : BCell))).length = i := by rw [List.length_map, List.length_take]; omega
  refine XK.seq ?_
  refine XK.region rfl ?_
  refine XO.q (Q.lss rfl rfl) ?_
  refine XO.done ?_
  refine XK.seq ?_
  refine XK.if rfl (fun c0 => ?_) (fun c0 => ?_)
  · have _t0 := True.intro
    refine XK.skip ?_
    refine XK.seq ?_
    refine XK.block ?_
    refine XK.seq ?_
    refine XK.region rfl ?_
    refine XO.ix rfl rfl (by omega) (by omega) fun i22 => ?_
    refine XO.q (Q.ldEA [_, _, _, _] rfl (by first | assumption | omega) rfl rfl) ?_
    refine XO.alloc fun b7 => ?_
    refine XO.st rfl rfl rfl ?_
    refine XO.done ?_
    refine XK.drawn [0, 1, 2, 3, 5, 6, 7, 8, 11, 12] [b7] [] (.q 0 (.q 1 (.q 2 (.q 3 (.q 5 (.q 6 (.q 7 (.q 8 (.br 4 true (.br 9 true (.br 10 true (.q 11 (.q 12 (.br 13 true .done .stop))) .stop) .stop) (.br 9 true (.br 4 true (.br 10 true (.q 11 (.q 12 (.br 13 true .done .stop))) .stop) .stop) .stop)))))))))) Try.mixed rfl (by kernel_rfl) ?_
    refine XT.q rfl rfl (Q.move rfl) ?_
    refine XT.q rfl rfl (Q.move rfl) ?_
    refine XT.q rfl rfl (Q.nilCheck rfl) ?_
    refine XT.q rfl rfl (Q.fieldAddr rfl) ?_
    refine XT.q rfl rfl (Q.ldA [_, _, _, _] rfl rfl rfl) ?_
    refine XT.q rfl rfl (Q.fieldAddr rfl) ?_
    refine XT.q rfl rfl (Q.ld rfl rfl) ?_
    refine XT.q rfl rfl (Q.build [_, _, _, _, _] (.c 0 4 rfl rfl rfl (.c 4 1 rfl rfl rfl (.n _)))) ?_
    refine XT.qs rfl rfl (Q.ld rfl rfl) ⟨inferInstance, ?_⟩ ?_
    · skip
      refine XT.lit [_, _, _, _, _] [_, _, _, _, _] [⟨b.bats.getD i default, (b.bats.getD i default).energy⟩] encCell rfl rfl (by rfl) (by rfl) rfl (by rfl) (by exact .c 0 5 rfl rfl rfl (.n _)) (fun _ => rfl) (by rfl) rfl (by infer_instance) rfl (fun v33 h33 O33 => ⟨inferInstance, ?_⟩) XT.stop
      refine XT.append rfl rfl rfl rfl rfl rfl (by first | omega | (simp; omega)) (fun v34 h34 O34 => ⟨inferInstance, ?_⟩) XT.stop
      refine XT.q rfl rfl (Q.nilCheck rfl) ?_
      refine XT.q rfl rfl (Q.fieldAddr rfl) ?_
      refine XT.st rfl rfl rfl rfl rfl ⟨inferInstance, ?_⟩ XT.stop
      refine XT.done ?_
      refine XK.inBlock ?_
      refine XK.region rfl ?_
      refine XO.q (Q.add rfl rfl ⟨by omega, by omega⟩) ?_
      refine XO.q (Q.move rfl) ?_
      refine XO.done ?_
      exact ih0 (i + 1, h34, v34) _ _ ⟨by dsimp only; omega, by dsimp only; rw [cells_snoc (by omega)]; exact O34⟩ (by first | omega | (dsimp only; omega)) (.c rfl (.base 39 rfl rfl)) inferInstance
    · skip
      refine XT.lit [_, _, _, _, _] [_, _, _, _, _] [⟨b.bats.getD i default, (b.bats.getD i default).energy⟩] encCell rfl rfl (by rfl) (by rfl) rfl (by rfl) (by exact .c 0 5 rfl rfl rfl (.n _)) (fun _ => rfl) (by rfl) rfl (by infer_instance) rfl (fun v33 h33 O33 => ⟨inferInstance, ?_⟩) XT.stop
      refine XT.qs rfl rfl (Q.ld rfl rfl) ⟨inferInstance, ?_⟩ XT.stop
      refine XT.append rfl rfl rfl rfl rfl rfl (by first | omega | (simp; omega)) (fun v34 h34 O34 => ⟨inferInstance, ?_⟩) XT.stop
      refine XT.q rfl rfl (Q.nilCheck rfl) ?_
      refine XT.q rfl rfl (Q.fieldAddr rfl) ?_
      refine XT.st rfl rfl rfl rfl rfl ⟨inferInstance, ?_⟩ XT.stop
      refine XT.done ?_
      refine XK.inBlock ?_
      refine XK.region rfl ?_
      refine XO.q (Q.add rfl rfl ⟨by omega, by omega⟩) ?_
      refine XO.q (Q.move rfl) ?_
      refine XO.done ?_
      exact ih0 (i + 1, h34, v34) _ _ ⟨by dsimp only; omega, by dsimp only; rw [cells_snoc (by omega)]; exact O34⟩ (by first | omega | (dsimp only; omega)) (.c rfl (.base 39 rfl rfl)) inferInstance
  · have _t0 := True.intro
    have hil : i = b.bats.length := by omega
    subst hil
    rw [List.take_length] at OC
    clear ih0 lc hi c0
    refine XK.exit rfl ?_
    refine XK.seq ?_
    refine XK.seq ?_
    refine XK.region rfl ?_
    refine XO.q (Q.fieldAddr rfl) ?_
    refine XO.q (Q.ld rfl rfl) ?_
    refine XO.len rfl fun l40 => ?_
    refine XO.q (Q.move rfl) ?_
    refine XO.done ?_
    refine XK.block ?_
    refine XK.while (X := Nat × PHeap × Value) [8, 9, 41, 42, 43, 44, 45, 46, 47, 48, 49, 50, 51, 52, 53, 54, 55, 56, 57, 58, 59, 60, 61] (fun ⟨i, ks, vs⟩ => [(41, some (.int .i64 (i : Nat)))]) (fun ⟨i, ks, vs⟩ => [blk b16 [vb, vg, vs, vc, v14, .int .i64 0] 153, ks]) (fun ⟨i, ks, vs⟩ => i ≤ b.gens.length ∧ OArr vs encI 1 3 ks (startsTo b.gens fs i)) (fun ⟨i, ks, vs⟩ => b.gens.length - i) (0, emp, .slice none 0 0) [blk b16 [vb, vg, .slice none 0 0, vc, v14, .int .i64 0] 153, emp] rfl ⟨by omega, OArr.nil (fun _ => rfl)⟩ (.c rfl (.base 0 rfl rfl)) ?_
    rintro ⟨i, ks, vs⟩ ⟨hi, OS⟩ ih1
    dsimp only [List.cons_append, List.nil_append] at ih1 ⊢
    have ls := startsTo_len b.gens fs i
    refine XK.seq ?_
    refine XK.region rfl ?_
    refine XO.q (Q.lss rfl rfl) ?_
    refine XO.done ?_
    refine XK.seq ?_
    refine XK.if rfl (fun c1 => ?_) (fun c1 => ?_)
    · have _t1 := True.intro
      refine XK.skip ?_
      refine XK.seq ?_
      refine XK.block ?_
      refine XK.seq ?_
      refine XK.region rfl ?_
      refine XO.q (Q.move rfl) ?_
      refine XO.ix rfl rfl (by omega) (by omega) fun i44 => ?_
      refine XO.q (Q.ldEA [_, _, _, _, _] rfl (by first | assumption | omega) rfl rfl) ?_
      refine XO.alloc fun b9 => ?_
      refine XO.q (Q.assign rfl) ?_
      refine XO.st rfl rfl rfl ?_
      refine XO.done ?_
      refine XK.drawn [0, 1, 2, 3, 5, 6, 7, 8, 9, 13, 14] [b9] [] (.q 0 (.q 1 (.q 2 (.q 3 (.q 5 (.q 6 (.q 7 (.q 8 (.q 9 (.br 4 true (.br 10 true (.br 11 true (.br 12 true (.q 13 (.q 14 (.br 15 true .done .stop))) .stop) .stop) .stop) (.br 10 true (.br 4 true (.br 11 true (.br 12 true (.q 13 (.q 14 (.br 15 true .done .stop))) .stop) .stop) (.br 11 true (.br 4 true (.br 12 true (.q 13 (.q 14 (.br 15 true .done .stop))) .stop) .stop) .stop)) .stop))))))))))) Try.mixed rfl (by kernel_rfl) ?_
      refine XT.q rfl rfl (Q.move rfl) ?_
      refine XT.q rfl rfl (Q.move rfl) ?_
      refine XT.q rfl rfl (Q.nilCheck rfl) ?_
      refine XT.q rfl rfl (Q.fieldAddr rfl) ?_
      refine XT.q rfl rfl (Q.ldA [_, _, _, _, _] rfl rfl rfl) ?_
      refine XT.q rfl rfl (Q.move rfl) ?_
      refine XT.q rfl rfl (Q.move rfl) ?_
      refine XT.ix rfl rfl rfl rfl (by omega) (by omega) fun i54 => ?_
      refine XT.q rfl rfl (Q.ldE rfl (by first | assumption | omega) rfl) ?_
      refine XT.qs rfl rfl (Q.ld rfl rfl) ⟨inferInstance, ?_⟩ ?_
      · skip
        have fi := fk.f i (by omega)
        refine XT.call rfl rfl Try.call73 rfl rfl rfl (start_spec _ (ok.gen _ (getD_memB (by omega))) _ fi.1 fi.2) (fun v56 s56 R56 => ?_) XT.stop
        obtain ⟨rfl, rfl⟩ := R56
        dsimp only [List.cons_append, List.nil_append]
        refine ⟨inferInstance, ?_⟩
        refine XT.lit [_] [_] [startP (b.gens.getD i default) (fs.getD i default)] encI rfl rfl (by rfl) (by rfl) rfl (by rfl) (by exact .c 0 1 rfl rfl rfl (.n _)) (fun _ => rfl) (by rfl) rfl (by infer_instance) rfl (fun v57 h57 O57 => ⟨inferInstance, ?_⟩) XT.stop
        refine XT.append rfl rfl rfl rfl rfl rfl (by first | omega | (simp; omega)) (fun v58 h58 O58 => ⟨inferInstance, ?_⟩) XT.stop
        refine XT.q rfl rfl (Q.nilCheck rfl) ?_
        refine XT.q rfl rfl (Q.fieldAddr rfl) ?_
        refine XT.st rfl rfl rfl rfl rfl ⟨inferInstance, ?_⟩ XT.stop
        refine XT.done ?_
        refine XK.inBlock ?_
        refine XK.region rfl ?_
        refine XO.q (Q.add rfl rfl ⟨by omega, by omega⟩) ?_
        refine XO.q (Q.move rfl) ?_
        refine XO.done ?_
        exact ih1 (i + 1, h58, v58) _ _ ⟨by dsimp only; omega, by dsimp only; exact O58⟩ (by first | omega | (dsimp only; omega)) (.c rfl (.base 47 rfl rfl)) inferInstance
      · skip
        have fi := fk.f i (by omega)
        refine XT.call rfl rfl Try.call73 rfl rfl rfl (start_spec _ (ok.gen _ (getD_memB (by omega))) _ fi.1 fi.2) (fun v56 s56 R56 => ?_) XT.stop
        obtain ⟨rfl, rfl⟩ := R56
        dsimp only [List.cons_append, List.nil_append]
        refine ⟨inferInstance, ?_⟩
        refine XT.qs rfl rfl (Q.ld rfl rfl) ⟨inferInstance, ?_⟩ ?_
        · skip
          refine XT.lit [_] [_] [startP (b.gens.getD i default) (fs.getD i default)] encI rfl rfl (by rfl) (by rfl) rfl (by rfl) (by exact .c 0 1 rfl rfl rfl (.n _)) (fun _ => rfl) (by rfl) rfl (by infer_instance) rfl (fun v57 h57 O57 => ⟨inferInstance, ?_⟩) XT.stop
          refine XT.append rfl rfl rfl rfl rfl rfl (by first | omega | (simp; omega)) (fun v58 h58 O58 => ⟨inferInstance, ?_⟩) XT.stop
          refine XT.q rfl rfl (Q.nilCheck rfl) ?_
          refine XT.q rfl rfl (Q.fieldAddr rfl) ?_
          refine XT.st rfl rfl rfl rfl rfl ⟨inferInstance, ?_⟩ XT.stop
          refine XT.done ?_
          refine XK.inBlock ?_
          refine XK.region rfl ?_
          refine XO.q (Q.add rfl rfl ⟨by omega, by omega⟩) ?_
          refine XO.q (Q.move rfl) ?_
          refine XO.done ?_
          exact ih1 (i + 1, h58, v58) _ _ ⟨by dsimp only; omega, by dsimp only; exact O58⟩ (by first | omega | (dsimp only; omega)) (.c rfl (.base 47 rfl rfl)) inferInstance
        · skip
          refine XT.lit [_] [_] [startP (b.gens.getD i default) (fs.getD i default)] encI rfl rfl (by rfl) (by rfl) rfl (by rfl) (by exact .c 0 1 rfl rfl rfl (.n _)) (fun _ => rfl) (by rfl) rfl (by infer_instance) rfl (fun v57 h57 O57 => ⟨inferInstance, ?_⟩) XT.stop
          refine XT.qs rfl rfl (Q.ld rfl rfl) ⟨inferInstance, ?_⟩ XT.stop
          refine XT.append rfl rfl rfl rfl rfl rfl (by first | omega | (simp; omega)) (fun v58 h58 O58 => ⟨inferInstance, ?_⟩) XT.stop
          refine XT.q rfl rfl (Q.nilCheck rfl) ?_
          refine XT.q rfl rfl (Q.fieldAddr rfl) ?_
          refine XT.st rfl rfl rfl rfl rfl ⟨inferInstance, ?_⟩ XT.stop
          refine XT.done ?_
          refine XK.inBlock ?_
          refine XK.region rfl ?_
          refine XO.q (Q.add rfl rfl ⟨by omega, by omega⟩) ?_
          refine XO.q (Q.move rfl) ?_
          refine XO.done ?_
          exact ih1 (i + 1, h58, v58) _ _ ⟨by dsimp only; omega, by dsimp only; exact O58⟩ (by first | omega | (dsimp only; omega)) (.c rfl (.base 47 rfl rfl)) inferInstance
    · have _t1 := True.intro
      refine XK.exit rfl ?_
      refine XK.seq ?_
      refine XK.region rfl ?_
      refine XO.q (Q.move rfl) ?_
      refine XO.q (Q.assign rfl) ?_
      refine XO.done ?_
      refine XK.rt [blk b16 [vb, vg, vs, vc, v14, .int .i64 0] 153, ks, kc, h14] Try.func85 Try.results85 (.t rfl .n) ?_
      have hil : i = b.gens.length := by omega
      subst hil
      exact ⟨b16, vs, vc, v14, ks, kc, h14, rfl, rfl, OS, OC, O14⟩
theorem generate0 (p : Nat) (vb vg vs vc vn : Value) [ob : One vb] [oc : One vc] [on : One vn] (sv : Int) (gens : List BGen) (sts : List Int) (pk : PlayOk gens sts) (hg hs : PHeap) [ig : Arr vg encGen 5 hg gens] [is : Arr vs encI 1 hs sts] (t : Int) (ht0 : 0 ≤ t) (ht : t ≤ 20000) (load : Int) (hn0 : 0 ≤ load) (hn1 : load ≤ 1000000) (vu : Value) (hu : PHeap) [iu : OArr vu encI 1 3 hu (List.replicate sts.length 0)] :
    Spec Try.prog 99 #[ptr p 0, .int .i64 t, .int .i64 load, vu] [hu] [blk p [vb, vg, vs, vc, vn, .int .i64 (sv)] 153, hg, hs] (fun v hs' => ∃ h', v = .int .i64 (gen0 gens sts t load).2 ∧ hs' = [h'] ∧ OArr vu encI 1 3 h' (gen0 gens sts t load).1) :=
  generate_spec p vb vg vs vc vn sv gens sts pk hg hs t ht0 ht load hn0 (by omega) vu hu (List.replicate sts.length 0) (zero_used fun j hj => (canAt_ok pk ht hj).1)
theorem generate1 (p : Nat) (vb vg vs vc vn : Value) [ob : One vb] [oc : One vc] [on : One vn] (sv : Int) (gens : List BGen) (sts : List Int) (pk : PlayOk gens sts) (hg hs : PHeap) [ig : Arr vg encGen 5 hg gens] [is : Arr vs encI 1 hs sts] (t : Int) (ht0 : 0 ≤ t) (ht : t ≤ 20000) (load : Int) (hn0 : 0 ≤ load) (hn1 : load ≤ 1000000) {nc k : Nat} {s : BSt} (so : StOk sts nc k s) (vu : Value) (hu : PHeap) [iu : OArr vu encI 1 3 hu (gen0 gens sts t load).1] :
    Spec Try.prog 99 #[ptr p 0, .int .i64 t, .int .i64 (take0 gens sts t load s).2, vu] [hu] [blk p [vb, vg, vs, vc, vn, .int .i64 (sv)] 153, hg, hs] (fun v hs' => ∃ h', v = .int .i64 (gen1 gens sts t load s).2 ∧ hs' = [h'] ∧ OArr vu encI 1 3 h' (gen1 gens sts t load s).1) :=
  generate_spec p vb vg vs vc vn sv gens sts pk hg hs t ht0 ht (take0 gens sts t load s).2 (take0_ok pk ht hn0 so).2.1 (take0_ok pk ht hn0 so).2.2 vu hu (gen0 gens sts t load).1 (gen0_ok pk ht hn0).1
set_option maxHeartbeats 1000000 in
theorem second_spec (p : Nat) (vb vg vs vc vn : Value) [ob : One vb] (gens : List BGen) (sts : List Int) (pk : PlayOk gens sts) (hg hs : PHeap) [ig : Arr vg encGen 5 hg gens] [is : Arr vs encI 1 hs sts] (s : BSt) (hc hn : PHeap) [ic : OArr vc encCell 5 163 hc s.cells] [jn : OArr vn encI 1 3 hn s.burnt] {nc k : Nat} (so : StOk sts nc k s) (hk : k ≤ 20000)
    (t : Int) (ht0 : 0 ≤ t) (ht : t ≤ 20000) (load : Int) (hn0 : 0 ≤ load) (hn1 : load ≤ 1000000) (strict : Bool) :
    Spec Try.prog 87 #[ptr p 0, .int .i64 t, .int .i64 load, .bool strict] [blk p [vb, vg, vs, vc, vn, .int .i64 (s.served)] 153, hc, hn] [hg, hs] (fun v hs' => ∃ vc' hc' hn', v = .int .i64 (secondP gens sts t load strict s).1 ∧ hs' = [blk p [vb, vg, vs, vc', vn, .int .i64 (secondP gens sts t load strict s).2.served] 153, hc', hn'] ∧ OArr vc' encCell 5 163 hc' (secondP gens sts t load strict s).2.cells ∧ OArr vn encI 1 3 hn' (secondP gens sts t load strict s).2.burnt) := by
  have lc := ic.arr.le
  have ls := is.le
  have n8 := so.nc8
  have cl := so.c.len
  have n6 := pk.ng
  have ns := pk.n
  have s0 := so.s0
  have s1 := so.s1
  have bl := so.b.len
  have g0 := gen0_ok pk ht hn0
  have gl := g0.1.len
  have v0 := give0_ok pk ht hn0 so
  have t0 := take0_ok pk ht hn0 so
  have p0 := spare0_ok pk ht hn0
  have g1 := gen1_ok pk ht hn0 so
  have g1l := g1.len
  have hca := fun j hj => canAt_ok (i := j) pk ht hj
  have hgv := fun i hi => giveTo_ok so.c g0.2.1 i hi
  have hsp := fun i hi => spareTo_ok g0.1 (fun j hj => (hca j hj).2) i hi
  have p0 : 0 ≤ (spareTo (canAt gens sts t) (gen0 gens sts t load).1 sts.length) ∧ (spareTo (canAt gens sts t) (gen0 gens sts t load).1 sts.length) ≤ 6000000 := p0
  have htk := fun i hi => takeTo_ok so.c p0.1 i hi
  refine Spec.intro (fn := Try.f87) (N := 141) Try.func87 rfl Try.ntmps87 rfl fun B => ?_
  refine XK.seq ?_
  refine XK.region rfl ?_
  refine XO.q (Q.assign rfl) ?_
  refine XO.done ?_
  refine XK.seq ?_
  refine XK.region rfl ?_
  refine XO.q (Q.move rfl) ?_
  refine XO.q (Q.nilCheck rfl) ?_
  refine XO.q (Q.fieldAddr rfl) ?_
  refine XO.q (Q.ld rfl rfl) ?_
  refine XO.call Try.call98 rfl rfl rfl (cloneC vc hc s.cells (by omega)) fun v23 s23 R23 => ?_
  obtain ⟨k23, rfl, O23⟩ := R23
  dsimp only [List.cons_append, List.nil_append]
  refine XO.q (Q.assign rfl) ?_
  refine XO.done ?_
  refine XK.seq ?_
  refine XK.region rfl ?_
  refine XO.q (Q.move rfl) ?_
  refine XO.q (Q.nilCheck rfl) ?_
  refine XO.q (Q.fieldAddr rfl) ?_
  refine XO.q (Q.ld rfl rfl) ?_
  refine XO.len rfl fun l28 => ?_
  refine XO.make encI (0) rfl rfl rfl (by omega) (by omega) (fun _ => rfl) rfl rfl rfl (by dsimp only [encI]; infer_instance) fun v29 h29 O29 => ?_
  refine XO.q (Q.assign rfl) ?_
  refine XO.done ?_
  refine XK.seq ?_
  refine XK.region rfl ?_
  refine XO.q (Q.move rfl) ?_
  refine XO.q (Q.move rfl) ?_
  refine XO.q (Q.move rfl) ?_
  refine XO.q (Q.move rfl) ?_
  refine XO.call Try.call99 rfl rfl rfl (generate0 p vb vg vs vc vn s.served gens sts pk hg hs t ht0 ht load hn0 hn1 v29 h29) fun v34 s34 R34 => ?_
  obtain ⟨k34, rfl, rfl, O34⟩ := R34
  dsimp only [List.cons_append, List.nil_append]
  refine XO.q (Q.assign rfl) ?_
  refine XO.done ?_
  refine XK.seq ?_
  refine XK.seq ?_
  refine XK.region rfl ?_
  refine XO.q (Q.move rfl) ?_
  refine XO.q (Q.gtr rfl rfl) ?_
  refine XO.done ?_
  refine XK.if rfl (fun c0 => ?_) (fun c0 => ?_)
  · have _t0 := True.intro
    refine XK.seq ?_
    refine XK.seq ?_
    refine XK.region rfl ?_
    refine XO.q (Q.move rfl) ?_
    refine XO.q (Q.nilCheck rfl) ?_
    refine XO.q (Q.fieldAddr rfl) ?_
    refine XO.q (Q.ld rfl rfl) ?_
    refine XO.len rfl fun l41 => ?_
    refine XO.q (Q.move rfl) ?_
    refine XO.done ?_
    refine XK.block ?_
    refine XK.while (X := Nat × PHeap) [11, 12, 42, 43, 44, 45, 46, 47, 48, 49, 50, 51, 52, 53, 54, 55] (fun ⟨i, kc⟩ => [(11, some (.int .i64 ((giveTo s.cells (gen0 gens sts t load).2 (i)).2))), (42, some (.int .i64 (i : Nat)))]) (fun ⟨i, kc⟩ => [kc]) (fun ⟨i, kc⟩ => i ≤ s.cells.length ∧ OArr vc encCell 5 163 kc (giveTo s.cells (gen0 gens sts t load).2 (i)).1) (fun ⟨i, kc⟩ => s.cells.length - i) (0, hc) [hc] rfl ⟨by omega, ic⟩ (.c rfl (.c rfl (.base 0 rfl rfl))) ?_
    rintro ⟨i, kc⟩ ⟨hi, OG⟩ ih0
    dsimp only [List.cons_append, List.nil_append] at ih0 ⊢
    have gvi := hgv i (by omega)
    have gvl := gvi.1.len
    refine XK.seq ?_
    refine XK.region rfl ?_
    refine XO.q (Q.lss rfl rfl) ?_
    refine XO.done ?_
    refine XK.seq ?_
    refine XK.if rfl (fun c1 => ?_) (fun c1 => ?_)
    · have _t1 := True.intro
      have gci := giveC_ok (gvi.1.ok i (by omega)) gvi.2.1
      refine XK.skip ?_
      refine XK.seq ?_
      refine XK.block ?_
      refine XK.seq ?_
      refine XK.region rfl ?_
      refine XO.q (Q.move rfl) ?_
      refine XO.q (Q.assign rfl) ?_
      refine XO.done ?_
      refine XK.region rfl ?_
      refine XO.q (Q.move rfl) ?_
      refine XO.q (Q.move rfl) ?_
      refine XO.q (Q.nilCheck rfl) ?_
      refine XO.q (Q.fieldAddr rfl) ?_
      refine XO.q (Q.ld rfl rfl) ?_
      refine XO.q (Q.move rfl) ?_
      refine XO.ix rfl rfl (by omega) (by omega) fun i51 => ?_
      refine XO.q (Q.move rfl) ?_
      refine XO.call Try.call100 rfl rfl rfl (give_spec vc kc (giveTo s.cells (gen0 gens sts t load).2 (i)).1 i (by omega) (gvi.1.ok i (by omega)) (giveTo s.cells (gen0 gens sts t load).2 (i)).2 gvi.2.1 (by omega)) fun v53 s53 R53 => ?_
      obtain ⟨k53, rfl, rfl, O53⟩ := R53
      dsimp only [List.cons_append, List.nil_append]
      refine XO.q (Q.sub rfl rfl ⟨by omega, by omega⟩) ?_
      refine XO.q (Q.assign rfl) ?_
      refine XO.done ?_
      refine XK.inBlock ?_
      refine XK.region rfl ?_
      refine XO.q (Q.add rfl rfl ⟨by omega, by omega⟩) ?_
      refine XO.q (Q.move rfl) ?_
      refine XO.done ?_
      exact ih0 (i + 1, k53) _ _ ⟨by dsimp only; omega, by dsimp only; exact O53⟩ (by first | omega | (dsimp only; omega)) (.c rfl (.c rfl (.base 34 rfl rfl))) inferInstance
    · have _t1 := True.intro
      have hil : i = s.cells.length := by omega
      subst hil
      clear ih0
      have v0 : 0 ≤ (giveTo s.cells (gen0 gens sts t load).2 (s.cells.length)).2 ∧ (giveTo s.cells (gen0 gens sts t load).2 (s.cells.length)).2 ≤ load := v0.2
      refine XK.exit rfl ?_
      refine XK.seq ?_
      refine XK.region rfl ?_
      refine XO.q (Q.move rfl) ?_
      refine XO.q (Q.gtr rfl rfl) ?_
      refine XO.q (Q.move rfl) ?_
      refine XO.q (Quiet.guardT rfl rfl fun g59 p59 => Q.move rfl) ?_
      refine XO.q (Q.and rfl (fun hp => lzv hp rfl)) ?_
      refine XO.done ?_
      refine XK.if rfl (fun c2 => ?_) (fun c2 => ?_)
      · have _t2 := True.intro
        refine XK.seq ?_
        refine XK.region rfl ?_
        refine XO.q (Q.move rfl) ?_
        refine XO.q (Q.move rfl) ?_
        refine XO.q (Q.nilCheck rfl) ?_
        refine XO.q (Q.fieldAddr rfl) ?_
        refine XO.st rfl rfl rfl ?_
        refine XO.done ?_
        refine XK.seq ?_
        refine XK.region rfl ?_
        refine XO.q (Q.move rfl) ?_
        refine XO.q (Q.assign rfl) ?_
        refine XO.done ?_
        refine XK.rt [blk p [vb, vg, vs, v23, vn, .int .i64 (s.served)] 153, k23, hn] Try.func87 Try.results87 (.t rfl .n) ?_
        have e : secondP gens sts t load strict s = ((give0 gens sts t load s).2, s) := by
          unfold secondP
          rw [if_pos c0, if_pos ⟨c2.1, by simpa using c2.2⟩]
        rw [e]
        exact ⟨v23, k23, hn, rfl, rfl, O23, jn⟩
      · have _t2 := True.intro
        refine XK.skip ?_
        refine XK.seq ?_
        refine XK.seq ?_
        refine XK.region rfl ?_
        refine XO.q (Q.move rfl) ?_
        refine XO.len rfl fun l113 => ?_
        refine XO.q (Q.move rfl) ?_
        refine XO.done ?_
        refine XK.block ?_
        refine XK.while (X := Nat × PHeap) [17, 18, 114, 115, 116, 117, 118, 119, 120, 121, 122, 123, 124, 125, 126, 127, 128, 129] (fun ⟨i, kn⟩ => [(114, some (.int .i64 (i : Nat)))]) (fun ⟨i, kn⟩ => [kn]) (fun ⟨i, kn⟩ => i ≤ sts.length ∧ OArr vn encI 1 3 kn (addTo s.burnt (gen0 gens sts t load).1 i)) (fun ⟨i, kn⟩ => sts.length - i) (0, hn) [hn] rfl ⟨by omega, jn⟩ (.c rfl (.base 0 rfl rfl)) ?_
        rintro ⟨i, kn⟩ ⟨hi, OB⟩ ih1
        dsimp only [List.cons_append, List.nil_append] at ih1 ⊢
        obtain ⟨al, aa⟩ := addTo_at (bs := s.burnt) (us := (gen0 gens sts t load).1) i (by omega)
        refine XK.seq ?_
        refine XK.region rfl ?_
        refine XO.q (Q.lss rfl rfl) ?_
        refine XO.done ?_
        refine XK.seq ?_
        refine XK.if rfl (fun c3 => ?_) (fun c3 => ?_)
        · have _t3 := True.intro
          have ai := aa i
          rw [if_neg (by omega)] at ai
          have sb := so.b.b i (by omega)
          have ub := g0.1.b i (by omega)
          have cb := hca i (by omega)
          refine XK.skip ?_
          refine XK.seq ?_
          refine XK.block ?_
          refine XK.seq ?_
          refine XK.region rfl ?_
          refine XO.q (Q.move rfl) ?_
          refine XO.ix rfl rfl (by omega) (by omega) fun i117 => ?_
          refine XO.q (Q.ldE rfl (by first | assumption | omega) rfl) ?_
          refine XO.q (Q.assign rfl) ?_
          refine XO.q (Q.assign rfl) ?_
          refine XO.done ?_
          refine XK.region rfl ?_
          refine XO.q (Q.move rfl) ?_
          refine XO.q (Q.nilCheck rfl) ?_
          refine XO.q (Q.fieldAddr rfl) ?_
          refine XO.q (Q.ld rfl rfl) ?_
          refine XO.q (Q.move rfl) ?_
          refine XO.ix rfl rfl (by omega) (by omega) fun i124 => ?_
          refine XO.q (Q.ldE rfl (by first | assumption | omega) rfl) ?_
          refine XO.q (Q.move rfl) ?_
          refine XO.q (Q.add rfl rfl ⟨by omega, by omega⟩) ?_
          refine XO.ix rfl rfl (by omega) (by omega) fun i128 => ?_
          refine XO.stE _ rfl rfl rfl (by assumption) rfl rfl fun h29_10 O29_10 => ?_
          refine XO.done ?_
          refine XK.inBlock ?_
          refine XK.region rfl ?_
          refine XO.q (Q.add rfl rfl ⟨by omega, by omega⟩) ?_
          refine XO.q (Q.move rfl) ?_
          refine XO.done ?_
          exact ih1 (i + 1, h29_10) _ _ ⟨by dsimp only; omega, by dsimp only; exact O29_10⟩ (by first | omega | (dsimp only; omega)) (.c rfl (.base 37 rfl rfl)) inferInstance
        · have _t3 := True.intro
          refine XK.exit rfl ?_
          refine XK.seq ?_
          refine XK.region rfl ?_
          refine XO.q (Q.move rfl) ?_
          refine XO.q (Q.nilCheck rfl) ?_
          refine XO.q (Q.fieldAddr rfl) ?_
          refine XO.q (Q.ld rfl rfl) ?_
          refine XO.q (Q.move rfl) ?_
          refine XO.q (Q.move rfl) ?_
          refine XO.q (Q.sub rfl rfl ⟨by omega, by omega⟩) ?_
          refine XO.q (Q.add rfl rfl ⟨by omega, by omega⟩) ?_
          refine XO.q (Q.nilCheck rfl) ?_
          refine XO.q (Q.fieldAddr rfl) ?_
          refine XO.st rfl rfl rfl ?_
          refine XO.done ?_
          refine XK.seq ?_
          refine XK.region rfl ?_
          refine XO.q (Q.move rfl) ?_
          refine XO.q (Q.assign rfl) ?_
          refine XO.done ?_
          refine XK.rt [blk p [vb, vg, vs, vc, vn, .int .i64 (s.served + (load - (giveTo s.cells (gen0 gens sts t load).2 (s.cells.length)).2))] 153, kc, kn] Try.func87 Try.results87 (.t rfl .n) ?_
          have hil : i = sts.length := by omega
          subst hil
          have e : secondP gens sts t load strict s = ((give0 gens sts t load s).2, ⟨(give0 gens sts t load s).1, addTo s.burnt (gen0 gens sts t load).1 sts.length, s.served + (load - (give0 gens sts t load s).2)⟩) := by
            unfold secondP
            rw [if_pos c0, if_neg (by exact c2)]
          rw [e]
          exact ⟨vc, kc, kn, rfl, rfl, OG, OB⟩
  · have _t0 := True.intro
    refine XK.seq ?_
    refine XK.region rfl ?_
    refine XO.q (Q.assign rfl) ?_
    refine XO.done ?_
    refine XK.seq ?_
    refine XK.seq ?_
    refine XK.region rfl ?_
    refine XO.q (Q.move rfl) ?_
    refine XO.q (Q.nilCheck rfl) ?_
    refine XO.q (Q.fieldAddr rfl) ?_
    refine XO.q (Q.ld rfl rfl) ?_
    refine XO.len rfl fun l70 => ?_
    refine XO.q (Q.move rfl) ?_
    refine XO.done ?_
    refine XK.block ?_
    refine XK.while (X := Nat) [13, 14, 71, 72, 73, 74, 75, 76, 77, 78, 79, 80, 81, 82, 83, 84, 85] (fun i => [(13, some (.int .i64 (spareTo (canAt gens sts t) (gen0 gens sts t load).1 i))), (71, some (.int .i64 (i : Nat)))]) (fun i => []) (fun i => i ≤ sts.length) (fun i => sts.length - i) (0) [] rfl (by omega) (.c rfl (.c rfl (.base 0 rfl rfl))) ?_
    rintro i hi ih2
    dsimp only [List.cons_append, List.nil_append] at ih2 ⊢
    have spi := hsp i hi
    refine XK.seq ?_
    refine XK.region rfl ?_
    refine XO.q (Q.lss rfl rfl) ?_
    refine XO.done ?_
    refine XK.seq ?_
    refine XK.if rfl (fun c4 => ?_) (fun c4 => ?_)
    · have _t4 := True.intro
      have ubi := g0.1.b i (by omega)
      have cbi := hca i (by omega)
      refine XK.skip ?_
      refine XK.seq ?_
      refine XK.block ?_
      refine XK.seq ?_
      refine XK.region rfl ?_
      refine XO.q (Q.move rfl) ?_
      refine XO.q (Q.assign rfl) ?_
      refine XO.done ?_
      refine XK.drawn [0, 1, 2, 3, 5, 6, 7, 8, 9, 10, 11] [] [k34] (.q 0 (.q 1 (.q 2 (.q 3 (.q 5 (.q 6 (.q 7 (.q 8 (.br 4 true (.q 9 (.q 10 (.q 11 .done))) .stop))))))))) Try.mixed rfl (by kernel_rfl) ?_
      refine XT.q rfl rfl (Q.move rfl) ?_
      refine XT.q rfl rfl (Q.move rfl) ?_
      refine XT.q rfl rfl (Q.move rfl) ?_
      refine XT.q rfl rfl (Q.move rfl) ?_
      refine XT.q rfl rfl (Q.move rfl) ?_
      refine XT.q rfl rfl (Q.move rfl) ?_
      refine XT.ix rfl rfl rfl rfl (by omega) (by omega) fun i81 => ?_
      refine XT.q rfl rfl (Q.ldE rfl (by first | assumption | omega) rfl) ?_
      refine XT.call rfl rfl Try.call101 rfl rfl rfl (can_spec p vb vg vs vc vn s.served gens sts pk hg hs i (by omega) t ht0 ht) (fun v78 s78 R78 => ?_) XT.stop
      obtain ⟨rfl, rfl⟩ := R78
      dsimp only [List.cons_append, List.nil_append]
      refine ⟨inferInstance, ?_⟩
      refine XT.q rfl rfl (Q.sub rfl rfl ⟨by omega, by omega⟩) ?_
      refine XT.q rfl rfl (Q.add rfl rfl ⟨by omega, by omega⟩) ?_
      refine XT.q rfl rfl (Q.assign rfl) ?_
      refine XT.done ?_
      refine XK.inBlock ?_
      refine XK.region rfl ?_
      refine XO.q (Q.add rfl rfl ⟨by omega, by omega⟩) ?_
      refine XO.q (Q.move rfl) ?_
      refine XO.done ?_
      exact ih2 (i + 1) _ _ (by omega) (by first | omega | (dsimp only; omega)) (.c rfl (.c rfl (.base 36 rfl rfl))) inferInstance
    · have _t4 := True.intro
      have hil : i = sts.length := by omega
      subst hil
      clear ih2
      refine XK.exit rfl ?_
      refine XK.seq ?_
      refine XK.region rfl ?_
      refine XO.q (Q.assign rfl) ?_
      refine XO.done ?_
      refine XK.seq ?_
      refine XK.seq ?_
      refine XK.region rfl ?_
      refine XO.q (Q.move rfl) ?_
      refine XO.q (Q.nilCheck rfl) ?_
      refine XO.q (Q.fieldAddr rfl) ?_
      refine XO.q (Q.ld rfl rfl) ?_
      refine XO.len rfl fun l90 => ?_
      refine XO.q (Q.move rfl) ?_
      refine XO.done ?_
      refine XK.block ?_
      refine XK.while (X := Nat × PHeap) [15, 16, 91, 92, 93, 94, 95, 96, 97, 98, 99, 100, 101, 102, 103, 104, 105, 106] (fun ⟨i, kc⟩ => [(15, some (.int .i64 ((takeTo s.cells (spareTo (canAt gens sts t) (gen0 gens sts t load).1 sts.length) (i)).2))), (91, some (.int .i64 (i : Nat)))]) (fun ⟨i, kc⟩ => [kc]) (fun ⟨i, kc⟩ => i ≤ s.cells.length ∧ OArr vc encCell 5 163 kc (takeTo s.cells (spareTo (canAt gens sts t) (gen0 gens sts t load).1 sts.length) (i)).1) (fun ⟨i, kc⟩ => s.cells.length - i) (0, hc) [hc] rfl ⟨by omega, ic⟩ (.c rfl (.c rfl (.base 0 rfl rfl))) ?_
      rintro ⟨i, kc⟩ ⟨hi, OT⟩ ih3
      dsimp only [List.cons_append, List.nil_append] at ih3 ⊢
      have tki := htk i (by omega)
      have tkl := tki.1.len
      refine XK.seq ?_
      refine XK.region rfl ?_
      refine XO.q (Q.lss rfl rfl) ?_
      refine XO.done ?_
      refine XK.seq ?_
      refine XK.if rfl (fun c5 => ?_) (fun c5 => ?_)
      · have _t5 := True.intro
        have tci := takeC_ok (tki.1.ok i (by omega)) (need := (spareTo (canAt gens sts t) (gen0 gens sts t load).1 sts.length) - (takeTo s.cells (spareTo (canAt gens sts t) (gen0 gens sts t load).1 sts.length) (i)).2) (by omega)
        refine XK.skip ?_
        refine XK.seq ?_
        refine XK.block ?_
        refine XK.seq ?_
        refine XK.region rfl ?_
        refine XO.q (Q.move rfl) ?_
        refine XO.q (Q.assign rfl) ?_
        refine XO.done ?_
        refine XK.region rfl ?_
        refine XO.q (Q.move rfl) ?_
        refine XO.q (Q.move rfl) ?_
        refine XO.q (Q.nilCheck rfl) ?_
        refine XO.q (Q.fieldAddr rfl) ?_
        refine XO.q (Q.ld rfl rfl) ?_
        refine XO.q (Q.move rfl) ?_
        refine XO.ix rfl rfl (by omega) (by omega) fun i100 => ?_
        refine XO.q (Q.move rfl) ?_
        refine XO.q (Q.move rfl) ?_
        refine XO.q (Q.sub rfl rfl ⟨by omega, by omega⟩) ?_
        refine XO.call Try.call102 rfl rfl rfl (take_spec vc kc (takeTo s.cells (spareTo (canAt gens sts t) (gen0 gens sts t load).1 sts.length) (i)).1 i (by omega) (tki.1.ok i (by omega)) ((spareTo (canAt gens sts t) (gen0 gens sts t load).1 sts.length) - (takeTo s.cells (spareTo (canAt gens sts t) (gen0 gens sts t load).1 sts.length) (i)).2) (by omega) (by omega)) fun v104 s104 R104 => ?_
        obtain ⟨k104, rfl, rfl, O104⟩ := R104
        dsimp only [List.cons_append, List.nil_append]
        refine XO.q (Q.add rfl rfl ⟨by omega, by omega⟩) ?_
        refine XO.q (Q.assign rfl) ?_
        refine XO.done ?_
        refine XK.inBlock ?_
        refine XK.region rfl ?_
        refine XO.q (Q.add rfl rfl ⟨by omega, by omega⟩) ?_
        refine XO.q (Q.move rfl) ?_
        refine XO.done ?_
        exact ih3 (i + 1, k104) _ _ ⟨by dsimp only; omega, by dsimp only; exact O104⟩ (by first | omega | (dsimp only; omega)) (.c rfl (.c rfl (.base 38 rfl rfl))) inferInstance
      · have _t5 := True.intro
        have hil : i = s.cells.length := by omega
        subst hil
        clear ih3
        refine XK.exit rfl ?_
        refine XK.region rfl ?_
        refine XO.q (Q.move rfl) ?_
        refine XO.q (Q.move rfl) ?_
        refine XO.q (Q.move rfl) ?_
        refine XO.q (Q.move rfl) ?_
        refine XO.call Try.call99 rfl rfl rfl (generate1 p vb vg vs vc vn s.served gens sts pk hg hs t ht0 ht load hn0 hn1 so v29 k34) fun v111 s111 R111 => ?_
        obtain ⟨k111, rfl, rfl, O111⟩ := R111
        dsimp only [List.cons_append, List.nil_append]
        refine XO.done ?_
        refine XK.seq ?_
        refine XK.seq ?_
        refine XK.region rfl ?_
        refine XO.q (Q.move rfl) ?_
        refine XO.len rfl fun l113 => ?_
        refine XO.q (Q.move rfl) ?_
        refine XO.done ?_
        refine XK.block ?_
        refine XK.while (X := Nat × PHeap) [17, 18, 114, 115, 116, 117, 118, 119, 120, 121, 122, 123, 124, 125, 126, 127, 128, 129] (fun ⟨i, kn⟩ => [(114, some (.int .i64 (i : Nat)))]) (fun ⟨i, kn⟩ => [kn]) (fun ⟨i, kn⟩ => i ≤ sts.length ∧ OArr vn encI 1 3 kn (addTo s.burnt (gen1 gens sts t load s).1 i)) (fun ⟨i, kn⟩ => sts.length - i) (0, hn) [hn] rfl ⟨by omega, jn⟩ (.c rfl (.base 0 rfl rfl)) ?_
        rintro ⟨i, kn⟩ ⟨hi, OB⟩ ih4
        dsimp only [List.cons_append, List.nil_append] at ih4 ⊢
        obtain ⟨al, aa⟩ := addTo_at (bs := s.burnt) (us := (gen1 gens sts t load s).1) i (by omega)
        refine XK.seq ?_
        refine XK.region rfl ?_
        refine XO.q (Q.lss rfl rfl) ?_
        refine XO.done ?_
        refine XK.seq ?_
        refine XK.if rfl (fun c6 => ?_) (fun c6 => ?_)
        · have _t6 := True.intro
          have ai := aa i
          rw [if_neg (by omega)] at ai
          have sb := so.b.b i (by omega)
          have ub := g1.b i (by omega)
          have cb := hca i (by omega)
          refine XK.skip ?_
          refine XK.seq ?_
          refine XK.block ?_
          refine XK.seq ?_
          refine XK.region rfl ?_
          refine XO.q (Q.move rfl) ?_
          refine XO.ix rfl rfl (by omega) (by omega) fun i117 => ?_
          refine XO.q (Q.ldE rfl (by first | assumption | omega) rfl) ?_
          refine XO.q (Q.assign rfl) ?_
          refine XO.q (Q.assign rfl) ?_
          refine XO.done ?_
          refine XK.region rfl ?_
          refine XO.q (Q.move rfl) ?_
          refine XO.q (Q.nilCheck rfl) ?_
          refine XO.q (Q.fieldAddr rfl) ?_
          refine XO.q (Q.ld rfl rfl) ?_
          refine XO.q (Q.move rfl) ?_
          refine XO.ix rfl rfl (by omega) (by omega) fun i124 => ?_
          refine XO.q (Q.ldE rfl (by first | assumption | omega) rfl) ?_
          refine XO.q (Q.move rfl) ?_
          refine XO.q (Q.add rfl rfl ⟨by omega, by omega⟩) ?_
          refine XO.ix rfl rfl (by omega) (by omega) fun i128 => ?_
          refine XO.stE _ rfl rfl rfl (by assumption) rfl rfl fun h29_10 O29_10 => ?_
          refine XO.done ?_
          refine XK.inBlock ?_
          refine XK.region rfl ?_
          refine XO.q (Q.add rfl rfl ⟨by omega, by omega⟩) ?_
          refine XO.q (Q.move rfl) ?_
          refine XO.done ?_
          exact ih4 (i + 1, h29_10) _ _ ⟨by dsimp only; omega, by dsimp only; exact O29_10⟩ (by first | omega | (dsimp only; omega)) (.c rfl (.base 37 rfl rfl)) inferInstance
        · have _t6 := True.intro
          refine XK.exit rfl ?_
          refine XK.seq ?_
          refine XK.region rfl ?_
          refine XO.q (Q.move rfl) ?_
          refine XO.q (Q.nilCheck rfl) ?_
          refine XO.q (Q.fieldAddr rfl) ?_
          refine XO.q (Q.ld rfl rfl) ?_
          refine XO.q (Q.move rfl) ?_
          refine XO.q (Q.move rfl) ?_
          refine XO.q (Q.sub rfl rfl ⟨by omega, by omega⟩) ?_
          refine XO.q (Q.add rfl rfl ⟨by omega, by omega⟩) ?_
          refine XO.q (Q.nilCheck rfl) ?_
          refine XO.q (Q.fieldAddr rfl) ?_
          refine XO.st rfl rfl rfl ?_
          refine XO.done ?_
          refine XK.seq ?_
          refine XK.region rfl ?_
          refine XO.q (Q.move rfl) ?_
          refine XO.q (Q.assign rfl) ?_
          refine XO.done ?_
          refine XK.rt [blk p [vb, vg, vs, vc, vn, .int .i64 (s.served + (load - (gen0 gens sts t load).2))] 153, kc, kn] Try.func87 Try.results87 (.t rfl .n) ?_
          have hil : i = sts.length := by omega
          subst hil
          have e : secondP gens sts t load strict s = ((gen0 gens sts t load).2, ⟨(take0 gens sts t load s).1, addTo s.burnt (gen1 gens sts t load s).1 sts.length, s.served + (load - (gen0 gens sts t load).2)⟩) := by
            unfold secondP
            rw [if_neg c0]
          rw [e]
          exact ⟨vc, kc, kn, rfl, rfl, OT, OB⟩
end Go.X
