/- A part of the proof: a small program logic, plain laws and contracts of functions, each proved by a walk through its operations. No condition but those that stand in each theorem. -/
import Derived.Test.YtfenlpoaphbfgaaA4
set_option linter.unusedSimpArgs false
set_option linter.unusedVariables false
set_option maxRecDepth 20000
namespace Go.X.Ht
open Go.Proofs
theorem iter_ok2 {h : Hall} (ok : HOk h) {c : Nat → HCase} {t : List Int} (tk : TOk h t) {n : Nat} (ck : ∀ i, i < n → COk h (c i)) : ∀ i, i ≤ n → TOk h (iterT h c t i)
  | 0, _ => tk
  | i + 1, hi => next_ok ok (iter_ok2 ok tk ck i (by omega)) (ck i (by omega))
/-- What seconds yields: the temperatures after each second. -/
def SecY (h : Hall) (c : Nat → HCase) (t : List Int) (i : Nat) (K : PHeap) (vs : List Value) : Prop := ∃ sl, vs = [.int .i64 ((i : Int) + 1), sl] ∧ Arr sl encI 1 K (iterT h c t (i + 1))
theorem seconds1 (h : Hall) (vr vw vb vc : Value) (hr hw hb hc : PHeap) [ir : Arr vr encRoom 2 hr h.rooms] [iw : Arr vw encWall 3 hw h.walls] [ib : Arr vb encBranch 3 hb h.branches] [ic : Arr vc encCooler 5 hc h.coolers] (ok : HOk h) (c : Nat → HCase) (n : Nat) (hn : n ≤ 20000) (t : List Int) (vt : Value) (ht : PHeap) [it : Arr vt encI 1 ht t] (tk : TOk h t) (ck : ∀ i, i < n → COk h (c i)) (vl : Nat → Value) (hL : PHeap) (aL : ∀ i, i < n → Arr (vl i) encI 1 hL (c i).load) (y : Value) [iy : One y] (hy hz : PHeap) (of : OfC y n c vl [hy, hz]) (bn bh bt bo : Nat) (f : Value) (Hr : List PHeap) (Qc : Nat → PHeap → PHeap → Prop) (Xc : PHeap → PHeap → Prop)
    (mono : ∀ i K K' q, leH K K' → Qc i K q → Qc i K' q)
    (round : ∀ i, i < n → ∀ K vs q, SecY h c t i K vs → Qc i K q → VSpec Try.prog f vs [q] (K :: Hr) (fun v hs => ∃ b q', v = .bool b ∧ hs = [q'] ∧ (b = true → Qc (i + 1) K q') ∧ (b = false → Xc K q')))
    (q : PHeap) (hQ : Qc 0 emp q) : Spec Try.prog 93 #[f, ptr bn 0, ptr bh 0, ptr bt 0, ptr bo 0] (q :: [blk bn [.int .i64 (n : Nat)] 3, blk bh [vr, vw, vb, vc] 76, blk bt [vt] 22, blk bo [y] 145]) ([hr, hw, hb, hc, ht, hy, hz, hL] ++ Hr) (fun _ hs => ∃ q' K, hs = [q', K] ∧ (Qc n K q' ∨ Xc K q')) := by
  refine Spec.intro (fn := Try.f93) (N := 24) Try.func93 rfl Try.ntmps93 rfl fun B => ?_
  dsimp only [List.cons_append, List.nil_append]
  refine XK.seq ?_
  refine XK.region rfl ?_
  refine XO.q (Q.ld rfl rfl) ?_
  refine XO.q (Q.move rfl) ?_
  refine XO.done ?_
  refine XK.block ?_
  refine XK.while (X := Nat × Value × PHeap × PHeap × PHeap) [6, 8, 9, 10, 11, 12, 13, 14, 15, 16, 17, 18, 19, 20, 21, 22, 23] (fun ⟨i, v, kt, K, q1⟩ => [(8, some (.int .i64 (i : Nat)))]) (fun ⟨i, v, kt, K, q1⟩ => [q1, blk bn [.int .i64 (n : Nat)] 3, blk bh [vr, vw, vb, vc] 76, blk bt [v] 22, blk bo [y] 145, K]) (fun ⟨i, v, kt, K, q1⟩ => i ≤ n ∧ Arr v encI 1 kt (iterT h c t i) ∧ Either kt ht K ∧ Qc i K q1) (fun ⟨i, v, kt, K, q1⟩ => n - i) (0, vt, ht, emp, q) [q, blk bn [.int .i64 (n : Nat)] 3, blk bh [vr, vw, vb, vc] 76, blk bt [vt] 22, blk bo [y] 145, emp] rfl ⟨by omega, it, ⟨.inl rfl⟩, hQ⟩ (.c rfl (.base 0 rfl rfl)) ?_
  rintro ⟨i, v, kt, K, q1⟩ ⟨hi, aT, eT, hq⟩ ih0
  dsimp only [List.cons_append, List.nil_append] at ih0 ⊢
  refine XK.seq ?_
  refine XK.region rfl ?_
  refine XO.q (Q.lss rfl rfl) ?_
  refine XO.done ?_
  refine XK.seq ?_
  refine XK.if rfl (fun c0 => ?_) (fun c0 => ?_)
  · have _t0 := True.intro
    refine XK.skip ?_
    refine XK.seq ?_
    refine XK.block ?_
    refine XK.seq ?_
    refine XK.region rfl ?_
    refine XO.q (Q.move rfl) ?_
    refine XO.q (Q.assign rfl) ?_
    refine XO.done ?_
    refine XK.seq ?_
    refine XK.drawn [0, 1, 2, 3] [bh, bt, bo] [] (.q 0 (.q 1 (.q 2 (.q 3 (.br 4 true (.br 5 true (.br 6 false .done .stop) .stop) .stop))))) Try.mixed rfl (by kernel_rfl) ?_
    refine XT.q rfl rfl (Q.ldA [_, _, _, _] rfl rfl rfl) ?_
    refine XT.q rfl rfl (Q.ld rfl rfl) ?_
    refine XT.q rfl rfl (Q.ld rfl rfl) ?_
    refine XT.q rfl rfl (Q.move rfl) ?_
    haveI aLi := aL i (by omega)
    refine XT.vcall rfl rfl rfl rfl (of i (by omega)) (fun v15 s15 R15 => ?_) XT.stop
    obtain ⟨rfl, rfl⟩ := R15
    dsimp only [List.cons_append, List.nil_append]
    refine ⟨inferInstance, ?_⟩
    refine XT.call rfl rfl Try.call62 rfl rfl rfl (next_spec7 h vr vw vb vc hr hw hb hc ok (iterT h c t i) v kt (iter_ok2 ok tk ck i (by omega)) (c i) (ck i (by omega)) (vl i) hL) (fun v16 s16 R16 => ?_) XT.stop
    obtain ⟨k16, rfl, O16⟩ := R16
    dsimp only [List.cons_append, List.nil_append]
    refine ⟨inferInstance, ?_⟩
    refine XT.st rfl rfl rfl rfl rfl ⟨inferInstance, ?_⟩ XT.stop
    refine XT.done ?_
    refine XK.seq ?_
    refine XK.region rfl ?_
    refine XO.cat K k16 fun leK le16 => ?_
    have A16 : Arr v16 encI 1 (cat K k16) (iterT h c t (i + 1)) := Arr.le_heap (OArr.arr (s := O16)) le16
    clear O16
    refine XO.q (Q.move rfl) ?_
    refine XO.q (Q.move rfl) ?_
    refine XO.q (Q.add rfl rfl ⟨by omega, by omega⟩) ?_
    refine XO.q (Q.ld rfl rfl) ?_
    refine XO.vcall rfl rfl (round i (by omega) (cat K k16) _ q1 ⟨v16, rfl, A16⟩ (mono i K (cat K k16) q1 leK hq)) fun v21 s21 R21 => ?_
    obtain ⟨bb, q2, rfl, rfl, hT, hF⟩ := R21
    dsimp only [List.cons_append, List.nil_append]
    refine XO.q (Q.not rfl) ?_
    refine XO.done ?_
    refine XK.if rfl (fun c1 => ?_) (fun c1 => ?_)
    · have _t1 := True.intro
      refine XK.rt [q2, cat K k16] Try.func93 Try.results93 (.n) ?_
      exact ⟨q2, cat K k16, rfl, .inr (hF (by simpa using c1))⟩
    · have _t1 := True.intro
      refine XK.skip ?_
      refine XK.inBlock ?_
      refine XK.region rfl ?_
      refine XO.q (Q.add rfl rfl ⟨by omega, by omega⟩) ?_
      refine XO.q (Q.move rfl) ?_
      refine XO.done ?_
      exact ih0 (i + 1, v16, cat K k16, cat K k16, q2) _ _ ⟨by dsimp only; omega, A16, ⟨.inr rfl⟩, hT (by simpa using c1)⟩ (by first | omega | (dsimp only; omega)) (.c rfl (.base 35 rfl rfl)) inferInstance
  · have _t0 := True.intro
    refine XK.exit rfl ?_
    refine XK.fn [q1, K] Try.func93 Try.results93 (.n) ?_
    have hin : i = n := by omega
    subst hin
    exact ⟨q1, K, rfl, .inl hq⟩
theorem seconds_spec (h : Hall) (vr vw vb vc : Value) (hr hw hb hc : PHeap) [ir : Arr vr encRoom 2 hr h.rooms] [iw : Arr vw encWall 3 hw h.walls] [ib : Arr vb encBranch 3 hb h.branches] [ic : Arr vc encCooler 5 hc h.coolers] (ok : HOk h) (c : Nat → HCase) (n : Nat) (hn : n ≤ 20000) (t : List Int) (vt : Value) (ht : PHeap) [it : Arr vt encI 1 ht t] (tk : TOk h t) (ck : ∀ i, i < n → COk h (c i)) (vl : Nat → Value) (hL : PHeap) (aL : ∀ i, i < n → Arr (vl i) encI 1 hL (c i).load) (y : Value) [iy : One y] (hy hz : PHeap) (of : OfC y n c vl [hy, hz]) : Spec Try.prog 79 #[.agg #[vr, vw, vb, vc], vt, .int .i64 (n : Nat), y] [] [] (fun v hs => ∃ k1 k2 k3 k4, hs = [k1, k2, k3, k4] ∧ ItK Try.prog v n (SecY h c t) [k1, k2, k3, k4] [hr, hw, hb, hc, ht, hy, hz, hL]) := by
  refine Spec.intro (fn := Try.f79) (N := 10) Try.func79 rfl Try.ntmps79 rfl fun B => ?_
  refine XK.seq ?_
  refine XK.region rfl ?_
  refine XO.box rfl fun b4 => ?_
  refine XO.box rfl fun b5 => ?_
  refine XO.box rfl fun b6 => ?_
  refine XO.box rfl fun b7 => ?_
  refine XO.q (Q.assign rfl) ?_
  refine XO.done ?_
  refine XK.seq ?_
  refine XK.region rfl ?_
  refine XO.q (Q.func (fun _ he => rfl) (fun _ he => evs_rel he rfl)) ?_
  refine XO.q (Q.assign rfl) ?_
  refine XO.done ?_
  refine XK.rt [blk b6 [.int .i64 (n : Nat)] 3, blk b4 [vr, vw, vb, vc] 76, blk b5 [vt] 22, blk b7 [y] 145] Try.func79 Try.results79 (.t rfl .n) ?_
  exact ⟨_, _, _, _, rfl, fun f Hr Q X mono round q hQ => VSpec.fn (fst := []) (cap := [ptr b6 0, ptr b4 0, ptr b5 0, ptr b7 0]) Try.call93 rfl (seconds1 h vr vw vb vc hr hw hb hc ok c n hn t vt ht tk ck vl hL aL y hy hz of b6 b4 b5 b7 f Hr Q X mono round q hQ)⟩
end Go.X.Ht

set_option linter.unusedSimpArgs false
set_option linter.unusedVariables false
set_option maxRecDepth 20000
namespace Go.X.Ht
open Go.Proofs
/-- A slice that lies in one of two heaps. -/
def ArrE (v : Value) (xs : List Int) (a b : PHeap) : Prop := Arr v encI 1 a xs ∨ Arr v encI 1 b xs
theorem ArrE.open {v : Value} {xs : List Int} {a b : PHeap} (h : ArrE v xs a b) : ∃ k, Arr v encI 1 k xs ∧ Either k a b := h.elim (fun h => ⟨a, h, ⟨.inl rfl⟩⟩) (fun h => ⟨b, h, ⟨.inr rfl⟩⟩)
theorem ArrE.mono {v : Value} {xs : List Int} {a b b' : PHeap} (hl : leH b b') (h : ArrE v xs a b) : ArrE v xs a b' := orMap h id (fun h => Arr.le_heap h hl)
theorem inP_le {n m : Int} (h : inP n m = true) : 0 ≤ n ∧ n ≤ m := by unfold inP at h; simpa using h
end Go.X.Ht

set_option linter.unusedSimpArgs false
set_option linter.unusedVariables false
set_option maxRecDepth 20000
namespace Go.X.Ht
open Go.Proofs
end Go.X.Ht

set_option linter.unusedSimpArgs false
set_option linter.unusedVariables false
set_option maxRecDepth 20000
namespace Go.X.Ht
open Go.Proofs
/-- Slices in one heap, a row each. -/
def Rows (us : List Value) (K : PHeap) (rows : List (List Int)) : Prop := us.length = rows.length ∧ ∀ i, i < us.length → Arr (us.getD i default) encI 1 K (rows.getD i default)
def RowsTo (us : List Value) (K : PHeap) (h : Hall) (c : Nat → HCase) (t : List Int) (n : Nat) : Prop := us.length = n ∧ ∀ i, i < n → Arr (us.getD i default) encI 1 K (iterT h c t (i + 1))
theorem RowsTo.rows {us : List Value} {K : PHeap} {h : Hall} {c : Nat → HCase} {t : List Int} {n : Nat} (r : RowsTo us K h c t n) : Rows us K (rowsL h c t n) := ⟨r.1.trans (rows_len ..).symm, fun i hi => by
  rw [rows_at (by have := r.1; omega)]
  exact r.2 i (by have := r.1; omega)⟩
theorem RowsTo.mono {us : List Value} {K K' : PHeap} {h : Hall} {c : Nat → HCase} {t : List Int} {n : Nat} (hl : leH K K') (r : RowsTo us K h c t n) : RowsTo us K' h c t n := ⟨r.1, fun i hi => Arr.le_heap (r.2 i hi) hl⟩
theorem getD_snoc {α : Type} [Inhabited α] (l : List α) (x : α) (i : Nat) : (l ++ [x]).getD i default = if i < l.length then l.getD i default else if i = l.length then x else default := by
  rw [List.getD_eq_getElem?_getD, List.getElem?_append]
  split
  · rw [List.getD_eq_getElem?_getD]
  · split
    · rename_i h1 h2; subst h2; simp
    · rename_i h1 h2
      rw [List.getElem?_eq_none (by simp; omega)]; rfl
theorem RowsTo.snoc {us : List Value} {K : PHeap} {h : Hall} {c : Nat → HCase} {t : List Int} {n : Nat} {u : Value} (r : RowsTo us K h c t n) (a : Arr u encI 1 K (iterT h c t (n + 1))) : RowsTo (us ++ [u]) K h c t (n + 1) := ⟨by rw [List.length_append, r.1]; rfl, fun i hi => by
  rw [getD_snoc]
  have := r.1
  by_cases hc : i < us.length
  · rw [if_pos hc]; exact r.2 i (by omega)
  · rw [if_neg hc, if_pos (by omega), show i = n by omega]; exact a⟩
theorem RowsTo.nil {K : PHeap} {h : Hall} {c : Nat → HCase} {t : List Int} : RowsTo [] K h c t 0 := ⟨rfl, fun i hi => by omega⟩
end Go.X.Ht

set_option linter.unusedSimpArgs false
set_option linter.unusedVariables false
set_option maxRecDepth 20000
namespace Go.X.Ht
open Go.Proofs
theorem Bounds_spec (h : Hall) (vr vw vb vc : Value) (hr hw hb hc : PHeap) [ir : Arr vr encRoom 2 hr h.rooms] [iw : Arr vw encWall 3 hw h.walls] [ib : Arr vb encBranch 3 hb h.branches] [ic : Arr vc encCooler 5 hc h.coolers] (a d : HCase) (va vd : Value) (ha hd : PHeap) [ia : Arr va encI 1 ha a.load] [id : Arr vd encI 1 hd d.load] (lo hi : List Int) (vlo vhi : Value) (hlo hhi : PHeap) [ilo : Arr vlo encI 1 hlo lo] [ihi : Arr vhi encI 1 hhi hi] (m : Int) : Spec Try.prog 58 #[.agg #[vr, vw, vb, vc], vlo, vhi, .agg #[va, .int .i64 a.out, .int .i64 a.pump, vd, .int .i64 d.out, .int .i64 d.pump], .int .i64 m] [] [hr, hw, hb, hc, ha, hd, hlo, hhi]
    (fun v hs => ∃ v1 v2 k1 k2 K1 K2 us ws, v = .tuple #[v1, v2, .int .i64 (boundsG h lo hi a d m).2.2] ∧ hs = [k1, k2, K1, K2] ∧ OArr v1 encV 1 22 k1 us ∧ OArr v2 encV 1 22 k2 ws ∧ Rows us K1 (boundsG h lo hi a d m).1 ∧ Rows ws K2 (boundsG h lo hi a d m).2.1) := by
  have hnil : OArr (.slice none 0 0) encV 1 22 emp ([] : List Value) := OArr.nil (fun _ => rfl)
  refine Spec.intro (fn := Try.f58) (N := 59) Try.func58 rfl Try.ntmps58 rfl fun B => ?_
  refine XK.seq ?_
  refine XK.region rfl ?_
  refine XO.box rfl fun b5 => ?_
  refine XO.box rfl fun b8 => ?_
  refine XO.q (Q.assign rfl) ?_
  refine XO.q (Q.assign rfl) ?_
  refine XO.q (Q.assign rfl) ?_
  refine XO.done ?_
  refine XK.seq ?_
  refine XK.seq ?_
  refine XK.region rfl ?_
  refine XO.q (Q.ldA [_, _, _, _] rfl rfl rfl) ?_
  refine XO.q (Q.move rfl) ?_
  refine XO.q (Q.move rfl) ?_
  refine XO.q (Q.ldA [_, _, _, _, _, _] rfl rfl rfl) ?_
  refine XO.call Try.call60 rfl rfl rfl (boxed_spec h vr vw vb vc hr hw hb hc a d va vd ha hd lo hi vlo vhi hlo hhi) fun v24 s24 R24 => ?_
  obtain ⟨rfl, rfl⟩ := R24
  dsimp only [List.cons_append, List.nil_append]
  refine XO.q (Q.assign rfl) ?_
  refine XO.done ?_
  refine XK.seq ?_
  refine XK.region rfl ?_
  refine XO.q (Q.move rfl) ?_
  refine XO.q (Q.neq rfl rfl) ?_
  refine XO.done ?_
  refine XK.if rfl (fun c0 => ?_) (fun c0 => ?_)
  · have _t0 := True.intro
    refine XK.seq ?_
    refine XK.region rfl ?_
    refine XO.q (Q.move rfl) ?_
    refine XO.q (Q.assign rfl) ?_
    refine XO.q (Q.assign rfl) ?_
    refine XO.q (Q.assign rfl) ?_
    refine XO.done ?_
    refine XK.rt [emp, emp, emp, emp] Try.func58 Try.results58 (.t rfl (.t rfl (.t rfl .n))) ?_
    have hw0 : boundsG h lo hi a d m = ([], [], boxedG h lo hi a d) := by rw [boundsG, if_pos c0]
    rw [hw0]
    exact ⟨.slice none 0 0, .slice none 0 0, emp, emp, emp, emp, [], [], rfl, rfl, OArr.nil (fun _ => rfl), OArr.nil (fun _ => rfl), ⟨rfl, fun i hi => absurd hi (Nat.not_lt_zero i)⟩, rfl, fun i hi => absurd hi (Nat.not_lt_zero i)⟩
  · have _t0 := True.intro
    obtain ⟨ok0, oka, okd, oklo, okhi, _, _⟩ := boxed_ok (Decidable.of_not_not c0)
    refine XK.skip ?_
    refine XK.seq ?_
    refine XK.seq ?_
    refine XK.region rfl ?_
    refine XO.q (Q.move rfl) ?_
    refine XO.call Try.call78 rfl rfl rfl (in_spec _ _) fun v29 s29 R29 => ?_
    obtain ⟨rfl, rfl⟩ := R29
    dsimp only [List.cons_append, List.nil_append]
    refine XO.q (Q.not rfl) ?_
    refine XO.done ?_
    refine XK.if rfl (fun c1 => ?_) (fun c1 => ?_)
    · have _t1 := True.intro
      refine XK.seq ?_
      refine XK.region rfl ?_
      refine XO.q (Q.assign rfl) ?_
      refine XO.q (Q.assign rfl) ?_
      refine XO.q (Q.assign rfl) ?_
      refine XO.done ?_
      refine XK.rt [emp, emp, emp, emp] Try.func58 Try.results58 (.t rfl (.t rfl (.t rfl .n))) ?_
      have hw0 : boundsG h lo hi a d m = ([], [], 2) := by rw [boundsG, if_neg c0, if_pos c1]
      rw [hw0]
      exact ⟨.slice none 0 0, .slice none 0 0, emp, emp, emp, emp, [], [], rfl, rfl, OArr.nil (fun _ => rfl), OArr.nil (fun _ => rfl), ⟨rfl, fun i hi => absurd hi (Nat.not_lt_zero i)⟩, rfl, fun i hi => absurd hi (Nat.not_lt_zero i)⟩
    · have _t1 := True.intro
      obtain ⟨hm0, hm1⟩ := inP_le (Decidable.of_not_not c1)
      obtain ⟨N, eN⟩ : ∃ N : Nat, m = N := ⟨m.toNat, by omega⟩
      subst eN
      refine XK.skip ?_
      refine XK.seq ?_
      refine XK.region rfl ?_
      refine XO.alloc fun b14 => ?_
      refine XO.alloc fun b15 => ?_
      refine XO.done ?_
      refine XK.seq ?_
      refine XK.seq ?_
      refine XK.drawn [0, 1, 2, 3, 4] [b5, b8] [] (.q 0 (.q 1 (.q 2 (.q 3 (.q 4 (.br 5 true (.br 6 true .done .stop) .stop)))))) Try.mixed rfl (by kernel_rfl) ?_
      refine XT.q rfl rfl (Q.ldA [_, _, _, _] rfl rfl rfl) ?_
      refine XT.q rfl rfl (Q.move rfl) ?_
      refine XT.q rfl rfl (Q.move rfl) ?_
      refine XT.q rfl rfl (Q.fieldAddr rfl) ?_
      refine XT.q rfl rfl (Q.ldA [_, _, _] rfl rfl rfl) ?_
      refine XT.call rfl rfl Try.call80 rfl rfl rfl (always_spec a va) (fun v36 s36 R36 => ?_) XT.stop
      obtain ⟨bC36, rfl, oneF36, ofC36⟩ := R36
      dsimp only [List.cons_append, List.nil_append]
      refine ⟨inferInstance, ?_⟩
      refine XT.call rfl rfl Try.call79 rfl rfl rfl (seconds_spec h vr vw vb vc hr hw hb hc (hcheck_ok ok0) (fun _ => a) N (by omega) lo vlo hlo oklo (fun _ _ => oka) (fun _ => va) ha (fun _ _ => inferInstance) v36 (blk bC36 [va, .int .i64 a.out, .int .i64 a.pump] 80) (blk bC36 [va, .int .i64 a.out, .int .i64 a.pump] 80) (ofC36 N).two) (fun v37 s37 R37 => ?_) XT.stop
      obtain ⟨k371, k372, k373, k374, rfl, hit37⟩ := R37
      dsimp only [List.cons_append, List.nil_append]
      refine ⟨inferInstance, ?_⟩
      refine XT.done ?_
      refine XK.block ?_
      refine XK.rangeK (X := Value × PHeap × List Value) (ps := [38, 39]) (fun ⟨vo, ko, us⟩ => [blk b14 [vo] 123, ko]) (fun i ⟨vo, ko, us⟩ K0 => OArr vo encV 1 22 ko us ∧ RowsTo us K0 h (fun _ => a) lo i) (fun j0 ⟨vo, ko, us⟩ K0 => False) (.slice none 0 0, emp, []) [blk b14 [.slice none 0 0] 123, emp] rfl (hit37) rfl (fun i x K K' hle hI => ⟨hI.1, hI.2.mono hle⟩) (⟨hnil, RowsTo.nil⟩) rfl (fun i K vs hY => by obtain ⟨sl, rfl, _⟩ := hY; rfl) ?_ ?_ (fun _ _ _ hJ => hJ.elim)
      · rintro lq rec B' i ⟨vo, ko, us⟩ K0 vs hi ⟨v39, rfl, av39⟩ ⟨OO0, rT0⟩
        dsimp only [List.cons_append, List.nil_append]
        have hul := rT0.1
        refine XK.region rfl ?_
        refine XO.q (Q.assign rfl) ?_
        refine XO.done ?_
        refine XK.beginRound ?_
        refine XK.block ?_
        refine XK.region rfl ?_
        refine XO.q (Q.ld rfl rfl) ?_
        refine XO.q (Q.move rfl) ?_
        refine XO.lit [_] [_] [v39] encV (by rfl) (by rfl) rfl (by rfl) (by exact .c 0 1 rfl rfl rfl (.n _)) (fun _ => rfl) (by rfl) rfl (by infer_instance) rfl fun v42 h42 O42 => ?_
        refine XO.append rfl rfl rfl rfl (by simp only [List.length_cons, List.length_nil]; omega) fun v43 h43 O43 => ?_
        refine XO.st rfl rfl rfl ?_
        refine XO.done ?_
        refine XK.inBlock ?_
        exact XK.leave (j := none) [blk b14 [v43] 123, h43] trivial ⟨(v43, h43, us ++ [v39]), ⟨O43, rT0.snoc av39⟩, rfl⟩
      · rintro ⟨vo, ko, us⟩ K0 ⟨OO0, rT0⟩
        dsimp only [List.cons_append, List.nil_append]
        refine XK.inBlock ?_
        refine XK.seq ?_
        refine XK.seq ?_
        refine XK.drawn [0, 1, 2, 3, 4] [b5, b8] [] (.q 0 (.q 1 (.q 2 (.q 3 (.q 4 (.br 5 true (.br 6 true .done .stop) .stop)))))) Try.mixed rfl (by kernel_rfl) ?_
        refine XT.q rfl rfl (Q.ldA [_, _, _, _] rfl rfl rfl) ?_
        refine XT.q rfl rfl (Q.move rfl) ?_
        refine XT.q rfl rfl (Q.move rfl) ?_
        refine XT.q rfl rfl (Q.fieldAddr rfl) ?_
        refine XT.q rfl rfl (Q.ldA [_, _, _] rfl rfl rfl) ?_
        refine XT.call rfl rfl Try.call80 rfl rfl rfl (always_spec d vd) (fun v49 s49 R49 => ?_) XT.stop
        obtain ⟨bC49, rfl, oneF49, ofC49⟩ := R49
        dsimp only [List.cons_append, List.nil_append]
        refine ⟨inferInstance, ?_⟩
        refine XT.call rfl rfl Try.call79 rfl rfl rfl (seconds_spec h vr vw vb vc hr hw hb hc (hcheck_ok ok0) (fun _ => d) N (by omega) hi vhi hhi okhi (fun _ _ => okd) (fun _ => vd) hd (fun _ _ => inferInstance) v49 (blk bC49 [vd, .int .i64 d.out, .int .i64 d.pump] 80) (blk bC49 [vd, .int .i64 d.out, .int .i64 d.pump] 80) (ofC49 N).two) (fun v50 s50 R50 => ?_) XT.stop
        obtain ⟨k501, k502, k503, k504, rfl, hit50⟩ := R50
        dsimp only [List.cons_append, List.nil_append]
        refine ⟨inferInstance, ?_⟩
        refine XT.done ?_
        refine XK.block ?_
        refine XK.rangeK (X := Value × PHeap × List Value) (ps := [51, 52]) (fun ⟨wo, jo, ws⟩ => [blk b15 [wo] 123, jo]) (fun i ⟨wo, jo, ws⟩ K1 => OArr wo encV 1 22 jo ws ∧ RowsTo ws K1 h (fun _ => d) hi i) (fun j1 ⟨wo, jo, ws⟩ K1 => False) (.slice none 0 0, emp, []) [blk b15 [.slice none 0 0] 123, emp] rfl (hit50) rfl (fun i x K K' hle hI => ⟨hI.1, hI.2.mono hle⟩) (⟨hnil, RowsTo.nil⟩) rfl (fun i K vs hY => by obtain ⟨sl, rfl, _⟩ := hY; rfl) ?_ ?_ (fun _ _ _ hJ => hJ.elim)
        · rintro lq rec B' i ⟨wo, jo, ws⟩ K1 vs hi ⟨v52, rfl, av52⟩ ⟨OO1, rT1⟩
          dsimp only [List.cons_append, List.nil_append]
          have hul := rT1.1
          refine XK.region rfl ?_
          refine XO.q (Q.assign rfl) ?_
          refine XO.done ?_
          refine XK.beginRound ?_
          refine XK.block ?_
          refine XK.region rfl ?_
          refine XO.q (Q.ld rfl rfl) ?_
          refine XO.q (Q.move rfl) ?_
          refine XO.lit [_] [_] [v52] encV (by rfl) (by rfl) rfl (by rfl) (by exact .c 0 1 rfl rfl rfl (.n _)) (fun _ => rfl) (by rfl) rfl (by infer_instance) rfl fun v55 h55 O55 => ?_
          refine XO.append rfl rfl rfl rfl (by simp only [List.length_cons, List.length_nil]; omega) fun v56 h56 O56 => ?_
          refine XO.st rfl rfl rfl ?_
          refine XO.done ?_
          refine XK.inBlock ?_
          exact XK.leave (j := none) [blk b15 [v56] 123, h56] trivial ⟨(v56, h56, ws ++ [v52]), ⟨O56, rT1.snoc av52⟩, rfl⟩
        · rintro ⟨wo, jo, ws⟩ K1 ⟨OO1, rT1⟩
          dsimp only [List.cons_append, List.nil_append]
          refine XK.inBlock ?_
          refine XK.seq ?_
          refine XK.drawn [0, 1, 2, 3, 4] [b14, b15] [] (.q 0 (.q 1 (.q 2 (.q 3 (.q 4 .done))))) Try.mixed rfl (by kernel_rfl) ?_
          refine XT.q rfl rfl (Q.ld rfl rfl) ?_
          refine XT.q rfl rfl (Q.ld rfl rfl) ?_
          refine XT.q rfl rfl (Q.assign rfl) ?_
          refine XT.q rfl rfl (Q.assign rfl) ?_
          refine XT.q rfl rfl (Q.assign rfl) ?_
          refine XT.done ?_
          refine XK.rt [ko, jo, K0, K1] Try.func58 Try.results58 (.t rfl (.t rfl (.t rfl .n))) ?_
          have hw0 : boundsG h lo hi a d N = (rowsL h (fun _ => a) lo N, rowsL h (fun _ => d) hi N, 0) := by rw [boundsG, if_neg c0, if_neg c1, Int.toNat_natCast]
          rw [hw0]
          exact ⟨vo, wo, ko, jo, K0, K1, us, ws, rfl, rfl, OO0, OO1, rT0.rows, rT1.rows⟩
theorem mul64_one (n : Nat) (h : n ≤ 4294967295) : Spec Try.prog 102 #[.int .u64 1, .int .u64 (n : Nat)] [] [] (fun v hs => v = .tuple #[.int .u64 0, .int .u64 (n : Nat)] ∧ hs = []) := by
  have h1 : (1 : Int) % 4294967296 = 1 := by decide
  have h2 : (1 : Int) / 4294967296 = 0 := by decide
  have h3 : (n : Int) % 4294967296 = n := by omega
  have h4 : (n : Int) / 4294967296 = 0 := by omega
  have h5 : (0 : Int) % 4294967296 = 0 := by decide
  have h6 : (0 : Int) / 4294967296 = 0 := by decide
  refine Spec.intro (fn := Try.f102) (N := 51) Try.func102 rfl Try.ntmps102 rfl fun B => ?_
  refine XK.seq ?_
  refine XK.region rfl ?_
  refine XO.q (Q.assign rfl) ?_
  refine XO.q (Q.assign rfl) ?_
  refine XO.done ?_
  refine XK.seq ?_
  refine XK.region rfl ?_
  refine XO.q (Q.move rfl) ?_
  refine XO.q (Q.mask32 rfl rfl (by omega)) ?_
  rw [h1]
  refine XO.q (Q.assign rfl) ?_
  refine XO.done ?_
  refine XK.seq ?_
  refine XK.region rfl ?_
  refine XO.q (Q.move rfl) ?_
  refine XO.q (Q.shr32 rfl rfl) ?_
  rw [h2]
  refine XO.q (Q.assign rfl) ?_
  refine XO.done ?_
  refine XK.seq ?_
  refine XK.region rfl ?_
  refine XO.q (Q.move rfl) ?_
  refine XO.q (Q.mask32 rfl rfl (by omega)) ?_
  rw [h3]
  refine XO.q (Q.assign rfl) ?_
  refine XO.done ?_
  refine XK.seq ?_
  refine XK.region rfl ?_
  refine XO.q (Q.move rfl) ?_
  refine XO.q (Q.shr32 rfl rfl) ?_
  rw [h4]
  refine XO.q (Q.assign rfl) ?_
  refine XO.done ?_
  refine XK.seq ?_
  refine XK.region rfl ?_
  refine XO.q (Q.move rfl) ?_
  refine XO.q (Q.move rfl) ?_
  refine XO.q (Q.mulU rfl rfl (by omega)) ?_
  rw [Int.one_mul]
  refine XO.q (Q.assign rfl) ?_
  refine XO.done ?_
  refine XK.seq ?_
  refine XK.region rfl ?_
  refine XO.q (Q.move rfl) ?_
  refine XO.q (Q.move rfl) ?_
  refine XO.q (Q.mulU rfl rfl (by omega)) ?_
  rw [Int.zero_mul]
  refine XO.q (Q.move rfl) ?_
  refine XO.q (Q.shr32 rfl rfl) ?_
  rw [h4]
  refine XO.q (Q.addU rfl rfl (by omega)) ?_
  rw [Int.add_zero]
  refine XO.q (Q.assign rfl) ?_
  refine XO.done ?_
  refine XK.seq ?_
  refine XK.region rfl ?_
  refine XO.q (Q.move rfl) ?_
  refine XO.q (Q.mask32 rfl rfl (by omega)) ?_
  rw [h5]
  refine XO.q (Q.assign rfl) ?_
  refine XO.done ?_
  refine XK.seq ?_
  refine XK.region rfl ?_
  refine XO.q (Q.move rfl) ?_
  refine XO.q (Q.shr32 rfl rfl) ?_
  rw [h6]
  refine XO.q (Q.assign rfl) ?_
  refine XO.done ?_
  refine XK.seq ?_
  refine XK.region rfl ?_
  refine XO.q (Q.move rfl) ?_
  refine XO.q (Q.move rfl) ?_
  refine XO.q (Q.move rfl) ?_
  refine XO.q (Q.mulU rfl rfl (by omega)) ?_
  rw [Int.mul_zero]
  refine XO.q (Q.addU rfl rfl (by omega)) ?_
  rw [Int.add_zero]
  refine XO.q (Q.assign rfl) ?_
  refine XO.done ?_
  refine XK.seq ?_
  refine XK.region rfl ?_
  refine XO.q (Q.move rfl) ?_
  refine XO.q (Q.move rfl) ?_
  refine XO.q (Q.mulU rfl rfl (by omega)) ?_
  rw [Int.mul_zero]
  refine XO.q (Q.move rfl) ?_
  refine XO.q (Q.addU rfl rfl (by omega)) ?_
  rw [Int.add_zero]
  refine XO.q (Q.move rfl) ?_
  refine XO.q (Q.shr32 rfl rfl) ?_
  rw [h6]
  refine XO.q (Q.addU rfl rfl (by omega)) ?_
  rw [Int.add_zero]
  refine XO.q (Q.assign rfl) ?_
  refine XO.done ?_
  refine XK.seq ?_
  refine XK.region rfl ?_
  refine XO.q (Q.move rfl) ?_
  refine XO.q (Q.move rfl) ?_
  refine XO.q (Q.mulU rfl rfl (by omega)) ?_
  rw [Int.one_mul]
  refine XO.q (Q.assign rfl) ?_
  refine XO.done ?_
  refine XK.rt [] Try.func102 Try.results102 (.t rfl (.t rfl .n)) ?_
  exact ⟨rfl, rfl⟩
theorem mul_one' (n : Nat) (h : n ≤ 4294967295) : Spec Try.prog 91 #[.int .u64 1, .int .u64 (n : Nat)] [] [] (fun v hs => v = .tuple #[.int .u64 0, .int .u64 (n : Nat)] ∧ hs = []) := by
  refine Spec.intro (fn := Try.f91) (N := 30) Try.func91 rfl Try.ntmps91 rfl fun B => ?_
  refine XK.seq ?_
  refine XK.region rfl ?_
  refine XO.q (Q.assign rfl) ?_
  refine XO.q (Q.assign rfl) ?_
  refine XO.done ?_
  refine XK.seq ?_
  refine XK.if rfl (fun c0 => ?_) (fun c0 => ?_)
  · have _t0 := True.intro
    exact c0.elim
  · have _t0 := True.intro
    refine XK.skip ?_
    refine XK.seq ?_
    refine XK.region rfl ?_
    refine XO.q (Q.move rfl) ?_
    refine XO.q (Q.move rfl) ?_
    refine XO.call Try.call102 rfl rfl rfl (mul64_one n h) fun v25 s25 R25 => ?_
    obtain ⟨rfl, rfl⟩ := R25
    dsimp only [List.cons_append, List.nil_append]
    refine XO.q (Q.move rfl) ?_
    refine XO.q (Q.extract rfl rfl) ?_
    refine XO.q (Q.extract rfl rfl) ?_
    refine XO.q (Q.assign rfl) ?_
    refine XO.q (Q.assign rfl) ?_
    refine XO.done ?_
    refine XK.seq ?_
    refine XK.region rfl ?_
    refine XO.q (Q.move rfl) ?_
    refine XO.q (Q.move rfl) ?_
    refine XO.q (Q.assign rfl) ?_
    refine XO.q (Q.assign rfl) ?_
    refine XO.done ?_
    refine XK.rt [] Try.func91 Try.results91 (.t rfl (.t rfl .n)) ?_
    exact ⟨rfl, rfl⟩
end Go.X.Ht

set_option linter.unusedSimpArgs false
set_option linter.unusedVariables false
set_option maxRecDepth 20000
namespace Go.X
open Go.Proofs
theorem index1T (b : Nat) (m x : Int) : Spec Try.prog 65 #[.int .i64 x, ptr b 0] [] [blk b [.int .i64 m] 3] (fun v hs => v = .bool (decide (x < 0) || decide (m ≤ x)) ∧ hs = []) := by
  refine Spec.intro (fn := Try.f65) (N := 11) Try.func65 rfl Try.ntmps65 rfl fun B => ?_
  refine XK.seq ?_
  refine XK.region rfl ?_
  refine XO.q (Q.assign rfl) ?_
  refine XO.done ?_
  refine XK.seq ?_
  refine XK.region rfl ?_
  refine XO.q (Q.move rfl) ?_
  refine XO.q (Q.lss rfl rfl) ?_
  refine XO.q (Q.move rfl) ?_
  refine XO.q (Quiet.guardF rfl rfl fun g7 p7 => Q.move rfl) ?_
  refine XO.q (Quiet.guardF rfl rfl fun g8 p8 => Q.ld rfl rfl) ?_
  refine XO.q (Quiet.guardF rfl rfl fun g9 p9 => Q.geq (lzv g9 rfl) (lzv g9 rfl)) ?_
  refine XO.q (Q.or rfl (fun hp => lzv hp rfl)) ?_
  refine XO.q (Q.assign rfl) ?_
  refine XO.done ?_
  refine XK.rt [] Try.func65 Try.results65 (.t rfl .n) ?_
  exact ⟨rfl, rfl⟩
theorem indexT (m : Int) (v : Value) (h : PHeap) (xs : List Int) [s : Arr v encI 1 h xs] : Spec Try.prog 43 #[.int .i64 m, v] [] [h] (fun v hs => v = .bool (!xs.any (fun x => decide (x < 0) || decide (m ≤ x))) ∧ hs = []) := by
  refine Spec.intro (fn := Try.f43) (N := 9) Try.func43 rfl Try.ntmps43 rfl fun B => ?_
  refine XK.seq ?_
  refine XK.region rfl ?_
  refine XO.box rfl fun b2 => ?_
  refine XO.q (Q.assign rfl) ?_
  refine XO.done ?_
  refine XK.seq ?_
  refine XK.region rfl ?_
  refine XO.q (Q.move rfl) ?_
  refine XO.q (Q.func (fun _ he => rfl) (fun _ he => evs_rel he rfl)) ?_
  refine XO.call Try.call63 rfl rfl rfl (containsFuncI v h xs 65 [ptr b2 0] [blk b2 [.int .i64 m] 3] _ Try.call65 (fun x _ => index1T b2 m x)) fun v7 s7 R7 => ?_
  obtain ⟨rfl, rfl⟩ := R7
  dsimp only [List.cons_append, List.nil_append]
  refine XO.q (Q.not rfl) ?_
  refine XO.q (Q.assign rfl) ?_
  refine XO.done ?_
  refine XK.rt [] Try.func43 Try.results43 (.t rfl .n) ?_
  exact ⟨rfl, rfl⟩
set_option maxHeartbeats 2000000 in
set_option synthInstance.maxSize 1000 in
theorem BoxT (h : Hall) (vr vw vb vc : Value) (kr kw kb kc : PHeap) [ir : Arr vr Ht.encRoom 2 kr h.rooms] [iw : Arr vw Ht.encWall 3 kw h.walls] [ib : Arr vb Ht.encBranch 3 kb h.branches] [ic : Arr vc Ht.encCooler 5 kc h.coolers] (hc : hcheck h = 0) (ca cb : HCase) (wlo whi : Value) (jlo jhi : PHeap) [ia : Arr wlo encI 1 jlo ca.load] [id : Arr whi encI 1 jhi cb.load] (ak : COk h ca) (dk : COk h cb) (ad : Ht.LeC ca cb) (lo hi : List Int) (vlo vhi : Value) (klo khi : PHeap) [ilo : Arr vlo encI 1 klo lo] [ihi : Arr vhi encI 1 khi hi] (tl : TOk h lo) (th : TOk h hi) (le : Ht.LeL lo hi) (m : Nat) (hm : m ≤ 20000) :
    Spec Try.prog 35 #[.agg #[vr, vw, vb, vc], vlo, vhi, .agg #[wlo, .int .i64 ca.out, .int .i64 ca.pump, whi, .int .i64 cb.out, .int .i64 cb.pump], .int .i64 (m : Nat)] [] [kr, kw, kb, kc, jlo, jhi, klo, khi] (fun v hs => ∃ vp vq kp kq p q e, ∃ n : Nat, v = .tuple #[vp, vq, .int .i64 (n : Nat), .int .i64 e] ∧ hs = [kp, kq] ∧ OArr vp encI 1 3 kp p ∧ OArr vq encI 1 3 kq q ∧
      ((e = 60 ∧ (0 < m → ¬ Ht.Around h ca cb lo hi lo hi)) ∨ (e = 0 ∧ n < m ∧ Ht.Around h ca cb lo hi p q ∧ Ht.LeastB h ca cb lo hi p q ∧ (Ht.Around h ca cb lo hi lo hi → n = 0)))) := by
  have nI : OArr (.slice none 0 0) encI 1 3 emp ([] : List Int) := OArr.nil (fun _ => rfl)
  have ok := hcheck_ok hc
  have r2 := ok.r2
  have l1 := tl.len
  have l2 := th.len
  refine Spec.intro (fn := Try.f35) (N := 108) Try.func35 rfl Try.ntmps35 rfl fun B => ?_
  refine XK.seq ?_
  refine XK.region rfl ?_
  refine XO.box rfl fun b5 => ?_
  refine XO.box rfl fun b8 => ?_
  refine XO.q (Q.assign rfl) ?_
  refine XO.q (Q.assign rfl) ?_
  refine XO.q (Q.assign rfl) ?_
  refine XO.q (Q.assign rfl) ?_
  refine XO.done ?_
  refine XK.seq ?_
  refine XK.seq ?_
  refine XK.region rfl ?_
  refine XO.q (Q.ldA [_, _, _, _] rfl rfl rfl) ?_
  refine XO.q (Q.move rfl) ?_
  refine XO.q (Q.move rfl) ?_
  refine XO.q (Q.ldA [_, _, _, _, _, _] rfl rfl rfl) ?_
  refine XO.call Try.call58 rfl rfl rfl (Ht.Bounds_spec h vr vw vb vc kr kw kb kc ca cb wlo whi jlo jhi lo hi vlo vhi klo khi 0) fun v29 s29 R29 => ?_
  obtain ⟨xL, xH, yL, yH, KLo, KHi, usL, usH, rfl, rfl, OL, OH, RL, RH⟩ := R29
  dsimp only [List.cons_append, List.nil_append]
  rw [show Ht.boundsG h lo hi ca cb 0 = _ from Ht.bounds_fine (n := 0) hc ak dk ad tl th le (by omega)]
  dsimp only
  refine XO.q (Q.move rfl) ?_
  refine XO.q (Q.extract rfl rfl) ?_
  refine XO.q (Q.extract rfl rfl) ?_
  refine XO.q (Q.extract rfl rfl) ?_
  refine XO.q (Q.assign rfl) ?_
  refine XO.q (Q.assign rfl) ?_
  refine XO.q (Q.assign rfl) ?_
  refine XO.done ?_
  refine XK.seq ?_
  refine XK.region rfl ?_
  refine XO.q (Q.move rfl) ?_
  refine XO.q (Q.neq rfl rfl) ?_
  refine XO.done ?_
  refine XK.if rfl (fun c0 => ?_) (fun c0 => ?_)
  · have _t0 := True.intro
    simp at c0
  · have _t0 := True.intro
    refine XK.skip ?_
    refine XK.seq ?_
    refine XK.seq ?_
    refine XK.region rfl ?_
    refine XO.q (Q.move rfl) ?_
    refine XO.lit [_] [_] [((m : Nat) : Int)] encI (by rfl) (by rfl) rfl (by rfl) (by exact .c 0 1 rfl rfl rfl (.n _)) (fun _ => rfl) (by rfl) rfl (by infer_instance) rfl fun v37 h37 O37 => ?_
    refine XO.call Try.call43 rfl rfl rfl (indexT 20001 v37 h37 [((m : Nat) : Int)]) fun v38 s38 R38 => ?_
    obtain ⟨rfl, rfl⟩ := R38
    dsimp only [List.cons_append, List.nil_append]
    rw [show ([((m : Nat) : Int)] : List Int).any (fun x => decide (x < 0) || decide ((20001 : Int) ≤ x)) = false by rw [List.any_cons, List.any_nil, Bool.or_false, Bool.or_eq_false_iff, decide_eq_false_iff_not, decide_eq_false_iff_not]; omega]
    refine XO.q (Q.not rfl) ?_
    refine XO.done ?_
    refine XK.if rfl (fun c1 => ?_) (fun c1 => ?_)
    · have _t1 := True.intro
      simp at c1
    · have _t1 := True.intro
      refine XK.skip ?_
      refine XK.seq ?_
      refine XK.region rfl ?_
      refine XO.q (Q.move rfl) ?_
      refine XO.call Try.call25 rfl rfl rfl (cloneI vlo klo lo (by omega)) fun v41 s41 R41 => ?_
      obtain ⟨k41, rfl, O41⟩ := R41
      dsimp only [List.cons_append, List.nil_append]
      refine XO.q (Q.move rfl) ?_
      refine XO.call Try.call25 rfl rfl rfl (cloneI vhi khi hi (by omega)) fun v43 s43 R43 => ?_
      obtain ⟨k43, rfl, O43⟩ := R43
      dsimp only [List.cons_append, List.nil_append]
      refine XO.q (Q.assign rfl) ?_
      refine XO.q (Q.assign rfl) ?_
      refine XO.done ?_
      refine XK.seq ?_
      refine XK.seq ?_
      refine XK.region rfl ?_
      refine XO.q (Q.move rfl) ?_
      refine XO.q (Q.move rfl) ?_
      refine XO.done ?_
      refine XK.block ?_
      refine XK.while (X := Nat × PHeap × PHeap × List Int × List Int) [10, 11, 12, 13, 17, 18, 19, 20, 21, 22, 23, 45, 46, 47, 48, 49, 50, 51, 52, 53, 54, 55, 56, 57, 58, 59, 60, 61, 62, 63, 64, 65, 66, 67, 68, 69, 70, 71, 72, 73, 74, 75, 76, 77, 78, 79, 80, 81, 82, 83, 84, 85, 86, 87, 88, 89, 90, 91, 92, 93, 94, 95, 96, 97, 98, 99, 100, 101, 102, 103, 104, 105, 106, 107] (fun ⟨n, kl, kh, p, q⟩ => [(45, some (.int .i64 (n : Nat)))]) (fun ⟨n, kl, kh, p, q⟩ => [kl, kh]) (fun ⟨n, kl, kh, p, q⟩ => n ≤ m ∧ OArr v41 encI 1 3 kl p ∧ OArr v43 encI 1 3 kh q ∧ TOk h p ∧ TOk h q ∧ Ht.LeL p lo ∧ Ht.LeL hi q ∧ Ht.LeastB h ca cb lo hi p q ∧ (n = 0 → p = lo ∧ q = hi) ∧ (Ht.Around h ca cb lo hi lo hi → n = 0)) (fun ⟨n, kl, kh, p, q⟩ => m - n) (0, k41, k43, lo, hi) [k41, k43] rfl ⟨by omega, O41, O43, tl, th, fun i _ => Int.le_refl _, fun i _ => Int.le_refl _, fun P Q r => ⟨r.le1, r.le2⟩, fun _ => ⟨rfl, rfl⟩, fun _ => rfl⟩ (.c rfl (.base 0 rfl rfl)) ?_
      rintro ⟨n, kl, kh, p, q⟩ ⟨hn, OP, OQ, tp, tq, lp0, lq0, ls, n0, ns⟩ ih0
      dsimp only [List.cons_append, List.nil_append] at ih0 ⊢
      refine XK.seq ?_
      refine XK.region rfl ?_
      refine XO.q (Q.lss rfl rfl) ?_
      refine XO.done ?_
      refine XK.seq ?_
      refine XK.if rfl (fun c2 => ?_) (fun c2 => ?_)
      · have _t2 := True.intro
        refine XK.skip ?_
        refine XK.seq ?_
        refine XK.block ?_
        refine XK.seq ?_
        refine XK.region rfl ?_
        refine XO.q (Q.move rfl) ?_
        refine XO.q (Q.assign rfl) ?_
        refine XO.done ?_
        refine XK.seq ?_
        refine XK.region rfl ?_
        refine XO.q (Q.ldA [_, _, _, _] rfl rfl rfl) ?_
        refine XO.q (Q.move rfl) ?_
        refine XO.q (Q.fieldAddr rfl) ?_
        refine XO.q (Q.ldA [_, _, _] rfl rfl rfl) ?_
        refine XO.call Try.call59 rfl rfl rfl (Ht.Next_spec h vr vw vb vc kr kw kb kc p v41 kl ca wlo jlo) fun v53 s53 R53 => ?_
        obtain ⟨x53, y53, rfl, rfl, X53⟩ := R53
        dsimp only [List.cons_append, List.nil_append]
        have hN53 : nextG h p ca = (nextL h p ca, 0) := Ht.next_fine hc tp ak
        rw [hN53] at X53 ⊢
        dsimp only at X53 ⊢
        refine XO.q (Q.move rfl) ?_
        refine XO.q (Q.extract rfl rfl) ?_
        refine XO.q (Q.extract rfl rfl) ?_
        refine XO.q (Q.assign rfl) ?_
        refine XO.q (Q.assign rfl) ?_
        refine XO.done ?_
        refine XK.seq ?_
        refine XK.region rfl ?_
        refine XO.q (Q.ldA [_, _, _, _] rfl rfl rfl) ?_
        refine XO.q (Q.move rfl) ?_
        refine XO.q (Q.fieldAddr rfl) ?_
        refine XO.q (Q.ldA [_, _, _] rfl rfl rfl) ?_
        refine XO.call Try.call59 rfl rfl rfl (Ht.Next_spec h vr vw vb vc kr kw kb kc q v43 kh cb whi jhi) fun v61 s61 R61 => ?_
        obtain ⟨x61, y61, rfl, rfl, X61⟩ := R61
        dsimp only [List.cons_append, List.nil_append]
        have hN61 : nextG h q cb = (nextL h q cb, 0) := Ht.next_fine hc tq dk
        rw [hN61] at X61 ⊢
        dsimp only at X61 ⊢
        refine XO.q (Q.move rfl) ?_
        refine XO.q (Q.extract rfl rfl) ?_
        refine XO.q (Q.extract rfl rfl) ?_
        refine XO.q (Q.assign rfl) ?_
        refine XO.q (Q.assign rfl) ?_
        refine XO.done ?_
        refine XK.seq ?_
        refine XK.region rfl ?_
        refine XO.q (Q.assign rfl) ?_
        refine XO.done ?_
        refine XK.seq ?_
        refine XK.seq ?_
        refine XK.region rfl ?_
        have okA := Ht.next_ok ok tp ak
        have okB := Ht.next_ok ok tq dk
        have lA := okA.len
        have lB := okB.len
        have lp := tp.len
        have lq := tq.len
        refine XO.q (Q.move rfl) ?_
        refine XO.len rfl fun l65 => ?_
        refine XO.q (Q.move rfl) ?_
        refine XO.done ?_
        refine XK.block ?_
        refine XK.while (X := Nat × PHeap × PHeap × List Int × List Int × Bool) [22, 23, 66, 67, 68, 69, 70, 71, 72, 73, 74, 75, 76, 77, 78, 79, 80, 81, 82, 83, 84, 85, 86, 87, 88, 89, 90, 91, 92, 93, 94, 95, 96, 97, 98, 99, 100, 101] (fun ⟨i, kl2, kh2, p2, q2, ch⟩ => [(66, some (.int .i64 (i : Nat))), (22, some (.bool ch))]) (fun ⟨i, kl2, kh2, p2, q2, ch⟩ => [kl2, kh2]) (fun ⟨i, kl2, kh2, p2, q2, ch⟩ => i ≤ h.rooms.length ∧ OArr v41 encI 1 3 kl2 p2 ∧ OArr v43 encI 1 3 kh2 q2 ∧ Ht.BoxIn h ca cb lo hi p q i p2 q2 ch) (fun ⟨i, kl2, kh2, p2, q2, ch⟩ => h.rooms.length - i) (0, kl, kh, p, q, false) [kl, kh] rfl ⟨by omega, OP, OQ, Ht.BoxIn.start ok ak dk tp tq lp0 lq0 ls⟩ (.c rfl (.c rfl (.base 0 rfl rfl))) ?_
        rintro ⟨i, kl2, kh2, p2, q2, ch⟩ ⟨hi0, OP2, OQ2, bx⟩ ih1
        dsimp only [List.cons_append, List.nil_append] at ih1 ⊢
        refine XK.seq ?_
        refine XK.region rfl ?_
        refine XO.q (Q.lss rfl rfl) ?_
        refine XO.done ?_
        refine XK.seq ?_
        refine XK.if rfl (fun c3 => ?_) (fun c3 => ?_)
        · have _t3 := True.intro
          have e3 := bx.t1.len
          have e4 := bx.t2.len
          refine XK.skip ?_
          refine XK.seq ?_
          refine XK.block ?_
          refine XK.seq ?_
          refine XK.region rfl ?_
          refine XO.q (Q.move rfl) ?_
          refine XO.q (Q.assign rfl) ?_
          refine XO.done ?_
          refine XK.seq ?_
          refine XK.seq ?_
          refine XK.drawn [0, 1, 2, 3, 4, 5, 6, 7, 8] [] [y53, kl2] (.q 0 (.q 1 (.q 2 (.q 3 (.q 4 (.q 5 (.q 6 (.q 7 (.q 8 .done))))))))) Try.mixed rfl (by kernel_rfl) ?_
          refine XT.q rfl rfl (Q.move rfl) ?_
          refine XT.q rfl rfl (Q.move rfl) ?_
          refine XT.ix rfl rfl rfl rfl (by omega) (by omega) fun i71 => ?_
          refine XT.q rfl rfl (Q.ldE rfl (by first | assumption | omega) rfl) ?_
          refine XT.q rfl rfl (Q.move rfl) ?_
          refine XT.q rfl rfl (Q.move rfl) ?_
          refine XT.ix rfl rfl rfl rfl (by omega) (by omega) fun i75 => ?_
          refine XT.q rfl rfl (Q.ldE rfl (by first | assumption | omega) rfl) ?_
          refine XT.q rfl rfl (Q.lss rfl rfl) ?_
          refine XT.done ?_
          refine XK.if rfl (fun c4 => ?_) (fun c4 => ?_)
          · have _t4 := True.intro
            have bl := bx.low okA tl (by omega) c4
            refine XK.region rfl ?_
            refine XO.q (Q.move rfl) ?_
            refine XO.q (Q.move rfl) ?_
            refine XO.q (Q.move rfl) ?_
            refine XO.q (Q.move rfl) ?_
            refine XO.ix rfl rfl (by omega) (by omega) fun i82 => ?_
            refine XO.q (Q.ldE rfl (by first | assumption | omega) rfl) ?_
            refine XO.ix rfl rfl (by omega) (by omega) fun i84 => ?_
            refine XO.stE _ rfl rfl rfl (by assumption) rfl rfl fun h17_7 O17_7 => ?_
            refine XO.q (Q.assign rfl) ?_
            refine XO.done ?_
            refine XK.seq ?_
            refine XK.drawn [0, 1, 2, 3, 4, 5, 6, 7, 8] [] [y61, kh2] (.q 0 (.q 1 (.q 2 (.q 3 (.q 4 (.q 5 (.q 6 (.q 7 (.q 8 .done))))))))) Try.mixed rfl (by kernel_rfl) ?_
            refine XT.q rfl rfl (Q.move rfl) ?_
            refine XT.q rfl rfl (Q.move rfl) ?_
            refine XT.ix rfl rfl rfl rfl (by omega) (by omega) fun i87 => ?_
            refine XT.q rfl rfl (Q.ldE rfl (by first | assumption | omega) rfl) ?_
            refine XT.q rfl rfl (Q.move rfl) ?_
            refine XT.q rfl rfl (Q.move rfl) ?_
            refine XT.ix rfl rfl rfl rfl (by omega) (by omega) fun i91 => ?_
            refine XT.q rfl rfl (Q.ldE rfl (by first | assumption | omega) rfl) ?_
            refine XT.q rfl rfl (Q.gtr rfl rfl) ?_
            refine XT.done ?_
            refine XK.if rfl (fun c5 => ?_) (fun c5 => ?_)
            · have _t5 := True.intro
              refine XK.region rfl ?_
              refine XO.q (Q.move rfl) ?_
              refine XO.q (Q.move rfl) ?_
              refine XO.q (Q.move rfl) ?_
              refine XO.q (Q.move rfl) ?_
              refine XO.ix rfl rfl (by omega) (by omega) fun i98 => ?_
              refine XO.q (Q.ldE rfl (by first | assumption | omega) rfl) ?_
              refine XO.ix rfl rfl (by omega) (by omega) fun i100 => ?_
              refine XO.stE _ rfl rfl rfl (by assumption) rfl rfl fun h19_7 O19_7 => ?_
              refine XO.q (Q.assign rfl) ?_
              refine XO.done ?_
              refine XK.inBlock ?_
              refine XK.region rfl ?_
              refine XO.q (Q.add rfl rfl ⟨by omega, by omega⟩) ?_
              refine XO.q (Q.move rfl) ?_
              refine XO.done ?_
              exact ih1 (i + 1, h17_7, h19_7, _, _, true) _ _ ⟨by dsimp only; omega, O17_7, O19_7, (bl.high okB (by omega) c5).on⟩ (by first | omega | (dsimp only; omega)) (.c rfl (.c rfl (.base 79 rfl rfl))) inferInstance
            · have _t5 := True.intro
              refine XK.skip ?_
              refine XK.inBlock ?_
              refine XK.region rfl ?_
              refine XO.q (Q.add rfl rfl ⟨by omega, by omega⟩) ?_
              refine XO.q (Q.move rfl) ?_
              refine XO.done ?_
              exact ih1 (i + 1, h17_7, kh2, _, q2, true) _ _ ⟨by dsimp only; omega, O17_7, OQ2, bl.on⟩ (by first | omega | (dsimp only; omega)) (.c rfl (.c rfl (.base 71 rfl rfl))) inferInstance
          · have _t4 := True.intro
            refine XK.skip ?_
            refine XK.seq ?_
            refine XK.drawn [0, 1, 2, 3, 4, 5, 6, 7, 8] [] [y61, kh2] (.q 0 (.q 1 (.q 2 (.q 3 (.q 4 (.q 5 (.q 6 (.q 7 (.q 8 .done))))))))) Try.mixed rfl (by kernel_rfl) ?_
            refine XT.q rfl rfl (Q.move rfl) ?_
            refine XT.q rfl rfl (Q.move rfl) ?_
            refine XT.ix rfl rfl rfl rfl (by omega) (by omega) fun i87 => ?_
            refine XT.q rfl rfl (Q.ldE rfl (by first | assumption | omega) rfl) ?_
            refine XT.q rfl rfl (Q.move rfl) ?_
            refine XT.q rfl rfl (Q.move rfl) ?_
            refine XT.ix rfl rfl rfl rfl (by omega) (by omega) fun i91 => ?_
            refine XT.q rfl rfl (Q.ldE rfl (by first | assumption | omega) rfl) ?_
            refine XT.q rfl rfl (Q.gtr rfl rfl) ?_
            refine XT.done ?_
            refine XK.if rfl (fun c6 => ?_) (fun c6 => ?_)
            · have _t6 := True.intro
              refine XK.region rfl ?_
              refine XO.q (Q.move rfl) ?_
              refine XO.q (Q.move rfl) ?_
              refine XO.q (Q.move rfl) ?_
              refine XO.q (Q.move rfl) ?_
              refine XO.ix rfl rfl (by omega) (by omega) fun i98 => ?_
              refine XO.q (Q.ldE rfl (by first | assumption | omega) rfl) ?_
              refine XO.ix rfl rfl (by omega) (by omega) fun i100 => ?_
              refine XO.stE _ rfl rfl rfl (by assumption) rfl rfl fun h19_7 O19_7 => ?_
              refine XO.q (Q.assign rfl) ?_
              refine XO.done ?_
              refine XK.inBlock ?_
              refine XK.region rfl ?_
              refine XO.q (Q.add rfl rfl ⟨by omega, by omega⟩) ?_
              refine XO.q (Q.move rfl) ?_
              refine XO.done ?_
              exact ih1 (i + 1, kl2, h19_7, p2, _, true) _ _ ⟨by dsimp only; omega, OP2, O19_7, (bx.high okB (by omega) c6).on⟩ (by first | omega | (dsimp only; omega)) (.c rfl (.c rfl (.base 71 rfl rfl))) inferInstance
            · have _t6 := True.intro
              refine XK.skip ?_
              refine XK.inBlock ?_
              refine XK.region rfl ?_
              refine XO.q (Q.add rfl rfl ⟨by omega, by omega⟩) ?_
              refine XO.q (Q.move rfl) ?_
              refine XO.done ?_
              exact ih1 (i + 1, kl2, kh2, p2, q2, ch) _ _ ⟨by dsimp only; omega, OP2, OQ2, bx.skip c4 c6⟩ (by first | omega | (dsimp only; omega)) (.c rfl (.c rfl (.base 63 rfl rfl))) inferInstance
        · have _t3 := True.intro
          have hin : i = h.rooms.length := by omega
          subst hin
          refine XK.exit rfl ?_
          refine XK.seq ?_
          refine XK.region rfl ?_
          refine XO.q (Q.move rfl) ?_
          refine XO.q (Q.not rfl) ?_
          refine XO.done ?_
          refine XK.if rfl (fun c7 => ?_) (fun c7 => ?_)
          · have _t7 := True.intro
            obtain rfl : ch = false := by simpa using c7
            refine XK.seq ?_
            refine XK.region rfl ?_
            refine XO.q (Q.move rfl) ?_
            refine XO.q (Q.move rfl) ?_
            refine XO.q (Q.move rfl) ?_
            refine XO.q (Q.assign rfl) ?_
            refine XO.q (Q.assign rfl) ?_
            refine XO.q (Q.assign rfl) ?_
            refine XO.q (Q.assign rfl) ?_
            refine XO.done ?_
            refine XK.rt [kl2, kh2] Try.func35 Try.results35 (.t rfl (.t rfl (.t rfl (.t rfl .n)))) ?_
            exact ⟨v41, v43, kl2, kh2, p2, q2, 0, n, rfl, rfl, OP2, OQ2, .inr ⟨rfl, by omega, bx.held, bx.leastB, ns⟩⟩
          · have _t7 := True.intro
            obtain rfl : ch = true := by simpa using c7
            have moved : ¬ Ht.Around h ca cb lo hi lo hi := fun s => by
              obtain ⟨e1, e2⟩ := n0 (ns s)
              subst e1 e2
              have := (bx.calm s.low s.high).1
              cases this
            refine XK.skip ?_
            refine XK.inBlock ?_
            refine XK.region rfl ?_
            refine XO.q (Q.add rfl rfl ⟨by omega, by omega⟩) ?_
            refine XO.q (Q.move rfl) ?_
            refine XO.done ?_
            exact ih0 (n + 1, kl2, kh2, p2, q2) _ _ ⟨by dsimp only; omega, OP2, OQ2, bx.t1, bx.t2, bx.le1, bx.le2, bx.leastB, fun hh => absurd hh (Nat.succ_ne_zero n), fun s => absurd s moved⟩ (by first | omega | (dsimp only; omega)) (.c rfl (.base 147 rfl rfl)) inferInstance
      · have _t2 := True.intro
        refine XK.exit rfl ?_
        refine XK.seq ?_
        refine XK.region rfl ?_
        refine XO.q (Q.assign rfl) ?_
        refine XO.q (Q.assign rfl) ?_
        refine XO.q (Q.assign rfl) ?_
        refine XO.q (Q.assign rfl) ?_
        refine XO.done ?_
        refine XK.rt [emp, emp] Try.func35 Try.results35 (.t rfl (.t rfl (.t rfl (.t rfl .n)))) ?_
        have hnm : n = m := by omega
        exact ⟨.slice none 0 0, .slice none 0 0, emp, emp, [], [], 60, 0, rfl, rfl, nI, nI, .inl ⟨rfl, fun h0 s => by have := ns s; omega⟩⟩
end Go.X

set_option linter.unusedSimpArgs false
set_option linter.unusedVariables false
set_option maxRecDepth 20000
namespace Go.X
open Go.Proofs
theorem getD_setI {xs : List Int} {i j : Nat} {m : Int} (hi : i < xs.length) : (xs.set i m).getD j 0 = if j = i then m else xs.getD j 0 := by
  rw [List.getD_eq_getElem?_getD, List.getElem?_set]
  by_cases h : i = j
  · subst h; rw [if_pos rfl, if_pos rfl, if_pos hi]; rfl
  · rw [if_neg h, if_neg (fun e => h e.symm), ← List.getD_eq_getElem?_getD]
structure PairOk (n i : Nat) (xs ys : List Int) : Prop where
  a : Ht.LoadOk n xs
  b : Ht.LoadOk n ys
  le : ∀ j, j < i → xs.getD j 0 ≤ ys.getD j 0
theorem PairOk.step {n i : Nat} {xs ys : List Int} (p : PairOk n i xs ys) (hi : i < n) : PairOk n (i + 1) (xs.set i (min (xs.getD i default) (ys.getD i default))) (ys.set i (max (xs.getD i default) (ys.getD i default))) := by
  have e1 := p.a.1
  have e2 := p.b.1
  have r1 := p.a.2 i (by omega)
  have r2 := p.b.2 i (by omega)
  change 0 ≤ xs.getD i default ∧ xs.getD i default ≤ _ at r1
  change 0 ≤ ys.getD i default ∧ ys.getD i default ≤ _ at r2
  refine ⟨⟨by rw [List.length_set]; exact e1, fun j hj => ?_⟩, ⟨by rw [List.length_set]; exact e2, fun j hj => ?_⟩, fun j hj => ?_⟩
  · rw [List.length_set] at hj
    rw [getD_setI (by omega)]
    split
    · omega
    · exact p.a.2 j hj
  · rw [List.length_set] at hj
    rw [getD_setI (by omega)]
    split
    · omega
    · exact p.b.2 j hj
  · rw [getD_setI (by omega), getD_setI (by omega)]
    by_cases h : j = i
    · rw [if_pos h, if_pos h]; omega
    · rw [if_neg h, if_neg h]; exact p.le j (by omega)
structure PairW (n i : Nat) (xs ys : List Int) : Prop where
  a : Ht.WarmOk n xs
  b : Ht.WarmOk n ys
  le : ∀ j, j < i → xs.getD j 0 ≤ ys.getD j 0
theorem PairW.step {n i : Nat} {xs ys : List Int} (p : PairW n i xs ys) (hi : i < n) : PairW n (i + 1) (xs.set i (min (xs.getD i default) (ys.getD i default))) (ys.set i (max (xs.getD i default) (ys.getD i default))) := by
  have e1 := p.a.1
  have e2 := p.b.1
  have r1 := p.a.2 i (by omega)
  have r2 := p.b.2 i (by omega)
  change 12000 ≤ xs.getD i default ∧ xs.getD i default ≤ _ at r1
  change 12000 ≤ ys.getD i default ∧ ys.getD i default ≤ _ at r2
  refine ⟨⟨by rw [List.length_set]; exact e1, fun j hj => ?_⟩, ⟨by rw [List.length_set]; exact e2, fun j hj => ?_⟩, fun j hj => ?_⟩
  · rw [List.length_set] at hj
    rw [Ht.getD_setB (by omega)]
    split
    · omega
    · exact p.a.2 j hj
  · rw [List.length_set] at hj
    rw [Ht.getD_setB (by omega)]
    split
    · omega
    · exact p.b.2 j hj
  · rw [Ht.getD_setB (by omega), Ht.getD_setB (by omega)]
    by_cases h : j = i
    · rw [if_pos h, if_pos h]; omega
    · rw [if_neg h, if_neg h]; exact p.le j (by omega)

structure WideTo (h : Hall) (xs ys wd fr : List Int) : Prop where
  t1 : TOk h wd
  t2 : TOk h fr
  l1 : Ht.LeL wd xs
  l2 : Ht.LeL ys fr
theorem WideTo.step {h : Hall} {xs ys wd fr : List Int} (t : TOk h xs) (ty : TOk h ys) (o : WideTo h xs ys wd fr) {i : Nat} (hi : i < h.rooms.length) : WideTo h xs ys (wd.set i (max (wd.getD i default - 50 * ((i : Int) + 1)) 0)) (fr.set i (min (fr.getD i default + 70) 1000000)) := by
  have e1 := o.t1.len
  have e2 := o.t2.len
  have e3 := t.len
  have e4 := ty.len
  have r1 := o.t1.rng i (by omega)
  have r2 := o.t2.rng i (by omega)
  have r3 := o.l1 i (by omega)
  have r4 := t.rng i (by omega)
  have r5 := o.l2 i (by omega)
  have r6 := ty.rng i (by omega)
  change 0 ≤ wd.getD i default ∧ wd.getD i default ≤ _ at r1
  change 0 ≤ fr.getD i default ∧ fr.getD i default ≤ _ at r2
  change wd.getD i default ≤ xs.getD i 0 at r3
  change ys.getD i 0 ≤ fr.getD i default at r5
  refine ⟨Ht.tok_set o.t1 hi (by omega), Ht.tok_set o.t2 hi (by omega), fun j hj => ?_, fun j hj => ?_⟩
  · rw [List.length_set] at hj
    rw [Ht.getD_setB (by omega)]
    split
    · subst j; omega
    · exact o.l1 j hj
  · rw [Ht.getD_setB (by omega)]
    split
    · subst j; omega
    · exact o.l2 j hj
set_option maxHeartbeats 8000000 in
set_option synthInstance.maxSize 1000 in
set_option synthInstance.maxHeartbeats 400000 in
theorem KeepInvariant_spec (v0 : Value) (h0 : PHeap) (x0 : List UInt8) [i0 : Arr v0 encU8 1 h0 x0] (v1 : Value) (h1 : PHeap) (x1 : List UInt8) [i1 : Arr v1 encU8 1 h1 x1] (v2 : Value) (h2 : PHeap) (x2 : List UInt8) [i2 : Arr v2 encU8 1 h2 x2] (v3 : Value) (h3 : PHeap) (x3 : List UInt8) [i3 : Arr v3 encU8 1 h3 x3] (v4 : Value) (h4 : PHeap) (x4 : List UInt8) [i4 : Arr v4 encU8 1 h4 x4] : Spec Try.prog 9 #[v0, v1, v2, v3, v4] [] [h0, h1, h2, h3, h4] (fun v hs => v = .bool true ∧ hs = []) := by
  refine Spec.intro (fn := Try.f9) (N := 300) Try.func9 rfl Try.ntmps9 rfl fun B => ?_
  refine XK.seq ?_
  refine XK.region rfl ?_
  refine XO.q (Q.assign rfl) ?_
  refine XO.done ?_
  refine XK.seq ?_
  refine XK.region rfl ?_
  refine XO.q (Q.move rfl) ?_
  refine XO.call Try.call32 rfl rfl rfl (Ht.made7 v0 h0 x0) fun v32 s32 R32 => ?_
  obtain ⟨h, vr, vw, vb, vc, kr, kw, kb, kc, rfl, rfl, Or, Ow, Ob, Oc, mk⟩ := R32
  dsimp only [List.cons_append, List.nil_append]
  have ok := hcheck_ok mk.ok
  have r1 := ok.r1
  have r2 := ok.r2
  refine XO.alloc fun b11 => ?_
  refine XO.st rfl rfl rfl ?_
  refine XO.done ?_
  refine XK.seq ?_
  refine XK.drawn [0, 1, 3, 4, 6, 7] [b11] [] (.q 0 (.q 1 (.q 3 (.q 4 (.br 2 true (.br 5 true (.q 6 (.q 7 .done)) .stop) .stop))))) Try.mixed rfl (by kernel_rfl) ?_
  refine XT.q rfl rfl (Q.ldA [_, _, _, _] rfl rfl rfl) ?_
  refine XT.q rfl rfl (Q.move rfl) ?_
  refine XT.q rfl rfl (Q.ldA [_, _, _, _] rfl rfl rfl) ?_
  refine XT.q rfl rfl (Q.move rfl) ?_
  refine XT.call rfl rfl Try.call33 rfl rfl rfl (Ht.warm_made vr vw vb vc kr h.rooms r2 v1 h1 x1) (fun v35 s35 R35 => ?_) XT.stop
  obtain ⟨t35, k35, rfl, O35, w35⟩ := R35
  dsimp only [List.cons_append, List.nil_append]
  refine ⟨inferInstance, ?_⟩
  refine XT.call rfl rfl Try.call33 rfl rfl rfl (Ht.warm_made vr vw vb vc kr h.rooms r2 v2 h2 x2) (fun v38 s38 R38 => ?_) XT.stop
  obtain ⟨t38, k38, rfl, O38, w38⟩ := R38
  dsimp only [List.cons_append, List.nil_append]
  refine ⟨inferInstance, ?_⟩
  refine XT.q rfl rfl (Q.assign rfl) ?_
  refine XT.q rfl rfl (Q.assign rfl) ?_
  refine XT.done ?_
  refine XK.seq ?_
  refine XK.meet (X := HCase × Value × PHeap × HCase × Value × PHeap × Nat × Nat) [14, 15, 39, 40, 41, 42, 43, 44] (fun ⟨c1, u1, k1, c2, u2, k2, b14, b15⟩ => [(14, some (ptr b14 0)), (15, some (ptr b15 0))]) (fun ⟨c1, u1, k1, c2, u2, k2, b14, b15⟩ => [blk b14 [u1, .int .i64 c1.out, .int .i64 c1.pump] 80, k1, blk b15 [u2, .int .i64 c2.out, .int .i64 c2.pump] 80, k2]) (fun ⟨c1, u1, k1, c2, u2, k2, b14, b15⟩ => OArr u1 encI 1 3 k1 c1.load ∧ OArr u2 encI 1 3 k2 c2.load ∧ Ht.CasedOk h.rooms.length c1 ∧ Ht.CasedOk h.rooms.length c2) [] ?_ ?_
  · rintro ⟨c1, u1, k1, c2, u2, k2, b14, b15⟩ ⟨OU1, OU2, q1, q2⟩
    dsimp only [List.cons_append, List.nil_append]
    have e1 := q1.1.1
    have e2 := q2.1.1
    have tl := w35.1
    refine XK.seq ?_
    refine XK.seq ?_
    refine XK.region rfl ?_
    refine XO.q (Q.move rfl) ?_
    refine XO.len rfl fun l46 => ?_
    refine XO.q (Q.move rfl) ?_
    refine XO.done ?_
    refine XK.block ?_
    refine XK.while (X := Nat × PHeap × PHeap × List Int × List Int × PHeap × PHeap × List Int × List Int) [16, 47, 48, 49, 50, 51, 52, 53, 54, 55, 56, 57, 58, 59, 60, 61, 62, 63, 64, 65, 66, 67, 68, 69, 70, 71, 72, 73, 74, 75, 76, 77, 78, 79, 80, 81, 82, 83, 84, 85, 86, 87, 88, 89, 90, 91, 92, 93, 94, 95, 96, 97, 98, 99, 100, 101, 102, 103, 104] (fun ⟨i, kx, ky, xs, ys, jx, jy, al, bl⟩ => [(47, some (.int .i64 (i : Nat)))]) (fun ⟨i, kx, ky, xs, ys, jx, jy, al, bl⟩ => [kx, ky, jx, jy]) (fun ⟨i, kx, ky, xs, ys, jx, jy, al, bl⟩ => i ≤ h.rooms.length ∧ PairW h.rooms.length i xs ys ∧ OArr v35 encI 1 3 kx xs ∧ OArr v38 encI 1 3 ky ys ∧ PairOk h.rooms.length i al bl ∧ OArr u1 encI 1 3 jx al ∧ OArr u2 encI 1 3 jy bl) (fun ⟨i, kx, ky, xs, ys, jx, jy, al, bl⟩ => h.rooms.length - i) (0, k35, k38, t35, t38, k1, k2, c1.load, c2.load) [k35, k38, k1, k2] rfl ⟨by omega, ⟨w35, w38, fun j hj => absurd hj (Nat.not_lt_zero j)⟩, O35, O38, ⟨q1.1, q2.1, fun j hj => absurd hj (Nat.not_lt_zero j)⟩, OU1, OU2⟩ (.c rfl (.base 0 rfl rfl)) ?_
    rintro ⟨i, kx, ky, xs, ys, jx, jy, al, bl⟩ ⟨hi, pk, OX, OY, pl, OA, OB⟩ ih0
    dsimp only [List.cons_append, List.nil_append] at ih0 ⊢
    have e3 := pk.a.1
    have e4 := pk.b.1
    have e5 := pl.a.1
    have e6 := pl.b.1
    refine XK.seq ?_
    refine XK.region rfl ?_
    refine XO.q (Q.lss rfl rfl) ?_
    refine XO.done ?_
    refine XK.seq ?_
    refine XK.if rfl (fun c0 => ?_) (fun c0 => ?_)
    · have _t0 := True.intro
      refine XK.skip ?_
      refine XK.seq ?_
      refine XK.block ?_
      refine XK.seq ?_
      refine XK.region rfl ?_
      refine XO.q (Q.move rfl) ?_
      refine XO.q (Q.assign rfl) ?_
      refine XO.done ?_
      refine XK.seq ?_
      refine XK.draw2 [(0, []), (1, []), (2, []), (3, []), (4, []), (5, []), (6, []), (7, [0]), (8, []), (9, []), (10, []), (11, [1]), (12, []), (13, []), (14, []), (15, []), (16, [0]), (17, []), (18, []), (19, []), (20, [1]), (21, []), (22, []), (24, [])] [kx, ky] (.q 0 (.q 1 (.q 2 (.q 3 (.q 4 (.q 5 (.q 6 (.q 7 (.q 8 (.q 9 (.q 10 (.q 11 (.q 12 (.q 13 (.q 14 (.q 15 (.q 16 (.q 17 (.q 18 (.q 19 (.q 20 (.q 21 (.q 22 (.br 23 true (.q 24 (.br 25 true .done .stop)) .stop)))))))))))))))))))))))) Try.mixed rfl (by kernel_rfl) (by rfl) ?_
      refine XT2.q (ks := []) rfl rfl rfl (Q.move rfl) ?_
      refine XT2.q (ks := []) rfl rfl rfl (Q.move rfl) ?_
      refine XT2.q (ks := []) rfl rfl rfl (Q.move rfl) ?_
      refine XT2.q (ks := []) rfl rfl rfl (Q.move rfl) ?_
      refine XT2.q (ks := []) rfl rfl rfl (Q.move rfl) ?_
      refine XT2.q (ks := []) rfl rfl rfl (Q.move rfl) ?_
      refine XT2.ix rfl rfl rfl rfl (by omega) (by omega) fun i56 => ?_
      refine XT2.q (ks := [kx]) rfl rfl rfl (Q.ldE rfl (by first | assumption | omega) rfl) ?_
      refine XT2.q (ks := []) rfl rfl rfl (Q.move rfl) ?_
      refine XT2.q (ks := []) rfl rfl rfl (Q.move rfl) ?_
      refine XT2.ix rfl rfl rfl rfl (by omega) (by omega) fun i60 => ?_
      refine XT2.q (ks := [ky]) rfl rfl rfl (Q.ldE rfl (by first | assumption | omega) rfl) ?_
      refine XT2.q (ks := []) rfl rfl rfl (Q.min rfl rfl) ?_
      refine XT2.q (ks := []) rfl rfl rfl (Q.move rfl) ?_
      refine XT2.q (ks := []) rfl rfl rfl (Q.move rfl) ?_
      refine XT2.ix rfl rfl rfl rfl (by omega) (by omega) fun i65 => ?_
      refine XT2.q (ks := [kx]) rfl rfl rfl (Q.ldE rfl (by first | assumption | omega) rfl) ?_
      refine XT2.q (ks := []) rfl rfl rfl (Q.move rfl) ?_
      refine XT2.q (ks := []) rfl rfl rfl (Q.move rfl) ?_
      refine XT2.ix rfl rfl rfl rfl (by omega) (by omega) fun i69 => ?_
      refine XT2.q (ks := [ky]) rfl rfl rfl (Q.ldE rfl (by first | assumption | omega) rfl) ?_
      refine XT2.q (ks := []) rfl rfl rfl (Q.max rfl rfl) ?_
      refine XT2.ix rfl rfl rfl rfl (by omega) (by omega) fun i72 => ?_
      refine XT2.stE (ns := []) (ks := []) _ rfl rfl (by kernel_rfl) rfl rfl rfl rfl (by assumption) rfl rfl fun h7_23 O7_23 => ?_
      refine XT2.ix rfl rfl rfl rfl (by omega) (by omega) fun i73 => ?_
      refine XT2.stE (ns := []) (ks := []) _ rfl rfl (by kernel_rfl) rfl rfl rfl rfl (by assumption) rfl rfl fun h7_25 O7_25 => ?_
      refine XT2.done ?_
      refine XK.draw2 [(0, []), (1, [2]), (2, []), (3, []), (4, [3]), (5, []), (6, []), (7, [2]), (8, []), (9, []), (10, [0]), (11, []), (12, [3]), (13, []), (14, []), (15, [1]), (16, []), (17, []), (18, [2]), (19, []), (20, []), (21, [0]), (22, []), (23, [3]), (24, []), (25, []), (26, [1]), (27, []), (28, []), (30, [])] [jx, jy, blk b14 [u1, .int .i64 c1.out, .int .i64 c1.pump] 80, blk b15 [u2, .int .i64 c2.out, .int .i64 c2.pump] 80] (.q 0 (.q 1 (.q 2 (.q 3 (.q 4 (.q 5 (.q 6 (.q 7 (.q 8 (.q 9 (.q 10 (.q 11 (.q 12 (.q 13 (.q 14 (.q 15 (.q 16 (.q 17 (.q 18 (.q 19 (.q 20 (.q 21 (.q 22 (.q 23 (.q 24 (.q 25 (.q 26 (.q 27 (.q 28 (.br 29 true (.q 30 (.br 31 true .done .stop)) .stop)))))))))))))))))))))))))))))) Try.mixed rfl (by kernel_rfl) (by rfl) ?_
      refine XT2.q (ks := []) rfl rfl rfl (Q.fieldAddr rfl) ?_
      refine XT2.q (ks := [blk b14 [u1, .int .i64 c1.out, .int .i64 c1.pump] 80]) rfl rfl rfl (Q.ld rfl rfl) ?_
      refine XT2.q (ks := []) rfl rfl rfl (Q.move rfl) ?_
      refine XT2.q (ks := []) rfl rfl rfl (Q.fieldAddr rfl) ?_
      refine XT2.q (ks := [blk b15 [u2, .int .i64 c2.out, .int .i64 c2.pump] 80]) rfl rfl rfl (Q.ld rfl rfl) ?_
      refine XT2.q (ks := []) rfl rfl rfl (Q.move rfl) ?_
      refine XT2.q (ks := []) rfl rfl rfl (Q.fieldAddr rfl) ?_
      refine XT2.q (ks := [blk b14 [u1, .int .i64 c1.out, .int .i64 c1.pump] 80]) rfl rfl rfl (Q.ld rfl rfl) ?_
      refine XT2.q (ks := []) rfl rfl rfl (Q.move rfl) ?_
      refine XT2.ix rfl rfl rfl rfl (by omega) (by omega) fun i83 => ?_
      refine XT2.q (ks := [jx]) rfl rfl rfl (Q.ldE rfl (by first | assumption | omega) rfl) ?_
      refine XT2.q (ks := []) rfl rfl rfl (Q.fieldAddr rfl) ?_
      refine XT2.q (ks := [blk b15 [u2, .int .i64 c2.out, .int .i64 c2.pump] 80]) rfl rfl rfl (Q.ld rfl rfl) ?_
      refine XT2.q (ks := []) rfl rfl rfl (Q.move rfl) ?_
      refine XT2.ix rfl rfl rfl rfl (by omega) (by omega) fun i88 => ?_
      refine XT2.q (ks := [jy]) rfl rfl rfl (Q.ldE rfl (by first | assumption | omega) rfl) ?_
      refine XT2.q (ks := []) rfl rfl rfl (Q.min rfl rfl) ?_
      refine XT2.q (ks := []) rfl rfl rfl (Q.fieldAddr rfl) ?_
      refine XT2.q (ks := [blk b14 [u1, .int .i64 c1.out, .int .i64 c1.pump] 80]) rfl rfl rfl (Q.ld rfl rfl) ?_
      refine XT2.q (ks := []) rfl rfl rfl (Q.move rfl) ?_
      refine XT2.ix rfl rfl rfl rfl (by omega) (by omega) fun i94 => ?_
      refine XT2.q (ks := [jx]) rfl rfl rfl (Q.ldE rfl (by first | assumption | omega) rfl) ?_
      refine XT2.q (ks := []) rfl rfl rfl (Q.fieldAddr rfl) ?_
      refine XT2.q (ks := [blk b15 [u2, .int .i64 c2.out, .int .i64 c2.pump] 80]) rfl rfl rfl (Q.ld rfl rfl) ?_
      refine XT2.q (ks := []) rfl rfl rfl (Q.move rfl) ?_
      refine XT2.ix rfl rfl rfl rfl (by omega) (by omega) fun i99 => ?_
      refine XT2.q (ks := [jy]) rfl rfl rfl (Q.ldE rfl (by first | assumption | omega) rfl) ?_
      refine XT2.q (ks := []) rfl rfl rfl (Q.max rfl rfl) ?_
      refine XT2.ix rfl rfl rfl rfl (by omega) (by omega) fun i102 => ?_
      refine XT2.stE (ns := [3, 2, 3]) (ks := [blk b15 [u2, .int .i64 c2.out, .int .i64 c2.pump] 80, blk b14 [u1, .int .i64 c1.out, .int .i64 c1.pump] 80, blk b15 [u2, .int .i64 c2.out, .int .i64 c2.pump] 80]) _ rfl rfl (by kernel_rfl) rfl rfl rfl rfl (by assumption) rfl rfl fun h8_29 O8_29 => ?_
      refine XT2.ix rfl rfl rfl rfl (by omega) (by omega) fun i103 => ?_
      refine XT2.stE (ns := []) (ks := []) _ rfl rfl (by kernel_rfl) rfl rfl rfl rfl (by assumption) rfl rfl fun h8_31 O8_31 => ?_
      refine XT2.done ?_
      refine XK.inBlock ?_
      refine XK.region rfl ?_
      refine XO.q (Q.add rfl rfl ⟨by omega, by omega⟩) ?_
      refine XO.q (Q.move rfl) ?_
      refine XO.done ?_
      exact ih0 (i + 1, h7_23, h7_25, _, _, h8_29, h8_31, _, _) _ _ ⟨by dsimp only; omega, pk.step (by omega), O7_23, O7_25, pl.step (by omega), O8_29, O8_31⟩ (by first | omega | (dsimp only; omega)) (.c rfl (.base 119 rfl rfl)) inferInstance
    · have _t0 := True.intro
      refine XK.exit rfl ?_
      refine XK.seq ?_
      refine XK.draw2 [(0, []), (1, [0]), (2, []), (3, [1]), (4, []), (5, []), (6, [0]), (7, []), (8, [1]), (9, []), (10, []), (11, [0]), (12, []), (13, [1]), (14, []), (15, []), (16, [0]), (17, []), (18, [1]), (19, []), (20, []), (22, []), (24, []), (26, [])] [blk b14 [u1, .int .i64 c1.out, .int .i64 c1.pump] 80, blk b15 [u2, .int .i64 c2.out, .int .i64 c2.pump] 80] (.q 0 (.q 1 (.q 2 (.q 3 (.q 4 (.q 5 (.q 6 (.q 7 (.q 8 (.q 9 (.q 10 (.q 11 (.q 12 (.q 13 (.q 14 (.q 15 (.q 16 (.q 17 (.q 18 (.q 19 (.q 20 (.br 21 true (.q 22 (.br 23 true (.q 24 (.br 25 true (.q 26 (.br 27 true .done .stop)) .stop)) .stop)) .stop)))))))))))))))))))))) Try.mixed rfl (by kernel_rfl) (by rfl) ?_
      refine XT2.q (ks := []) rfl rfl rfl (Q.fieldAddr rfl) ?_
      refine XT2.q (ks := [blk b14 [u1, .int .i64 c1.out, .int .i64 c1.pump] 80]) rfl rfl rfl (Q.ld rfl rfl) ?_
      refine XT2.q (ks := []) rfl rfl rfl (Q.fieldAddr rfl) ?_
      refine XT2.q (ks := [blk b15 [u2, .int .i64 c2.out, .int .i64 c2.pump] 80]) rfl rfl rfl (Q.ld rfl rfl) ?_
      refine XT2.q (ks := []) rfl rfl rfl (Q.min rfl rfl) ?_
      refine XT2.q (ks := []) rfl rfl rfl (Q.fieldAddr rfl) ?_
      refine XT2.q (ks := [blk b14 [u1, .int .i64 c1.out, .int .i64 c1.pump] 80]) rfl rfl rfl (Q.ld rfl rfl) ?_
      refine XT2.q (ks := []) rfl rfl rfl (Q.fieldAddr rfl) ?_
      refine XT2.q (ks := [blk b15 [u2, .int .i64 c2.out, .int .i64 c2.pump] 80]) rfl rfl rfl (Q.ld rfl rfl) ?_
      refine XT2.q (ks := []) rfl rfl rfl (Q.max rfl rfl) ?_
      refine XT2.q (ks := []) rfl rfl rfl (Q.fieldAddr rfl) ?_
      refine XT2.q (ks := [blk b14 [u1, .int .i64 c1.out, .int .i64 c1.pump] 80]) rfl rfl rfl (Q.ld rfl rfl) ?_
      refine XT2.q (ks := []) rfl rfl rfl (Q.fieldAddr rfl) ?_
      refine XT2.q (ks := [blk b15 [u2, .int .i64 c2.out, .int .i64 c2.pump] 80]) rfl rfl rfl (Q.ld rfl rfl) ?_
      refine XT2.q (ks := []) rfl rfl rfl (Q.max rfl rfl) ?_
      refine XT2.q (ks := []) rfl rfl rfl (Q.fieldAddr rfl) ?_
      refine XT2.q (ks := [blk b14 [u1, .int .i64 c1.out, .int .i64 c1.pump] 80]) rfl rfl rfl (Q.ld rfl rfl) ?_
      refine XT2.q (ks := []) rfl rfl rfl (Q.fieldAddr rfl) ?_
      refine XT2.q (ks := [blk b15 [u2, .int .i64 c2.out, .int .i64 c2.pump] 80]) rfl rfl rfl (Q.ld rfl rfl) ?_
      refine XT2.q (ks := []) rfl rfl rfl (Q.min rfl rfl) ?_
      refine XT2.q (ks := []) rfl rfl rfl (Q.fieldAddr rfl) ?_
      refine XT2.st (ns := [1]) (ks := [blk b15 [u2, .int .i64 c2.out, .int .i64 c2.pump] 80]) rfl rfl (by kernel_rfl) rfl rfl rfl rfl ?_
      refine XT2.q (ks := []) rfl rfl rfl (Q.fieldAddr rfl) ?_
      refine XT2.st (ns := []) (ks := []) rfl rfl (by kernel_rfl) rfl rfl rfl rfl ?_
      refine XT2.q (ks := []) rfl rfl rfl (Q.fieldAddr rfl) ?_
      refine XT2.st (ns := []) (ks := []) rfl rfl (by kernel_rfl) rfl rfl rfl rfl ?_
      refine XT2.q (ks := []) rfl rfl rfl (Q.fieldAddr rfl) ?_
      refine XT2.st (ns := []) (ks := []) rfl rfl (by kernel_rfl) rfl rfl rfl rfl ?_
      refine XT2.done ?_
      refine XK.seq ?_
      refine XK.region rfl ?_
      have hin : i = h.rooms.length := by omega
      subst hin
      have tkx := pk.a.tok
      have tky := pk.b.tok
      have lexy : Ht.LeL xs ys := fun j hj => pk.le j (by omega)
      have lx := pk.a.1
      have ly := pk.b.1
      obtain ⟨ca, ea1, ea2, ea3⟩ : ∃ ca : HCase, al = ca.load ∧ min c1.out c2.out = ca.out ∧ max c1.pump c2.pump = ca.pump := ⟨⟨al, _, _⟩, rfl, rfl, rfl⟩
      obtain ⟨cb, eb1, eb2, eb3⟩ : ∃ cb : HCase, bl = cb.load ∧ max c1.out c2.out = cb.out ∧ min c1.pump c2.pump = cb.pump := ⟨⟨bl, _, _⟩, rfl, rfl, rfl⟩
      have qa : Ht.CasedOk h.rooms.length ca := ⟨by rw [← ea1]; exact pl.a, by have := q1.2.1; have := q2.2.1; omega, by have := q1.2.2; have := q2.2.2; omega⟩
      have qb : Ht.CasedOk h.rooms.length cb := ⟨by rw [← eb1]; exact pl.b, by have := q1.2.1; have := q2.2.1; omega, by have := q1.2.2; have := q2.2.2; omega⟩
      have lab : Ht.LeC ca cb := ⟨fun j hj => by rw [← ea1] at hj ⊢; rw [← eb1]; exact pl.le j (by omega), by omega, by omega⟩
      subst ea1 eb1
      rw [ea2, ea3, eb2, eb3]
      clear ea2 ea3 eb2 eb3 e5 e6 pl q1 q2 tl
      refine XO.q (Q.ldA [_, _, _] rfl rfl rfl) ?_
      refine XO.q (Q.ldA [_, _, _] rfl rfl rfl) ?_
      refine XO.q (Q.build [_, _, _, _, _, _] (.c 0 3 rfl rfl rfl (.c 3 3 rfl rfl rfl (.n _)))) ?_
      refine XO.alloc fun b17 => ?_
      refine XO.st rfl rfl rfl ?_
      refine XO.done ?_
      refine XK.seq ?_
      refine XK.region rfl ?_
      refine XO.q (Q.ldA [_, _, _, _] rfl rfl rfl) ?_
      refine XO.q (Q.move rfl) ?_
      refine XO.q (Q.move rfl) ?_
      refine XO.q (Q.ldA [_, _, _, _, _, _] rfl rfl rfl) ?_
      refine XO.call Try.call35 rfl rfl rfl (BoxT h vr vw vb vc kr kw kb kc mk.ok ca cb u1 u2 jx jy qa.cok qb.cok lab xs ys v35 v38 kx ky tkx tky lexy 3000 (by omega)) fun v137 s137 R137 => ?_
      obtain ⟨vp, vq, kp, kq, p, q, e, nn, rfl, rfl, OP, OQ, hb⟩ := R137
      dsimp only [List.cons_append, List.nil_append]
      refine XO.q (Q.move rfl) ?_
      refine XO.q (Q.extract rfl rfl) ?_
      refine XO.q (Q.extract rfl rfl) ?_
      refine XO.q (Q.extract rfl rfl) ?_
      refine XO.q (Q.extract rfl rfl) ?_
      refine XO.q (Q.assign rfl) ?_
      refine XO.q (Q.assign rfl) ?_
      refine XO.q (Q.assign rfl) ?_
      refine XO.q (Q.assign rfl) ?_
      refine XO.done ?_
      refine XK.seq ?_
      refine XK.seq ?_
      refine XK.region rfl ?_
      refine XO.q (Q.move rfl) ?_
      refine XO.q (Q.neq rfl rfl) ?_
      refine XO.done ?_
      refine XK.if rfl (fun c1 => ?_) (fun c1 => ?_)
      · have _t1 := True.intro
        obtain rfl : e = 60 := (hb.resolve_right (fun hx => c1 hx.1)).1
        refine XK.seq ?_
        refine XK.region rfl ?_
        refine XO.q (Q.move rfl) ?_
        refine XO.q (Q.eql rfl rfl) ?_
        first | rw [decide_eq_true (show (60 : Int) = (60 : Int) from rfl)] | skip
        refine XO.q (Q.move rfl) ?_
        refine XO.callS rfl rfl rfl Try.call11 rfl (.n) rfl (awake_spec) fun v147 s147 R147 => ?_
        obtain ⟨rfl, rfl⟩ := R147
        dsimp only [List.cons_append, List.nil_append]
        refine XO.q (Q.and rfl (fun _ => rfl)) ?_
        refine XO.q (Q.assign rfl) ?_
        refine XO.done ?_
        refine XK.rt [] Try.func9 Try.results9 (.t rfl .n) ?_
        exact ⟨by simp, rfl⟩
      · have _t1 := True.intro
        obtain ⟨rfl, hnn, ar, ls, z0⟩ := hb.resolve_left (fun hx => by omega)
        have lpx : Ht.LeL p xs := ar.le1
        have lyq : Ht.LeL ys q := ar.le2
        have lp := ar.t1.len
        have lq := ar.t2.len
        have lepq : Ht.LeL p q := Ht.leL_trB (Ht.leL_trB lpx lexy (by omega)) lyq (by omega)
        refine XK.skip ?_
        refine XK.seq ?_
        refine XK.region rfl ?_
        refine XO.q (Q.ldA [_, _, _, _] rfl rfl rfl) ?_
        refine XO.q (Q.move rfl) ?_
        refine XO.q (Q.move rfl) ?_
        refine XO.q (Q.ldA [_, _, _, _, _, _] rfl rfl rfl) ?_
        refine XO.call Try.call36 rfl rfl rfl (Ht.Held_spec h vr vw vb vc kr kw kb kc ca cb u1 u2 jx jy p q vp vq kp kq) fun v154 s154 R154 => ?_
        obtain ⟨rfl, rfl⟩ := R154
        dsimp only [List.cons_append, List.nil_append]
        rw [show Ht.heldG h p q ca cb = (true, 0) by
          rw [Ht.held_fine mk.ok qa.cok qb.cok lab ar.t1 ar.t2 lepq, Ht.lbelow_iff.2 ar.low, Ht.lbelow_iff.2 ar.high]; rfl]
        dsimp only
        refine XO.q (Q.move rfl) ?_
        refine XO.q (Q.extract rfl rfl) ?_
        refine XO.q (Q.extract rfl rfl) ?_
        refine XO.q (Q.assign rfl) ?_
        refine XO.q (Q.assign rfl) ?_
        refine XO.done ?_
        refine XK.seq ?_
        refine XK.seq ?_
        refine XK.region rfl ?_
        refine XO.q (Q.move rfl) ?_
        refine XO.q (Q.neq rfl rfl) ?_
        first | rw [decide_eq_false (show ¬ (0 : Int) ≠ (0 : Int) from fun h => h rfl)] | skip
        refine XO.q (Q.move rfl) ?_
        refine XO.q (Quiet.guardF rfl rfl fun g160 p160 => Q.move rfl) ?_
        refine XO.q (Quiet.guardF rfl rfl fun g161 p161 => Q.not (lzv rfl rfl)) ?_
        refine XO.q (Q.or rfl (fun hp => lzv hp rfl)) ?_
        refine XO.q (Q.move rfl) ?_
        refine XO.q (Quiet.guardF rfl rfl fun g164 p164 => Q.move rfl) ?_
        refine XO.q (Quiet.guardF rfl rfl fun g165 p165 => Q.lss (lzv rfl rfl) rfl) ?_
        rw [decide_eq_false (show ¬ ((nn : Nat) : Int) < 0 by omega)]
        refine XO.q (Q.or rfl (fun hp => lzv hp rfl)) ?_
        refine XO.q (Q.move rfl) ?_
        refine XO.q (Quiet.guardF rfl rfl fun g168 p168 => Q.move rfl) ?_
        refine XO.q (Quiet.guardF rfl rfl fun g169 p169 => Q.geq (lzv rfl rfl) rfl) ?_
        rw [decide_eq_false (show ¬ (3000 : Int) ≤ ((nn : Nat) : Int) by omega)]
        refine XO.q (Q.or rfl (fun hp => lzv hp rfl)) ?_
        refine XO.done ?_
        refine XK.if rfl (fun c2 => ?_) (fun c2 => ?_)
        · have _t2 := True.intro
          simp at c2
        · have _t2 := True.intro
          refine XK.skip ?_
          refine XK.seq ?_
          refine XK.seq ?_
          refine XK.region rfl ?_
          refine XO.q (Q.move rfl) ?_
          refine XO.len rfl fun l172 => ?_
          refine XO.q (Q.move rfl) ?_
          refine XO.done ?_
          refine XK.block ?_
          refine XK.while (X := Nat) [10, 23, 173, 174, 175, 176, 177, 178, 179, 180, 181, 182, 183, 184, 185, 186, 187, 188, 189, 190, 191, 192, 193, 194, 195, 196] (fun j => [(173, some (.int .i64 (j : Nat)))]) (fun j => []) (fun j => j ≤ h.rooms.length) (fun j => h.rooms.length - j) (0) [] rfl (by omega) (.c rfl (.base 0 rfl rfl)) ?_
          rintro j hj ih1
          dsimp only [List.cons_append, List.nil_append] at ih1 ⊢
          refine XK.seq ?_
          refine XK.region rfl ?_
          refine XO.q (Q.lss rfl rfl) ?_
          refine XO.done ?_
          refine XK.seq ?_
          refine XK.if rfl (fun c3 => ?_) (fun c3 => ?_)
          · have _t3 := True.intro
            have s1 := lpx j (by omega)
            have s2 := lyq j (by omega)
            change p.getD j default ≤ xs.getD j default at s1
            change ys.getD j default ≤ q.getD j default at s2
            refine XK.skip ?_
            refine XK.seq ?_
            refine XK.block ?_
            refine XK.seq ?_
            refine XK.region rfl ?_
            refine XO.q (Q.move rfl) ?_
            refine XO.q (Q.assign rfl) ?_
            refine XO.done ?_
            refine XK.seq ?_
            refine XK.drawn [0, 1, 2, 3, 4, 5, 6, 7, 8, 9, 10, 11, 12, 13, 14, 15, 16, 17, 18, 19] [] [kp, kx, kq, ky] (.q 0 (.q 1 (.q 2 (.q 3 (.q 4 (.q 5 (.q 6 (.q 7 (.q 8 (.q 9 (.q 10 (.q 11 (.q 12 (.q 13 (.q 14 (.q 15 (.q 16 (.q 17 (.q 18 (.q 19 .done)))))))))))))))))))) Try.mixed rfl (by kernel_rfl) ?_
            refine XT.q rfl rfl (Q.move rfl) ?_
            refine XT.q rfl rfl (Q.move rfl) ?_
            refine XT.ix rfl rfl rfl rfl (by omega) (by omega) fun i178 => ?_
            refine XT.q rfl rfl (Q.ldE rfl (by first | assumption | omega) rfl) ?_
            refine XT.q rfl rfl (Q.move rfl) ?_
            refine XT.q rfl rfl (Q.move rfl) ?_
            refine XT.ix rfl rfl rfl rfl (by omega) (by omega) fun i182 => ?_
            refine XT.q rfl rfl (Q.ldE rfl (by first | assumption | omega) rfl) ?_
            refine XT.q rfl rfl (Q.gtr rfl rfl) ?_
            rw [decide_eq_false (show ¬ xs.getD j default < p.getD j default by omega)]
            refine XT.q rfl rfl (Q.move rfl) ?_
            refine XT.q rfl rfl (Quiet.guardF rfl rfl fun g186 p186 => Q.move rfl) ?_
            refine XT.q rfl rfl (Quiet.guardF rfl rfl fun g187 p187 => Q.move rfl) ?_
            refine XT.q rfl rfl (Quiet.guardF rfl rfl fun g188 p188 => Q.ix (lzv rfl rfl) (lzv rfl rfl) (by omega) (by omega)) ?_
            refine XT.q rfl rfl (Quiet.guardF rfl rfl fun g189 p189 => Q.ldE (lzv rfl rfl) (by first | assumption | omega) rfl) ?_
            refine XT.q rfl rfl (Quiet.guardF rfl rfl fun g190 p190 => Q.move rfl) ?_
            refine XT.q rfl rfl (Quiet.guardF rfl rfl fun g191 p191 => Q.move rfl) ?_
            refine XT.q rfl rfl (Quiet.guardF rfl rfl fun g192 p192 => Q.ix (lzv rfl rfl) (lzv rfl rfl) (by omega) (by omega)) ?_
            refine XT.q rfl rfl (Quiet.guardF rfl rfl fun g193 p193 => Q.ldE (lzv rfl rfl) (by first | assumption | omega) rfl) ?_
            refine XT.q rfl rfl (Quiet.guardF rfl rfl fun g194 p194 => Q.lss (lzv rfl rfl) (lzv rfl rfl)) ?_
            rw [decide_eq_false (show ¬ q.getD j default < ys.getD j default by omega)]
            refine XT.q rfl rfl (Q.or rfl (fun hp => lzv hp rfl)) ?_
            refine XT.done ?_
            refine XK.if rfl (fun c4 => ?_) (fun c4 => ?_)
            · have _t4 := True.intro
              simp at c4
            · have _t4 := True.intro
              refine XK.skip ?_
              refine XK.inBlock ?_
              refine XK.region rfl ?_
              refine XO.q (Q.add rfl rfl ⟨by omega, by omega⟩) ?_
              refine XO.q (Q.move rfl) ?_
              refine XO.done ?_
              exact ih1 (j + 1) _ _ (by omega) (by first | omega | (dsimp only; omega)) (.c rfl (.base 52 rfl rfl)) inferInstance
          · have _t3 := True.intro
            refine XK.exit rfl ?_
            refine XK.seq ?_
            refine XK.region rfl ?_
            refine XO.q (Q.ldA [_, _, _, _] rfl rfl rfl) ?_
            refine XO.q (Q.move rfl) ?_
            refine XO.q (Q.move rfl) ?_
            refine XO.q (Q.ldA [_, _, _, _, _, _] rfl rfl rfl) ?_
            refine XO.call Try.call35 rfl rfl rfl (BoxT h vr vw vb vc kr kw kb kc mk.ok ca cb u1 u2 jx jy qa.cok qb.cok lab p q vp vq kp kq ar.t1 ar.t2 lepq 1 (by omega)) fun v202 s202 R202 => ?_
            obtain ⟨vp2, vq2, kp2, kq2, p2, q2, e2, nn2, rfl, rfl, OP2, OQ2, hb2⟩ := R202
            dsimp only [List.cons_append, List.nil_append]
            obtain ⟨rfl, hn2, ar2, ls2, z2⟩ := hb2.resolve_left (fun hx => hx.2 (by omega) ar.self)
            obtain rfl : nn2 = 0 := z2 ar.self
            obtain ⟨e1, e2⟩ := Ht.own_box ar2 ls2 ar.self
            rw [e1] at OP2
            rw [e2] at OQ2
            refine XO.q (Q.move rfl) ?_
            refine XO.q (Q.extract rfl rfl) ?_
            refine XO.q (Q.extract rfl rfl) ?_
            refine XO.q (Q.extract rfl rfl) ?_
            refine XO.q (Q.extract rfl rfl) ?_
            refine XO.q (Q.assign rfl) ?_
            refine XO.q (Q.assign rfl) ?_
            refine XO.q (Q.assign rfl) ?_
            refine XO.q (Q.assign rfl) ?_
            refine XO.done ?_
            refine XK.seq ?_
            refine XK.seq ?_
            refine XK.region rfl ?_
            refine XO.q (Q.move rfl) ?_
            refine XO.q (Q.neq rfl rfl) ?_
            first | rw [decide_eq_false (show ¬ (0 : Int) ≠ (0 : Int) from fun h => h rfl)] | skip
            refine XO.q (Q.move rfl) ?_
            refine XO.q (Quiet.guardF rfl rfl fun g210 p210 => Q.move rfl) ?_
            refine XO.q (Quiet.guardF rfl rfl fun g211 p211 => Q.neq (lzv rfl rfl) rfl) ?_
            first | rw [decide_eq_false (show ¬ (((0 : Nat) : Int) ≠ 0) from fun h => h rfl)] | skip
            refine XO.q (Q.or rfl (fun hp => lzv hp rfl)) ?_
            refine XO.q (Q.move rfl) ?_
            refine XO.q (Quiet.guardF rfl rfl fun g214 p214 => Q.move rfl) ?_
            refine XO.q (Quiet.guardF rfl rfl fun g215 p215 => Q.move rfl) ?_
            refine XO.callS rfl rfl rfl Try.call37 rfl (.c (lzv rfl rfl) (.c (lzv rfl rfl) .n)) rfl (equalI vp2 vp kp2 kp p p) fun v216 s216 R216 => ?_
            obtain ⟨rfl, rfl⟩ := R216
            dsimp only [List.cons_append, List.nil_append]
            rw [decide_eq_true (show p = p from rfl)]
            refine XO.q (Quiet.guardF rfl rfl fun g217 p217 => Q.not rfl) ?_
            refine XO.q (Q.or rfl (fun hp => lzv hp rfl)) ?_
            refine XO.q (Q.move rfl) ?_
            refine XO.q (Quiet.guardF rfl rfl fun g220 p220 => Q.move rfl) ?_
            refine XO.q (Quiet.guardF rfl rfl fun g221 p221 => Q.move rfl) ?_
            refine XO.callS rfl rfl rfl Try.call37 rfl (.c (lzv rfl rfl) (.c (lzv rfl rfl) .n)) rfl (equalI vq2 vq kq2 kq q q) fun v222 s222 R222 => ?_
            obtain ⟨rfl, rfl⟩ := R222
            dsimp only [List.cons_append, List.nil_append]
            rw [decide_eq_true (show q = q from rfl)]
            refine XO.q (Quiet.guardF rfl rfl fun g223 p223 => Q.not rfl) ?_
            refine XO.q (Q.or rfl (fun hp => lzv hp rfl)) ?_
            refine XO.done ?_
            refine XK.if rfl (fun c5 => ?_) (fun c5 => ?_)
            · have _t5 := True.intro
              simp at c5
            · have _t5 := True.intro
              refine XK.skip ?_
              refine XK.seq ?_
              refine XK.region rfl ?_
              refine XO.q (Q.move rfl) ?_
              refine XO.call Try.call25 rfl rfl rfl (cloneI v35 kx xs (by omega)) fun v226 s226 R226 => ?_
              obtain ⟨k226, rfl, O226⟩ := R226
              dsimp only [List.cons_append, List.nil_append]
              refine XO.q (Q.move rfl) ?_
              refine XO.call Try.call25 rfl rfl rfl (cloneI v38 ky ys (by omega)) fun v228 s228 R228 => ?_
              obtain ⟨k228, rfl, O228⟩ := R228
              dsimp only [List.cons_append, List.nil_append]
              refine XO.q (Q.assign rfl) ?_
              refine XO.q (Q.assign rfl) ?_
              refine XO.done ?_
              refine XK.seq ?_
              refine XK.seq ?_
              refine XK.region rfl ?_
              refine XO.q (Q.move rfl) ?_
              refine XO.len rfl fun l230 => ?_
              refine XO.q (Q.move rfl) ?_
              refine XO.done ?_
              refine XK.block ?_
              refine XK.while (X := Nat × PHeap × PHeap × List Int × List Int) [29, 231, 232, 233, 234, 235, 236, 237, 238, 239, 240, 241, 242, 243, 244, 245, 246, 247, 248, 249, 250, 251, 252, 253, 254, 255] (fun ⟨i, kw2, kf2, wd, fr⟩ => [(231, some (.int .i64 (i : Nat)))]) (fun ⟨i, kw2, kf2, wd, fr⟩ => [kw2, kf2]) (fun ⟨i, kw2, kf2, wd, fr⟩ => i ≤ h.rooms.length ∧ WideTo h xs ys wd fr ∧ OArr v226 encI 1 3 kw2 wd ∧ OArr v228 encI 1 3 kf2 fr) (fun ⟨i, kw2, kf2, wd, fr⟩ => h.rooms.length - i) (0, k226, k228, xs, ys) [k226, k228] rfl ⟨by omega, ⟨tkx, tky, fun i _ => Int.le_refl _, fun i _ => Int.le_refl _⟩, O226, O228⟩ (.c rfl (.base 0 rfl rfl)) ?_
              rintro ⟨i, kw2, kf2, wd, fr⟩ ⟨hi, wt, OW, OF⟩ ih2
              dsimp only [List.cons_append, List.nil_append] at ih2 ⊢
              refine XK.seq ?_
              refine XK.region rfl ?_
              refine XO.q (Q.lss rfl rfl) ?_
              refine XO.done ?_
              refine XK.seq ?_
              refine XK.if rfl (fun c6 => ?_) (fun c6 => ?_)
              · have _t6 := True.intro
                have lw := wt.t1.len
                have lf := wt.t2.len
                have s3 := wt.t1.rng i (by omega)
                have s4 := wt.t2.rng i (by omega)
                change 0 ≤ wd.getD i default ∧ wd.getD i default ≤ _ at s3
                change 0 ≤ fr.getD i default ∧ fr.getD i default ≤ _ at s4
                refine XK.skip ?_
                refine XK.seq ?_
                refine XK.block ?_
                refine XK.seq ?_
                refine XK.region rfl ?_
                refine XO.q (Q.move rfl) ?_
                refine XO.q (Q.assign rfl) ?_
                refine XO.done ?_
                refine XK.draw2 [(0, []), (1, []), (2, []), (3, []), (4, []), (5, []), (6, []), (7, [0]), (8, []), (9, []), (10, []), (11, []), (12, []), (13, []), (14, []), (15, []), (16, [1]), (17, []), (18, []), (19, []), (21, [])] [kw2, kf2] (.q 0 (.q 1 (.q 2 (.q 3 (.q 4 (.q 5 (.q 6 (.q 7 (.q 8 (.q 9 (.q 10 (.q 11 (.q 12 (.q 13 (.q 14 (.q 15 (.q 16 (.q 17 (.q 18 (.q 19 (.br 20 true (.q 21 (.br 22 true .done .stop)) .stop))))))))))))))))))))) Try.mixed rfl (by kernel_rfl) (by rfl) ?_
                refine XT2.q (ks := []) rfl rfl rfl (Q.move rfl) ?_
                refine XT2.q (ks := []) rfl rfl rfl (Q.move rfl) ?_
                refine XT2.q (ks := []) rfl rfl rfl (Q.move rfl) ?_
                refine XT2.q (ks := []) rfl rfl rfl (Q.move rfl) ?_
                refine XT2.q (ks := []) rfl rfl rfl (Q.move rfl) ?_
                refine XT2.q (ks := []) rfl rfl rfl (Q.move rfl) ?_
                refine XT2.ix rfl rfl rfl rfl (by omega) (by omega) fun i240 => ?_
                refine XT2.q (ks := [kw2]) rfl rfl rfl (Q.ldE rfl (by first | assumption | omega) rfl) ?_
                refine XT2.q (ks := []) rfl rfl rfl (Q.move rfl) ?_
                refine XT2.q (ks := []) rfl rfl rfl (Q.add rfl rfl ⟨by omega, by omega⟩) ?_
                refine XT2.q (ks := []) rfl rfl rfl (Q.mul rfl rfl ⟨by omega, by omega⟩) ?_
                refine XT2.q (ks := []) rfl rfl rfl (Q.sub rfl rfl ⟨by omega, by omega⟩) ?_
                refine XT2.q (ks := []) rfl rfl rfl (Q.max rfl rfl) ?_
                refine XT2.q (ks := []) rfl rfl rfl (Q.move rfl) ?_
                refine XT2.q (ks := []) rfl rfl rfl (Q.move rfl) ?_
                refine XT2.ix rfl rfl rfl rfl (by omega) (by omega) fun i249 => ?_
                refine XT2.q (ks := [kf2]) rfl rfl rfl (Q.ldE rfl (by first | assumption | omega) rfl) ?_
                refine XT2.q (ks := []) rfl rfl rfl (Q.add rfl rfl ⟨by omega, by omega⟩) ?_
                refine XT2.q (ks := []) rfl rfl rfl (Q.min rfl rfl) ?_
                refine XT2.ix rfl rfl rfl rfl (by omega) (by omega) fun i253 => ?_
                refine XT2.stE (ns := []) (ks := []) _ rfl rfl (by kernel_rfl) rfl rfl rfl rfl (by assumption) rfl rfl fun h31_20 O31_20 => ?_
                refine XT2.ix rfl rfl rfl rfl (by omega) (by omega) fun i254 => ?_
                refine XT2.stE (ns := []) (ks := []) _ rfl rfl (by kernel_rfl) rfl rfl rfl rfl (by assumption) rfl rfl fun h31_22 O31_22 => ?_
                refine XT2.done ?_
                refine XK.inBlock ?_
                refine XK.region rfl ?_
                refine XO.q (Q.add rfl rfl ⟨by omega, by omega⟩) ?_
                refine XO.q (Q.move rfl) ?_
                refine XO.done ?_
                exact ih2 (i + 1, h31_20, h31_22, _, _) _ _ ⟨by dsimp only; omega, wt.step tkx tky (by omega), O31_20, O31_22⟩ (by first | omega | (dsimp only; omega)) (.c rfl (.base 53 rfl rfl)) inferInstance
              · have _t6 := True.intro
                have lw := wt.t1.len
                have lf := wt.t2.len
                have lewf : Ht.LeL wd fr := Ht.leL_trB (Ht.leL_trB wt.l1 lexy (by omega)) wt.l2 (by omega)
                refine XK.exit rfl ?_
                refine XK.seq ?_
                refine XK.region rfl ?_
                refine XO.q (Q.ldA [_, _, _, _] rfl rfl rfl) ?_
                refine XO.q (Q.move rfl) ?_
                refine XO.q (Q.move rfl) ?_
                refine XO.q (Q.ldA [_, _, _, _, _, _] rfl rfl rfl) ?_
                refine XO.call Try.call35 rfl rfl rfl (BoxT h vr vw vb vc kr kw kb kc mk.ok ca cb u1 u2 jx jy qa.cok qb.cok lab wd fr v226 v228 kw2 kf2 wt.t1 wt.t2 lewf 3000 (by omega)) fun v261 s261 R261 => ?_
                obtain ⟨vP, vQ, kP, kQ, PP, QQ, e3, n3, rfl, rfl, OP3, OQ3, hb3⟩ := R261
                dsimp only [List.cons_append, List.nil_append]
                refine XO.q (Q.move rfl) ?_
                refine XO.q (Q.extract rfl rfl) ?_
                refine XO.q (Q.extract rfl rfl) ?_
                refine XO.q (Q.extract rfl rfl) ?_
                refine XO.q (Q.extract rfl rfl) ?_
                refine XO.q (Q.assign rfl) ?_
                refine XO.q (Q.assign rfl) ?_
                refine XO.q (Q.assign rfl) ?_
                refine XO.done ?_
                refine XK.seq ?_
                refine XK.seq ?_
                refine XK.region rfl ?_
                refine XO.q (Q.move rfl) ?_
                refine XO.q (Q.neq rfl rfl) ?_
                refine XO.done ?_
                refine XK.if rfl (fun c7 => ?_) (fun c7 => ?_)
                · have _t7 := True.intro
                  obtain rfl : e3 = 60 := (hb3.resolve_right (fun hx => c7 hx.1)).1
                  refine XK.seq ?_
                  refine XK.region rfl ?_
                  refine XO.q (Q.move rfl) ?_
                  refine XO.q (Q.eql rfl rfl) ?_
                  first | rw [decide_eq_true (show (60 : Int) = (60 : Int) from rfl)] | skip
                  refine XO.q (Q.move rfl) ?_
                  refine XO.callS rfl rfl rfl Try.call11 rfl (.n) rfl (awake_spec) fun v271 s271 R271 => ?_
                  obtain ⟨rfl, rfl⟩ := R271
                  dsimp only [List.cons_append, List.nil_append]
                  refine XO.q (Q.and rfl (fun _ => rfl)) ?_
                  refine XO.q (Q.assign rfl) ?_
                  refine XO.done ?_
                  refine XK.rt [] Try.func9 Try.results9 (.t rfl .n) ?_
                  exact ⟨by simp, rfl⟩
                · have _t7 := True.intro
                  obtain ⟨rfl, hn3, ar3, ls3, z3⟩ := hb3.resolve_left (fun hx => by omega)
                  obtain ⟨wp, wq⟩ := Ht.wide_box tkx tky wt.t1 wt.t2 ls ar3 wt.l1 wt.l2
                  have lP := ar3.t1.len
                  have lQ := ar3.t2.len
                  refine XK.skip ?_
                  refine XK.seq ?_
                  refine XK.seq ?_
                  refine XK.region rfl ?_
                  refine XO.q (Q.move rfl) ?_
                  refine XO.len rfl fun l274 => ?_
                  refine XO.q (Q.move rfl) ?_
                  refine XO.done ?_
                  refine XK.block ?_
                  refine XK.while (X := Nat) [10, 30, 275, 276, 277, 278, 279, 280, 281, 282, 283, 284, 285, 286, 287, 288, 289, 290, 291, 292, 293, 294, 295, 296, 297, 298] (fun j => [(275, some (.int .i64 (j : Nat)))]) (fun j => []) (fun j => j ≤ h.rooms.length) (fun j => h.rooms.length - j) (0) [] rfl (by omega) (.c rfl (.base 0 rfl rfl)) ?_
                  rintro j hj ih3
                  dsimp only [List.cons_append, List.nil_append] at ih3 ⊢
                  refine XK.seq ?_
                  refine XK.region rfl ?_
                  refine XO.q (Q.lss rfl rfl) ?_
                  refine XO.done ?_
                  refine XK.seq ?_
                  refine XK.if rfl (fun c8 => ?_) (fun c8 => ?_)
                  · have _t8 := True.intro
                    have s1 := wp j (by omega)
                    have s2 := wq j (by omega)
                    change PP.getD j default ≤ p.getD j default at s1
                    change q.getD j default ≤ QQ.getD j default at s2
                    refine XK.skip ?_
                    refine XK.seq ?_
                    refine XK.block ?_
                    refine XK.seq ?_
                    refine XK.region rfl ?_
                    refine XO.q (Q.move rfl) ?_
                    refine XO.q (Q.assign rfl) ?_
                    refine XO.done ?_
                    refine XK.seq ?_
                    refine XK.drawn [0, 1, 2, 3, 4, 5, 6, 7, 8, 9, 10, 11, 12, 13, 14, 15, 16, 17, 18, 19] [] [kP, kp, kQ, kq] (.q 0 (.q 1 (.q 2 (.q 3 (.q 4 (.q 5 (.q 6 (.q 7 (.q 8 (.q 9 (.q 10 (.q 11 (.q 12 (.q 13 (.q 14 (.q 15 (.q 16 (.q 17 (.q 18 (.q 19 .done)))))))))))))))))))) Try.mixed rfl (by kernel_rfl) ?_
                    refine XT.q rfl rfl (Q.move rfl) ?_
                    refine XT.q rfl rfl (Q.move rfl) ?_
                    refine XT.ix rfl rfl rfl rfl (by omega) (by omega) fun i280 => ?_
                    refine XT.q rfl rfl (Q.ldE rfl (by first | assumption | omega) rfl) ?_
                    refine XT.q rfl rfl (Q.move rfl) ?_
                    refine XT.q rfl rfl (Q.move rfl) ?_
                    refine XT.ix rfl rfl rfl rfl (by omega) (by omega) fun i284 => ?_
                    refine XT.q rfl rfl (Q.ldE rfl (by first | assumption | omega) rfl) ?_
                    refine XT.q rfl rfl (Q.gtr rfl rfl) ?_
                    rw [decide_eq_false (show ¬ p.getD j default < PP.getD j default by omega)]
                    refine XT.q rfl rfl (Q.move rfl) ?_
                    refine XT.q rfl rfl (Quiet.guardF rfl rfl fun g288 p288 => Q.move rfl) ?_
                    refine XT.q rfl rfl (Quiet.guardF rfl rfl fun g289 p289 => Q.move rfl) ?_
                    refine XT.q rfl rfl (Quiet.guardF rfl rfl fun g290 p290 => Q.ix (lzv rfl rfl) (lzv rfl rfl) (by omega) (by omega)) ?_
                    refine XT.q rfl rfl (Quiet.guardF rfl rfl fun g291 p291 => Q.ldE (lzv rfl rfl) (by first | assumption | omega) rfl) ?_
                    refine XT.q rfl rfl (Quiet.guardF rfl rfl fun g292 p292 => Q.move rfl) ?_
                    refine XT.q rfl rfl (Quiet.guardF rfl rfl fun g293 p293 => Q.move rfl) ?_
                    refine XT.q rfl rfl (Quiet.guardF rfl rfl fun g294 p294 => Q.ix (lzv rfl rfl) (lzv rfl rfl) (by omega) (by omega)) ?_
                    refine XT.q rfl rfl (Quiet.guardF rfl rfl fun g295 p295 => Q.ldE (lzv rfl rfl) (by first | assumption | omega) rfl) ?_
                    refine XT.q rfl rfl (Quiet.guardF rfl rfl fun g296 p296 => Q.lss (lzv rfl rfl) (lzv rfl rfl)) ?_
                    rw [decide_eq_false (show ¬ QQ.getD j default < q.getD j default by omega)]
                    refine XT.q rfl rfl (Q.or rfl (fun hp => lzv hp rfl)) ?_
                    refine XT.done ?_
                    refine XK.if rfl (fun c9 => ?_) (fun c9 => ?_)
                    · have _t9 := True.intro
                      simp at c9
                    · have _t9 := True.intro
                      refine XK.skip ?_
                      refine XK.inBlock ?_
                      refine XK.region rfl ?_
                      refine XO.q (Q.add rfl rfl ⟨by omega, by omega⟩) ?_
                      refine XO.q (Q.move rfl) ?_
                      refine XO.done ?_
                      exact ih3 (j + 1) _ _ (by omega) (by first | omega | (dsimp only; omega)) (.c rfl (.base 52 rfl rfl)) inferInstance
                  · have _t8 := True.intro
                    refine XK.exit rfl ?_
                    refine XK.seq ?_
                    refine XK.region rfl ?_
                    refine XO.call Try.call11 rfl rfl rfl (awake_spec) fun v299 s299 R299 => ?_
                    obtain ⟨rfl, rfl⟩ := R299
                    dsimp only [List.cons_append, List.nil_append]
                    refine XO.q (Q.assign rfl) ?_
                    refine XO.done ?_
                    refine XK.rt [] Try.func9 Try.results9 (.t rfl .n) ?_
                    exact ⟨by simp, rfl⟩
  · intro mtr3
    dsimp only [List.cons_append, List.nil_append] at mtr3
    refine XK.drawn [0, 1, 3, 4] [b11] [] (.q 0 (.q 1 (.q 3 (.q 4 (.br 2 true (.br 5 true (.br 6 true (.br 7 true (.br 8 true (.br 9 false .done .stop) .stop) .stop) (.br 7 true (.br 6 true (.br 8 true (.br 9 false .done .stop) .stop) .stop) .stop)) (.br 6 true (.br 5 true (.br 7 true (.br 8 true (.br 9 false .done .stop) .stop) .stop) (.br 7 true (.br 5 true (.br 8 true (.br 9 false .done .stop) .stop) .stop) .stop)) (.br 7 true (.br 5 true (.br 6 true (.br 8 true (.br 9 false .done .stop) .stop) .stop) (.br 6 true (.br 5 true (.br 8 true (.br 9 false .done .stop) .stop) .stop) .stop)) .stop))) (.br 6 true (.br 2 true (.br 5 true (.br 7 true (.br 8 true (.br 9 false .done .stop) .stop) .stop) (.br 7 true (.br 5 true (.br 8 true (.br 9 false .done .stop) .stop) .stop) .stop)) (.br 7 true (.br 2 true (.br 5 true (.br 8 true (.br 9 false .done .stop) .stop) .stop) .stop) .stop)) (.br 7 true (.br 2 true (.br 5 true (.br 6 true (.br 8 true (.br 9 false .done .stop) .stop) .stop) (.br 6 true (.br 5 true (.br 8 true (.br 9 false .done .stop) .stop) .stop) .stop)) (.br 6 true (.br 2 true (.br 5 true (.br 8 true (.br 9 false .done .stop) .stop) .stop) .stop) .stop)) .stop))))))) Try.mixed rfl (by kernel_rfl) ?_
    refine XT.q rfl rfl (Q.ldA [_, _, _, _] rfl rfl rfl) ?_
    refine XT.q rfl rfl (Q.move rfl) ?_
    refine XT.q rfl rfl (Q.ldA [_, _, _, _] rfl rfl rfl) ?_
    refine XT.q rfl rfl (Q.move rfl) ?_
    refine XT.call rfl rfl Try.call34 rfl rfl rfl (Ht.cased_made vr vw vb vc kr h.rooms r2 v3 h3 x3) (fun v41 s41 R41 => ?_) ?_
    · skip
      obtain ⟨c41, u41, k41, rfl, rfl, O41, q41⟩ := R41
      dsimp only [List.cons_append, List.nil_append]
      refine ⟨inferInstance, ?_⟩
      refine XT.call rfl rfl Try.call34 rfl rfl rfl (Ht.cased_made vr vw vb vc kr h.rooms r2 v4 h4 x4) (fun v44 s44 R44 => ?_) ?_
      · skip
        obtain ⟨c44, u44, k44, rfl, rfl, O44, q44⟩ := R44
        dsimp only [List.cons_append, List.nil_append]
        refine ⟨inferInstance, ?_⟩
        refine XT.alloc rfl rfl (fun b14 => ⟨inferInstance, ?_⟩) ?_
        · skip
          refine XT.alloc rfl rfl (fun b15 => ⟨inferInstance, ?_⟩) XT.stop
          refine XT.st rfl rfl rfl rfl rfl ⟨inferInstance, ?_⟩ XT.stop
          refine XT.st rfl rfl rfl rfl rfl ⟨inferInstance, ?_⟩ XT.stop
          refine XT.done ?_
          exact mtr3 ((c41, u41, k41, c44, u44, k44, b14, b15)) _ _ ⟨O41, O44, q41, q44⟩ (.c rfl (.c rfl (.base 8 rfl rfl))) inferInstance
        · skip
          refine XT.alloc rfl rfl (fun b15 => ⟨inferInstance, ?_⟩) XT.stop
          refine XT.alloc rfl rfl (fun b14 => ⟨inferInstance, ?_⟩) XT.stop
          refine XT.st rfl rfl rfl rfl rfl ⟨inferInstance, ?_⟩ XT.stop
          refine XT.st rfl rfl rfl rfl rfl ⟨inferInstance, ?_⟩ XT.stop
          refine XT.done ?_
          exact mtr3 ((c41, u41, k41, c44, u44, k44, b14, b15)) _ _ ⟨O41, O44, q41, q44⟩ (.c rfl (.c rfl (.base 8 rfl rfl))) inferInstance
      · skip
        refine XT.alloc rfl rfl (fun b14 => ⟨inferInstance, ?_⟩) ?_
        · skip
          refine XT.call rfl rfl Try.call34 rfl rfl rfl (Ht.cased_made vr vw vb vc kr h.rooms r2 v4 h4 x4) (fun v44 s44 R44 => ?_) ?_
          · skip
            obtain ⟨c44, u44, k44, rfl, rfl, O44, q44⟩ := R44
            dsimp only [List.cons_append, List.nil_append]
            refine ⟨inferInstance, ?_⟩
            refine XT.alloc rfl rfl (fun b15 => ⟨inferInstance, ?_⟩) XT.stop
            refine XT.st rfl rfl rfl rfl rfl ⟨inferInstance, ?_⟩ XT.stop
            refine XT.st rfl rfl rfl rfl rfl ⟨inferInstance, ?_⟩ XT.stop
            refine XT.done ?_
            exact mtr3 ((c41, u41, k41, c44, u44, k44, b14, b15)) _ _ ⟨O41, O44, q41, q44⟩ (.c rfl (.c rfl (.base 8 rfl rfl))) inferInstance
          · skip
            refine XT.alloc rfl rfl (fun b15 => ⟨inferInstance, ?_⟩) XT.stop
            refine XT.call rfl rfl Try.call34 rfl rfl rfl (Ht.cased_made vr vw vb vc kr h.rooms r2 v4 h4 x4) (fun v44 s44 R44 => ?_) XT.stop
            obtain ⟨c44, u44, k44, rfl, rfl, O44, q44⟩ := R44
            dsimp only [List.cons_append, List.nil_append]
            refine ⟨inferInstance, ?_⟩
            refine XT.st rfl rfl rfl rfl rfl ⟨inferInstance, ?_⟩ XT.stop
            refine XT.st rfl rfl rfl rfl rfl ⟨inferInstance, ?_⟩ XT.stop
            refine XT.done ?_
            exact mtr3 ((c41, u41, k41, c44, u44, k44, b14, b15)) _ _ ⟨O41, O44, q41, q44⟩ (.c rfl (.c rfl (.base 8 rfl rfl))) inferInstance
        · skip
          refine XT.alloc rfl rfl (fun b15 => ⟨inferInstance, ?_⟩) XT.stop
          refine XT.call rfl rfl Try.call34 rfl rfl rfl (Ht.cased_made vr vw vb vc kr h.rooms r2 v4 h4 x4) (fun v44 s44 R44 => ?_) ?_
          · skip
            obtain ⟨c44, u44, k44, rfl, rfl, O44, q44⟩ := R44
            dsimp only [List.cons_append, List.nil_append]
            refine ⟨inferInstance, ?_⟩
            refine XT.alloc rfl rfl (fun b14 => ⟨inferInstance, ?_⟩) XT.stop
            refine XT.st rfl rfl rfl rfl rfl ⟨inferInstance, ?_⟩ XT.stop
            refine XT.st rfl rfl rfl rfl rfl ⟨inferInstance, ?_⟩ XT.stop
            refine XT.done ?_
            exact mtr3 ((c41, u41, k41, c44, u44, k44, b14, b15)) _ _ ⟨O41, O44, q41, q44⟩ (.c rfl (.c rfl (.base 8 rfl rfl))) inferInstance
          · skip
            refine XT.alloc rfl rfl (fun b14 => ⟨inferInstance, ?_⟩) XT.stop
            refine XT.call rfl rfl Try.call34 rfl rfl rfl (Ht.cased_made vr vw vb vc kr h.rooms r2 v4 h4 x4) (fun v44 s44 R44 => ?_) XT.stop
            obtain ⟨c44, u44, k44, rfl, rfl, O44, q44⟩ := R44
            dsimp only [List.cons_append, List.nil_append]
            refine ⟨inferInstance, ?_⟩
            refine XT.st rfl rfl rfl rfl rfl ⟨inferInstance, ?_⟩ XT.stop
            refine XT.st rfl rfl rfl rfl rfl ⟨inferInstance, ?_⟩ XT.stop
            refine XT.done ?_
            exact mtr3 ((c41, u41, k41, c44, u44, k44, b14, b15)) _ _ ⟨O41, O44, q41, q44⟩ (.c rfl (.c rfl (.base 8 rfl rfl))) inferInstance
    · skip
      refine XT.alloc rfl rfl (fun b14 => ⟨inferInstance, ?_⟩) ?_
      · skip
        refine XT.call rfl rfl Try.call34 rfl rfl rfl (Ht.cased_made vr vw vb vc kr h.rooms r2 v3 h3 x3) (fun v41 s41 R41 => ?_) ?_
        · skip
          obtain ⟨c41, u41, k41, rfl, rfl, O41, q41⟩ := R41
          dsimp only [List.cons_append, List.nil_append]
          refine ⟨inferInstance, ?_⟩
          refine XT.call rfl rfl Try.call34 rfl rfl rfl (Ht.cased_made vr vw vb vc kr h.rooms r2 v4 h4 x4) (fun v44 s44 R44 => ?_) ?_
          · skip
            obtain ⟨c44, u44, k44, rfl, rfl, O44, q44⟩ := R44
            dsimp only [List.cons_append, List.nil_append]
            refine ⟨inferInstance, ?_⟩
            refine XT.alloc rfl rfl (fun b15 => ⟨inferInstance, ?_⟩) XT.stop
            refine XT.st rfl rfl rfl rfl rfl ⟨inferInstance, ?_⟩ XT.stop
            refine XT.st rfl rfl rfl rfl rfl ⟨inferInstance, ?_⟩ XT.stop
            refine XT.done ?_
            exact mtr3 ((c41, u41, k41, c44, u44, k44, b14, b15)) _ _ ⟨O41, O44, q41, q44⟩ (.c rfl (.c rfl (.base 8 rfl rfl))) inferInstance
          · skip
            refine XT.alloc rfl rfl (fun b15 => ⟨inferInstance, ?_⟩) XT.stop
            refine XT.call rfl rfl Try.call34 rfl rfl rfl (Ht.cased_made vr vw vb vc kr h.rooms r2 v4 h4 x4) (fun v44 s44 R44 => ?_) XT.stop
            obtain ⟨c44, u44, k44, rfl, rfl, O44, q44⟩ := R44
            dsimp only [List.cons_append, List.nil_append]
            refine ⟨inferInstance, ?_⟩
            refine XT.st rfl rfl rfl rfl rfl ⟨inferInstance, ?_⟩ XT.stop
            refine XT.st rfl rfl rfl rfl rfl ⟨inferInstance, ?_⟩ XT.stop
            refine XT.done ?_
            exact mtr3 ((c41, u41, k41, c44, u44, k44, b14, b15)) _ _ ⟨O41, O44, q41, q44⟩ (.c rfl (.c rfl (.base 8 rfl rfl))) inferInstance
        · skip
          refine XT.alloc rfl rfl (fun b15 => ⟨inferInstance, ?_⟩) XT.stop
          refine XT.call rfl rfl Try.call34 rfl rfl rfl (Ht.cased_made vr vw vb vc kr h.rooms r2 v3 h3 x3) (fun v41 s41 R41 => ?_) XT.stop
          obtain ⟨c41, u41, k41, rfl, rfl, O41, q41⟩ := R41
          dsimp only [List.cons_append, List.nil_append]
          refine ⟨inferInstance, ?_⟩
          refine XT.call rfl rfl Try.call34 rfl rfl rfl (Ht.cased_made vr vw vb vc kr h.rooms r2 v4 h4 x4) (fun v44 s44 R44 => ?_) XT.stop
          obtain ⟨c44, u44, k44, rfl, rfl, O44, q44⟩ := R44
          dsimp only [List.cons_append, List.nil_append]
          refine ⟨inferInstance, ?_⟩
          refine XT.st rfl rfl rfl rfl rfl ⟨inferInstance, ?_⟩ XT.stop
          refine XT.st rfl rfl rfl rfl rfl ⟨inferInstance, ?_⟩ XT.stop
          refine XT.done ?_
          exact mtr3 ((c41, u41, k41, c44, u44, k44, b14, b15)) _ _ ⟨O41, O44, q41, q44⟩ (.c rfl (.c rfl (.base 8 rfl rfl))) inferInstance
      · skip
        refine XT.alloc rfl rfl (fun b15 => ⟨inferInstance, ?_⟩) XT.stop
        refine XT.call rfl rfl Try.call34 rfl rfl rfl (Ht.cased_made vr vw vb vc kr h.rooms r2 v3 h3 x3) (fun v41 s41 R41 => ?_) ?_
        · skip
          obtain ⟨c41, u41, k41, rfl, rfl, O41, q41⟩ := R41
          dsimp only [List.cons_append, List.nil_append]
          refine ⟨inferInstance, ?_⟩
          refine XT.call rfl rfl Try.call34 rfl rfl rfl (Ht.cased_made vr vw vb vc kr h.rooms r2 v4 h4 x4) (fun v44 s44 R44 => ?_) ?_
          · skip
            obtain ⟨c44, u44, k44, rfl, rfl, O44, q44⟩ := R44
            dsimp only [List.cons_append, List.nil_append]
            refine ⟨inferInstance, ?_⟩
            refine XT.alloc rfl rfl (fun b14 => ⟨inferInstance, ?_⟩) XT.stop
            refine XT.st rfl rfl rfl rfl rfl ⟨inferInstance, ?_⟩ XT.stop
            refine XT.st rfl rfl rfl rfl rfl ⟨inferInstance, ?_⟩ XT.stop
            refine XT.done ?_
            exact mtr3 ((c41, u41, k41, c44, u44, k44, b14, b15)) _ _ ⟨O41, O44, q41, q44⟩ (.c rfl (.c rfl (.base 8 rfl rfl))) inferInstance
          · skip
            refine XT.alloc rfl rfl (fun b14 => ⟨inferInstance, ?_⟩) XT.stop
            refine XT.call rfl rfl Try.call34 rfl rfl rfl (Ht.cased_made vr vw vb vc kr h.rooms r2 v4 h4 x4) (fun v44 s44 R44 => ?_) XT.stop
            obtain ⟨c44, u44, k44, rfl, rfl, O44, q44⟩ := R44
            dsimp only [List.cons_append, List.nil_append]
            refine ⟨inferInstance, ?_⟩
            refine XT.st rfl rfl rfl rfl rfl ⟨inferInstance, ?_⟩ XT.stop
            refine XT.st rfl rfl rfl rfl rfl ⟨inferInstance, ?_⟩ XT.stop
            refine XT.done ?_
            exact mtr3 ((c41, u41, k41, c44, u44, k44, b14, b15)) _ _ ⟨O41, O44, q41, q44⟩ (.c rfl (.c rfl (.base 8 rfl rfl))) inferInstance
        · skip
          refine XT.alloc rfl rfl (fun b14 => ⟨inferInstance, ?_⟩) XT.stop
          refine XT.call rfl rfl Try.call34 rfl rfl rfl (Ht.cased_made vr vw vb vc kr h.rooms r2 v3 h3 x3) (fun v41 s41 R41 => ?_) XT.stop
          obtain ⟨c41, u41, k41, rfl, rfl, O41, q41⟩ := R41
          dsimp only [List.cons_append, List.nil_append]
          refine ⟨inferInstance, ?_⟩
          refine XT.call rfl rfl Try.call34 rfl rfl rfl (Ht.cased_made vr vw vb vc kr h.rooms r2 v4 h4 x4) (fun v44 s44 R44 => ?_) XT.stop
          obtain ⟨c44, u44, k44, rfl, rfl, O44, q44⟩ := R44
          dsimp only [List.cons_append, List.nil_append]
          refine ⟨inferInstance, ?_⟩
          refine XT.st rfl rfl rfl rfl rfl ⟨inferInstance, ?_⟩ XT.stop
          refine XT.st rfl rfl rfl rfl rfl ⟨inferInstance, ?_⟩ XT.stop
          refine XT.done ?_
          exact mtr3 ((c41, u41, k41, c44, u44, k44, b14, b15)) _ _ ⟨O41, O44, q41, q44⟩ (.c rfl (.c rfl (.base 8 rfl rfl))) inferInstance
end Go.X
