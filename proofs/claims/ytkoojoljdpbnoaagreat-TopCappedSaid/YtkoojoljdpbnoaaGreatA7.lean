/- A part of the proof: a small program logic, plain laws and contracts of functions, each proved by a walk through its operations. No condition but those that stand in each theorem. -/
import Derived.Test.YtkoojoljdpbnoaaGreatA6
set_option linter.unusedSimpArgs false
set_option linter.unusedVariables false
set_option maxRecDepth 20000
namespace Go.X.Pl
open Go.Proofs
theorem JobsK.inTo {l : List (Value × PJob)} {K : PHeap} (aL : JobsK l K) {w : List Int} {r : Int} {n : Nat} (hn : n ≤ l.length) : JobsK (inTo l w r n) K := fun i hi => by
 obtain ⟨j, hj, _, he⟩ := inTo_mem (getD_mem hi)
 rw [he]; exact aL j (by omega)
theorem in_mem {l : List (Value × PJob)} {w : List Int} {r : Int} (n : Nat) : (inTo l w r n).map Prod.snd = inTo (l.map Prod.snd) w r n := inTo_map Prod.snd l w r rfl n
theorem in_spec (l : List (Value × PJob)) (vl : Value) (hl K : PHeap) [jl : Arr vl encPJ 6 hl l] (aL : JobsK l K) (rs : List PRack) (vr : Value) (hr : PHeap) [jr : Arr vr encRack 5 hr rs] (m : PRat) (w : List Int) (vw : Value) (hw : PHeap) [jw : Arr vw encI 1 hw w] (r : Int) (hwl : w.length ≤ l.length) (few : w.length ≤ 1000) : Spec Tryz.prog 121 #[.agg #[vl, vr, .int .i64 m.n, .int .i64 m.d], vw, .int .i64 r] [] [hl, K, hr, hw] (fun v hs => ∃ k, hs = [k] ∧ OArr v encPJ 6 88 k (inTo l w r w.length)) := by
 have nP : OArr (.slice none 0 0) encPJ 6 88 emp ([] : List (Value × PJob)) := OArr.nil (fun _ => rfl)
 refine Spec.intro (fn := Tryz.f121) (N := 30) Tryz.func121 rfl Tryz.ntmps121 rfl fun B => ?_
 refine XK.seq (XK.region rfl ?_)
 refine XO.box rfl fun b3 => ?_
 refine XO.q (Q.assign rfl) (XO.done (XK.seq (XK.region rfl (XO.q (Q.assign rfl) (XO.done ?_)))))
 refine XK.seq (XK.seq (XK.region rfl (XO.q (Q.move rfl) ?_)))
 refine XO.len rfl fun l11 => ?_
 refine XO.q (Q.move rfl) (XO.done (XK.block ?_))
 refine XK.while (X := Nat × Value × PHeap) [7, 8, 9, 12, 13, 14, 15, 16, 17, 18, 19, 20, 21, 22, 23, 24, 25, 26, 27, 28] (fun ⟨i, vo, ho⟩ => [(12, some (.int .i64 (i : Nat))), (7, some (vo))]) (fun ⟨i, vo, ho⟩ => [ho]) (fun ⟨i, vo, ho⟩ => i ≤ w.length ∧ OArr vo encPJ 6 88 ho (inTo l w r i)) (fun ⟨i, vo, ho⟩ => w.length - i) (0, .slice none 0 0, emp) [emp] rfl ⟨by omega, nP⟩ (.c rfl (.c rfl (.base 0 rfl rfl))) ?_
 rintro ⟨i, vo, ho⟩ ⟨hi, OV⟩ ih0
 dsimp only [lcA, lnA] at ih0 ⊢
 refine XK.seq (XK.region rfl ?_)
 refine XO.q (Q.lss rfl rfl) ?_
 refine XO.done (XK.seq ?_)
 refine XK.if rfl (fun c0 => ?_) (fun c0 => ?_)
 ·skip
  have ai := aL i (by omega)
  refine XK.skip (XK.seq (XK.block (XK.seq (XK.region rfl (XO.q (Q.move rfl) ?_)))))
  refine XO.ix rfl rfl (by omega) (by omega) fun i15 => ?_
  refine XO.q (Q.ldE rfl (by first | assumption | omega) rfl) ?_
  refine XO.q (Q.assign rfl) (XO.q (Q.assign rfl) (XO.done (XK.seq (XK.region rfl (XO.q (Q.move rfl) ?_)))))
  refine XO.q (Q.move rfl) ?_
  refine XO.q (Q.eql rfl rfl) ?_
  refine XO.done ?_
  refine XK.if rfl (fun c1 => ?_) (fun c1 => ?_)
  ·skip
   refine XK.region rfl (XO.q (Q.move rfl) ?_)
   refine XO.q (Q.fieldAddr rfl) ?_
   refine XO.q (Q.ld rfl rfl) ?_
   refine XO.q (Q.move rfl) ?_
   refine XO.ix rfl rfl (by omega) (by omega) fun i24 => ?_
   refine XO.q (Q.ldEA [_, _, _, _, _, _] rfl (by first | assumption | omega) rfl rfl) ?_
   refine XO.lit [_, _, _, _, _, _] [_, _, _, _, _, _] [l.getD i default] encPJ (by rfl) (by rfl) rfl (by rfl) (by exact .c 0 6 rfl rfl rfl (.n _)) (fun _ => rfl) (by rfl) rfl (by infer_instance) rfl fun v26 h26 O26 => ?_
   refine XO.append rfl rfl rfl rfl (by have := inTo_len l w r i; simp only [List.length_cons, List.length_nil]; omega) fun v27 h27 O27 => ?_
   refine XO.q (Q.assign rfl) (XO.done ?_)
   refine XK.inBlock ?_
   refine XK.region rfl ?_
   refine XO.q (Q.add rfl rfl ⟨by omega, by omega⟩) ?_
   refine XO.q (Q.move rfl) (XO.done ?_)
   exact ih0 (i + 1, v27, h27) _ _ ⟨by dsimp only; omega, by dsimp only; rw [inTo, if_pos c1]; exact O27⟩ (by first | omega | (dsimp only; omega)) (.c rfl (.c rfl (.base 42 rfl rfl))) inferInstance
  ·skip
   refine XK.skip ?_
   refine XK.inBlock ?_
   refine XK.region rfl ?_
   refine XO.q (Q.add rfl rfl ⟨by omega, by omega⟩) ?_
   refine XO.q (Q.move rfl) (XO.done ?_)
   exact ih0 (i + 1, vo, ho) _ _ ⟨by dsimp only; omega, by dsimp only; rw [inTo, if_neg c1, List.append_nil]; exact OV⟩ (by first | omega | (dsimp only; omega)) (.c rfl (.c rfl (.base 33 rfl rfl))) inferInstance
 ·skip
  have hil : i = w.length := by omega
  subst hil
  refine XK.exit rfl ?_
  refine XK.seq (XK.region rfl (XO.q (Q.move rfl) (XO.q (Q.assign rfl) (XO.done ?_))))
  refine XK.rt [ho] Tryz.func121 Tryz.results121 (.t rfl .n) ?_
  exact ⟨ho, rfl, OV⟩
theorem worth_spec (l : List (Value × PJob)) (vl : Value) (hl K : PHeap) [jl : Arr vl encPJ 6 hl l] (aL : JobsK l K) (rs : List PRack) (vr : Value) (hr : PHeap) [jr : Arr vr encRack 5 hr rs] (m : PRat) (w : List Int) (vw : Value) (hw : PHeap) [jw : Arr vw encI 1 hw w] (ok : TaskOk (⟨(l.map Prod.snd), rs, m⟩ : PTask)) (hwl : w.length ≤ l.length) : Spec Tryz.prog 70 #[.agg #[vl, vr, .int .i64 m.n, .int .i64 m.d], vw] [] [hl, K, hr, hw] (fun v hs => v = .int .i64 (worthG (⟨(l.map Prod.snd), rs, m⟩ : PTask) w) ∧ hs = []) := by
 have ll := jl.le
 have lm : (l.map Prod.snd).length = l.length := List.length_map ..
 have few := ok.few
 have few2 : l.length ≤ 8 := by rw [← lm]; exact few
 refine Spec.intro (fn := Tryz.f70) (N := 27) Tryz.func70 rfl Tryz.ntmps70 rfl fun B => ?_
 refine XK.seq (XK.region rfl ?_)
 refine XO.box rfl fun b2 => ?_
 refine XO.q (Q.assign rfl) (XO.done (XK.seq (XK.region rfl (XO.q (Q.assign rfl) (XO.done ?_)))))
 refine XK.seq (XK.seq (XK.region rfl (XO.q (Q.move rfl) ?_)))
 refine XO.len rfl fun l9 => ?_
 refine XO.q (Q.move rfl) (XO.done (XK.block ?_))
 refine XK.while (X := Nat) [5, 6, 7, 10, 11, 12, 13, 14, 15, 16, 17, 18, 19, 20, 21, 22, 23, 24, 25] (fun i => [(10, some (.int .i64 (i : Nat))), (5, some (.int .i64 (worthTo (⟨(l.map Prod.snd), rs, m⟩ : PTask) w i)))]) (fun i => []) (fun i => i ≤ w.length) (fun i => w.length - i) (0) [] rfl (by omega) (.c rfl (.c rfl (.base 0 rfl rfl))) ?_
 rintro i hi ih0
 dsimp only [lcA, lnA] at ih0 ⊢
 refine XK.seq (XK.region rfl ?_)
 refine XO.q (Q.lss rfl rfl) ?_
 refine XO.done (XK.seq ?_)
 refine XK.if rfl (fun c0 => ?_) (fun c0 => ?_)
 ·skip
  have wr := worth_rng ok (w := w) i (by dsimp only; omega)
  have ji := map_snd_atP l i
  have wj := (ok.job i (by dsimp only; omega)).wor
  dsimp only at wj
  rw [ji] at wj
  refine XK.skip (XK.seq (XK.block (XK.seq (XK.region rfl (XO.q (Q.move rfl) ?_)))))
  refine XO.ix rfl rfl (by omega) (by omega) fun i13 => ?_
  refine XO.q (Q.ldE rfl (by first | assumption | omega) rfl) ?_
  refine XO.q (Q.assign rfl) (XO.q (Q.assign rfl) (XO.done (XK.seq (XK.region rfl (XO.q (Q.move rfl) ?_)))))
  refine XO.q (Q.geq rfl rfl) ?_
  refine XO.done ?_
  refine XK.if rfl (fun c1 => ?_) (fun c1 => ?_)
  ·skip
   have e1 : worthTo (⟨(l.map Prod.snd), rs, m⟩ : PTask) w (i + 1) = worthTo (⟨(l.map Prod.snd), rs, m⟩ : PTask) w i + (l.getD i default).2.worth := by rw [worthTo, if_pos (by omega)]; dsimp only; rw [ji]
   refine XK.region rfl (XO.q (Q.move rfl) ?_)
   refine XO.q (Q.fieldAddr rfl) ?_
   refine XO.q (Q.ld rfl rfl) ?_
   refine XO.q (Q.move rfl) ?_
   refine XO.ix rfl rfl (by omega) (by omega) fun i21 => ?_
   refine XO.q (Q.fieldQ rfl (by first | assumption | omega)) ?_
   refine XO.q (Q.ldE rfl (by first | assumption | omega) rfl) ?_
   refine XO.q (Q.add rfl rfl ⟨by omega, by omega⟩) ?_
   refine XO.q (Q.assign rfl) (XO.done ?_)
   refine XK.inBlock ?_
   refine XK.region rfl ?_
   refine XO.q (Q.add rfl rfl ⟨by omega, by omega⟩) ?_
   refine XO.q (Q.move rfl) (XO.done ?_)
   rw [← e1]
   exact ih0 (i + 1) _ _ (by omega) (by first | omega | (dsimp only; omega)) (.c rfl (.c rfl (.base 40 rfl rfl))) inferInstance
  ·skip
   have e1 : worthTo (⟨(l.map Prod.snd), rs, m⟩ : PTask) w (i + 1) = worthTo (⟨(l.map Prod.snd), rs, m⟩ : PTask) w i := by rw [worthTo, if_neg (by omega), Int.add_zero]
   refine XK.skip ?_
   refine XK.inBlock ?_
   refine XK.region rfl ?_
   refine XO.q (Q.add rfl rfl ⟨by omega, by omega⟩) ?_
   refine XO.q (Q.move rfl) (XO.done ?_)
   rw [← e1]
   exact ih0 (i + 1) _ _ (by omega) (by first | omega | (dsimp only; omega)) (.c rfl (.c rfl (.base 31 rfl rfl))) inferInstance
 ·skip
  have hil : i = w.length := by omega
  subst hil
  refine XK.exit rfl ?_
  refine XK.seq (XK.region rfl (XO.q (Q.move rfl) (XO.q (Q.assign rfl) (XO.done ?_))))
  refine XK.rt [] Tryz.func70 Tryz.results70 (.t rfl .n) ?_
  exact ⟨rfl, rfl⟩
theorem cut_at {l : List (Value × PJob)} {n k : Nat} (hk : k < l.length - n) : ((l.drop n).take (l.length - n)).getD k default = l.getD (n + k) default := by
 rw [List.getD_eq_getElem?_getD, List.getElem?_take, if_pos hk, List.getElem?_drop, ← List.getD_eq_getElem?_getD]
theorem hope_spec (l : List (Value × PJob)) (vl : Value) (hl K : PHeap) [jl : Arr vl encPJ 6 hl l] (aL : JobsK l K) (rs : List PRack) (vr : Value) (hr : PHeap) [jr : Arr vr encRack 5 hr rs] (m : PRat) (w : List Int) (vw : Value) (hw : PHeap) [jw : Arr vw encI 1 hw w] (ok : TaskOk (⟨(l.map Prod.snd), rs, m⟩ : PTask)) (hwl : w.length ≤ l.length) : Spec Tryz.prog 69 #[.agg #[vl, vr, .int .i64 m.n, .int .i64 m.d], vw] [] [hl, K, hr, hw] (fun v hs => v = .int .i64 (hopeG (⟨(l.map Prod.snd), rs, m⟩ : PTask) w) ∧ hs = []) := by
 have ll := jl.le
 have lm : (l.map Prod.snd).length = l.length := List.length_map ..
 have few := ok.few
 have few2 : l.length ≤ 8 := by rw [← lm]; exact few
 have wr := worth_rng ok (w := w) w.length (by dsimp only; omega)
 have lc : ((l.drop w.length).take (l.length - w.length)).length = l.length - w.length := by rw [List.length_take, List.length_drop]; omega
 refine Spec.intro (fn := Tryz.f69) (N := 27) Tryz.func69 rfl Tryz.ntmps69 rfl fun B => ?_
 refine XK.seq (XK.region rfl ?_)
 refine XO.box rfl fun b2 => ?_
 refine XO.q (Q.assign rfl) (XO.done (XK.seq (XK.region rfl ?_)))
 refine XO.q (Q.ldA [_, _, _, _] rfl rfl rfl) ?_
 refine XO.q (Q.move rfl) ?_
 refine XO.call Tryz.call70 rfl rfl rfl (worth_spec l vl hl K aL rs vr hr m w vw hw ok hwl) fun v10 s10 R10 => ?_
 obtain ⟨rfl, rfl⟩ := R10
 dsimp only [lcA, lnA]
 rw [show worthG (⟨(l.map Prod.snd), rs, m⟩ : PTask) w = worthG (⟨(l.map Prod.snd), rs, m⟩ : PTask) w + restTo (⟨(l.map Prod.snd), rs, m⟩ : PTask) w.length 0 by rw [restTo, Int.add_zero]]
 refine XO.q (Q.assign rfl) (XO.done (XK.seq (XK.seq (XK.region rfl ?_))))
 refine XO.q (Q.fieldAddr rfl) ?_
 refine XO.q (Q.ld rfl rfl) ?_
 refine XO.q (Q.move rfl) ?_
 refine XO.len rfl fun l14 => ?_
 refine XO.cut (i := w.length) (j := l.length) rfl (.s rfl (by omega)) .n (by omega) (by omega) fun v15 A15 => ?_
 refine XO.len rfl fun l16 => ?_
 refine XO.q (Q.move rfl) (XO.done (XK.block ?_))
 refine XK.while (X := Nat) [5, 7, 17, 18, 19, 20, 21, 22, 23, 24, 25] (fun i => [(17, some (.int .i64 (i : Nat))), (5, some (.int .i64 (worthG (⟨(l.map Prod.snd), rs, m⟩ : PTask) w + restTo (⟨(l.map Prod.snd), rs, m⟩ : PTask) w.length i)))]) (fun i => []) (fun i => i ≤ l.length - w.length) (fun i => l.length - w.length - i) (0) [] rfl (by omega) (.c rfl (.c rfl (.base 0 rfl rfl))) ?_
 rintro i hi ih0
 dsimp only [lcA, lnA] at ih0 ⊢
 refine XK.seq (XK.region rfl ?_)
 refine XO.q (Q.lss rfl rfl) ?_
 refine XO.done (XK.seq ?_)
 refine XK.if rfl (fun c0 => ?_) (fun c0 => ?_)
 ·skip
  have rr := rest_rng ok (n := w.length) i (by dsimp only; omega)
  have ji := map_snd_atP l (w.length + i)
  have ca := cut_at (l := l) (n := w.length) (k := i) (by omega)
  have ai := aL (w.length + i) (by omega)
  rw [← ca] at ai
  have wj := (ok.job (w.length + i) (by dsimp only; omega)).wor
  dsimp only at wj
  rw [ji] at wj
  have e1 : restTo (⟨(l.map Prod.snd), rs, m⟩ : PTask) w.length (i + 1) = restTo (⟨(l.map Prod.snd), rs, m⟩ : PTask) w.length i + (l.getD (w.length + i) default).2.worth := by rw [restTo]; dsimp only; rw [ji]
  rw [← ca] at wj e1
  have wg : worthG (⟨(l.map Prod.snd), rs, m⟩ : PTask) w = worthTo (⟨(l.map Prod.snd), rs, m⟩ : PTask) w w.length := rfl
  refine XK.skip (XK.seq (XK.block (XK.seq (XK.region rfl ?_))))
  refine XO.ix rfl rfl (by omega) (by omega) fun i19 => ?_
  refine XO.q (Q.ldEA [_, _, _, _, _, _] rfl (by first | assumption | omega) rfl rfl) ?_
  refine XO.alloc fun b7 => ?_
  refine XO.st rfl rfl rfl ?_
  refine XO.done (XK.region rfl (XO.q (Q.move rfl) ?_))
  refine XO.q (Q.fieldAddr rfl) ?_
  refine XO.q (Q.ld rfl rfl) ?_
  refine XO.q (Q.add rfl rfl ⟨by omega, by omega⟩) ?_
  refine XO.q (Q.assign rfl) (XO.done ?_)
  refine XK.inBlock ?_
  refine XK.region rfl ?_
  refine XO.q (Q.add rfl rfl ⟨by omega, by omega⟩) ?_
  refine XO.q (Q.move rfl) (XO.done ?_)
  rw [show worthG (⟨(l.map Prod.snd), rs, m⟩ : PTask) w + restTo (⟨(l.map Prod.snd), rs, m⟩ : PTask) w.length i + ((((l.drop w.length).take (l.length - w.length))).getD i default).2.worth = worthG (⟨(l.map Prod.snd), rs, m⟩ : PTask) w + restTo (⟨(l.map Prod.snd), rs, m⟩ : PTask) w.length (i + 1) by rw [e1]; omega]
  exact ih0 (i + 1) _ _ (by omega) (by first | omega | (dsimp only; omega)) (.c rfl (.c rfl (.base 24 rfl rfl))) inferInstance
 ·skip
  have hil : i = l.length - w.length := by omega
  subst hil
  refine XK.exit rfl ?_
  refine XK.seq (XK.region rfl (XO.q (Q.move rfl) (XO.q (Q.assign rfl) (XO.done ?_))))
  refine XK.rt [] Tryz.func69 Tryz.results69 (.t rfl .n) ?_
  exact ⟨by rw [hopeG]; dsimp only; rw [lm], rfl⟩
theorem ready_spec (l : List (Value × PJob)) (vl : Value) (hl K : PHeap) [jl : Arr vl encPJ 6 hl l] (aL : JobsK l K) (rs : List PRack) (vr : Value) (hr : PHeap) [jr : Arr vr encRack 5 hr rs] (m : PRat) : Spec Tryz.prog 67 #[.agg #[vl, vr, .int .i64 m.n, .int .i64 m.d]] [] [hl, K, hr] (fun v hs => v = .int .i64 (readyG (⟨(l.map Prod.snd), rs, m⟩ : PTask)) ∧ hs = []) := by
 refine Spec.intro (fn := Tryz.f67) (N := 18) Tryz.func67 rfl Tryz.ntmps67 rfl fun B => ?_
 refine XK.seq (XK.region rfl ?_)
 refine XO.box rfl fun b1 => ?_
 refine XO.q (Q.assign rfl) (XO.done (XK.seq (XK.seq (XK.region rfl ?_))))
 refine XO.q (Q.ldA [_, _, _, _] rfl rfl rfl) ?_
 refine XO.call Tryz.call119 rfl rfl rfl (Check_spec l vl hl K aL rs vr hr m) fun v7 s7 R7 => ?_
 obtain ⟨rfl, rfl⟩ := R7
 dsimp only [lcA, lnA]
 refine XO.q (Q.assign rfl) (XO.done (XK.seq (XK.region rfl (XO.q (Q.move rfl) ?_))))
 refine XO.q (Q.neq rfl rfl) ?_
 refine XO.done ?_
 refine XK.if rfl (fun c0 => ?_) (fun c0 => ?_)
 ·skip
  refine XK.seq (XK.region rfl (XO.q (Q.move rfl) (XO.q (Q.assign rfl) (XO.done ?_))))
  refine XK.rt [] Tryz.func67 Tryz.results67 (.t rfl .n) ?_
  exact ⟨by rw [readyG, if_pos c0], rfl⟩
 ·skip
  refine XK.skip (XK.seq (XK.region rfl ?_))
  refine XO.q (Q.fieldAddr rfl) ?_
  refine XO.q (Q.ld rfl rfl) ?_
  refine XO.call Tryz.call73 rfl rfl rfl (listed_spec l vl hl K aL) fun v14 s14 R14 => ?_
  obtain ⟨rfl, rfl⟩ := R14
  dsimp only [lcA, lnA]
  refine XO.q (Q.move rfl) ?_
  refine XO.q (Q.extract rfl rfl) ?_
  refine XO.q (Q.extract rfl rfl) ?_
  refine XO.q (Q.assign rfl) (XO.q (Q.assign rfl) (XO.done (XK.seq (XK.region rfl (XO.q (Q.move rfl) ?_)))))
  refine XO.q (Q.assign rfl) (XO.done ?_)
  refine XK.rt [] Tryz.func67 Tryz.results67 (.t rfl .n) ?_
  exact ⟨by rw [readyG, if_neg c0], rfl⟩
end Go.X.Pl

set_option linter.unusedSimpArgs false
set_option linter.unusedVariables false
set_option maxRecDepth 20000
namespace Go.X.Pl
open Go.Proofs
instance : KeyT Tryz.prog 161 encK2 := KeyT.pair Tryz.underlying161 inferInstance inferInstance inferInstance inferInstance
theorem apart_spec (l : List (Value × PJob)) (vl : Value) (hl K : PHeap) [jl : Arr vl encPJ 6 hl l] (aL : JobsK l K) (rs : List PRack) (vr : Value) (hr : PHeap) [jr : Arr vr encRack 5 hr rs] (m : PRat) (w : List Int) (vw : Value) (hw : PHeap) [jw : Arr vw encI 1 hw w] (ok : TaskOk (⟨(l.map Prod.snd), rs, m⟩ : PTask)) (wok : WOk (⟨(l.map Prod.snd), rs, m⟩ : PTask) w) : Spec Tryz.prog 123 #[.agg #[vl, vr, .int .i64 m.n, .int .i64 m.d], vw] [] [hl, K, hr, hw] (fun v hs => v = .bool (apartG (⟨(l.map Prod.snd), rs, m⟩ : PTask) w) ∧ hs = []) := by
 have ll := jl.le
 have lm : (l.map Prod.snd).length = l.length := List.length_map ..
 have hwl : w.length ≤ l.length := by have := wok.len; dsimp only at this; omega
 refine Spec.intro (fn := Tryz.f123) (N := 47) Tryz.func123 rfl Tryz.ntmps123 rfl fun B => ?_
 refine XK.seq (XK.region rfl ?_)
 refine XO.box rfl fun b2 => ?_
 refine XO.q (Q.assign rfl) (XO.done (XK.seq (XK.region rfl ?_)))
 refine XO.map encK2 fun b9 => ?_
 refine XO.q (Q.assign rfl) (XO.done (XK.seq (XK.seq (XK.region rfl (XO.q (Q.move rfl) ?_)))))
 refine XO.len rfl fun l11 => ?_
 refine XO.q (Q.move rfl) (XO.done (XK.block ?_))
 refine XK.while (X := Nat) [4, 6, 7, 8, 12, 13, 14, 15, 16, 17, 18, 19, 20, 21, 22, 23, 24, 25, 26, 27, 28, 29, 30, 31, 32, 33, 34, 35, 36, 37, 38, 39, 40, 41, 42, 43, 44, 45, 46] (fun i => [(12, some (.int .i64 (i : Nat)))]) (fun i => [mapH b9 encK2 (seenK (keysTo (⟨(l.map Prod.snd), rs, m⟩ : PTask) w i))]) (fun i => i ≤ w.length ∧ apartTo (⟨(l.map Prod.snd), rs, m⟩ : PTask) w i = true) (fun i => w.length - i) (0) [mapH b9 encK2 []] rfl ⟨by omega, rfl⟩ (.c rfl (.base 0 rfl rfl)) ?_
 rintro i ⟨hi, ha⟩ ih0
 dsimp only [lcA, lnA] at ih0 ⊢
 refine XK.seq (XK.region rfl ?_)
 refine XO.q (Q.lss rfl rfl) ?_
 refine XO.done (XK.seq ?_)
 refine XK.if rfl (fun c0 => ?_) (fun c0 => ?_)
 ·skip
  have ji := map_snd_atP l i
  have sk : skipK (⟨(l.map Prod.snd), rs, m⟩ : PTask) w i = (decide (w.getD i default < 0) || decide ((l.getD i default).2.group = 0)) := by rw [skipK]; dsimp only; rw [ji]
  refine XK.skip (XK.seq (XK.block (XK.seq (XK.region rfl (XO.q (Q.move rfl) ?_)))))
  refine XO.ix rfl rfl (by omega) (by omega) fun i15 => ?_
  refine XO.q (Q.ldE rfl (by first | assumption | omega) rfl) ?_
  refine XO.q (Q.assign rfl) (XO.q (Q.assign rfl) (XO.done (XK.seq (XK.seq (XK.region rfl ?_)))))
  refine XO.q (Q.move rfl) ?_
  refine XO.q (Q.lss rfl rfl) ?_
  refine XO.q (Q.move rfl) ?_
  refine XO.q (Quiet.guardF rfl rfl fun g20 p20 => Q.fieldAddr rfl) ?_
  refine XO.q (Quiet.guardF rfl rfl fun g21 p21 => Q.ld (lzv g21 rfl) rfl) ?_
  refine XO.q (Quiet.guardF rfl rfl fun g22 p22 => Q.move rfl) ?_
  refine XO.q (Quiet.guardF rfl rfl fun g23 p23 => Q.ix (lzv g23 rfl) (lzv g23 rfl) (by omega) (by omega)) ?_
  refine XO.q (Quiet.guardF rfl rfl fun g24 p24 => Q.fieldQ (lzv g24 rfl) (by first | assumption | omega)) ?_
  refine XO.q (Quiet.guardF rfl rfl fun g25 p25 => Q.ldE (lzv g25 rfl) (by first | assumption | omega) rfl) ?_
  refine XO.q (Quiet.guardF rfl rfl fun g26 p26 => Q.eql (lzv g26 rfl) rfl) ?_
  refine XO.q (Q.or rfl (fun hp => lzv hp rfl)) ?_
  refine XO.done ?_
  refine XK.if rfl (fun c1 => ?_) (fun c1 => ?_)
  ·skip
   have sk1 : skipK (⟨(l.map Prod.snd), rs, m⟩ : PTask) w i = true := by rw [sk, Bool.or_eq_true, decide_eq_true_eq, decide_eq_true_eq]; exact c1
   refine XK.exit rfl ?_
   refine XK.region rfl ?_
   refine XO.q (Q.add rfl rfl ⟨by omega, by omega⟩) ?_
   refine XO.q (Q.move rfl) (XO.done ?_)
   have e2 : (keysTo (⟨(l.map Prod.snd), rs, m⟩ : PTask) w (i + 1)) = (keysTo (⟨(l.map Prod.snd), rs, m⟩ : PTask) w i) := by rw [keysTo, if_pos sk1, List.append_nil]
   rw [← e2]
   exact ih0 (i + 1) _ _ ⟨by omega, by rw [apartTo, ha, sk1]; rfl⟩ (by first | omega | (dsimp only; omega)) (.c rfl (.base 59 rfl rfl)) inferInstance
  ·skip
   have sk0 : skipK (⟨(l.map Prod.snd), rs, m⟩ : PTask) w i = false := by rw [sk, Bool.or_eq_false_iff, decide_eq_false_iff_not, decide_eq_false_iff_not]; exact ⟨fun h => c1 (.inl h), fun h => c1 (.inr h)⟩
   rw [not_or] at c1
   have gr := getD_rackP wok (i := i) (by omega) c1.1
   dsimp only at gr
   have ek : (keyOf (⟨(l.map Prod.snd), rs, m⟩ : PTask) w i) = ((l.getD i default).2.group, (rs.getD (w.getD i default).toNat default).domain) := by rw [keyOf]; dsimp only; rw [ji]
   refine XK.skip (XK.seq ?_)
   refine XK.drawn [0, 1, 2, 3, 4, 5, 6, 7, 8, 9, 10, 11, 12] [b2] [] (.q 0 (.q 1 (.q 2 (.q 3 (.q 4 (.q 5 (.q 6 (.q 7 (.q 8 (.q 9 (.q 10 (.q 11 (.q 12 (.br 13 true (.br 14 false .done .stop) .stop)))))))))))))) Tryz.mixed rfl (by kernel_rfl) ?_
   refine XT.q rfl rfl (Q.fieldAddr rfl) ?_
   refine XT.q rfl rfl (Q.ld rfl rfl) ?_
   refine XT.q rfl rfl (Q.move rfl) ?_
   refine XT.ix rfl rfl rfl rfl (by omega) (by omega) fun i31 => ?_
   refine XT.q rfl rfl (Q.fieldQ rfl (by first | assumption | omega)) ?_
   refine XT.q rfl rfl (Q.ldE rfl (by first | assumption | omega) rfl) ?_
   refine XT.q rfl rfl (Q.fieldAddr rfl) ?_
   refine XT.q rfl rfl (Q.ld rfl rfl) ?_
   refine XT.q rfl rfl (Q.move rfl) ?_
   refine XT.ix rfl rfl rfl rfl (by omega) (by omega) fun i37 => ?_
   refine XT.q rfl rfl (Q.fieldQ rfl (by first | assumption | omega)) ?_
   refine XT.q rfl rfl (Q.ldE rfl (by first | assumption | omega) rfl) ?_
   refine XT.q rfl rfl (Q.build [_, _] (.c 0 1 rfl rfl rfl (.c 1 1 rfl rfl rfl (.n _)))) ?_
   refine XT.alloc rfl rfl (fun b8 => ⟨inferInstance, ?_⟩) XT.stop
   refine XT.st rfl rfl rfl rfl rfl ⟨inferInstance, ?_⟩ XT.stop
   refine XT.done ?_
   refine XK.seq (XK.seq (XK.region rfl (XO.q (Q.move rfl) ?_)))
   refine XO.q (Q.ldA [_, _] rfl rfl rfl) ?_
   refine XO.q (Q.lookup (enc := encK2) _ Tryz.zeroValue4 (((l.getD i default).2.group, (rs.getD (w.getD i default).toNat default).domain)) rfl rfl) ?_
   rw [← ek, get_seenK]
   refine XO.done ?_
   refine XK.if rfl (fun c2 => ?_) (fun c2 => ?_)
   ·skip
    refine XK.seq (XK.region rfl (XO.q (Q.assign rfl) (XO.done ?_)))
    refine XK.rt [] Tryz.func123 Tryz.results123 (.t rfl .n) ?_
    exact ⟨by rw [apartG, apartTo_false (n := i + 1) (by rw [apartTo, sk0, c2, ha]; rfl) _ (by omega)], rfl⟩
   ·skip
    have c2 := Bool.eq_false_iff.2 c2
    refine XK.skip (XK.region rfl (XO.q (Q.move rfl) ?_))
    refine XO.q (Q.ldA [_, _] rfl rfl rfl) ?_
    refine XO.mapUpdate (enc := encK2) (((l.getD i default).2.group, (rs.getD (w.getD i default).toNat default).domain)) rfl rfl rfl ?_
    rw [← ek, put_seenK c2]
    refine XO.done ?_
    refine XK.inBlock ?_
    refine XK.region rfl ?_
    refine XO.q (Q.add rfl rfl ⟨by omega, by omega⟩) ?_
    refine XO.q (Q.move rfl) (XO.done ?_)
    have e2 : (keysTo (⟨(l.map Prod.snd), rs, m⟩ : PTask) w (i + 1)) = (keysTo (⟨(l.map Prod.snd), rs, m⟩ : PTask) w i) ++ [(keyOf (⟨(l.map Prod.snd), rs, m⟩ : PTask) w i)] := by rw [keysTo, if_neg (by rw [sk0]; decide)]
    rw [← e2]
    exact ih0 (i + 1) _ _ ⟨by omega, by rw [apartTo, ha, c2]; simp⟩ (by first | omega | (dsimp only; omega)) (.c rfl (.base 78 rfl rfl)) inferInstance
 ·skip
  have hin : i = w.length := by omega
  subst hin
  refine XK.exit rfl ?_
  refine XK.seq (XK.region rfl (XO.q (Q.assign rfl) (XO.done ?_)))
  refine XK.rt [] Tryz.func123 Tryz.results123 (.t rfl .n) ?_
  exact ⟨by rw [apartG, ha], rfl⟩
end Go.X.Pl

set_option linter.unusedSimpArgs false
set_option linter.unusedVariables false
set_option maxRecDepth 20000
namespace Go.X.Pl
open Go.Proofs
theorem prodJ_take {l : List PJob} {n : Nat} : ∀ {i : Nat}, i ≤ n → prodJ (l.take n) i = prodJ l i
 | 0, _ => rfl
 | i + 1, h => by
  rw [prodJ, prodJ, prodJ_take (by omega), List.getD_eq_getElem?_getD, List.getElem?_take, if_pos (by omega), List.getD_eq_getElem?_getD]
theorem ListOk.take {l : List PJob} (ok : ListOk l) (n : Nat) : ListOk (l.take n) := by
 have hl : (l.take n).length ≤ n := by rw [List.length_take]; omega
 have hl2 : (l.take n).length ≤ l.length := by rw [List.length_take]; omega
 refine ⟨Nat.le_trans hl2 ok.few, fun i hi => ?_, fun i hi => ?_⟩
 ·rw [List.getD_eq_getElem?_getD, List.getElem?_take, if_pos (by omega), ← List.getD_eq_getElem?_getD]; exact ok.job i (by omega)
 ·rw [prodJ_take (by omega)]; exact ok.prod i (by omega)
theorem JobsK.cut {l : List (Value × PJob)} {K : PHeap} (aL : JobsK l K) {n : Nat} (hn : n < l.length) : JobsK ((l.drop 0).take ((n + 1) - 0)) K := fun i hi => by
 have hl : ((l.drop 0).take ((n + 1) - 0)).length = n + 1 := by rw [List.drop_zero, Nat.sub_zero, List.length_take]; omega
 have e : (((l.drop 0).take ((n + 1) - 0))).getD i default = l.getD i default := by
  rw [List.drop_zero, Nat.sub_zero, List.getD_eq_getElem?_getD, List.getElem?_take, if_pos (by omega), ← List.getD_eq_getElem?_getD]
 rw [e]; exact aL i (by omega)
end Go.X.Pl

set_option linter.unusedSimpArgs false
set_option linter.unusedVariables false
set_option maxRecDepth 20000
namespace Go.X.Pl
open Go.Proofs
theorem cloneI (v : Value) (h : PHeap) (xs : List Int) [s : Arr v encI 1 h xs] (hl : xs.length ≤ 68719476736) :
  Spec Tryz.prog 59 #[v] [] [h] (fun v' hs => ∃ h', hs = [h'] ∧ OArr v' encI 1 3 h' xs) := by
 refine Spec.intro (fn := Tryz.f59) (N := 8) Tryz.func59 rfl Tryz.ntmps59 rfl fun B => ?_
 refine XK.seq (XK.region rfl (XO.q (Q.assign rfl) (XO.done (XK.seq (XK.seq ?_)))))
 refine XK.region rfl (XO.q (Q.move rfl) ?_)
 refine XO.eqNil rfl fun z4 hz4 => ?_
 refine XO.done ?_
 refine XK.if rfl (fun c0 => ?_) (fun c0 => ?_)
 ·skip
  refine XK.seq (XK.region rfl (XO.q (Q.assign rfl) (XO.done ?_)))
  refine XK.rt [emp] Tryz.func59 Tryz.results59 (.t rfl .n) ?_
  exact ⟨emp, rfl, by rw [(hz4 c0).1]; exact OArr.nil (fun _ => rfl)⟩
 ·skip
  refine XK.skip (XK.seq (XK.region rfl ?_))
  refine XO.lit [] [] [] encI (by rfl) (by rfl) rfl (by rfl) (by exact .n _) (fun _ => rfl) (by rfl) rfl (by infer_instance) rfl fun v5 h5 O5 => ?_
  refine XO.q (Q.move rfl) ?_
  refine XO.append rfl rfl rfl rfl (by first | omega | (simp; omega)) fun v7 h7 O7 => ?_
  refine XO.q (Q.assign rfl) (XO.done ?_)
  refine XK.rt [h7] Tryz.func59 Tryz.results59 (.t rfl .n) ?_
  exact ⟨h7, rfl, O7⟩
/-- What sons yields. -/
def SonY (t : PTask) (w : List Int) (i : Nat) (g : PHeap) (vs : List Value) : Prop := ∃ v, vs = [v] ∧ OArr v encI 1 3 g ((psons t w).getD i [])
/-- What is known of sets of jobs. -/
def KnownS (t : PTask) (bm : Nat) (s : PHeap) : Prop := ∃ es, s = mapH bm encK2 es ∧ KnownP t es
set_option maxHeartbeats 4000000 in
theorem sons1 (l : List (Value × PJob)) (vl : Value) (hl K : PHeap) [jl : Arr vl encPJ 6 hl l] (aL : JobsK l K) (rs : List PRack) (vr : Value) (hr : PHeap) [jr : Arr vr encRack 5 hr rs] (m : PRat) (w : List Int) (vw : Value) (hw : PHeap) [jw : Arr vw encI 1 hw w] (ok : TaskOk (⟨(l.map Prod.snd), rs, m⟩ : PTask)) (lok : ListOk (l.map Prod.snd)) (hwl : w.length < l.length) (wok : WOk (⟨(l.map Prod.snd), rs, m⟩ : PTask) w) (b1 b2 bt bm : Nat) (f : Value) (Hr : List PHeap) (Qc : Nat → PHeap → Prop) (Xc : PHeap → Prop)
  (round : ∀ i, i < (psons (⟨(l.map Prod.snd), rs, m⟩ : PTask) w).length → ∀ g vs q s, SonY (⟨(l.map Prod.snd), rs, m⟩ : PTask) w i g vs → Qc i q → KnownS (⟨(l.map Prod.snd), rs, m⟩ : PTask) bm s → VSpec Tryz.prog f vs [q, s, g] Hr (fun v hs => ∃ b q' s', v = .bool b ∧ hs = [q', s'] ∧ KnownS (⟨(l.map Prod.snd), rs, m⟩ : PTask) bm s' ∧ (b = true → Qc (i + 1) q') ∧ (b = false → Xc q')))
  (q : PHeap) (hQ : Qc 0 q) (es : List ((Int × Int) × Value)) (kn : KnownP (⟨(l.map Prod.snd), rs, m⟩ : PTask) es) :
  Spec Tryz.prog 120 #[f, ptr b1 0, ptr b2 0] [q, mapH bm encK2 es] (blk b1 [ptr bt 0] 203 :: blk b2 [vw] 29 :: blk bt [vl, vr, .int .i64 m.n, .int .i64 m.d, .map (some bm)] 206 :: hl :: K :: hr :: hw :: Hr)
   (fun _ hs => ∃ q' s', hs = [q', s'] ∧ KnownS (⟨(l.map Prod.snd), rs, m⟩ : PTask) bm s' ∧ (Qc (psons (⟨(l.map Prod.snd), rs, m⟩ : PTask) w).length q' ∨ Xc q')) := by
 have ll := jl.le
 have lm : (l.map Prod.snd).length = l.length := List.length_map ..
 have few := ok.few
 have few2 : l.length ≤ 8 := by rw [← lm]; exact few
 have rk5 := ok.rk5
 have sl : ∀ r : Nat, (w ++ [((r : Nat) : Int)]).length = w.length + 1 := fun r => by rw [List.length_append]; rfl
 refine Spec.intro (fn := Tryz.f120) (N := 114) Tryz.func120 rfl Tryz.ntmps120 rfl fun B => ?_
 refine XK.seq (XK.seq (XK.region rfl ?_))
 refine XO.q (Q.ld rfl rfl) ?_
 refine XO.q (Q.nilCheck rfl) ?_
 refine XO.q (Q.fieldAddr rfl) ?_
 refine XO.q (Q.fieldAddr rfl) ?_
 refine XO.q (Q.ld rfl rfl) ?_
 refine XO.len rfl fun l19 => ?_
 refine XO.q (Q.move rfl) (XO.done (XK.block ?_))
 refine XK.while (X := Nat × PHeap × List ((Int × Int) × Value)) [4, 5, 6, 7, 8, 9, 10, 11, 12, 13, 20, 21, 22, 23, 24, 25, 26, 27, 28, 29, 30, 31, 32, 33, 34, 35, 36, 37, 38, 39, 40, 41, 42, 43, 44, 45, 46, 47, 48, 49, 50, 51, 52, 53, 54, 55, 56, 57, 58, 59, 60, 61, 62, 63, 64, 65, 66, 67, 68, 69, 70, 71, 72, 73, 74, 75, 76, 77, 78, 79, 80, 81, 82, 83, 84, 85, 86, 87, 88, 89, 90, 91, 92, 93, 94, 95, 96, 97, 98, 99, 100, 101, 102, 103, 104, 105, 106, 107] (fun ⟨r, q1, es1⟩ => [(20, some (.int .i64 (r : Nat)))]) (fun ⟨r, q1, es1⟩ => [q1, mapH bm encK2 es1]) (fun ⟨r, q1, es1⟩ => r ≤ rs.length ∧ KnownP (⟨(l.map Prod.snd), rs, m⟩ : PTask) es1 ∧ Qc (psonsTo (⟨(l.map Prod.snd), rs, m⟩ : PTask) w r).length q1) (fun ⟨r, q1, es1⟩ => rs.length - r) (0, q, es) [q, mapH bm encK2 es] rfl ⟨by omega, kn, hQ⟩ (.c rfl (.base 0 rfl rfl)) ?_
 rintro ⟨r, q1, es1⟩ ⟨hr0, kn1, hQ1⟩ ih0
 dsimp only [lcA, lnA] at ih0 ⊢
 refine XK.seq (XK.region rfl ?_)
 refine XO.q (Q.lss rfl rfl) ?_
 refine XO.done (XK.seq ?_)
 refine XK.if rfl (fun c0 => ?_) (fun c0 => ?_)
 ·skip
  have hr1 : r < rs.length := by omega
  have wok2 : WOk (⟨(l.map Prod.snd), rs, m⟩ : PTask) (w ++ [((r : Nat) : Int)]) := wok.snoc (by dsimp only; omega) (by omega) (by dsimp only; omega)
  have fs := fit_set (t := (⟨(l.map Prod.snd), rs, m⟩ : PTask)) (w := (w ++ [((r : Nat) : Int)])) (by dsimp only; rw [sl r]; omega) r
  have slr := sl r
  refine XK.skip (XK.seq (XK.block (XK.seq (XK.region rfl (XO.q (Q.move rfl) ?_)))))
  refine XO.q (Q.assign rfl) (XO.done (XK.seq (XK.region rfl ?_)))
  refine XO.q (Q.ld rfl rfl) ?_
  refine XO.call Tryz.call59 rfl rfl rfl (cloneI vw hw w (by omega)) fun v24 s24 R24 => ?_
  obtain ⟨k24, rfl, O24⟩ := R24
  dsimp only [lcA, lnA]
  refine XO.q (Q.move rfl) ?_
  refine XO.lit [_] [_] [((r : Nat) : Int)] encI (by rfl) (by rfl) rfl (by rfl) (by exact .c 0 1 rfl rfl rfl (.n _)) (fun _ => rfl) (by rfl) rfl (by infer_instance) rfl fun v26 h26 O26 => ?_
  refine XO.append rfl rfl rfl rfl (by simp only [List.length_cons, List.length_nil]; omega) fun v27 h27 O27 => ?_
  refine XO.q (Q.assign rfl) (XO.done (XK.seq (XK.region rfl (XO.q (Q.assign rfl) (XO.done ?_)))))
  refine XK.seq (XK.seq (XK.region rfl (XO.q (Q.move rfl) ?_)))
  refine XO.len rfl fun l29 => ?_
  rw [sl r]
  refine XO.q (Q.move rfl) (XO.done (XK.block ?_))
  refine XK.while (X := Nat) [6, 7, 8, 30, 31, 32, 33, 34, 35, 36, 37, 38, 39, 40, 41, 42] (fun i => [(30, some (.int .i64 (i : Nat))), (6, some (.int .i64 ((setTo (w ++ [((r : Nat) : Int)]) ((r : Nat) : Int) i) : Nat)))]) (fun i => []) (fun i => i ≤ w.length + 1) (fun i => w.length + 1 - i) (0) [] rfl (by omega) (.c rfl (.c rfl (.base 0 rfl rfl))) ?_
  rintro i hi ih1
  dsimp only [lcA, lnA] at ih1 ⊢
  refine XK.seq (XK.region rfl ?_)
  refine XO.q (Q.lss rfl rfl) ?_
  refine XO.done (XK.seq ?_)
  refine XK.if rfl (fun c1 => ?_) (fun c1 => ?_)
  ·skip
   have sb := set_lt (w ++ [((r : Nat) : Int)]) ((r : Nat) : Int) i (by omega)
   have pw : 2 ^ i < 1152921504606846976 := by
    have := Nat.pow_lt_pow_right (a := 2) (m := i) (n := 60) (by decide) (by omega)
    exact this
   refine XK.skip (XK.seq (XK.block (XK.seq (XK.region rfl (XO.q (Q.move rfl) ?_)))))
   refine XO.ix rfl rfl (by omega) (by omega) fun i33 => ?_
   refine XO.q (Q.ldE rfl (by first | assumption | omega) rfl) ?_
   refine XO.q (Q.assign rfl) (XO.q (Q.assign rfl) (XO.done (XK.seq (XK.region rfl (XO.q (Q.move rfl) ?_)))))
   refine XO.q (Q.move rfl) ?_
   refine XO.q (Q.eql rfl rfl) ?_
   refine XO.done ?_
   refine XK.if rfl (fun c2 => ?_) (fun c2 => ?_)
   ·skip
    refine XK.region rfl (XO.q (Q.move rfl) (XO.q (Q.move rfl) ?_))
    refine XO.q (Q.shlOne rfl rfl (by omega)) ?_
    refine XO.q (Q.orN (m := (setTo (w ++ [((r : Nat) : Int)]) ((r : Nat) : Int) i)) (n := 2 ^ i) rfl rfl (by omega) pw) ?_
    refine XO.q (Q.assign rfl) (XO.done ?_)
    refine XK.inBlock ?_
    refine XK.region rfl ?_
    refine XO.q (Q.add rfl rfl ⟨by omega, by omega⟩) ?_
    refine XO.q (Q.move rfl) (XO.done ?_)
    rw [show (setTo (w ++ [((r : Nat) : Int)]) ((r : Nat) : Int) i) ||| 2 ^ i = (setTo (w ++ [((r : Nat) : Int)]) ((r : Nat) : Int) (i + 1)) by rw [setTo, if_pos c2]]
    exact ih1 (i + 1) _ _ (by omega) (by first | omega | (dsimp only; omega)) (.c rfl (.c rfl (.base 34 rfl rfl))) inferInstance
   ·skip
    refine XK.skip ?_
    refine XK.inBlock ?_
    refine XK.region rfl ?_
    refine XO.q (Q.add rfl rfl ⟨by omega, by omega⟩) ?_
    refine XO.q (Q.move rfl) (XO.done ?_)
    rw [show (setTo (w ++ [((r : Nat) : Int)]) ((r : Nat) : Int) i) = (setTo (w ++ [((r : Nat) : Int)]) ((r : Nat) : Int) (i + 1)) by rw [setTo, if_neg c2]]
    exact ih1 (i + 1) _ _ (by omega) (by first | omega | (dsimp only; omega)) (.c rfl (.c rfl (.base 29 rfl rfl))) inferInstance
  ·skip
   have hin : i = w.length + 1 := by omega
   rw [hin, ← sl r]
   refine XK.exit rfl ?_
   refine XK.seq (XK.region rfl ?_)
   refine XO.q (Q.ld rfl rfl) ?_
   refine XO.q (Q.nilCheck rfl) ?_
   refine XO.q (Q.fieldAddr rfl) ?_
   refine XO.q (Q.ld rfl rfl) ?_
   refine XO.q (Q.move rfl) (XO.q (Q.move rfl) ?_)
   refine XO.q (Q.build [_, _] (.c 0 1 rfl rfl rfl (.c 1 1 rfl rfl rfl (.n _)))) ?_
   refine XO.q (Q.lookup2 (enc := encK2) _ Tryz.zeroValue4 ((((r : Nat) : Int), ((((setTo (w ++ [((r : Nat) : Int)]) ((r : Nat) : Int) (w ++ [((r : Nat) : Int)]).length) : Nat)) : Int))) rfl rfl) ?_
   obtain ⟨gv, egv⟩ : ∃ gv, gv = (getM (((r : Nat) : Int), ((((setTo (w ++ [((r : Nat) : Int)]) ((r : Nat) : Int) (w ++ [((r : Nat) : Int)]).length) : Nat)) : Int)) es1).getD (.bool false) := ⟨_, rfl⟩
   rw [← egv]
   obtain ⟨gb, egb⟩ : ∃ gb, gb = (getM (((r : Nat) : Int), ((((setTo (w ++ [((r : Nat) : Int)]) ((r : Nat) : Int) (w ++ [((r : Nat) : Int)]).length) : Nat)) : Int)) es1).isSome := ⟨_, rfl⟩
   rw [← egb]
   refine XO.q (Q.move rfl) ?_
   refine XO.q (Q.extract rfl rfl) ?_
   refine XO.q (Q.extract rfl rfl) ?_
   refine XO.q (Q.assign rfl) (XO.q (Q.assign rfl) (XO.done (XK.seq (XK.seq (XK.region rfl ?_)))))
   refine XO.q (Q.move rfl) ?_
   refine XO.q (Q.not rfl) ?_
   refine XO.done ?_
   refine XK.meet (X := List ((Int × Int) × Value)) [9, 11, 12, 13, 56, 57, 58, 59, 60, 61, 62, 63, 64, 65, 66, 67, 68, 69, 70, 71, 72, 73, 74, 75, 76, 77, 78, 79, 80, 81, 82, 83, 84, 85, 86, 87, 88, 89, 90, 91] (fun es2 => [(9, some (.bool (fitAt (⟨(l.map Prod.snd), rs, m⟩ : PTask) (w ++ [((r : Nat) : Int)]) r)))]) (fun es2 => [mapH bm encK2 es2]) (fun es2 => KnownP (⟨(l.map Prod.snd), rs, m⟩ : PTask) es2) [mapH bm encK2 es1] ?_ ?_
   ·rintro es2 kn2
    dsimp only [lcA, lnA]
    refine XK.seq (XK.region rfl (XO.q (Q.move rfl) (XO.q (Q.move rfl) ?_)))
    refine XO.q (Quiet.guardT rfl rfl fun g94 p94 => Q.ld rfl rfl) ?_
    refine XO.q (Quiet.guardT rfl rfl fun g95 p95 => Q.nilCheck (lzv g95 rfl)) ?_
    refine XO.q (Quiet.guardT rfl rfl fun g96 p96 => Q.fieldAddr (lzv g96 rfl)) ?_
    refine XO.q (Quiet.guardT rfl rfl fun g97 p97 => Q.ldA [_, _, _, _] (lzv g97 rfl) rfl rfl) ?_
    refine XO.q (Quiet.guardT rfl rfl fun g98 p98 => Q.move rfl) ?_
    refine XO.gcallT rfl rfl Tryz.call123 rfl (fun g99 => .c (lzv g99 rfl) (.c (lzv g99 rfl) .n)) rfl (fun g99 p99 => apart_spec l vl hl K aL rs vr hr m (w ++ [((r : Nat) : Int)]) v27 h27 ok wok2) ?_
    refine XO.q (Q.and rfl (fun hp => lzv hp rfl)) ?_
    refine XO.q (Q.move rfl) ?_
    refine XO.q (Quiet.guardT rfl rfl fun g102 p102 => Q.move rfl) ?_
    refine XO.q (Quiet.guardT rfl rfl fun g103 p103 => Q.move rfl) ?_
    refine XO.gvcall rfl rfl (fun g104 => lzv g104 rfl) (fun g104 => .c (lzv g104 rfl) .n) (fun g104 => round _ (psons_at (t := (⟨(l.map Prod.snd), rs, m⟩ : PTask)) (w := w) hr1 g104).2 h27 _ q1 _ ⟨v27, rfl, by rw [(psons_at (t := (⟨(l.map Prod.snd), rs, m⟩ : PTask)) (w := w) hr1 g104).1]; exact O27⟩ hQ1 ⟨es2, rfl, kn2⟩) (fun g104 v104 s104 R104 => ?_) (fun g104 => ?_)
    ·have _tb := True.intro
     obtain ⟨bb, q2, s2, rfl, rfl, ⟨es3, rfl, kn3⟩, hT, hF⟩ := R104
     dsimp only [lcA, lnA]
     refine XO.q (Quiet.guardT rfl rfl fun g105 p105 => Q.not rfl) ?_
     refine XO.q (Q.and rfl (fun hp => lzv hp rfl)) ?_
     refine XO.done ?_
     refine XK.if rfl (fun c4 => ?_) (fun c4 => ?_)
     ·skip
      refine XK.rt [q2, mapH bm encK2 es3] Tryz.func120 Tryz.results120 (.n) ?_
      exact ⟨q2, _, rfl, ⟨es3, rfl, kn3⟩, .inr (hF (by cases bb <;> simp_all))⟩
     ·skip
      refine XK.skip ?_
      refine XK.inBlock ?_
      refine XK.region rfl ?_
      refine XO.q (Q.add rfl rfl ⟨by omega, by omega⟩) ?_
      refine XO.q (Q.move rfl) (XO.done ?_)
      exact ih0 (r + 1, q2, es3) _ _ ⟨by dsimp only; omega, kn3, by dsimp only; rw [psons_step, if_pos (show sonOk (⟨(l.map Prod.snd), rs, m⟩ : PTask) w r = true from g104)]; exact hT (by cases bb <;> simp_all)⟩ (by first | omega | (dsimp only; omega)) (.c rfl (.base 204 rfl rfl)) inferInstance
    ·have _tb := True.intro
     refine XO.q (Quiet.guardT (v := .bool false) rfl rfl fun g105 p105 => absurd g105 g104) ?_
     refine XO.q (Q.and rfl (fun hp => lzv hp rfl)) ?_
     refine XO.done ?_
     refine XK.if rfl (fun c5 => ?_) (fun c5 => ?_)
     ·skip
      refine XK.rt [q1, mapH bm encK2 es2] Tryz.func120 Tryz.results120 (.n) ?_
      exact False.elim c5.2
     ·skip
      refine XK.skip ?_
      refine XK.inBlock ?_
      refine XK.region rfl ?_
      refine XO.q (Q.add rfl rfl ⟨by omega, by omega⟩) ?_
      refine XO.q (Q.move rfl) (XO.done ?_)
      exact ih0 (r + 1, q1, es2) _ _ ⟨by dsimp only; omega, kn2, by dsimp only; rw [psons_step, if_neg (show ¬ sonOk (⟨(l.map Prod.snd), rs, m⟩ : PTask) w r = true from g104)]; exact hQ1⟩ (by first | omega | (dsimp only; omega)) (.c rfl (.base 204 rfl rfl)) inferInstance
   ·intro mt3
    dsimp only [lcA, lnA] at mt3
    refine XK.if rfl (fun c3 => ?_) (fun c3 => ?_)
    ·skip
     refine XK.seq (XK.region rfl ?_)
     refine XO.q (Q.ld rfl rfl) ?_
     refine XO.q (Q.nilCheck rfl) ?_
     refine XO.q (Q.fieldAddr rfl) ?_
     refine XO.q (Q.ldA [_, _, _, _] rfl rfl rfl) ?_
     refine XO.q (Q.move rfl) (XO.q (Q.move rfl) ?_)
     refine XO.call Tryz.call121 rfl rfl rfl (in_spec l vl hl K aL rs vr hr m (w ++ [((r : Nat) : Int)]) v27 h27 (r : Nat) (by omega) (by omega)) fun v62 s62 R62 => ?_
     obtain ⟨k62, rfl, O62⟩ := R62
     dsimp only [lcA, lnA]
     refine XO.q (Q.assign rfl) (XO.done (XK.seq (XK.region rfl (XO.q (Q.move rfl) ?_))))
     refine XO.call Tryz.call73 rfl rfl rfl (listed_spec (inTo l (w ++ [((r : Nat) : Int)]) (r : Nat) (w ++ [((r : Nat) : Int)]).length) v62 k62 K (aL.inTo (by omega))) fun v65 s65 R65 => ?_
     obtain ⟨rfl, rfl⟩ := R65
     dsimp only [lcA, lnA]
     have em : (inTo l (w ++ [((r : Nat) : Int)]) (r : Nat) (w ++ [((r : Nat) : Int)]).length).map Prod.snd = inL (⟨(l.map Prod.snd), rs, m⟩ : PTask) (w ++ [((r : Nat) : Int)]) r := in_mem _
     have lin : ListOk (inL (⟨(l.map Prod.snd), rs, m⟩ : PTask) (w ++ [((r : Nat) : Int)]) r) := lok.inTo (w ++ [((r : Nat) : Int)]) (r : Nat) (by omega)
     have lr := listed_rng lin
     refine XO.q (Q.move rfl) ?_
     refine XO.q (Q.extract rfl rfl) ?_
     refine XO.q (Q.extract rfl rfl) ?_
     refine XO.q (Q.assign rfl) (XO.q (Q.assign rfl) (XO.done (XK.seq ?_)))
     refine XK.drawn [0, 1, 2, 3, 4, 5, 6, 7, 8, 9, 10, 11, 12, 13, 14, 16] [b1] [k62] (.q 0 (.q 1 (.q 2 (.q 3 (.q 4 (.q 5 (.q 6 (.q 7 (.q 8 (.q 9 (.q 10 (.q 11 (.q 12 (.q 13 (.q 14 (.br 15 true (.q 16 .done) .stop)))))))))))))))) Tryz.mixed rfl (by kernel_rfl) ?_
     refine XT.q rfl rfl (Q.move rfl) ?_
     refine XT.q rfl rfl (Q.ld rfl rfl) ?_
     refine XT.q rfl rfl (Q.nilCheck rfl) ?_
     refine XT.q rfl rfl (Q.fieldAddr rfl) ?_
     refine XT.q rfl rfl (Q.fieldAddr rfl) ?_
     refine XT.q rfl rfl (Q.ld rfl rfl) ?_
     refine XT.q rfl rfl (Q.move rfl) ?_
     refine XT.ix rfl rfl rfl rfl (by omega) (by omega) fun i75 => ?_
     refine XT.q rfl rfl (Q.ldEA [_, _, _, _, _] rfl (by first | assumption | omega) rfl rfl) ?_
     refine XT.q rfl rfl (Q.ld rfl rfl) ?_
     refine XT.q rfl rfl (Q.nilCheck rfl) ?_
     refine XT.q rfl rfl (Q.fieldAddr rfl) ?_
     refine XT.q rfl rfl (Q.fieldAddr rfl) ?_
     refine XT.q rfl rfl (Q.ldA [_, _] rfl rfl rfl) ?_
     refine XT.q rfl rfl (Q.move rfl) ?_
     refine XT.call rfl rfl Tryz.call122 rfl rfl rfl (fits_spec (inTo l (w ++ [((r : Nat) : Int)]) (r : Nat) (w ++ [((r : Nat) : Int)]).length) v62 k62 K (aL.inTo (by omega)) (by rw [em]; exact lin) (rs.getD r default) m ok.most _ (by rw [em, lr.1])) (fun v83 s83 R83 => ?_) XT.stop
     obtain ⟨rfl, rfl⟩ := R83
     dsimp only [lcA, lnA]
     refine ⟨inferInstance, ?_⟩
     rw [show fitsG ((inTo l (w ++ [((r : Nat) : Int)]) (r : Nat) (w ++ [((r : Nat) : Int)]).length).map Prod.snd) (rs.getD r default) m = fitAt (⟨(l.map Prod.snd), rs, m⟩ : PTask) (w ++ [((r : Nat) : Int)]) r by rw [em]; rfl]
     refine XT.q rfl rfl (Q.assign rfl) ?_
     refine XT.done ?_
     refine XK.region rfl ?_
     refine XO.q (Q.ld rfl rfl) ?_
     refine XO.q (Q.nilCheck rfl) ?_
     refine XO.q (Q.fieldAddr rfl) ?_
     refine XO.q (Q.ld rfl rfl) ?_
     refine XO.q (Q.move rfl) (XO.q (Q.move rfl) ?_)
     refine XO.q (Q.build [_, _] (.c 0 1 rfl rfl rfl (.c 1 1 rfl rfl rfl (.n _)))) ?_
     refine XO.q (Q.move rfl) ?_
     refine XO.mapUpdate (enc := encK2) ((((r : Nat) : Int), ((((setTo (w ++ [((r : Nat) : Int)]) ((r : Nat) : Int) (w ++ [((r : Nat) : Int)]).length) : Nat)) : Int))) rfl rfl rfl ?_
     refine XO.done ?_
     exact mt3 ((putM (((r : Nat) : Int), ((((setTo (w ++ [((r : Nat) : Int)]) ((r : Nat) : Int) (w ++ [((r : Nat) : Int)]).length) : Nat)) : Int)) (.bool (fitAt (⟨(l.map Prod.snd), rs, m⟩ : PTask) (w ++ [((r : Nat) : Int)]) r)) es1)) _ _ (by rw [fs]; exact kn1.put r (setTo (w ++ [((r : Nat) : Int)]) ((r : Nat) : Int) (w ++ [((r : Nat) : Int)]).length)) (.c rfl (.base 40 rfl rfl)) inferInstance
    ·skip
     refine XK.skip ?_
     have e1 : gv = .bool (fitAt (⟨(l.map Prod.snd), rs, m⟩ : PTask) (w ++ [((r : Nat) : Int)]) r) := by
      rw [egv]
      cases hg : getM (((r : Nat) : Int), ((((setTo (w ++ [((r : Nat) : Int)]) ((r : Nat) : Int) (w ++ [((r : Nat) : Int)]).length) : Nat)) : Int)) es1 with
      | none => rw [hg] at egb; subst egb; exact absurd (Decidable.of_not_not c3) (by decide)
      | some v => rw [fs]; exact kn1 r (setTo (w ++ [((r : Nat) : Int)]) ((r : Nat) : Int) (w ++ [((r : Nat) : Int)]).length) v hg
     subst e1
     exact mt3 (es1) _ _ kn1 (.c rfl (.base 0 rfl rfl)) inferInstance
 ·skip
  have hre : r = rs.length := by omega
  subst hre
  refine XK.exit rfl ?_
  refine XK.region rfl (XO.q (Q.move rfl) ?_)
  refine XO.q (Q.ld rfl rfl) ?_
  refine XO.call Tryz.call59 rfl rfl rfl (cloneI vw hw w (by omega)) fun v110 s110 R110 => ?_
  obtain ⟨k110, rfl, O110⟩ := R110
  dsimp only [lcA, lnA]
  refine XO.lit [_] [_] [-1] encI (by rfl) (by rfl) rfl (by rfl) (by exact .c 0 1 rfl rfl rfl (.n _)) (fun _ => rfl) (by rfl) rfl (by infer_instance) rfl fun v111 h111 O111 => ?_
  refine XO.append rfl rfl rfl rfl (by simp only [List.length_cons, List.length_nil]; omega) fun v112 h112 O112 => ?_
  refine XO.vcall rfl rfl (round _ (by rw [psons_len]; exact Nat.lt_succ_self _) h112 _ q1 _ ⟨v112, rfl, by rw [psons_last]; exact O112⟩ hQ1 ⟨es1, rfl, kn1⟩) fun v113 s113 R113 => ?_
  obtain ⟨bb, q2, s2, rfl, rfl, ks2, hT, hF⟩ := R113
  dsimp only [lcA, lnA]
  refine XO.done ?_
  refine XK.fn [q2, s2] Tryz.func120 Tryz.results120 (.n) ?_
  refine ⟨q2, s2, rfl, ks2, ?_⟩
  cases bb with
  | true => left; rw [psons_len]; exact hT rfl
  | false => right; exact hF rfl
end Go.X.Pl

set_option linter.unusedSimpArgs false
set_option linter.unusedVariables false
set_option maxRecDepth 20000
namespace Go.X.Pl
open Go.Proofs
theorem sons_spec (l : List (Value × PJob)) (vl : Value) (hl K : PHeap) [jl : Arr vl encPJ 6 hl l] (aL : JobsK l K) (rs : List PRack) (vr : Value) (hr : PHeap) [jr : Arr vr encRack 5 hr rs] (m : PRat) (w : List Int) (vw : Value) (hw : PHeap) [jw : Arr vw encI 1 hw w] (ok : TaskOk (⟨(l.map Prod.snd), rs, m⟩ : PTask)) (lok : ListOk (l.map Prod.snd)) (hwl : w.length < l.length) (wok : WOk (⟨(l.map Prod.snd), rs, m⟩ : PTask) w) (bt bm : Nat) : Spec Tryz.prog 71 #[ptr bt 0, vw] [] [blk bt [vl, vr, .int .i64 m.n, .int .i64 m.d, .map (some bm)] 206, hl, K, hr, hw]
  (fun v hs => ∃ bx by_, hs = [blk bx [ptr bt 0] 203, blk by_ [vw] 29] ∧ ItG Tryz.prog v (psons (⟨(l.map Prod.snd), rs, m⟩ : PTask) w).length (SonY (⟨(l.map Prod.snd), rs, m⟩ : PTask) w) (KnownS (⟨(l.map Prod.snd), rs, m⟩ : PTask) bm) (blk bx [ptr bt 0] 203 :: blk by_ [vw] 29 :: blk bt [vl, vr, .int .i64 m.n, .int .i64 m.d, .map (some bm)] 206 :: hl :: K :: hr :: [hw])) := by
 refine Spec.intro (fn := Tryz.f71) (N := 6) Tryz.func71 rfl Tryz.ntmps71 rfl fun B => ?_
 refine XK.seq (XK.region rfl ?_)
 refine XO.box rfl fun b2 => ?_
 refine XO.box rfl fun b3 => ?_
 refine XO.q (Q.assign rfl) (XO.done (XK.seq (XK.region rfl ?_)))
 refine XO.q (Q.func (fun _ he => rfl) (fun _ he => evs_rel he rfl)) ?_
 refine XO.q (Q.assign rfl) (XO.done ?_)
 refine XK.rt [blk b2 [ptr bt 0] 203, blk b3 [vw] 29] Tryz.func71 Tryz.results71 (.t rfl .n) ?_
 refine ⟨b2, b3, rfl, fun f Hr Qc Xc round q s hQ hSt => ?_⟩
 obtain ⟨es, rfl, kn⟩ := hSt
 exact VSpec.fn (fst := []) (cap := [ptr b2 0, ptr b3 0]) Tryz.call120 rfl (sons1 l vl hl K aL rs vr hr m w vw hw ok lok hwl wok b2 b3 bt bm f Hr Qc Xc round q hQ es kn)
set_option maxHeartbeats 4000000 in
theorem look_spec (l : List (Value × PJob)) (vl : Value) (hl K : PHeap) [jl : Arr vl encPJ 6 hl l] (aL : JobsK l K) (rs : List PRack) (vr : Value) (hr : PHeap) [jr : Arr vr encRack 5 hr rs] (m : PRat) (ok : TaskOk (⟨(l.map Prod.snd), rs, m⟩ : PTask)) (lok : ListOk (l.map Prod.snd)) (b1 b2 b3 b4 bt bm : Nat) (vp : Value) [op : One vp] :
  ∀ (m_ : Nat) (w : List Int) (vw : Value) (gw : PHeap) (vW : Value) (gW : PHeap) (bw : List Int) (s : Int) (sm : PHeap), OArr vw encI 1 3 gw w → OArr vW encI 1 3 gW bw → KnownS (⟨(l.map Prod.snd), rs, m⟩ : PTask) bm sm → w.length ≤ l.length → l.length - w.length ≤ m_ → WOk (⟨(l.map Prod.snd), rs, m⟩ : PTask) w → (-1 ≤ s ∧ s ≤ 8000000) →
  Spec Tryz.prog 68 #[vw, ptr b1 0, ptr b2 0, ptr b3 0, ptr b4 0] [gw, gW, blk b2 [vW, .int .i64 s, vp] 80, sm] [blk b1 [vl, vr, .int .i64 m.n, .int .i64 m.d] 77, blk b3 [ptr bt 0] 203, blk b4 [(.func (.func 68) #[] #[ptr b1 0, ptr b2 0, ptr b3 0, ptr b4 0])] 207, blk bt [vl, vr, .int .i64 m.n, .int .i64 m.d, .map (some bm)] 206, hl, K, hr]
   (fun _ hs => ∃ vW2 gW2 sm2, hs = [gW2, blk b2 [vW2, .int .i64 (lookG (⟨(l.map Prod.snd), rs, m⟩ : PTask) w (bw, s)).2, vp] 80, sm2] ∧ KnownS (⟨(l.map Prod.snd), rs, m⟩ : PTask) bm sm2 ∧ OArr vW2 encI 1 3 gW2 (lookG (⟨(l.map Prod.snd), rs, m⟩ : PTask) w (bw, s)).1 ∧ -1 ≤ (lookG (⟨(l.map Prod.snd), rs, m⟩ : PTask) w (bw, s)).2 ∧ (lookG (⟨(l.map Prod.snd), rs, m⟩ : PTask) w (bw, s)).2 ≤ 8000000) := by
 intro m_
 have ll := jl.le
 have lm : (l.map Prod.snd).length = l.length := List.length_map ..
 have few := ok.few
 have few2 : l.length ≤ 8 := by rw [← lm]; exact few
 have rk5 := ok.rk5
 induction m_ with
 | zero =>
  intro w vw gw vW gW bw s sm ow oW ks hwl hm wok hs
  have le := lookF_eq (t := (⟨(l.map Prod.snd), rs, m⟩ : PTask)) (w := w) (by dsimp only; omega) (bw, s)
  have wr := worth_rng ok (w := w) w.length (by dsimp only; omega)
  refine Spec.intro (fn := Tryz.f68) (N := 32) Tryz.func68 rfl Tryz.ntmps68 rfl fun B => ?_
  refine XK.seq (XK.seq ?_)
  refine XK.drawn [0, 1, 3, 4, 5] [b1, b2] [] (.q 0 (.q 1 (.q 3 (.q 4 (.br 2 true (.q 5 .done) .stop))))) Tryz.mixed rfl (by kernel_rfl) ?_
  refine XT.q rfl rfl (Q.ldA [_, _, _, _] rfl rfl rfl) ?_
  refine XT.q rfl rfl (Q.move rfl) ?_
  refine XT.q rfl rfl (Q.fieldAddr rfl) ?_
  refine XT.q rfl rfl (Q.ld rfl rfl) ?_
  refine XT.call rfl rfl Tryz.call69 rfl rfl rfl (hope_spec l vl hl K aL rs vr hr m w vw gw ok hwl) (fun v9 s9 R9 => ?_) XT.stop
  obtain ⟨rfl, rfl⟩ := R9
  dsimp only [lcA, lnA]
  refine ⟨inferInstance, ?_⟩
  refine XT.q rfl rfl (Q.leq rfl rfl) ?_
  refine XT.done ?_
  refine XK.if rfl (fun c0 => ?_) (fun c0 => ?_)
  ·skip
   refine XK.rt [gW, blk b2 [vW, .int .i64 s, vp] 80, sm] Tryz.func68 Tryz.results68 (.n) ?_
   rw [if_pos (by dsimp only; exact c0)] at le
   rw [le]
   exact ⟨vW, gW, sm, rfl, ks, oW, hs.1, hs.2⟩
  ·skip
   refine XK.skip (XK.seq (XK.seq (XK.region rfl (XO.q (Q.move rfl) ?_))))
   refine XO.len rfl fun l14 => ?_
   refine XO.q (Q.fieldAddr rfl) ?_
   refine XO.q (Q.ld rfl rfl) ?_
   refine XO.len rfl fun l17 => ?_
   refine XO.q (Q.eql rfl rfl) ?_
   refine XO.done ?_
   refine XK.if rfl (fun c1 => ?_) (fun c1 => ?_)
   ·skip
    refine XK.seq (XK.region rfl (XO.q (Q.move rfl) ?_))
    refine XO.q (Q.ldA [_, _, _, _] rfl rfl rfl) ?_
    refine XO.q (Q.move rfl) ?_
    refine XO.call Tryz.call70 rfl rfl rfl (worth_spec l vl hl K aL rs vr hr m w vw gw ok hwl) fun v22 s22 R22 => ?_
    obtain ⟨rfl, rfl⟩ := R22
    dsimp only [lcA, lnA]
    refine XO.q (Q.fieldAddr rfl) ?_
    refine XO.st rfl rfl rfl ?_
    refine XO.q (Q.fieldAddr rfl) ?_
    refine XO.st rfl rfl rfl ?_
    refine XO.done ?_
    refine XK.rt [gw, blk b2 [vw, .int .i64 (worthG (⟨(l.map Prod.snd), rs, m⟩ : PTask) w), vp] 80, sm] Tryz.func68 Tryz.results68 (.n) ?_
    rw [if_neg c0, if_pos (show w.length = (l.map Prod.snd).length by omega)] at le
    rw [le]
    exact ⟨vw, gw, sm, rfl, ks, ow, by have : worthG (⟨(l.map Prod.snd), rs, m⟩ : PTask) w = worthTo (⟨(l.map Prod.snd), rs, m⟩ : PTask) w w.length := rfl; dsimp only; omega, by have : worthG (⟨(l.map Prod.snd), rs, m⟩ : PTask) w = worthTo (⟨(l.map Prod.snd), rs, m⟩ : PTask) w w.length := rfl; dsimp only; omega⟩
   ·skip
    exact absurd (show (w.length : Int) = l.length by omega) c1
 | succ m_ ih =>
  intro w vw gw vW gW bw s sm ow oW ks hwl hm wok hs
  have le := lookF_eq (t := (⟨(l.map Prod.snd), rs, m⟩ : PTask)) (w := w) (by dsimp only; omega) (bw, s)
  have wr := worth_rng ok (w := w) w.length (by dsimp only; omega)
  refine Spec.intro (fn := Tryz.f68) (N := 32) Tryz.func68 rfl Tryz.ntmps68 rfl fun B => ?_
  refine XK.seq (XK.seq ?_)
  refine XK.drawn [0, 1, 3, 4, 5] [b1, b2] [] (.q 0 (.q 1 (.q 3 (.q 4 (.br 2 true (.q 5 .done) .stop))))) Tryz.mixed rfl (by kernel_rfl) ?_
  refine XT.q rfl rfl (Q.ldA [_, _, _, _] rfl rfl rfl) ?_
  refine XT.q rfl rfl (Q.move rfl) ?_
  refine XT.q rfl rfl (Q.fieldAddr rfl) ?_
  refine XT.q rfl rfl (Q.ld rfl rfl) ?_
  refine XT.call rfl rfl Tryz.call69 rfl rfl rfl (hope_spec l vl hl K aL rs vr hr m w vw gw ok hwl) (fun v9 s9 R9 => ?_) XT.stop
  obtain ⟨rfl, rfl⟩ := R9
  dsimp only [lcA, lnA]
  refine ⟨inferInstance, ?_⟩
  refine XT.q rfl rfl (Q.leq rfl rfl) ?_
  refine XT.done ?_
  refine XK.if rfl (fun c0 => ?_) (fun c0 => ?_)
  ·skip
   refine XK.rt [gW, blk b2 [vW, .int .i64 s, vp] 80, sm] Tryz.func68 Tryz.results68 (.n) ?_
   rw [if_pos (by dsimp only; exact c0)] at le
   rw [le]
   exact ⟨vW, gW, sm, rfl, ks, oW, hs.1, hs.2⟩
  ·skip
   refine XK.skip (XK.seq (XK.seq (XK.region rfl (XO.q (Q.move rfl) ?_))))
   refine XO.len rfl fun l14 => ?_
   refine XO.q (Q.fieldAddr rfl) ?_
   refine XO.q (Q.ld rfl rfl) ?_
   refine XO.len rfl fun l17 => ?_
   refine XO.q (Q.eql rfl rfl) ?_
   refine XO.done ?_
   refine XK.if rfl (fun c1 => ?_) (fun c1 => ?_)
   ·skip
    refine XK.seq (XK.region rfl (XO.q (Q.move rfl) ?_))
    refine XO.q (Q.ldA [_, _, _, _] rfl rfl rfl) ?_
    refine XO.q (Q.move rfl) ?_
    refine XO.call Tryz.call70 rfl rfl rfl (worth_spec l vl hl K aL rs vr hr m w vw gw ok hwl) fun v22 s22 R22 => ?_
    obtain ⟨rfl, rfl⟩ := R22
    dsimp only [lcA, lnA]
    refine XO.q (Q.fieldAddr rfl) ?_
    refine XO.st rfl rfl rfl ?_
    refine XO.q (Q.fieldAddr rfl) ?_
    refine XO.st rfl rfl rfl ?_
    refine XO.done ?_
    refine XK.rt [gw, blk b2 [vw, .int .i64 (worthG (⟨(l.map Prod.snd), rs, m⟩ : PTask) w), vp] 80, sm] Tryz.func68 Tryz.results68 (.n) ?_
    rw [if_neg c0, if_pos (show w.length = (l.map Prod.snd).length by omega)] at le
    rw [le]
    exact ⟨vw, gw, sm, rfl, ks, ow, by have : worthG (⟨(l.map Prod.snd), rs, m⟩ : PTask) w = worthTo (⟨(l.map Prod.snd), rs, m⟩ : PTask) w w.length := rfl; dsimp only; omega, by have : worthG (⟨(l.map Prod.snd), rs, m⟩ : PTask) w = worthTo (⟨(l.map Prod.snd), rs, m⟩ : PTask) w w.length := rfl; dsimp only; omega⟩
   ·skip
    refine XK.skip (XK.seq (XK.region rfl ?_))
    refine XO.q (Q.ld rfl rfl) ?_
    refine XO.q (Q.move rfl) ?_
    refine XO.call Tryz.call71 rfl rfl rfl (sons_spec l vl hl K aL rs vr hr m w vw gw ok lok (by omega) wok bt bm) fun v27 s27 R27 => ?_
    obtain ⟨bx, by_, rfl, hit⟩ := R27
    dsimp only [lcA, lnA]
    refine XO.done (XK.block ?_)
    refine XK.rangeG (X := Value × PHeap × List Int × Int) (ps := [28]) (fun ⟨vW1, gW1, bw1, s1⟩ => [gW1, blk b2 [vW1, .int .i64 s1, vp] 80]) (fun i ⟨vW1, gW1, bw1, s1⟩ => (bw1, s1) = (foldTo (fun s son => lookG (⟨(l.map Prod.snd), rs, m⟩ : PTask) son s) (psons (⟨(l.map Prod.snd), rs, m⟩ : PTask) w) (bw, s) i) ∧ OArr vW1 encI 1 3 gW1 bw1 ∧ -1 ≤ s1 ∧ s1 ≤ 8000000) (fun j0 ⟨vW1, gW1, bw1, s1⟩ => False) (vW, gW, bw, s) [gW, blk b2 [vW, .int .i64 s, vp] 80] (sm) rfl (hit) rfl (⟨rfl, oW, hs.1, hs.2⟩) (ks) rfl (fun i g vs hY => by obtain ⟨v, rfl, _⟩ := hY; rfl) ?_ ?_ (fun _ _ _ hJ _ => hJ.elim)
    ·rintro lq rec B' i ⟨vW1, gW1, bw1, s1⟩ sm1 g1 vs hi ⟨v28, rfl, O28⟩ ⟨e1, oW1, r1, r2⟩ ks1
     dsimp only [lcA, lnA]
     obtain ⟨y, ey, y1, y2⟩ := psons_get (t := (⟨(l.map Prod.snd), rs, m⟩ : PTask)) (w := w) hi
     change (psons (⟨(l.map Prod.snd), rs, m⟩ : PTask) w).getD i [] = w ++ [y] at ey
     have el : ((psons (⟨(l.map Prod.snd), rs, m⟩ : PTask) w).getD i []).length = w.length + 1 := by
      have := congrArg List.length ey
      rw [List.length_append] at this; exact this
     refine XK.region rfl (XO.q (Q.assign rfl) (XO.done ?_))
     refine XK.beginRound ?_
     refine XK.block (XK.region rfl ?_)
     refine XO.q (Q.ld rfl rfl) ?_
     refine XO.q (Q.move rfl) ?_
     refine XO.call Tryz.call68 rfl rfl rfl (ih ((psons (⟨(l.map Prod.snd), rs, m⟩ : PTask) w).getD i []) v28 g1 vW1 gW1 bw1 s1 sm1 O28 oW1 ks1 (by rw [el]; omega) (by rw [el]; omega) (by rw [ey]; exact wok.snoc (by dsimp only; omega) y1 y2) ⟨r1, r2⟩) fun v31 s31 R31 => ?_
     obtain ⟨vW2, gW2, sm2, rfl, ks2, oW2, r3, r4⟩ := R31
     dsimp only [lcA, lnA]
     refine XO.done ?_
     refine XK.inBlock ?_
     exact XK.leave (j := none) [gW2, blk b2 [vW2, .int .i64 (lookG (⟨(l.map Prod.snd), rs, m⟩ : PTask) ((psons (⟨(l.map Prod.snd), rs, m⟩ : PTask) w).getD i []) (bw1, s1)).2, vp] 80, sm2] trivial ⟨(vW2, gW2, (lookG (⟨(l.map Prod.snd), rs, m⟩ : PTask) ((psons (⟨(l.map Prod.snd), rs, m⟩ : PTask) w).getD i []) (bw1, s1)).1, (lookG (⟨(l.map Prod.snd), rs, m⟩ : PTask) ((psons (⟨(l.map Prod.snd), rs, m⟩ : PTask) w).getD i []) (bw1, s1)).2), sm2, ⟨by rw [foldTo, ← e1]; rfl, oW2, r3, r4⟩, ks2, rfl⟩
    ·rintro ⟨vW1, gW1, bw1, s1⟩ sm1 ⟨e1, oW1, r1, r2⟩ ks1
     dsimp only [lcA, lnA]
     refine XK.inBlock ?_
     refine XK.fn [gW1, blk b2 [vW1, .int .i64 s1, vp] 80, sm1] Tryz.func68 Tryz.results68 (.n) ?_
     rw [if_neg (by dsimp only; exact c0), if_neg (show ¬ w.length = (l.map Prod.snd).length by omega), ← e1] at le
     rw [le]
     exact ⟨vW1, gW1, sm1, rfl, ks1, oW1, r1, r2⟩
end Go.X.Pl

set_option linter.unusedSimpArgs false
set_option linter.unusedVariables false
set_option maxRecDepth 20000
namespace Go.X.Pl
open Go.Proofs
set_option maxHeartbeats 4000000 in
theorem prove_spec (l : List (Value × PJob)) (vl : Value) (hl K : PHeap) [jl : Arr vl encPJ 6 hl l] (aL : JobsK l K) (rs : List PRack) (vr : Value) (hr : PHeap) [jr : Arr vr encRack 5 hr rs] (m : PRat) (ok : TaskOk (⟨(l.map Prod.snd), rs, m⟩ : PTask)) (lok : ListOk (l.map Prod.snd)) (b1 b2 b3 b4 bt bm : Nat) (vW : Value) [oW : One vW] (bst : Int) :
  ∀ (m_ : Nat) (w : List Int) (vw : Value) (gw : PHeap) (vP : Value) (gP : PHeap) (p : List Bool) (sm : PHeap), OArr vw encI 1 3 gw w → OArr vP encB 1 4 gP p → KnownS (⟨(l.map Prod.snd), rs, m⟩ : PTask) bm sm → w.length ≤ l.length → l.length - w.length ≤ m_ → WOk (⟨(l.map Prod.snd), rs, m⟩ : PTask) w → belowG (⟨(l.map Prod.snd), rs, m⟩ : PTask) bst w → p.length + 2 * 6 ^ m_ ≤ 10000000 →
  Spec Tryz.prog 72 #[vw, ptr b1 0, ptr b2 0, ptr b3 0, ptr b4 0] [gw, gP, blk b2 [vW, .int .i64 bst, vP] 80, sm] [blk b1 [vl, vr, .int .i64 m.n, .int .i64 m.d] 77, blk b3 [ptr bt 0] 203, blk b4 [(.func (.func 72) #[] #[ptr b1 0, ptr b2 0, ptr b3 0, ptr b4 0])] 207, blk bt [vl, vr, .int .i64 m.n, .int .i64 m.d, .map (some bm)] 206, hl, K, hr]
   (fun _ hs => ∃ vP2 gP2 sm2, hs = [gP2, blk b2 [vW, .int .i64 bst, vP2] 80, sm2] ∧ KnownS (⟨(l.map Prod.snd), rs, m⟩ : PTask) bm sm2 ∧ OArr vP2 encB 1 4 gP2 (proveG (⟨(l.map Prod.snd), rs, m⟩ : PTask) bst w p)) := by
 intro m_
 have ll := jl.le
 have lm : (l.map Prod.snd).length = l.length := List.length_map ..
 have few := ok.few
 have few2 : l.length ≤ 8 := by rw [← lm]; exact few
 have rk5 := ok.rk5
 induction m_ with
 | zero =>
  intro w vw gw vP gP p sm ow oP ks hwl hm wok bel room
  have le := prove_case (t := (⟨(l.map Prod.snd), rs, m⟩ : PTask)) (w := w) (by dsimp only; omega) bel p
  have hcut := cut_leaf bel (show w.length = (l.map Prod.snd).length by omega)
  refine Spec.intro (fn := Tryz.f72) (N := 28) Tryz.func72 rfl Tryz.ntmps72 rfl fun B => ?_
  refine XK.seq ?_
  refine XK.drawn [0, 1, 3, 4, 5, 6] [b1, b2] [] (.q 0 (.q 1 (.q 3 (.q 4 (.br 2 true (.q 5 (.q 6 .done)) .stop))))) Tryz.mixed rfl (by kernel_rfl) ?_
  refine XT.q rfl rfl (Q.ldA [_, _, _, _] rfl rfl rfl) ?_
  refine XT.q rfl rfl (Q.move rfl) ?_
  refine XT.q rfl rfl (Q.fieldAddr rfl) ?_
  refine XT.q rfl rfl (Q.ld rfl rfl) ?_
  refine XT.call rfl rfl Tryz.call69 rfl rfl rfl (hope_spec l vl hl K aL rs vr hr m w vw gw ok hwl) (fun v10 s10 R10 => ?_) XT.stop
  obtain ⟨rfl, rfl⟩ := R10
  dsimp only [lcA, lnA]
  refine ⟨inferInstance, ?_⟩
  refine XT.q rfl rfl (Q.leq rfl rfl) ?_
  refine XT.q rfl rfl (Q.assign rfl) ?_
  refine XT.done ?_
  refine XK.seq (XK.region rfl ?_)
  refine XO.q (Q.fieldAddr rfl) ?_
  refine XO.q (Q.ld rfl rfl) ?_
  refine XO.q (Q.move rfl) ?_
  refine XO.lit [_] [_] [decide (hopeG (⟨(l.map Prod.snd), rs, m⟩ : PTask) w ≤ bst)] encB (by rfl) (by rfl) rfl (by rfl) (by exact .c 0 1 rfl rfl rfl (.n _)) (fun _ => rfl) (by rfl) rfl (by infer_instance) rfl fun v17 h17 O17 => ?_
  refine XO.append rfl rfl rfl rfl (by simp only [List.length_cons, List.length_nil]; omega) fun v18 h18 O18 => ?_
  refine XO.q (Q.fieldAddr rfl) ?_
  refine XO.st rfl rfl rfl ?_
  refine XO.done (XK.seq (XK.seq (XK.region rfl (XO.q (Q.move rfl) (XO.done ?_)))))
  refine XK.if rfl (fun c0 => ?_) (fun c0 => ?_)
  ·skip
   refine XK.rt [h18, blk b2 [vW, .int .i64 bst, v18] 80, sm] Tryz.func72 Tryz.results72 (.n) ?_
   rw [if_pos c0] at le
   rw [le]
   rw [decide_eq_true c0] at O18
   exact ⟨v18, h18, sm, rfl, ks, O18⟩
  ·skip
   exact absurd hcut c0
 | succ m_ ih =>
  intro w vw gw vP gP p sm ow oP ks hwl hm wok bel room
  have h6 : 1 ≤ 6 ^ (m_ + 1) := Nat.one_le_pow _ _ (by decide)
  have le := prove_case (t := (⟨(l.map Prod.snd), rs, m⟩ : PTask)) (w := w) (by dsimp only; omega) bel p
  refine Spec.intro (fn := Tryz.f72) (N := 28) Tryz.func72 rfl Tryz.ntmps72 rfl fun B => ?_
  refine XK.seq ?_
  refine XK.drawn [0, 1, 3, 4, 5, 6] [b1, b2] [] (.q 0 (.q 1 (.q 3 (.q 4 (.br 2 true (.q 5 (.q 6 .done)) .stop))))) Tryz.mixed rfl (by kernel_rfl) ?_
  refine XT.q rfl rfl (Q.ldA [_, _, _, _] rfl rfl rfl) ?_
  refine XT.q rfl rfl (Q.move rfl) ?_
  refine XT.q rfl rfl (Q.fieldAddr rfl) ?_
  refine XT.q rfl rfl (Q.ld rfl rfl) ?_
  refine XT.call rfl rfl Tryz.call69 rfl rfl rfl (hope_spec l vl hl K aL rs vr hr m w vw gw ok hwl) (fun v10 s10 R10 => ?_) XT.stop
  obtain ⟨rfl, rfl⟩ := R10
  dsimp only [lcA, lnA]
  refine ⟨inferInstance, ?_⟩
  refine XT.q rfl rfl (Q.leq rfl rfl) ?_
  refine XT.q rfl rfl (Q.assign rfl) ?_
  refine XT.done ?_
  refine XK.seq (XK.region rfl ?_)
  refine XO.q (Q.fieldAddr rfl) ?_
  refine XO.q (Q.ld rfl rfl) ?_
  refine XO.q (Q.move rfl) ?_
  refine XO.lit [_] [_] [decide (hopeG (⟨(l.map Prod.snd), rs, m⟩ : PTask) w ≤ bst)] encB (by rfl) (by rfl) rfl (by rfl) (by exact .c 0 1 rfl rfl rfl (.n _)) (fun _ => rfl) (by rfl) rfl (by infer_instance) rfl fun v17 h17 O17 => ?_
  refine XO.append rfl rfl rfl rfl (by simp only [List.length_cons, List.length_nil]; omega) fun v18 h18 O18 => ?_
  refine XO.q (Q.fieldAddr rfl) ?_
  refine XO.st rfl rfl rfl ?_
  refine XO.done (XK.seq (XK.seq (XK.region rfl (XO.q (Q.move rfl) (XO.done ?_)))))
  refine XK.if rfl (fun c0 => ?_) (fun c0 => ?_)
  ·skip
   refine XK.rt [h18, blk b2 [vW, .int .i64 bst, v18] 80, sm] Tryz.func72 Tryz.results72 (.n) ?_
   rw [if_pos c0] at le
   rw [le]
   rw [decide_eq_true c0] at O18
   exact ⟨v18, h18, sm, rfl, ks, O18⟩
  ·skip
   have hlt : w.length < l.length := by
    rcases Nat.lt_or_ge w.length l.length with h | h
    ·exact h
    ·exact absurd (cut_leaf bel (show w.length = (l.map Prod.snd).length by omega)) c0
   rw [decide_eq_false c0] at O18
   refine XK.skip (XK.seq (XK.region rfl ?_))
   refine XO.q (Q.ld rfl rfl) ?_
   refine XO.q (Q.move rfl) ?_
   refine XO.call Tryz.call71 rfl rfl rfl (sons_spec l vl hl K aL rs vr hr m w vw gw ok lok hlt wok bt bm) fun v23 s23 R23 => ?_
   obtain ⟨bx, by_, rfl, hit⟩ := R23
   dsimp only [lcA, lnA]
   refine XO.done (XK.block ?_)
   refine XK.rangeG (X := Value × PHeap × List Bool) (ps := [24]) (fun ⟨vP1, gP1, p1⟩ => [gP1, blk b2 [vW, .int .i64 bst, vP1] 80]) (fun i ⟨vP1, gP1, p1⟩ => p1 = (foldTo (fun p son => proveG (⟨(l.map Prod.snd), rs, m⟩ : PTask) bst son p) (psons (⟨(l.map Prod.snd), rs, m⟩ : PTask) w) (p ++ [false]) i) ∧ OArr vP1 encB 1 4 gP1 p1) (fun j0 ⟨vP1, gP1, p1⟩ => False) (v18, h18, p ++ [false]) [h18, blk b2 [vW, .int .i64 bst, v18] 80] (sm) rfl (hit) rfl (⟨rfl, O18⟩) (ks) rfl (fun i g vs hY => by obtain ⟨v, rfl, _⟩ := hY; rfl) ?_ ?_ (fun _ _ _ hJ _ => hJ.elim)
   ·rintro lq rec B' i ⟨vP1, gP1, p1⟩ sm1 g1 vs hi ⟨v24, rfl, O24⟩ ⟨e1, oP1⟩ ks1
    dsimp only [lcA, lnA]
    obtain ⟨y, ey, y1, y2⟩ := psons_get (t := (⟨(l.map Prod.snd), rs, m⟩ : PTask)) (w := w) hi
    change (psons (⟨(l.map Prod.snd), rs, m⟩ : PTask) w).getD i [] = w ++ [y] at ey
    have el : ((psons (⟨(l.map Prod.snd), rs, m⟩ : PTask) w).getD i []).length = w.length + 1 := by
     have := congrArg List.length ey
     rw [List.length_append] at this; exact this
    refine XK.region rfl (XO.q (Q.assign rfl) (XO.done ?_))
    refine XK.beginRound ?_
    refine XK.block (XK.region rfl ?_)
    refine XO.q (Q.ld rfl rfl) ?_
    refine XO.q (Q.move rfl) ?_
    refine XO.call Tryz.call72 rfl rfl rfl (ih ((psons (⟨(l.map Prod.snd), rs, m⟩ : PTask) w).getD i []) v24 g1 vP1 gP1 p1 sm1 O24 oP1 ks1 (by rw [el]; omega) (by rw [el]; omega) (by rw [ey]; exact wok.snoc (by dsimp only; omega) y1 y2) (below_son (by dsimp only; omega) bel hi) (by have := prove_room ok (m := m_) (w := w) (by dsimp only; omega) (by dsimp only; omega) bel p hi; rw [← e1] at this; omega)) fun v27 s27 R27 => ?_
    obtain ⟨vP2, gP2, sm2, rfl, ks2, oP2⟩ := R27
    dsimp only [lcA, lnA]
    refine XO.done ?_
    refine XK.inBlock ?_
    exact XK.leave (j := none) [gP2, blk b2 [vW, .int .i64 bst, vP2] 80, sm2] trivial ⟨(vP2, gP2, (proveG (⟨(l.map Prod.snd), rs, m⟩ : PTask) bst ((psons (⟨(l.map Prod.snd), rs, m⟩ : PTask) w).getD i []) p1)), sm2, ⟨by rw [foldTo, ← e1]; rfl, oP2⟩, ks2, rfl⟩
   ·rintro ⟨vP1, gP1, p1⟩ sm1 ⟨e1, oP1⟩ ks1
    dsimp only [lcA, lnA]
    refine XK.inBlock ?_
    refine XK.fn [gP1, blk b2 [vW, .int .i64 bst, vP1] 80, sm1] Tryz.func72 Tryz.results72 (.n) ?_
    rw [if_neg c0, ← e1] at le
    rw [le]
    exact ⟨vP1, gP1, sm1, rfl, ks1, oP1⟩
set_option maxHeartbeats 4000000 in
theorem Best_spec (l : List (Value × PJob)) (vl : Value) (hl K : PHeap) [jl : Arr vl encPJ 6 hl l] (aL : JobsK l K) (rs : List PRack) (vr : Value) (hr : PHeap) [jr : Arr vr encRack 5 hr rs] (m : PRat) : Spec Tryz.prog 25 #[.agg #[vl, vr, .int .i64 m.n, .int .i64 m.d]] [] [hl, K, hr] (fun v hs => ∃ vW vP kW kP bw s p, v = .tuple #[.agg #[vW, .int .i64 s, vP], .int .i64 (readyG (⟨(l.map Prod.snd), rs, m⟩ : PTask))] ∧ hs = [kW, kP] ∧ OArr vW encI 1 3 kW bw ∧ OArr vP encB 1 4 kP p ∧ (readyG (⟨(l.map Prod.snd), rs, m⟩ : PTask) = 0 → (bw, s, p) = (bestP (⟨(l.map Prod.snd), rs, m⟩ : PTask))) ∧ (readyG (⟨(l.map Prod.snd), rs, m⟩ : PTask) ≠ 0 → (bw, s, p) = ([], 0, []))) := by
 have nI : OArr (.slice none 0 0) encI 1 3 emp ([] : List Int) := OArr.nil (fun _ => rfl)
 have nB : OArr (.slice none 0 0) encB 1 4 emp ([] : List Bool) := OArr.nil (fun _ => rfl)
 have lm : (l.map Prod.snd).length = l.length := List.length_map ..
 refine Spec.intro (fn := Tryz.f25) (N := 27) Tryz.func25 rfl Tryz.ntmps25 rfl fun B => ?_
 refine XK.seq (XK.region rfl ?_)
 refine XO.box rfl fun b1 => ?_
 refine XO.alloc fun b2 => ?_
 refine XO.q (Q.assign rfl) (XO.done (XK.seq (XK.seq (XK.region rfl ?_))))
 refine XO.q (Q.ldA [_, _, _, _] rfl rfl rfl) ?_
 refine XO.call Tryz.call67 rfl rfl rfl (ready_spec l vl hl K aL rs vr hr m) fun v10 s10 R10 => ?_
 obtain ⟨rfl, rfl⟩ := R10
 dsimp only [lcA, lnA]
 refine XO.q (Q.assign rfl) (XO.done (XK.seq (XK.region rfl (XO.q (Q.move rfl) ?_))))
 refine XO.q (Q.neq rfl rfl) ?_
 refine XO.done ?_
 refine XK.if rfl (fun c0 => ?_) (fun c0 => ?_)
 ·skip
  refine XK.seq (XK.region rfl ?_)
  refine XO.q (Q.build [_, _, _] (.n _)) ?_
  refine XO.q (Q.move rfl) ?_
  refine XO.st rfl rfl rfl ?_
  refine XO.q (Q.assign rfl) (XO.done ?_)
  refine XK.rt [emp, emp] Tryz.func25 Tryz.results25 (.cell [_, _, _] rfl rfl rfl (.t rfl .n)) ?_
  exact ⟨.slice none 0 0, .slice none 0 0, emp, emp, [], 0, [], rfl, rfl, nI, nB, fun h => absurd h c0, fun _ => rfl⟩
 ·skip
  have rk := ready_ok (Decidable.of_not_not c0)
  refine XK.skip (XK.seq (XK.region rfl ?_))
  refine XO.q (Q.ldA [_, _, _, _] rfl rfl rfl) ?_
  refine XO.map encK2 fun b16 => ?_
  refine XO.q (Q.build [_, _, _, _, _] (.c 0 4 rfl rfl rfl (.c 4 1 rfl rfl rfl (.n _)))) ?_
  refine XO.box rfl fun b18 => ?_
  refine XO.alloc fun b5 => ?_
  refine XO.st rfl rfl rfl ?_
  refine XO.done (XK.seq (XK.region rfl ?_))
  refine XO.q (Q.build [_, _, _] (.c 1 1 rfl rfl rfl (.n _))) ?_
  refine XO.alloc fun b6 => ?_
  refine XO.st rfl rfl rfl ?_
  refine XO.done (XK.seq (XK.region rfl ?_))
  refine XO.alloc fun b7 => ?_
  refine XO.done (XK.seq (XK.region rfl ?_))
  refine XO.q (Q.func (fun _ he => rfl) (fun _ he => evs_rel he rfl)) ?_
  refine XO.st rfl rfl rfl ?_
  refine XO.done (XK.seq (XK.region rfl ?_))
  refine XO.q (Q.ld rfl rfl) ?_
  refine XO.drop (o' := [emp, emp, blk b7 [.func (.func 68) #[] #[ptr b1 0, ptr b6 0, ptr b5 0, ptr b7 0]] 207, blk b6 [.slice none 0 0, .int .i64 (-1), .slice none 0 0] 80, mapH b16 encK2 [], blk b5 [ptr b18 0] 203, blk b18 [vl, vr, .int .i64 m.n, .int .i64 m.d, .map (some b16)] 206, blk b2 [.slice none 0 0, .int .i64 0, .slice none 0 0] 80, blk b1 [vl, vr, .int .i64 m.n, .int .i64 m.d] 77]) ?_
  refine XO.call Tryz.call68 rfl rfl rfl (look_spec l vl hl K aL rs vr hr m rk.1 rk.2 b1 b6 b5 b7 b18 b16 (.slice none 0 0) l.length [] (.slice none 0 0) emp (.slice none 0 0) emp [] (-1) (mapH b16 encK2 []) nI nI ⟨[], rfl, KnownP.nil _⟩ (Nat.zero_le _) (by simp) (wok_nil _) ⟨by omega, by omega⟩) fun v22 s22 R22 => ?_
  obtain ⟨vW, gW, sm, rfl, ks, oW, r1, r2⟩ := R22
  dsimp only [lcA, lnA]
  refine XO.done (XK.seq (XK.region rfl ?_))
  refine XO.alloc fun b8 => ?_
  refine XO.done (XK.seq (XK.region rfl ?_))
  refine XO.q (Q.func (fun _ he => rfl) (fun _ he => evs_rel he rfl)) ?_
  refine XO.st rfl rfl rfl ?_
  refine XO.done (XK.seq (XK.region rfl ?_))
  refine XO.q (Q.ld rfl rfl) ?_
  refine XO.drop (o' := [emp, emp, blk b8 [.func (.func 72) #[] #[ptr b1 0, ptr b6 0, ptr b5 0, ptr b8 0]] 207, blk b6 [vW, .int .i64 (lookG (⟨(l.map Prod.snd), rs, m⟩ : PTask) [] ([], -1)).2, .slice none 0 0] 80, sm, gW, blk b5 [ptr b18 0] 203, blk b18 [vl, vr, .int .i64 m.n, .int .i64 m.d, .map (some b16)] 206, blk b2 [.slice none 0 0, .int .i64 0, .slice none 0 0] 80, blk b1 [vl, vr, .int .i64 m.n, .int .i64 m.d] 77]) ?_
  refine XO.call Tryz.call72 rfl rfl rfl (prove_spec l vl hl K aL rs vr hr m rk.1 rk.2 b1 b6 b5 b8 b18 b16 vW (lookG (⟨(l.map Prod.snd), rs, m⟩ : PTask) [] ([], -1)).2 l.length [] (.slice none 0 0) emp (.slice none 0 0) emp [] sm nI nB ks (Nat.zero_le _) (by simp) (wok_nil _) (look_below rk.1 _ [] ([], -1) (Nat.zero_le _) (Nat.le_refl _)).2 (by have h8 : 6 ^ l.length ≤ 6 ^ 8 := Nat.pow_le_pow_right (by decide) (by have := rk.1.few; dsimp only at this; omega); have : (6 : Nat) ^ 8 = 1679616 := rfl; simp only [List.length_nil]; omega)) fun v25 s25 R25 => ?_
  obtain ⟨vP, gP, sm2, rfl, ks2, oP⟩ := R25
  dsimp only [lcA, lnA]
  refine XO.done (XK.seq (XK.region rfl ?_))
  refine XO.q (Q.ldA [_, _, _] rfl rfl rfl) ?_
  refine XO.st rfl rfl rfl ?_
  refine XO.q (Q.assign rfl) (XO.done ?_)
  refine XK.rt [gW, gP] Tryz.func25 Tryz.results25 (.cell [_, _, _] rfl rfl rfl (.t rfl .n)) ?_
  exact ⟨vW, vP, gW, gP, (lookG (⟨(l.map Prod.snd), rs, m⟩ : PTask) [] ([], -1)).1, (lookG (⟨(l.map Prod.snd), rs, m⟩ : PTask) [] ([], -1)).2, proveG (⟨(l.map Prod.snd), rs, m⟩ : PTask) (lookG (⟨(l.map Prod.snd), rs, m⟩ : PTask) [] ([], -1)).2 [] [], by rw [Decidable.of_not_not c0], rfl, oW, oP, fun _ => rfl, fun h => absurd (Decidable.of_not_not c0) h⟩
end Go.X.Pl

set_option linter.unusedSimpArgs false
set_option linter.unusedVariables false
set_option maxRecDepth 20000
namespace Go.X.Pl
open Go.Proofs
def encRat (x : PRat) : List Value := [.int .i64 x.n, .int .i64 x.d]
theorem JobsK.nil (K : PHeap) : JobsK [] K := fun i hi => absurd hi (Nat.not_lt_zero i)
theorem JobsK.mono {l : List (Value × PJob)} {K K' : PHeap} (a : JobsK l K) (h : leH K K') : JobsK l K' := fun i hi => Arr.le_heap (a i hi) h
theorem JobsK.snoc {l : List (Value × PJob)} {K : PHeap} {x : Value × PJob} (a : JobsK l K) (b : Arr x.1 encDraw 2 K x.2.draws) : JobsK (l ++ [x]) K := each_snoc (Q := fun x : Value × PJob => Arr x.1 encDraw 2 K x.2.draws) a b
theorem next09 (b : Nat) (vx : Value) (hx : PHeap) (x : List UInt8) [jx : Arr vx encU8 1 hx x] (i n : Nat) (hi : i ≤ 1000000000) (hn : 0 < n) (hn2 : n ≤ 1000000) : Spec Tryz.prog 66 #[ptr b 0, .int .i64 (n : Nat)] [blk b [vx, .int .i64 ((i : Nat) : Int)] 200] [hx]
  (fun v hs => hs = [blk b [vx, .int .i64 ((i + 1 : Nat) : Int)] 200] ∧ ∃ r : Nat, v = .int .i64 (r : Nat) ∧ r < n) := by
 refine Spec.intro (fn := Tryz.f66) (N := 36) Tryz.func66 rfl Tryz.ntmps66 rfl fun B => ?_
 refine XK.seq (XK.region rfl (XO.q (Q.assign rfl) (XO.done (XK.seq (XK.region rfl ?_)))))
 refine XO.q (Q.move rfl) ?_
 refine XO.q (Q.nilCheck rfl) ?_
 refine XO.q (Q.fieldAddr rfl) ?_
 refine XO.q (Q.ld rfl rfl) ?_
 refine XO.q (Q.add rfl rfl ⟨by omega, by omega⟩) ?_
 rw [show ((i : Int) + 1) = ((i + 1 : Nat) : Int) from rfl]
 refine XO.q (Q.nilCheck rfl) ?_
 refine XO.q (Q.fieldAddr rfl) ?_
 refine XO.st rfl rfl rfl ?_
 refine XO.done (XK.seq (XK.seq ?_))
 refine XK.drawn [0, 1, 2, 3, 4, 5, 6, 7, 8, 9] [b] [] (.q 0 (.q 1 (.q 2 (.q 3 (.q 4 (.q 5 (.q 6 (.q 7 (.q 8 (.q 9 .done)))))))))) Tryz.mixed rfl (by kernel_rfl) ?_
 refine XT.q rfl rfl (Q.move rfl) ?_
 refine XT.q rfl rfl (Q.nilCheck rfl) ?_
 refine XT.q rfl rfl (Q.fieldAddr rfl) ?_
 refine XT.q rfl rfl (Q.ld rfl rfl) ?_
 refine XT.q rfl rfl (Q.move rfl) ?_
 refine XT.q rfl rfl (Q.nilCheck rfl) ?_
 refine XT.q rfl rfl (Q.fieldAddr rfl) ?_
 refine XT.q rfl rfl (Q.ld rfl rfl) ?_
 refine XT.q rfl rfl (Q.len rfl) ?_
 refine XT.q rfl rfl (Q.gtr rfl rfl) ?_
 refine XT.done ?_
 refine XK.if rfl (fun c0 => ?_) (fun c0 => ?_)
 ·skip
  refine XK.seq (XK.region rfl (XO.q (Q.assign rfl) (XO.done ?_)))
  refine XK.rt [blk b [vx, .int .i64 ((i + 1 : Nat) : Int)] 200] Tryz.func66 Tryz.results66 (.t rfl .n) ?_
  exact ⟨rfl, 0, rfl, hn⟩
 ·skip
  refine XK.skip (XK.seq ?_)
  refine XK.drawn [0, 1, 2, 3, 4, 5, 6, 7, 8, 9, 10, 11, 12, 13, 14] [b] [] (.q 0 (.q 1 (.q 2 (.q 3 (.q 4 (.q 5 (.q 6 (.q 7 (.q 8 (.q 9 (.q 10 (.q 11 (.q 12 (.q 13 (.q 14 .done))))))))))))))) Tryz.mixed rfl (by kernel_rfl) ?_
  refine XT.q rfl rfl (Q.move rfl) ?_
  refine XT.q rfl rfl (Q.nilCheck rfl) ?_
  refine XT.q rfl rfl (Q.fieldAddr rfl) ?_
  refine XT.q rfl rfl (Q.ld rfl rfl) ?_
  refine XT.q rfl rfl (Q.move rfl) ?_
  refine XT.q rfl rfl (Q.nilCheck rfl) ?_
  refine XT.q rfl rfl (Q.fieldAddr rfl) ?_
  refine XT.q rfl rfl (Q.ld rfl rfl) ?_
  refine XT.q rfl rfl (Q.sub rfl rfl ⟨by omega, by omega⟩) ?_
  rw [show (((i + 1 : Nat) : Int) - 1) = (i : Int) by omega]
  refine XT.ix rfl rfl rfl rfl (by omega) (by omega) fun i31 => ?_
  refine XT.q rfl rfl (Q.ldE rfl (by first | assumption | omega) rfl) ?_
  refine XT.q rfl rfl (Q.conv rfl) ?_
  have hu := (x.getD i default).toNat_lt
  rw [wrap64_of ⟨by omega, by omega⟩]
  refine XT.q rfl rfl (Q.move rfl) ?_
  refine XT.q rfl rfl (Q.rem rfl rfl (by omega) (by omega)) ?_
  rw [show ((((x.getD i default).toNat : Nat) : Int) % (n : Int)) = (((x.getD i default).toNat % n : Nat) : Int) from rfl]
  refine XT.q rfl rfl (Q.assign rfl) ?_
  refine XT.done ?_
  refine XK.rt [blk b [vx, .int .i64 ((i + 1 : Nat) : Int)] 200] Tryz.func66 Tryz.results66 (.t rfl .n) ?_
  exact ⟨rfl, (x.getD i default).toNat % n, rfl, Nat.mod_lt _ hn⟩
set_option maxHeartbeats 4000000 in
theorem made09 (vx : Value) (hx : PHeap) (x : List UInt8) [jx : Arr vx encU8 1 hx x] : Spec Tryz.prog 24 #[vx] [] [hx] (fun v hs => ∃ l vl kl K rs vr kr m, v = .agg #[vl, vr, .int .i64 m.n, .int .i64 m.d] ∧ hs = [kl, K, kr] ∧ OArr vl encPJ 6 88 kl l ∧ JobsK l K ∧ OArr vr encRack 5 85 kr rs ∧ MkTask (⟨(l.map Prod.snd), rs, m⟩ : PTask)) := by
 have nP : OArr (.slice none 0 0) encPJ 6 88 emp ([] : List (Value × PJob)) := OArr.nil (fun _ => rfl)
 have nR : OArr (.slice none 0 0) encRack 5 85 emp ([] : List PRack) := OArr.nil (fun _ => rfl)
 have nD : OArr (.slice none 0 0) encDraw 2 90 emp ([] : List PDraw) := OArr.nil (fun _ => rfl)
 have ml : mostsX.length = 5 := rfl
 refine Spec.intro (fn := Tryz.f24) (N := 95) Tryz.func24 rfl Tryz.ntmps24 rfl fun B => ?_
 refine XK.seq (XK.region rfl ?_)
 refine XO.alloc fun b2 => ?_
 refine XO.done (XK.seq (XK.region rfl (XO.q (Q.move rfl) ?_)))
 refine XO.q (Q.build [_, _] (.c 0 1 rfl rfl rfl (.n _))) ?_
 refine XO.box rfl fun b11 => ?_
 refine XO.q (Q.assign rfl) (XO.done (XK.seq (XK.region rfl ?_)))
 refine XO.q (Q.build [_, _] (.c 0 1 rfl rfl rfl (.c 1 1 rfl rfl rfl (.n _)))) ?_
 refine XO.q (Q.build [_, _] (.c 0 1 rfl rfl rfl (.c 1 1 rfl rfl rfl (.n _)))) ?_
 refine XO.q (Q.build [_, _] (.c 0 1 rfl rfl rfl (.c 1 1 rfl rfl rfl (.n _)))) ?_
 refine XO.q (Q.build [_, _] (.c 0 1 rfl rfl rfl (.c 1 1 rfl rfl rfl (.n _)))) ?_
 refine XO.q (Q.build [_, _] (.c 0 1 rfl rfl rfl (.c 1 1 rfl rfl rfl (.n _)))) ?_
 refine XO.lit [_, _, _, _, _, _, _, _, _, _] [_, _, _, _, _, _, _, _, _, _] mostsX encRat (by rfl) (by rfl) rfl (by rfl) (by exact .c 0 2 rfl rfl rfl (.c 2 2 rfl rfl rfl (.c 4 2 rfl rfl rfl (.c 6 2 rfl rfl rfl (.c 8 2 rfl rfl rfl (.n _)))))) (fun _ => rfl) (by rfl) rfl (by infer_instance) rfl fun v17 h17 O17 => ?_
 refine XO.q (Q.assign rfl) (XO.done (XK.seq (XK.region rfl (XO.q (Q.move rfl) (XO.q (Q.move rfl) ?_)))))
 refine XO.callB b11 Tryz.call66 rfl rfl rfl (next09 b11 vx hx x (0) (5) (by omega) (by omega) (by omega)) fun v20 s20 R20 => ?_
 obtain ⟨rfl, n20, rfl, h20⟩ := R20
 dsimp only [lcA, lnA]
 refine XO.ix rfl rfl (by omega) (by omega) fun i21 => ?_
 refine XO.q (Q.ldEA [_, _] rfl (by first | assumption | omega) rfl rfl) ?_
 obtain ⟨m, em⟩ : ∃ m, m = mostsX.getD n20 default := ⟨_, rfl⟩
 rw [← em]
 have mo : chanceR m = true := by rw [em]; exact mosts_ok n20 (by omega)
 clear em
 refine XO.q (Q.build [_, _, _, _] (.c 2 2 rfl rfl rfl (.n _))) ?_
 refine XO.alloc fun b5 => ?_
 refine XO.st rfl rfl rfl ?_
 refine XO.done (XK.seq (XK.region rfl (XO.q (Q.move rfl) ?_)))
 refine XO.callB b11 Tryz.call66 rfl rfl rfl (next09 b11 vx hx x (0 + 1) (8) (by omega) (by omega) (by omega)) fun v25 s25 R25 => ?_
 obtain ⟨rfl, n25, rfl, h25⟩ := R25
 dsimp only [lcA, lnA]
 refine XO.q (Q.assign rfl) (XO.done (XK.seq (XK.seq (XK.region rfl (XO.q (Q.move rfl) ?_)))))
 refine XO.callB b11 Tryz.call66 rfl rfl rfl (next09 b11 vx hx x (0 + 1 + 1) (3) (by omega) (by omega) (by omega)) fun v27 s27 R27 => ?_
 obtain ⟨rfl, n27, rfl, h27⟩ := R27
 dsimp only [lcA, lnA]
 refine XO.q (Q.add rfl rfl ⟨by omega, by omega⟩) ?_
 rw [show ((1 : Int) + (n27 : Int)) = ((1 + n27 : Nat) : Int) from rfl]
 refine XO.q (Q.move rfl) (XO.done (XK.block ?_))
 refine XK.while (X := Nat × Nat × List PRack × Value × PHeap) [29, 30, 31, 32, 33, 34, 35, 36, 37, 38, 39, 40, 41, 42, 43, 44, 45, 46, 47, 48] (fun ⟨k, q, rs, vr, kr⟩ => [(29, some (.int .i64 (k : Nat)))]) (fun ⟨k, q, rs, vr, kr⟩ => [blk b11 [vx, .int .i64 ((q : Nat) : Int)] 200, blk b5 [.slice none 0 0, vr, .int .i64 m.n, .int .i64 m.d] 77, kr]) (fun ⟨k, q, rs, vr, kr⟩ => k ≤ 1 + n27 ∧ q ≤ 3 + k * 5 ∧ rs.length = k ∧ (∀ i, i < rs.length → rackR (rs.getD i default) = true) ∧ OArr vr encRack 5 85 kr rs) (fun ⟨k, q, rs, vr, kr⟩ => 1 + n27 - k) (0, 0 + 1 + 1 + 1, [], .slice none 0 0, emp) [blk b11 [vx, .int .i64 ((0 + 1 + 1 + 1 : Nat) : Int)] 200, blk b5 [.slice none 0 0, .slice none 0 0, .int .i64 m.n, .int .i64 m.d] 77, emp] rfl ⟨by omega, by omega, rfl, fun i hi => absurd hi (Nat.not_lt_zero i), nR⟩ (.c rfl (.base 0 rfl rfl)) ?_
 rintro ⟨k, q, rs, vr, kr⟩ ⟨hk, hq, rl, ro, OR⟩ ih0
 dsimp only [lcA, lnA] at ih0 ⊢
 refine XK.seq (XK.region rfl ?_)
 refine XO.q (Q.lss rfl rfl) ?_
 refine XO.done (XK.seq ?_)
 refine XK.if rfl (fun c0 => ?_) (fun c0 => ?_)
 ·skip
  refine XK.skip (XK.seq (XK.block ?_))
  refine XK.drawn [0, 2, 4, 6, 9, 11, 8, 13, 16] [] [] (.q 0 (.q 2 (.q 4 (.q 6 (.q 9 (.q 11 (.br 1 true (.br 3 true (.br 5 true (.br 7 true (.q 8 (.br 10 true (.br 12 true (.q 13 (.br 14 true (.br 15 true (.q 16 (.br 17 false .done .stop)) .stop) .stop)) .stop) .stop)) .stop) .stop) .stop) (.br 3 true (.br 1 true (.br 5 true (.br 7 true (.q 8 (.br 10 true (.br 12 true (.q 13 (.br 14 true (.br 15 true (.q 16 (.br 17 false .done .stop)) .stop) .stop)) .stop) .stop)) .stop) .stop) (.br 5 true (.br 1 true (.br 7 true (.q 8 (.br 10 true (.br 12 true (.q 13 (.br 14 true (.br 15 true (.q 16 (.br 17 false .done .stop)) .stop) .stop)) .stop) .stop)) .stop) (.br 7 true (.q 8 (.br 1 true (.br 10 true (.br 12 true (.q 13 (.br 14 true (.br 15 true (.q 16 (.br 17 false .done .stop)) .stop) .stop)) .stop) .stop) (.br 10 true (.br 1 true (.br 12 true (.q 13 (.br 14 true (.br 15 true (.q 16 (.br 17 false .done .stop)) .stop) .stop)) .stop) (.br 12 true (.q 13 (.br 1 true (.br 14 true (.br 15 true (.q 16 (.br 17 false .done .stop)) .stop) .stop) (.br 14 true (.br 1 true (.br 15 true (.q 16 (.br 17 false .done .stop)) .stop) .stop) .stop))) .stop)) .stop))) .stop)) .stop)) .stop)))))))) Tryz.mixed rfl (by kernel_rfl) ?_
  refine XT.q rfl rfl (Q.fieldAddr rfl) ?_
  refine XT.q rfl rfl (Q.move rfl) ?_
  refine XT.q rfl rfl (Q.move rfl) ?_
  refine XT.q rfl rfl (Q.move rfl) ?_
  refine XT.q rfl rfl (Q.move rfl) ?_
  refine XT.q rfl rfl (Q.move rfl) ?_
  refine XT.qs rfl rfl (Q.ld rfl rfl) ⟨inferInstance, ?_⟩ ?_
  ·skip
   refine XT.callB b11 rfl rfl Tryz.call66 rfl rfl rfl (next09 b11 vx hx x (q) (12) (by omega) (by omega) (by omega)) (fun v34 s34 R34 => ?_) XT.stop
   obtain ⟨rfl, n34, rfl, h34⟩ := R34
   dsimp only [lcA, lnA]
   refine ⟨inferInstance, ?_⟩
   refine XT.callB b11 rfl rfl Tryz.call66 rfl rfl rfl (next09 b11 vx hx x (q + 1) (12) (by omega) (by omega) (by omega)) (fun v36 s36 R36 => ?_) XT.stop
   obtain ⟨rfl, n36, rfl, h36⟩ := R36
   dsimp only [lcA, lnA]
   refine ⟨inferInstance, ?_⟩
   refine XT.callB b11 rfl rfl Tryz.call66 rfl rfl rfl (next09 b11 vx hx x (q + 1 + 1) (12) (by omega) (by omega) (by omega)) (fun v38 s38 R38 => ?_) XT.stop
   obtain ⟨rfl, n38, rfl, h38⟩ := R38
   dsimp only [lcA, lnA]
   refine ⟨inferInstance, ?_⟩
   refine XT.q rfl rfl (Q.build [_, _, _] (.c 0 1 rfl rfl rfl (.c 1 1 rfl rfl rfl (.c 2 1 rfl rfl rfl (.n _))))) ?_
   refine XT.callB b11 rfl rfl Tryz.call66 rfl rfl rfl (next09 b11 vx hx x (q + 1 + 1 + 1) (80) (by omega) (by omega) (by omega)) (fun v41 s41 R41 => ?_) XT.stop
   obtain ⟨rfl, n41, rfl, h41⟩ := R41
   dsimp only [lcA, lnA]
   refine ⟨inferInstance, ?_⟩
   refine XT.callB b11 rfl rfl Tryz.call66 rfl rfl rfl (next09 b11 vx hx x (q + 1 + 1 + 1 + 1) (3) (by omega) (by omega) (by omega)) (fun v43 s43 R43 => ?_) XT.stop
   obtain ⟨rfl, n43, rfl, h43⟩ := R43
   dsimp only [lcA, lnA]
   refine ⟨inferInstance, ?_⟩
   refine XT.q rfl rfl (Q.build [_, _, _, _, _] (.c 0 3 rfl rfl rfl (.c 3 1 rfl rfl rfl (.c 4 1 rfl rfl rfl (.n _))))) ?_
   refine XT.lit [_, _, _, _, _] [_, _, _, _, _] [(⟨n34, n36, n38, n41, n43⟩ : PRack)] encRack rfl rfl (by rfl) (by rfl) rfl (by rfl) (by exact .c 0 5 rfl rfl rfl (.n _)) (fun _ => rfl) (by rfl) rfl (by infer_instance) rfl (fun v45 h45 O45 => ⟨inferInstance, ?_⟩) XT.stop
   refine XT.append rfl rfl rfl rfl rfl rfl (by first | omega | (simp; omega)) (fun v46 h46 O46 => ⟨inferInstance, ?_⟩) XT.stop
   refine XT.q rfl rfl (Q.fieldAddr rfl) ?_
   refine XT.st rfl rfl rfl rfl rfl ⟨inferInstance, ?_⟩ XT.stop
   refine XT.done ?_
   refine XK.inBlock ?_
   refine XK.region rfl ?_
   refine XO.q (Q.add rfl rfl ⟨by omega, by omega⟩) ?_
   refine XO.q (Q.move rfl) (XO.done ?_)
   exact ih0 (k + 1, q + 1 + 1 + 1 + 1 + 1, rs ++ [(⟨n34, n36, n38, n41, n43⟩ : PRack)], v46, h46) _ _ ⟨by dsimp only; omega, by dsimp only; omega, by dsimp only; rw [List.length_append, rl]; rfl, by dsimp only; exact each_snoc (Q := fun r => rackR r = true) ro (rack_ok (by omega) (by omega) (by omega) (by omega) (by omega)), O46⟩ (by first | omega | (dsimp only; omega)) (.c rfl (.base 41 rfl rfl)) inferInstance
  ·skip
   refine XT.callB b11 rfl rfl Tryz.call66 rfl rfl rfl (next09 b11 vx hx x (q) (12) (by omega) (by omega) (by omega)) (fun v34 s34 R34 => ?_) XT.stop
   obtain ⟨rfl, n34, rfl, h34⟩ := R34
   dsimp only [lcA, lnA]
   refine ⟨inferInstance, ?_⟩
   refine XT.qs rfl rfl (Q.ld rfl rfl) ⟨inferInstance, ?_⟩ ?_
   ·skip
    refine XT.callB b11 rfl rfl Tryz.call66 rfl rfl rfl (next09 b11 vx hx x (q + 1) (12) (by omega) (by omega) (by omega)) (fun v36 s36 R36 => ?_) XT.stop
    obtain ⟨rfl, n36, rfl, h36⟩ := R36
    dsimp only [lcA, lnA]
    refine ⟨inferInstance, ?_⟩
    refine XT.callB b11 rfl rfl Tryz.call66 rfl rfl rfl (next09 b11 vx hx x (q + 1 + 1) (12) (by omega) (by omega) (by omega)) (fun v38 s38 R38 => ?_) XT.stop
    obtain ⟨rfl, n38, rfl, h38⟩ := R38
    dsimp only [lcA, lnA]
    refine ⟨inferInstance, ?_⟩
    refine XT.q rfl rfl (Q.build [_, _, _] (.c 0 1 rfl rfl rfl (.c 1 1 rfl rfl rfl (.c 2 1 rfl rfl rfl (.n _))))) ?_
    refine XT.callB b11 rfl rfl Tryz.call66 rfl rfl rfl (next09 b11 vx hx x (q + 1 + 1 + 1) (80) (by omega) (by omega) (by omega)) (fun v41 s41 R41 => ?_) XT.stop
    obtain ⟨rfl, n41, rfl, h41⟩ := R41
    dsimp only [lcA, lnA]
    refine ⟨inferInstance, ?_⟩
    refine XT.callB b11 rfl rfl Tryz.call66 rfl rfl rfl (next09 b11 vx hx x (q + 1 + 1 + 1 + 1) (3) (by omega) (by omega) (by omega)) (fun v43 s43 R43 => ?_) XT.stop
    obtain ⟨rfl, n43, rfl, h43⟩ := R43
    dsimp only [lcA, lnA]
    refine ⟨inferInstance, ?_⟩
    refine XT.q rfl rfl (Q.build [_, _, _, _, _] (.c 0 3 rfl rfl rfl (.c 3 1 rfl rfl rfl (.c 4 1 rfl rfl rfl (.n _))))) ?_
    refine XT.lit [_, _, _, _, _] [_, _, _, _, _] [(⟨n34, n36, n38, n41, n43⟩ : PRack)] encRack rfl rfl (by rfl) (by rfl) rfl (by rfl) (by exact .c 0 5 rfl rfl rfl (.n _)) (fun _ => rfl) (by rfl) rfl (by infer_instance) rfl (fun v45 h45 O45 => ⟨inferInstance, ?_⟩) XT.stop
    refine XT.append rfl rfl rfl rfl rfl rfl (by first | omega | (simp; omega)) (fun v46 h46 O46 => ⟨inferInstance, ?_⟩) XT.stop
    refine XT.q rfl rfl (Q.fieldAddr rfl) ?_
    refine XT.st rfl rfl rfl rfl rfl ⟨inferInstance, ?_⟩ XT.stop
    refine XT.done ?_
    refine XK.inBlock ?_
    refine XK.region rfl ?_
    refine XO.q (Q.add rfl rfl ⟨by omega, by omega⟩) ?_
    refine XO.q (Q.move rfl) (XO.done ?_)
    exact ih0 (k + 1, q + 1 + 1 + 1 + 1 + 1, rs ++ [(⟨n34, n36, n38, n41, n43⟩ : PRack)], v46, h46) _ _ ⟨by dsimp only; omega, by dsimp only; omega, by dsimp only; rw [List.length_append, rl]; rfl, by dsimp only; exact each_snoc (Q := fun r => rackR r = true) ro (rack_ok (by omega) (by omega) (by omega) (by omega) (by omega)), O46⟩ (by first | omega | (dsimp only; omega)) (.c rfl (.base 41 rfl rfl)) inferInstance
   ·skip
    refine XT.callB b11 rfl rfl Tryz.call66 rfl rfl rfl (next09 b11 vx hx x (q + 1) (12) (by omega) (by omega) (by omega)) (fun v36 s36 R36 => ?_) XT.stop
    obtain ⟨rfl, n36, rfl, h36⟩ := R36
    dsimp only [lcA, lnA]
    refine ⟨inferInstance, ?_⟩
    refine XT.qs rfl rfl (Q.ld rfl rfl) ⟨inferInstance, ?_⟩ ?_
    ·skip
     refine XT.callB b11 rfl rfl Tryz.call66 rfl rfl rfl (next09 b11 vx hx x (q + 1 + 1) (12) (by omega) (by omega) (by omega)) (fun v38 s38 R38 => ?_) XT.stop
     obtain ⟨rfl, n38, rfl, h38⟩ := R38
     dsimp only [lcA, lnA]
     refine ⟨inferInstance, ?_⟩
     refine XT.q rfl rfl (Q.build [_, _, _] (.c 0 1 rfl rfl rfl (.c 1 1 rfl rfl rfl (.c 2 1 rfl rfl rfl (.n _))))) ?_
     refine XT.callB b11 rfl rfl Tryz.call66 rfl rfl rfl (next09 b11 vx hx x (q + 1 + 1 + 1) (80) (by omega) (by omega) (by omega)) (fun v41 s41 R41 => ?_) XT.stop
     obtain ⟨rfl, n41, rfl, h41⟩ := R41
     dsimp only [lcA, lnA]
     refine ⟨inferInstance, ?_⟩
     refine XT.callB b11 rfl rfl Tryz.call66 rfl rfl rfl (next09 b11 vx hx x (q + 1 + 1 + 1 + 1) (3) (by omega) (by omega) (by omega)) (fun v43 s43 R43 => ?_) XT.stop
     obtain ⟨rfl, n43, rfl, h43⟩ := R43
     dsimp only [lcA, lnA]
     refine ⟨inferInstance, ?_⟩
     refine XT.q rfl rfl (Q.build [_, _, _, _, _] (.c 0 3 rfl rfl rfl (.c 3 1 rfl rfl rfl (.c 4 1 rfl rfl rfl (.n _))))) ?_
     refine XT.lit [_, _, _, _, _] [_, _, _, _, _] [(⟨n34, n36, n38, n41, n43⟩ : PRack)] encRack rfl rfl (by rfl) (by rfl) rfl (by rfl) (by exact .c 0 5 rfl rfl rfl (.n _)) (fun _ => rfl) (by rfl) rfl (by infer_instance) rfl (fun v45 h45 O45 => ⟨inferInstance, ?_⟩) XT.stop
     refine XT.append rfl rfl rfl rfl rfl rfl (by first | omega | (simp; omega)) (fun v46 h46 O46 => ⟨inferInstance, ?_⟩) XT.stop
     refine XT.q rfl rfl (Q.fieldAddr rfl) ?_
     refine XT.st rfl rfl rfl rfl rfl ⟨inferInstance, ?_⟩ XT.stop
     refine XT.done ?_
     refine XK.inBlock ?_
     refine XK.region rfl ?_
     refine XO.q (Q.add rfl rfl ⟨by omega, by omega⟩) ?_
     refine XO.q (Q.move rfl) (XO.done ?_)
     exact ih0 (k + 1, q + 1 + 1 + 1 + 1 + 1, rs ++ [(⟨n34, n36, n38, n41, n43⟩ : PRack)], v46, h46) _ _ ⟨by dsimp only; omega, by dsimp only; omega, by dsimp only; rw [List.length_append, rl]; rfl, by dsimp only; exact each_snoc (Q := fun r => rackR r = true) ro (rack_ok (by omega) (by omega) (by omega) (by omega) (by omega)), O46⟩ (by first | omega | (dsimp only; omega)) (.c rfl (.base 41 rfl rfl)) inferInstance
    ·skip
     refine XT.callB b11 rfl rfl Tryz.call66 rfl rfl rfl (next09 b11 vx hx x (q + 1 + 1) (12) (by omega) (by omega) (by omega)) (fun v38 s38 R38 => ?_) XT.stop
     obtain ⟨rfl, n38, rfl, h38⟩ := R38
     dsimp only [lcA, lnA]
     refine ⟨inferInstance, ?_⟩
     refine XT.q rfl rfl (Q.build [_, _, _] (.c 0 1 rfl rfl rfl (.c 1 1 rfl rfl rfl (.c 2 1 rfl rfl rfl (.n _))))) ?_
     refine XT.qs rfl rfl (Q.ld rfl rfl) ⟨inferInstance, ?_⟩ ?_
     ·skip
      refine XT.callB b11 rfl rfl Tryz.call66 rfl rfl rfl (next09 b11 vx hx x (q + 1 + 1 + 1) (80) (by omega) (by omega) (by omega)) (fun v41 s41 R41 => ?_) XT.stop
      obtain ⟨rfl, n41, rfl, h41⟩ := R41
      dsimp only [lcA, lnA]
      refine ⟨inferInstance, ?_⟩
      refine XT.callB b11 rfl rfl Tryz.call66 rfl rfl rfl (next09 b11 vx hx x (q + 1 + 1 + 1 + 1) (3) (by omega) (by omega) (by omega)) (fun v43 s43 R43 => ?_) XT.stop
      obtain ⟨rfl, n43, rfl, h43⟩ := R43
      dsimp only [lcA, lnA]
      refine ⟨inferInstance, ?_⟩
      refine XT.q rfl rfl (Q.build [_, _, _, _, _] (.c 0 3 rfl rfl rfl (.c 3 1 rfl rfl rfl (.c 4 1 rfl rfl rfl (.n _))))) ?_
      refine XT.lit [_, _, _, _, _] [_, _, _, _, _] [(⟨n34, n36, n38, n41, n43⟩ : PRack)] encRack rfl rfl (by rfl) (by rfl) rfl (by rfl) (by exact .c 0 5 rfl rfl rfl (.n _)) (fun _ => rfl) (by rfl) rfl (by infer_instance) rfl (fun v45 h45 O45 => ⟨inferInstance, ?_⟩) XT.stop
      refine XT.append rfl rfl rfl rfl rfl rfl (by first | omega | (simp; omega)) (fun v46 h46 O46 => ⟨inferInstance, ?_⟩) XT.stop
      refine XT.q rfl rfl (Q.fieldAddr rfl) ?_
      refine XT.st rfl rfl rfl rfl rfl ⟨inferInstance, ?_⟩ XT.stop
      refine XT.done ?_
      refine XK.inBlock ?_
      refine XK.region rfl ?_
      refine XO.q (Q.add rfl rfl ⟨by omega, by omega⟩) ?_
      refine XO.q (Q.move rfl) (XO.done ?_)
      exact ih0 (k + 1, q + 1 + 1 + 1 + 1 + 1, rs ++ [(⟨n34, n36, n38, n41, n43⟩ : PRack)], v46, h46) _ _ ⟨by dsimp only; omega, by dsimp only; omega, by dsimp only; rw [List.length_append, rl]; rfl, by dsimp only; exact each_snoc (Q := fun r => rackR r = true) ro (rack_ok (by omega) (by omega) (by omega) (by omega) (by omega)), O46⟩ (by first | omega | (dsimp only; omega)) (.c rfl (.base 41 rfl rfl)) inferInstance
     ·skip
      refine XT.callB b11 rfl rfl Tryz.call66 rfl rfl rfl (next09 b11 vx hx x (q + 1 + 1 + 1) (80) (by omega) (by omega) (by omega)) (fun v41 s41 R41 => ?_) XT.stop
      obtain ⟨rfl, n41, rfl, h41⟩ := R41
      dsimp only [lcA, lnA]
      refine ⟨inferInstance, ?_⟩
      refine XT.qs rfl rfl (Q.ld rfl rfl) ⟨inferInstance, ?_⟩ ?_
      ·skip
       refine XT.callB b11 rfl rfl Tryz.call66 rfl rfl rfl (next09 b11 vx hx x (q + 1 + 1 + 1 + 1) (3) (by omega) (by omega) (by omega)) (fun v43 s43 R43 => ?_) XT.stop
       obtain ⟨rfl, n43, rfl, h43⟩ := R43
       dsimp only [lcA, lnA]
       refine ⟨inferInstance, ?_⟩
       refine XT.q rfl rfl (Q.build [_, _, _, _, _] (.c 0 3 rfl rfl rfl (.c 3 1 rfl rfl rfl (.c 4 1 rfl rfl rfl (.n _))))) ?_
       refine XT.lit [_, _, _, _, _] [_, _, _, _, _] [(⟨n34, n36, n38, n41, n43⟩ : PRack)] encRack rfl rfl (by rfl) (by rfl) rfl (by rfl) (by exact .c 0 5 rfl rfl rfl (.n _)) (fun _ => rfl) (by rfl) rfl (by infer_instance) rfl (fun v45 h45 O45 => ⟨inferInstance, ?_⟩) XT.stop
       refine XT.append rfl rfl rfl rfl rfl rfl (by first | omega | (simp; omega)) (fun v46 h46 O46 => ⟨inferInstance, ?_⟩) XT.stop
       refine XT.q rfl rfl (Q.fieldAddr rfl) ?_
       refine XT.st rfl rfl rfl rfl rfl ⟨inferInstance, ?_⟩ XT.stop
       refine XT.done ?_
       refine XK.inBlock ?_
       refine XK.region rfl ?_
       refine XO.q (Q.add rfl rfl ⟨by omega, by omega⟩) ?_
       refine XO.q (Q.move rfl) (XO.done ?_)
       exact ih0 (k + 1, q + 1 + 1 + 1 + 1 + 1, rs ++ [(⟨n34, n36, n38, n41, n43⟩ : PRack)], v46, h46) _ _ ⟨by dsimp only; omega, by dsimp only; omega, by dsimp only; rw [List.length_append, rl]; rfl, by dsimp only; exact each_snoc (Q := fun r => rackR r = true) ro (rack_ok (by omega) (by omega) (by omega) (by omega) (by omega)), O46⟩ (by first | omega | (dsimp only; omega)) (.c rfl (.base 41 rfl rfl)) inferInstance
      ·skip
       refine XT.callB b11 rfl rfl Tryz.call66 rfl rfl rfl (next09 b11 vx hx x (q + 1 + 1 + 1 + 1) (3) (by omega) (by omega) (by omega)) (fun v43 s43 R43 => ?_) XT.stop
       obtain ⟨rfl, n43, rfl, h43⟩ := R43
       dsimp only [lcA, lnA]
       refine ⟨inferInstance, ?_⟩
       refine XT.q rfl rfl (Q.build [_, _, _, _, _] (.c 0 3 rfl rfl rfl (.c 3 1 rfl rfl rfl (.c 4 1 rfl rfl rfl (.n _))))) ?_
       refine XT.qs rfl rfl (Q.ld rfl rfl) ⟨inferInstance, ?_⟩ ?_
       ·skip
        refine XT.lit [_, _, _, _, _] [_, _, _, _, _] [(⟨n34, n36, n38, n41, n43⟩ : PRack)] encRack rfl rfl (by rfl) (by rfl) rfl (by rfl) (by exact .c 0 5 rfl rfl rfl (.n _)) (fun _ => rfl) (by rfl) rfl (by infer_instance) rfl (fun v45 h45 O45 => ⟨inferInstance, ?_⟩) XT.stop
        refine XT.append rfl rfl rfl rfl rfl rfl (by first | omega | (simp; omega)) (fun v46 h46 O46 => ⟨inferInstance, ?_⟩) XT.stop
        refine XT.q rfl rfl (Q.fieldAddr rfl) ?_
        refine XT.st rfl rfl rfl rfl rfl ⟨inferInstance, ?_⟩ XT.stop
        refine XT.done ?_
        refine XK.inBlock ?_
        refine XK.region rfl ?_
        refine XO.q (Q.add rfl rfl ⟨by omega, by omega⟩) ?_
        refine XO.q (Q.move rfl) (XO.done ?_)
        exact ih0 (k + 1, q + 1 + 1 + 1 + 1 + 1, rs ++ [(⟨n34, n36, n38, n41, n43⟩ : PRack)], v46, h46) _ _ ⟨by dsimp only; omega, by dsimp only; omega, by dsimp only; rw [List.length_append, rl]; rfl, by dsimp only; exact each_snoc (Q := fun r => rackR r = true) ro (rack_ok (by omega) (by omega) (by omega) (by omega) (by omega)), O46⟩ (by first | omega | (dsimp only; omega)) (.c rfl (.base 41 rfl rfl)) inferInstance
       ·skip
        refine XT.lit [_, _, _, _, _] [_, _, _, _, _] [(⟨n34, n36, n38, n41, n43⟩ : PRack)] encRack rfl rfl (by rfl) (by rfl) rfl (by rfl) (by exact .c 0 5 rfl rfl rfl (.n _)) (fun _ => rfl) (by rfl) rfl (by infer_instance) rfl (fun v45 h45 O45 => ⟨inferInstance, ?_⟩) XT.stop
        refine XT.qs rfl rfl (Q.ld rfl rfl) ⟨inferInstance, ?_⟩ XT.stop
        refine XT.append rfl rfl rfl rfl rfl rfl (by first | omega | (simp; omega)) (fun v46 h46 O46 => ⟨inferInstance, ?_⟩) XT.stop
        refine XT.q rfl rfl (Q.fieldAddr rfl) ?_
        refine XT.st rfl rfl rfl rfl rfl ⟨inferInstance, ?_⟩ XT.stop
        refine XT.done ?_
        refine XK.inBlock ?_
        refine XK.region rfl ?_
        refine XO.q (Q.add rfl rfl ⟨by omega, by omega⟩) ?_
        refine XO.q (Q.move rfl) (XO.done ?_)
        exact ih0 (k + 1, q + 1 + 1 + 1 + 1 + 1, rs ++ [(⟨n34, n36, n38, n41, n43⟩ : PRack)], v46, h46) _ _ ⟨by dsimp only; omega, by dsimp only; omega, by dsimp only; rw [List.length_append, rl]; rfl, by dsimp only; exact each_snoc (Q := fun r => rackR r = true) ro (rack_ok (by omega) (by omega) (by omega) (by omega) (by omega)), O46⟩ (by first | omega | (dsimp only; omega)) (.c rfl (.base 41 rfl rfl)) inferInstance
 ·skip
  have hk3 : k = 1 + n27 := by omega
  refine XK.exit rfl ?_
  refine XK.seq (XK.seq (XK.region rfl (XO.q (Q.move rfl) (XO.q (Q.move rfl) (XO.done ?_)))))
  refine XK.block ?_
  refine XK.while (X := Nat × Nat × List (Value × PJob) × Value × PHeap × PHeap) [7, 8, 50, 51, 52, 53, 54, 55, 56, 57, 58, 59, 60, 61, 62, 63, 64, 65, 66, 67, 68, 69, 70, 71, 72, 73, 74, 75, 76, 77, 78, 79, 80, 81, 82, 83, 84, 85, 86, 87, 88, 89, 90, 91, 92, 93] (fun ⟨i, q, l, vl, kl, K⟩ => [(50, some (.int .i64 (i : Nat)))]) (fun ⟨i, q, l, vl, kl, K⟩ => [blk b11 [vx, .int .i64 ((q : Nat) : Int)] 200, blk b5 [vl, vr, .int .i64 m.n, .int .i64 m.d] 77, kl, K]) (fun ⟨i, q, l, vl, kl, K⟩ => i ≤ n25 ∧ q ≤ 100 + i * 20 ∧ l.length = i ∧ OArr vl encPJ 6 88 kl l ∧ JobsK l K ∧ (∀ i, i < l.length → MkJob (l.getD i default).2)) (fun ⟨i, q, l, vl, kl, K⟩ => n25 - i) (0, q, [], .slice none 0 0, emp, emp) [blk b11 [vx, .int .i64 ((q : Nat) : Int)] 200, blk b5 [.slice none 0 0, vr, .int .i64 m.n, .int .i64 m.d] 77, emp, emp] rfl ⟨by omega, by omega, rfl, nP, JobsK.nil _, fun i hi => absurd hi (Nat.not_lt_zero i)⟩ (.c rfl (.base 0 rfl rfl)) ?_
  rintro ⟨i, q, l, vl, kl, K⟩ ⟨hi, hq2, ll, OL, JL, jo⟩ ih1
  dsimp only [lcA, lnA] at ih1 ⊢
  refine XK.seq (XK.region rfl ?_)
  refine XO.q (Q.lss rfl rfl) ?_
  refine XO.done (XK.seq ?_)
  refine XK.if rfl (fun c1 => ?_) (fun c1 => ?_)
  ·skip
   refine XK.skip (XK.seq (XK.block (XK.seq (XK.region rfl (XO.q (Q.move rfl) ?_)))))
   refine XO.callB b11 Tryz.call66 rfl rfl rfl (next09 b11 vx hx x (q) (5) (by omega) (by omega) (by omega)) fun v53 s53 R53 => ?_
   obtain ⟨rfl, n53, rfl, h53⟩ := R53
   dsimp only [lcA, lnA]
   refine XO.q (Q.move rfl) ?_
   refine XO.callB b11 Tryz.call66 rfl rfl rfl (next09 b11 vx hx x (q + 1) (5) (by omega) (by omega) (by omega)) fun v55 s55 R55 => ?_
   obtain ⟨rfl, n55, rfl, h55⟩ := R55
   dsimp only [lcA, lnA]
   refine XO.q (Q.move rfl) ?_
   refine XO.callB b11 Tryz.call66 rfl rfl rfl (next09 b11 vx hx x (q + 1 + 1) (5) (by omega) (by omega) (by omega)) fun v57 s57 R57 => ?_
   obtain ⟨rfl, n57, rfl, h57⟩ := R57
   dsimp only [lcA, lnA]
   refine XO.q (Q.build [_, _, _] (.c 0 1 rfl rfl rfl (.c 1 1 rfl rfl rfl (.c 2 1 rfl rfl rfl (.n _))))) ?_
   refine XO.q (Q.move rfl) ?_
   refine XO.callB b11 Tryz.call66 rfl rfl rfl (next09 b11 vx hx x (q + 1 + 1 + 1) (4) (by omega) (by omega) (by omega)) fun v60 s60 R60 => ?_
   obtain ⟨rfl, n60, rfl, h60⟩ := R60
   dsimp only [lcA, lnA]
   refine XO.q (Q.move rfl) ?_
   refine XO.callB b11 Tryz.call66 rfl rfl rfl (next09 b11 vx hx x (q + 1 + 1 + 1 + 1) (10) (by omega) (by omega) (by omega)) fun v62 s62 R62 => ?_
   obtain ⟨rfl, n62, rfl, h62⟩ := R62
   dsimp only [lcA, lnA]
   refine XO.q (Q.build [_, _, _, _, _, _] (.c 0 3 rfl rfl rfl (.c 4 1 rfl rfl rfl (.c 5 1 rfl rfl rfl (.n _))))) ?_
   refine XO.alloc fun b7 => ?_
   refine XO.st rfl rfl rfl ?_
   refine XO.done (XK.seq (XK.region rfl (XO.q (Q.move rfl) ?_)))
   refine XO.callB b11 Tryz.call66 rfl rfl rfl (next09 b11 vx hx x (q + 1 + 1 + 1 + 1 + 1) (15) (by omega) (by omega) (by omega)) fun v65 s65 R65 => ?_
   obtain ⟨rfl, n65, rfl, h65⟩ := R65
   dsimp only [lcA, lnA]
   refine XO.q (Q.assign rfl) (XO.done (XK.seq (XK.seq (XK.region rfl (XO.q (Q.move rfl) ?_)))))
   refine XO.callB b11 Tryz.call66 rfl rfl rfl (next09 b11 vx hx x (q + 1 + 1 + 1 + 1 + 1 + 1) (3) (by omega) (by omega) (by omega)) fun v67 s67 R67 => ?_
   obtain ⟨rfl, n67, rfl, h67⟩ := R67
   dsimp only [lcA, lnA]
   refine XO.q (Q.add rfl rfl ⟨by omega, by omega⟩) ?_
   rw [show ((1 : Int) + (n67 : Int)) = ((1 + n67 : Nat) : Int) from rfl]
   refine XO.q (Q.move rfl) (XO.done (XK.block ?_))
   refine XK.while (X := Nat × Nat × Int × List PDraw × Value × PHeap) [8, 69, 70, 71, 72, 73, 74, 75, 76, 77, 78, 79, 80, 81, 82, 83, 84, 85, 86] (fun ⟨j, u, p, ds, vd, kd⟩ => [(69, some (.int .i64 (j : Nat))), (8, some (.int .i64 p))]) (fun ⟨j, u, p, ds, vd, kd⟩ => [blk b11 [vx, .int .i64 ((u : Nat) : Int)] 200, blk b7 [.int .i64 (n53 : Nat), .int .i64 (n55 : Nat), .int .i64 (n57 : Nat), vd, .int .i64 (n60 : Nat), .int .i64 (n62 : Nat)] 88, kd]) (fun ⟨j, u, p, ds, vd, kd⟩ => j ≤ 1 + n67 ∧ u ≤ q + 7 + j * 2 ∧ MkD j p ds ∧ OArr vd encDraw 2 90 kd ds) (fun ⟨j, u, p, ds, vd, kd⟩ => 1 + n67 - j) (0, q + 1 + 1 + 1 + 1 + 1 + 1 + 1, (n65 : Nat), [], .slice none 0 0, emp) [blk b11 [vx, .int .i64 ((q + 1 + 1 + 1 + 1 + 1 + 1 + 1 : Nat) : Int)] 200, blk b7 [.int .i64 (n53 : Nat), .int .i64 (n55 : Nat), .int .i64 (n57 : Nat), .slice none 0 0, .int .i64 (n60 : Nat), .int .i64 (n62 : Nat)] 88, emp] rfl ⟨by omega, by omega, MkD.nil (by omega), nD⟩ (.c rfl (.c rfl (.base 0 rfl rfl))) ?_
   rintro ⟨j, u, p, ds, vd, kd⟩ ⟨hj_, hu, md, OD⟩ ih2
   dsimp only [lcA, lnA] at ih2 ⊢
   refine XK.seq (XK.region rfl ?_)
   refine XO.q (Q.lss rfl rfl) ?_
   refine XO.done (XK.seq ?_)
   refine XK.if rfl (fun c2 => ?_) (fun c2 => ?_)
   ·skip
    have pp := md.p1
    have dl := md.len
    refine XK.skip (XK.seq (XK.block (XK.seq ?_)))
    refine XK.drawn [0, 2, 3, 5, 6, 9] [] [] (.q 0 (.q 2 (.q 3 (.br 1 true (.br 4 true (.q 5 (.q 6 (.br 7 true (.br 8 true (.q 9 (.br 10 false .done .stop)) .stop) .stop))) .stop) (.br 4 true (.q 5 (.q 6 (.br 1 true (.br 7 true (.br 8 true (.q 9 (.br 10 false .done .stop)) .stop) .stop) (.br 7 true (.br 1 true (.br 8 true (.q 9 (.br 10 false .done .stop)) .stop) .stop) .stop)))) .stop))))) Tryz.mixed rfl (by kernel_rfl) ?_
    refine XT.q rfl rfl (Q.fieldAddr rfl) ?_
    refine XT.q rfl rfl (Q.move rfl) ?_
    refine XT.q rfl rfl (Q.move rfl) ?_
    refine XT.qs rfl rfl (Q.ld rfl rfl) ⟨inferInstance, ?_⟩ ?_
    ·skip
     refine XT.callB b11 rfl rfl Tryz.call66 rfl rfl rfl (next09 b11 vx hx x (u) (4) (by omega) (by omega) (by omega)) (fun v75 s75 R75 => ?_) XT.stop
     obtain ⟨rfl, n75, rfl, h75⟩ := R75
     dsimp only [lcA, lnA]
     refine ⟨inferInstance, ?_⟩
     refine XT.q rfl rfl (Q.add rfl rfl ⟨by omega, by omega⟩) ?_
     refine XT.q rfl rfl (Q.build [_, _] (.c 0 1 rfl rfl rfl (.c 1 1 rfl rfl rfl (.n _)))) ?_
     refine XT.lit [_, _] [_, _] [⟨p, 1 + (n75 : Int)⟩] encDraw rfl rfl (by rfl) (by rfl) rfl (by rfl) (by exact .c 0 2 rfl rfl rfl (.n _)) (fun _ => rfl) (by rfl) rfl (by infer_instance) rfl (fun v78 h78 O78 => ⟨inferInstance, ?_⟩) XT.stop
     refine XT.append rfl rfl rfl rfl rfl rfl (by first | omega | (simp; omega)) (fun v79 h79 O79 => ⟨inferInstance, ?_⟩) XT.stop
     refine XT.q rfl rfl (Q.fieldAddr rfl) ?_
     refine XT.st rfl rfl rfl rfl rfl ⟨inferInstance, ?_⟩ XT.stop
     refine XT.done ?_
     refine XK.region rfl (XO.q (Q.move rfl) (XO.q (Q.move rfl) ?_))
     refine XO.callB b11 Tryz.call66 rfl rfl rfl (next09 b11 vx hx x (u + 1) (15) (by omega) (by omega) (by omega)) fun v83 s83 R83 => ?_
     obtain ⟨rfl, n83, rfl, h83⟩ := R83
     dsimp only [lcA, lnA]
     refine XO.q (Q.add rfl rfl ⟨by omega, by omega⟩) ?_
     refine XO.q (Q.add rfl rfl ⟨by omega, by omega⟩) ?_
     refine XO.q (Q.assign rfl) (XO.done ?_)
     refine XK.inBlock ?_
     refine XK.region rfl ?_
     refine XO.q (Q.add rfl rfl ⟨by omega, by omega⟩) ?_
     refine XO.q (Q.move rfl) (XO.done ?_)
     exact ih2 (j + 1, u + 1 + 1, p + (1 + (n83 : Int)), ds ++ [⟨p, 1 + (n75 : Int)⟩], v79, h79) _ _ ⟨by dsimp only; omega, by dsimp only; omega, by dsimp only; exact md.snoc (by omega) (by omega), O79⟩ (by first | omega | (dsimp only; omega)) (.c rfl (.c rfl (.base 40 rfl rfl))) inferInstance
    ·skip
     refine XT.callB b11 rfl rfl Tryz.call66 rfl rfl rfl (next09 b11 vx hx x (u) (4) (by omega) (by omega) (by omega)) (fun v75 s75 R75 => ?_) XT.stop
     obtain ⟨rfl, n75, rfl, h75⟩ := R75
     dsimp only [lcA, lnA]
     refine ⟨inferInstance, ?_⟩
     refine XT.q rfl rfl (Q.add rfl rfl ⟨by omega, by omega⟩) ?_
     refine XT.q rfl rfl (Q.build [_, _] (.c 0 1 rfl rfl rfl (.c 1 1 rfl rfl rfl (.n _)))) ?_
     refine XT.qs rfl rfl (Q.ld rfl rfl) ⟨inferInstance, ?_⟩ ?_
     ·skip
      refine XT.lit [_, _] [_, _] [⟨p, 1 + (n75 : Int)⟩] encDraw rfl rfl (by rfl) (by rfl) rfl (by rfl) (by exact .c 0 2 rfl rfl rfl (.n _)) (fun _ => rfl) (by rfl) rfl (by infer_instance) rfl (fun v78 h78 O78 => ⟨inferInstance, ?_⟩) XT.stop
      refine XT.append rfl rfl rfl rfl rfl rfl (by first | omega | (simp; omega)) (fun v79 h79 O79 => ⟨inferInstance, ?_⟩) XT.stop
      refine XT.q rfl rfl (Q.fieldAddr rfl) ?_
      refine XT.st rfl rfl rfl rfl rfl ⟨inferInstance, ?_⟩ XT.stop
      refine XT.done ?_
      refine XK.region rfl (XO.q (Q.move rfl) (XO.q (Q.move rfl) ?_))
      refine XO.callB b11 Tryz.call66 rfl rfl rfl (next09 b11 vx hx x (u + 1) (15) (by omega) (by omega) (by omega)) fun v83 s83 R83 => ?_
      obtain ⟨rfl, n83, rfl, h83⟩ := R83
      dsimp only [lcA, lnA]
      refine XO.q (Q.add rfl rfl ⟨by omega, by omega⟩) ?_
      refine XO.q (Q.add rfl rfl ⟨by omega, by omega⟩) ?_
      refine XO.q (Q.assign rfl) (XO.done ?_)
      refine XK.inBlock ?_
      refine XK.region rfl ?_
      refine XO.q (Q.add rfl rfl ⟨by omega, by omega⟩) ?_
      refine XO.q (Q.move rfl) (XO.done ?_)
      exact ih2 (j + 1, u + 1 + 1, p + (1 + (n83 : Int)), ds ++ [⟨p, 1 + (n75 : Int)⟩], v79, h79) _ _ ⟨by dsimp only; omega, by dsimp only; omega, by dsimp only; exact md.snoc (by omega) (by omega), O79⟩ (by first | omega | (dsimp only; omega)) (.c rfl (.c rfl (.base 40 rfl rfl))) inferInstance
     ·skip
      refine XT.lit [_, _] [_, _] [⟨p, 1 + (n75 : Int)⟩] encDraw rfl rfl (by rfl) (by rfl) rfl (by rfl) (by exact .c 0 2 rfl rfl rfl (.n _)) (fun _ => rfl) (by rfl) rfl (by infer_instance) rfl (fun v78 h78 O78 => ⟨inferInstance, ?_⟩) XT.stop
      refine XT.qs rfl rfl (Q.ld rfl rfl) ⟨inferInstance, ?_⟩ XT.stop
      refine XT.append rfl rfl rfl rfl rfl rfl (by first | omega | (simp; omega)) (fun v79 h79 O79 => ⟨inferInstance, ?_⟩) XT.stop
      refine XT.q rfl rfl (Q.fieldAddr rfl) ?_
      refine XT.st rfl rfl rfl rfl rfl ⟨inferInstance, ?_⟩ XT.stop
      refine XT.done ?_
      refine XK.region rfl (XO.q (Q.move rfl) (XO.q (Q.move rfl) ?_))
      refine XO.callB b11 Tryz.call66 rfl rfl rfl (next09 b11 vx hx x (u + 1) (15) (by omega) (by omega) (by omega)) fun v83 s83 R83 => ?_
      obtain ⟨rfl, n83, rfl, h83⟩ := R83
      dsimp only [lcA, lnA]
      refine XO.q (Q.add rfl rfl ⟨by omega, by omega⟩) ?_
      refine XO.q (Q.add rfl rfl ⟨by omega, by omega⟩) ?_
      refine XO.q (Q.assign rfl) (XO.done ?_)
      refine XK.inBlock ?_
      refine XK.region rfl ?_
      refine XO.q (Q.add rfl rfl ⟨by omega, by omega⟩) ?_
      refine XO.q (Q.move rfl) (XO.done ?_)
      exact ih2 (j + 1, u + 1 + 1, p + (1 + (n83 : Int)), ds ++ [⟨p, 1 + (n75 : Int)⟩], v79, h79) _ _ ⟨by dsimp only; omega, by dsimp only; omega, by dsimp only; exact md.snoc (by omega) (by omega), O79⟩ (by first | omega | (dsimp only; omega)) (.c rfl (.c rfl (.base 40 rfl rfl))) inferInstance
   ·skip
    have hj : j = 1 + n67 := by omega
    refine XK.exit rfl ?_
    refine XK.region rfl ?_
    refine XO.q (Q.fieldAddr rfl) ?_
    refine XO.q (Q.ld rfl rfl) ?_
    refine XO.q (Q.ldA [_, _, _, _, _, _] rfl rfl rfl) ?_
    refine XO.cat K kd fun l1 l2 => ?_
    refine XO.lit [_, _, _, _, _, _] [_, _, _, _, _, _] [(vd, (⟨n53, n55, n57, ds, n60, n62⟩ : PJob))] encPJ (by rfl) (by rfl) rfl (by rfl) (by exact .c 0 6 rfl rfl rfl (.n _)) (fun _ => rfl) (by rfl) rfl (by infer_instance) rfl fun v90 h90 O90 => ?_
    refine XO.append rfl rfl rfl rfl (by first | omega | (simp; omega)) fun v91 h91 O91 => ?_
    refine XO.q (Q.fieldAddr rfl) ?_
    refine XO.st rfl rfl rfl ?_
    refine XO.done ?_
    refine XK.inBlock ?_
    refine XK.region rfl ?_
    refine XO.q (Q.add rfl rfl ⟨by omega, by omega⟩) ?_
    refine XO.q (Q.move rfl) (XO.done ?_)
    exact ih1 (i + 1, u, l ++ [(vd, (⟨n53, n55, n57, ds, n60, n62⟩ : PJob))], v91, h91, cat K kd) _ _ ⟨by dsimp only; omega, by dsimp only; omega, by dsimp only; rw [List.length_append, ll]; rfl, O91, by dsimp only; exact (JL.mono l1).snoc (Arr.le_heap (OArr.arr (s := OD)) l2), by dsimp only; exact each_snoc (Q := fun x : Value × PJob => MkJob x.2) jo (mkJob_of md (by omega) (by omega) (by omega) (by omega) (by omega) (by omega))⟩ (by first | omega | (dsimp only; omega)) (.c rfl (.base 98 rfl rfl)) inferInstance
  ·skip
   have hi8 : i = n25 := by omega
   refine XK.exit rfl ?_
   refine XK.seq (XK.region rfl ?_)
   refine XO.q (Q.ldA [_, _, _, _] rfl rfl rfl) ?_
   refine XO.st rfl rfl rfl ?_
   refine XO.done ?_
   refine XK.rt [kl, K, kr] Tryz.func24 Tryz.results24 (.cell [_, _, _, _] rfl rfl rfl (.n)) ?_
   exact ⟨l, vl, kl, K, rs, vr, kr, m, rfl, rfl, OL, JL, OR, ⟨fun i hi => by dsimp only at hi ⊢; rw [map_snd_atP]; exact jo i (by rwa [List.length_map] at hi), by dsimp only; rw [List.length_map]; omega, by dsimp only; omega, ro, mo⟩⟩
end Go.X.Pl

set_option linter.unusedSimpArgs false
set_option linter.unusedVariables false
set_option maxRecDepth 20000
namespace Go.X.Bk
open Go.Proofs
end Go.X.Bk

set_option linter.unusedSimpArgs false
set_option linter.unusedVariables false
set_option maxRecDepth 20000
namespace Go.X.Bk
open Go.Proofs
end Go.X.Bk

set_option linter.unusedSimpArgs false
set_option linter.unusedVariables false
set_option maxRecDepth 20000
namespace Go.X.Bk
open Go.Proofs
theorem made06 (vx : Value) (hx : PHeap) (x : List UInt8) [jx : Arr vx encU8 1 hx x] : Spec Tryz.prog 27 #[vx] [] [hx] (fun v hs => ∃ vb vg kb kg, v = .agg #[vb, vg] ∧ hs = [kb, kg] ∧ OArr vb encBat 4 174 kb (madeP x).bats ∧ OArr vg encGen 5 215 kg (madeP x).gens) := by
 have hb := fun i => byt_ok x i
 unfold byt at hb
 have nB : OArr (.slice none 0 0) encBat 4 174 emp ([] : List BBat) := OArr.nil (fun _ => rfl)
 have nG : OArr (.slice none 0 0) encGen 5 215 emp ([] : List BGen) := OArr.nil (fun _ => rfl)
 refine Spec.intro (fn := Tryz.f27) (N := 97) Tryz.func27 rfl Tryz.ntmps27 rfl fun B => ?_
 refine XK.seq (XK.region rfl ?_)
 refine XO.alloc fun b2 => ?_
 refine XO.done (XK.seq (XK.region rfl ?_))
 refine XO.alloc fun b3 => ?_
 refine XO.done (XK.seq (XK.seq (XK.region rfl (XO.q (Q.assign rfl) (XO.done ?_)))))
 refine XK.block ?_
 refine XK.while (X := Nat × Value × Value × PHeap × PHeap) [4, 5, 6, 7, 8, 9, 10, 11, 12, 13, 14, 15, 16, 17, 18, 19, 20, 21, 22, 23, 24, 25, 26, 27, 28, 29, 30, 31, 32, 33, 34, 35, 36, 37, 38, 39, 40, 41, 42, 43, 44, 45, 46, 47, 48, 49, 50, 51, 52, 53, 54, 55, 56, 57, 58, 59, 60, 61, 62, 63, 64, 65, 66, 67, 68, 69, 70, 71, 72, 73, 74, 75, 76, 77, 78, 79, 80, 81, 82, 83, 84, 85, 86, 87, 88, 89, 90, 91, 92, 93, 94, 95] (fun ⟨k, vb, vg, kb, kg⟩ => [(4, some (.int .i64 ((5 * k : Nat) : Int)))]) (fun ⟨k, vb, vg, kb, kg⟩ => [blk b3 [vb, vg] 96, kb, kg]) (fun ⟨k, vb, vg, kb, kg⟩ => 5 * k ≤ x.length ∧ k ≤ 7 ∧ OArr vb encBat 4 174 kb (madeTo x k).bats ∧ OArr vg encGen 5 215 kg (madeTo x k).gens) (fun ⟨k, vb, vg, kb, kg⟩ => 7 - k) (0, .slice none 0 0, .slice none 0 0, emp, emp) [blk b3 [.slice none 0 0, .slice none 0 0] 96, emp, emp] rfl ⟨by omega, by omega, nB, nG⟩ (.c rfl (.base 0 rfl rfl)) ?_
 rintro ⟨k, vb, vg, kb, kg⟩ ⟨hk, hk7, OB, OG⟩ ih0
 dsimp only [lcA, lnA] at ih0 ⊢
 refine XK.seq (XK.seq (XK.region rfl (XO.q (Q.move rfl) ?_)))
 refine XO.q (Q.add rfl rfl ⟨by omega, by omega⟩) ?_
 refine XO.q (Q.move rfl) ?_
 refine XO.len rfl fun l9 => ?_
 refine XO.q (Q.lss rfl rfl) ?_
 refine XO.q (Q.move rfl) ?_
 refine XO.q (Quiet.guardT rfl rfl fun g12 p12 => Q.move rfl) ?_
 refine XO.q (Quiet.guardT rfl rfl fun g13 p13 => Q.lss (lzv g13 rfl) rfl) ?_
 refine XO.q (Q.and rfl (fun hp => lzv hp rfl)) ?_
 refine XO.done ?_
 refine XK.if rfl (fun c0 => ?_) (fun c0 => ?_)
 ·skip
  have hb0 := hb (5 * k)
  have hb1 := hb (5 * k + 1)
  have hb2 := hb (5 * k + 2)
  have hb3 := hb (5 * k + 3)
  have hb4 := hb (5 * k + 4)
  obtain ⟨_, _, lb, lg⟩ := madeTo_ok x k
  refine XK.skip (XK.seq (XK.block (XK.seq (XK.region rfl (XO.q (Q.move rfl) ?_)))))
  refine XO.q (Q.rem rfl rfl (by omega) (by omega)) ?_
  refine XO.q (Q.eql rfl rfl) ?_
  refine XO.done ?_
  refine XK.if rfl (fun c1 => ?_) (fun c1 => ?_)
  ·skip
   have e5 : madeTo x (k + 1) = ⟨(madeTo x k).bats ++ [batAt x (5 * k)], (madeTo x k).gens⟩ := by rw [madeTo, if_pos (by omega)]
   refine XK.seq (XK.region rfl (XO.q (Q.move rfl) (XO.q (Q.move rfl) ?_)))
   refine XO.ix rfl rfl (by omega) (by omega) fun i22 => ?_
   refine XO.q (Q.ldE rfl (by first | assumption | omega) rfl) ?_
   refine XO.q (Q.conv rfl) ?_
   rw [wrap64_of ⟨by omega, by omega⟩]
   refine XO.q (Q.mul rfl rfl ⟨by omega, by omega⟩) ?_
   refine XO.q (Q.assign rfl) (XO.done ?_)
   refine XK.drawn [0, 2, 3, 4, 5, 6, 7, 8, 9, 10, 11, 12, 13, 14, 15, 16, 17, 18, 19, 20, 21, 22, 23, 24, 25, 28] [] [] (.q 0 (.q 2 (.q 3 (.q 4 (.q 5 (.q 6 (.q 7 (.q 8 (.q 9 (.q 10 (.q 11 (.q 12 (.q 13 (.q 14 (.q 15 (.q 16 (.q 17 (.q 18 (.q 19 (.q 20 (.q 21 (.q 22 (.q 23 (.q 24 (.q 25 (.br 1 true (.br 26 true (.br 27 true (.q 28 (.br 29 false .done .stop)) .stop) .stop) (.br 26 true (.br 1 true (.br 27 true (.q 28 (.br 29 false .done .stop)) .stop) .stop) .stop))))))))))))))))))))))))))) Tryz.mixed rfl (by kernel_rfl) ?_
   refine XT.q rfl rfl (Q.fieldAddr rfl) ?_
   refine XT.q rfl rfl (Q.move rfl) ?_
   refine XT.q rfl rfl (Q.move rfl) ?_
   refine XT.q rfl rfl (Q.move rfl) ?_
   refine XT.q rfl rfl (Q.add rfl rfl ⟨by omega, by omega⟩) ?_
   rw [show (((5 * k : Nat) : Int) + 1) = ((5 * k + 1 : Nat) : Int) from rfl]
   refine XT.ix rfl rfl rfl rfl (by omega) (by omega) fun i32 => ?_
   refine XT.q rfl rfl (Q.ldE rfl (by first | assumption | omega) rfl) ?_
   refine XT.q rfl rfl (Q.conv rfl) ?_
   rw [wrap64_of ⟨by omega, by omega⟩]
   have mq := mulLe (a := 40 * (((x.getD (5 * k) default).toNat : Nat) : Int)) (b := (((x.getD (5 * k + 1) default).toNat : Nat) : Int)) (m := 10200) (n := 255) (by omega) (by omega) (by omega) (by omega)
   refine XT.q rfl rfl (Q.mul rfl rfl ⟨by omega, by omega⟩) ?_
   refine XT.q rfl rfl (Q.quo rfl rfl (by omega) (by omega) (by omega)) ?_
   refine XT.q rfl rfl (Q.move rfl) ?_
   refine XT.q rfl rfl (Q.move rfl) ?_
   refine XT.q rfl rfl (Q.move rfl) ?_
   refine XT.q rfl rfl (Q.add rfl rfl ⟨by omega, by omega⟩) ?_
   rw [show (((5 * k : Nat) : Int) + 2) = ((5 * k + 2 : Nat) : Int) from rfl]
   refine XT.ix rfl rfl rfl rfl (by omega) (by omega) fun i41 => ?_
   refine XT.q rfl rfl (Q.ldE rfl (by first | assumption | omega) rfl) ?_
   refine XT.q rfl rfl (Q.conv rfl) ?_
   rw [wrap64_of ⟨by omega, by omega⟩]
   refine XT.q rfl rfl (Q.move rfl) ?_
   refine XT.q rfl rfl (Q.move rfl) ?_
   refine XT.q rfl rfl (Q.add rfl rfl ⟨by omega, by omega⟩) ?_
   rw [show (((5 * k : Nat) : Int) + 3) = ((5 * k + 3 : Nat) : Int) from rfl]
   refine XT.ix rfl rfl rfl rfl (by omega) (by omega) fun i47 => ?_
   refine XT.q rfl rfl (Q.ldE rfl (by first | assumption | omega) rfl) ?_
   refine XT.q rfl rfl (Q.rem rfl rfl (by omega) (by omega)) ?_
   refine XT.q rfl rfl (Q.conv rfl) ?_
   rw [wrap64_of ⟨by omega, by omega⟩]
   refine XT.q rfl rfl (Q.build [_, _, _, _] (.c 0 1 rfl rfl rfl (.c 1 1 rfl rfl rfl (.c 2 1 rfl rfl rfl (.c 3 1 rfl rfl rfl (.n _)))))) ?_
   refine XT.qs rfl rfl (Q.ld rfl rfl) ⟨inferInstance, ?_⟩ ?_
   ·skip
    refine XT.lit [_, _, _, _] [_, _, _, _] [batAt x (5 * k)] encBat rfl rfl (by rfl) (by rfl) rfl (by rfl) (by exact .c 0 4 rfl rfl rfl (.n _)) (fun _ => rfl) (by rfl) rfl (by infer_instance) rfl (fun v52 h52 O52 => ⟨inferInstance, ?_⟩) XT.stop
    refine XT.append rfl rfl rfl rfl rfl rfl (by first | omega | (simp; omega)) (fun v53 h53 O53 => ⟨inferInstance, ?_⟩) XT.stop
    refine XT.q rfl rfl (Q.fieldAddr rfl) ?_
    refine XT.st rfl rfl rfl rfl rfl ⟨inferInstance, ?_⟩ XT.stop
    refine XT.done ?_
    refine XK.inBlock ?_
    refine XK.region rfl (XO.q (Q.move rfl) ?_)
    refine XO.q (Q.add rfl rfl ⟨by omega, by omega⟩) ?_
    refine XO.q (Q.assign rfl) (XO.done ?_)
    rw [show ((5 * k : Nat) : Int) + 5 = ((5 * (k + 1) : Nat) : Int) by omega]
    exact ih0 (k + 1, v53, vg, h53, kg) _ _ ⟨by dsimp only; omega, by dsimp only; omega, by dsimp only; rw [e5]; exact O53, by dsimp only; rw [e5]; exact OG⟩ (by first | omega | (dsimp only; omega)) (.c rfl (.base 144 rfl rfl)) inferInstance
   ·skip
    refine XT.lit [_, _, _, _] [_, _, _, _] [batAt x (5 * k)] encBat rfl rfl (by rfl) (by rfl) rfl (by rfl) (by exact .c 0 4 rfl rfl rfl (.n _)) (fun _ => rfl) (by rfl) rfl (by infer_instance) rfl (fun v52 h52 O52 => ⟨inferInstance, ?_⟩) XT.stop
    refine XT.qs rfl rfl (Q.ld rfl rfl) ⟨inferInstance, ?_⟩ XT.stop
    refine XT.append rfl rfl rfl rfl rfl rfl (by first | omega | (simp; omega)) (fun v53 h53 O53 => ⟨inferInstance, ?_⟩) XT.stop
    refine XT.q rfl rfl (Q.fieldAddr rfl) ?_
    refine XT.st rfl rfl rfl rfl rfl ⟨inferInstance, ?_⟩ XT.stop
    refine XT.done ?_
    refine XK.inBlock ?_
    refine XK.region rfl (XO.q (Q.move rfl) ?_)
    refine XO.q (Q.add rfl rfl ⟨by omega, by omega⟩) ?_
    refine XO.q (Q.assign rfl) (XO.done ?_)
    rw [show ((5 * k : Nat) : Int) + 5 = ((5 * (k + 1) : Nat) : Int) by omega]
    exact ih0 (k + 1, v53, vg, h53, kg) _ _ ⟨by dsimp only; omega, by dsimp only; omega, by dsimp only; rw [e5]; exact O53, by dsimp only; rw [e5]; exact OG⟩ (by first | omega | (dsimp only; omega)) (.c rfl (.base 144 rfl rfl)) inferInstance
  ·skip
   have e5 : madeTo x (k + 1) = ⟨(madeTo x k).bats, (madeTo x k).gens ++ [genAt x (5 * k)]⟩ := by rw [madeTo, if_neg (by omega)]
   refine XK.drawn [0, 2, 3, 4, 5, 6, 7, 8, 9, 10, 11, 12, 13, 14, 15, 16, 17, 18, 19, 20, 21, 22, 23, 24, 25, 26, 27, 28, 29, 30, 31, 32, 33, 34, 35, 36, 37, 40] [] [] (.q 0 (.q 2 (.q 3 (.q 4 (.q 5 (.q 6 (.q 7 (.q 8 (.q 9 (.q 10 (.q 11 (.q 12 (.q 13 (.q 14 (.q 15 (.q 16 (.q 17 (.q 18 (.q 19 (.q 20 (.q 21 (.q 22 (.q 23 (.q 24 (.q 25 (.q 26 (.q 27 (.q 28 (.q 29 (.q 30 (.q 31 (.q 32 (.q 33 (.q 34 (.q 35 (.q 36 (.q 37 (.br 1 true (.br 38 true (.br 39 true (.q 40 (.br 41 false .done .stop)) .stop) .stop) (.br 38 true (.br 1 true (.br 39 true (.q 40 (.br 41 false .done .stop)) .stop) .stop) .stop))))))))))))))))))))))))))))))))))))))) Tryz.mixed rfl (by kernel_rfl) ?_
   refine XT.q rfl rfl (Q.fieldAddr rfl) ?_
   refine XT.q rfl rfl (Q.move rfl) ?_
   refine XT.q rfl rfl (Q.move rfl) ?_
   refine XT.ix rfl rfl rfl rfl (by omega) (by omega) fun i59 => ?_
   refine XT.q rfl rfl (Q.ldE rfl (by first | assumption | omega) rfl) ?_
   refine XT.q rfl rfl (Q.conv rfl) ?_
   rw [wrap64_of ⟨by omega, by omega⟩]
   refine XT.q rfl rfl (Q.move rfl) ?_
   refine XT.q rfl rfl (Q.move rfl) ?_
   refine XT.q rfl rfl (Q.add rfl rfl ⟨by omega, by omega⟩) ?_
   rw [show (((5 * k : Nat) : Int) + 1) = ((5 * k + 1 : Nat) : Int) from rfl]
   refine XT.ix rfl rfl rfl rfl (by omega) (by omega) fun i65 => ?_
   refine XT.q rfl rfl (Q.ldE rfl (by first | assumption | omega) rfl) ?_
   refine XT.q rfl rfl (Q.rem rfl rfl (by omega) (by omega)) ?_
   refine XT.q rfl rfl (Q.conv rfl) ?_
   rw [wrap64_of ⟨by omega, by omega⟩]
   refine XT.q rfl rfl (Q.add rfl rfl ⟨by omega, by omega⟩) ?_
   refine XT.q rfl rfl (Q.move rfl) ?_
   refine XT.q rfl rfl (Q.move rfl) ?_
   refine XT.q rfl rfl (Q.add rfl rfl ⟨by omega, by omega⟩) ?_
   rw [show (((5 * k : Nat) : Int) + 2) = ((5 * k + 2 : Nat) : Int) from rfl]
   refine XT.ix rfl rfl rfl rfl (by omega) (by omega) fun i73 => ?_
   refine XT.q rfl rfl (Q.ldE rfl (by first | assumption | omega) rfl) ?_
   refine XT.q rfl rfl (Q.rem rfl rfl (by omega) (by omega)) ?_
   refine XT.q rfl rfl (Q.conv rfl) ?_
   rw [wrap64_of ⟨by omega, by omega⟩]
   refine XT.q rfl rfl (Q.move rfl) ?_
   refine XT.q rfl rfl (Q.move rfl) ?_
   refine XT.q rfl rfl (Q.add rfl rfl ⟨by omega, by omega⟩) ?_
   rw [show (((5 * k : Nat) : Int) + 3) = ((5 * k + 3 : Nat) : Int) from rfl]
   refine XT.ix rfl rfl rfl rfl (by omega) (by omega) fun i80 => ?_
   refine XT.q rfl rfl (Q.ldE rfl (by first | assumption | omega) rfl) ?_
   refine XT.q rfl rfl (Q.rem rfl rfl (by omega) (by omega)) ?_
   refine XT.q rfl rfl (Q.conv rfl) ?_
   rw [wrap64_of ⟨by omega, by omega⟩]
   refine XT.q rfl rfl (Q.move rfl) ?_
   refine XT.q rfl rfl (Q.move rfl) ?_
   refine XT.q rfl rfl (Q.add rfl rfl ⟨by omega, by omega⟩) ?_
   rw [show (((5 * k : Nat) : Int) + 4) = ((5 * k + 4 : Nat) : Int) from rfl]
   refine XT.ix rfl rfl rfl rfl (by omega) (by omega) fun i87 => ?_
   refine XT.q rfl rfl (Q.ldE rfl (by first | assumption | omega) rfl) ?_
   refine XT.q rfl rfl (Q.rem rfl rfl (by omega) (by omega)) ?_
   refine XT.q rfl rfl (Q.conv rfl) ?_
   rw [wrap64_of ⟨by omega, by omega⟩]
   refine XT.q rfl rfl (Q.add rfl rfl ⟨by omega, by omega⟩) ?_
   refine XT.q rfl rfl (Q.build [_, _, _, _, _] (.c 0 1 rfl rfl rfl (.c 1 1 rfl rfl rfl (.c 2 1 rfl rfl rfl (.c 3 1 rfl rfl rfl (.c 4 1 rfl rfl rfl (.n _))))))) ?_
   refine XT.qs rfl rfl (Q.ld rfl rfl) ⟨inferInstance, ?_⟩ ?_
   ·skip
    refine XT.lit [_, _, _, _, _] [_, _, _, _, _] [genAt x (5 * k)] encGen rfl rfl (by rfl) (by rfl) rfl (by rfl) (by exact .c 0 5 rfl rfl rfl (.n _)) (fun _ => rfl) (by rfl) rfl (by infer_instance) rfl (fun v93 h93 O93 => ⟨inferInstance, ?_⟩) XT.stop
    refine XT.append rfl rfl rfl rfl rfl rfl (by first | omega | (simp; omega)) (fun v94 h94 O94 => ⟨inferInstance, ?_⟩) XT.stop
    refine XT.q rfl rfl (Q.fieldAddr rfl) ?_
    refine XT.st rfl rfl rfl rfl rfl ⟨inferInstance, ?_⟩ XT.stop
    refine XT.done ?_
    refine XK.inBlock ?_
    refine XK.region rfl (XO.q (Q.move rfl) ?_)
    refine XO.q (Q.add rfl rfl ⟨by omega, by omega⟩) ?_
    refine XO.q (Q.assign rfl) (XO.done ?_)
    rw [show ((5 * k : Nat) : Int) + 5 = ((5 * (k + 1) : Nat) : Int) by omega]
    exact ih0 (k + 1, vb, v94, kb, h94) _ _ ⟨by dsimp only; omega, by dsimp only; omega, by dsimp only; rw [e5]; exact OB, by dsimp only; rw [e5]; exact O94⟩ (by first | omega | (dsimp only; omega)) (.c rfl (.base 149 rfl rfl)) inferInstance
   ·skip
    refine XT.lit [_, _, _, _, _] [_, _, _, _, _] [genAt x (5 * k)] encGen rfl rfl (by rfl) (by rfl) rfl (by rfl) (by exact .c 0 5 rfl rfl rfl (.n _)) (fun _ => rfl) (by rfl) rfl (by infer_instance) rfl (fun v93 h93 O93 => ⟨inferInstance, ?_⟩) XT.stop
    refine XT.qs rfl rfl (Q.ld rfl rfl) ⟨inferInstance, ?_⟩ XT.stop
    refine XT.append rfl rfl rfl rfl rfl rfl (by first | omega | (simp; omega)) (fun v94 h94 O94 => ⟨inferInstance, ?_⟩) XT.stop
    refine XT.q rfl rfl (Q.fieldAddr rfl) ?_
    refine XT.st rfl rfl rfl rfl rfl ⟨inferInstance, ?_⟩ XT.stop
    refine XT.done ?_
    refine XK.inBlock ?_
    refine XK.region rfl (XO.q (Q.move rfl) ?_)
    refine XO.q (Q.add rfl rfl ⟨by omega, by omega⟩) ?_
    refine XO.q (Q.assign rfl) (XO.done ?_)
    rw [show ((5 * k : Nat) : Int) + 5 = ((5 * (k + 1) : Nat) : Int) by omega]
    exact ih0 (k + 1, vb, v94, kb, h94) _ _ ⟨by dsimp only; omega, by dsimp only; omega, by dsimp only; rw [e5]; exact OB, by dsimp only; rw [e5]; exact O94⟩ (by first | omega | (dsimp only; omega)) (.c rfl (.base 149 rfl rfl)) inferInstance
 ·skip
  have hkn : k = min 7 (x.length / 5) := by omega
  refine XK.exit rfl ?_
  refine XK.seq (XK.region rfl ?_)
  refine XO.q (Q.ldA [_, _] rfl rfl rfl) ?_
  refine XO.st rfl rfl rfl ?_
  refine XO.done ?_
  refine XK.rt [kb, kg] Tryz.func27 Tryz.results27 (.cell [_, _] rfl rfl rfl (.n)) ?_
  subst hkn
  exact ⟨vb, vg, kb, kg, rfl, rfl, OB, OG⟩
theorem failed06 (b : BBank) (vb vg : Value) (hb hg : PHeap) [ib : Arr vb encBat 4 hb b.bats] [ig : Arr vg encGen 5 hg b.gens] (ok : BOk b) (vx : Value) (hx : PHeap) (x : List UInt8) [jx : Arr vx encU8 1 hx x] : Spec Tryz.prog 28 #[.agg #[vb, vg], vx] [] [hb, hg, hx] (fun v hs => ∃ kf, hs = [kf] ∧ OArr v encI 1 3 kf (failP b x)) := by
 have hby := fun i => byt_ok x i
 unfold byt at hby
 have n6 := ok.ng
 have lx := jx.le
 have nF : OArr (.slice none 0 0) encI 1 3 emp ([] : List Int) := OArr.nil (fun _ => rfl)
 refine Spec.intro (fn := Tryz.f28) (N := 36) Tryz.func28 rfl Tryz.ntmps28 rfl fun B => ?_
 refine XK.seq (XK.region rfl ?_)
 refine XO.box rfl fun b2 => ?_
 refine XO.q (Q.assign rfl) (XO.done (XK.seq (XK.region rfl (XO.q (Q.assign rfl) (XO.done ?_)))))
 refine XK.seq (XK.seq (XK.region rfl ?_))
 refine XO.q (Q.fieldAddr rfl) ?_
 refine XO.q (Q.ld rfl rfl) ?_
 refine XO.len rfl fun l11 => ?_
 refine XO.q (Q.move rfl) (XO.done (XK.block ?_))
 refine XK.while (X := Nat × Value × PHeap) [5, 6, 7, 8, 12, 13, 14, 15, 16, 17, 18, 19, 20, 21, 22, 23, 24, 25, 26, 27, 28, 29, 30, 31, 32, 33, 34] (fun ⟨i, vf, kf⟩ => [(12, some (.int .i64 (i : Nat))), (5, some (vf))]) (fun ⟨i, vf, kf⟩ => [kf]) (fun ⟨i, vf, kf⟩ => i ≤ b.gens.length ∧ OArr vf encI 1 3 kf (failTo b x i)) (fun ⟨i, vf, kf⟩ => b.gens.length - i) (0, .slice none 0 0, emp) [emp] rfl ⟨by omega, nF⟩ (.c rfl (.c rfl (.base 0 rfl rfl))) ?_
 rintro ⟨i, vf, kf⟩ ⟨hi, OF⟩ ih0
 dsimp only [lcA, lnA] at ih0 ⊢
 refine XK.seq (XK.region rfl ?_)
 refine XO.q (Q.lss rfl rfl) ?_
 refine XO.done (XK.seq ?_)
 refine XK.if rfl (fun c0 => ?_) (fun c0 => ?_)
 ·skip
  have hb0 := hby i
  have fl := failTo_len b x i
  have gk := ok.gen _ (getD_memB (show i < b.gens.length by omega))
  have g0 := gk.t0
  have g1 := gk.t1
  refine XK.skip (XK.seq (XK.block (XK.seq (XK.region rfl (XO.q (Q.move rfl) ?_)))))
  refine XO.ix rfl rfl (by omega) (by omega) fun i15 => ?_
  refine XO.q (Q.ldEA [_, _, _, _, _] rfl (by first | assumption | omega) rfl rfl) ?_
  refine XO.alloc fun b7 => ?_
  refine XO.q (Q.assign rfl) ?_
  refine XO.st rfl rfl rfl ?_
  refine XO.done (XK.seq (XK.region rfl (XO.q (Q.assign rfl) (XO.done (XK.seq ?_)))))
  refine XK.seq (XK.region rfl (XO.q (Q.move rfl) (XO.q (Q.move rfl) ?_)))
  refine XO.len rfl fun l19 => ?_
  refine XO.q (Q.lss rfl rfl) ?_
  refine XO.done ?_
  refine XK.meet (X := Unit) [8, 21, 22, 23, 24, 25, 26, 27, 28, 29] (fun _u => [(8, some (.int .i64 (failAt b x i)))]) (fun _u => []) (fun _u => True) [] ?_ ?_
  ·rintro _u _
   dsimp only [lcA, lnA]
   refine XK.region rfl (XO.q (Q.move rfl) (XO.q (Q.move rfl) ?_))
   refine XO.lit [_] [_] [failAt b x i] encI (by rfl) (by rfl) rfl (by rfl) (by exact .c 0 1 rfl rfl rfl (.n _)) (fun _ => rfl) (by rfl) rfl (by infer_instance) rfl fun v32 h32 O32 => ?_
   refine XO.append rfl rfl rfl rfl (by first | omega | (simp; omega)) fun v33 h33 O33 => ?_
   refine XO.q (Q.assign rfl) (XO.done ?_)
   refine XK.inBlock ?_
   refine XK.region rfl ?_
   refine XO.q (Q.add rfl rfl ⟨by omega, by omega⟩) ?_
   refine XO.q (Q.move rfl) (XO.done ?_)
   exact ih0 (i + 1, v33, h33) _ _ ⟨by dsimp only; omega, O33⟩ (by first | omega | (dsimp only; omega)) (.c rfl (.c rfl (.base 58 rfl rfl))) inferInstance
  ·intro mt1
   dsimp only [lcA, lnA] at mt1
   refine XK.if rfl (fun c1 => ?_) (fun c1 => ?_)
   ·skip
    refine XK.drawn [0, 1, 2, 3, 4, 5, 6, 7, 8, 9] [b7] [] (.q 0 (.q 1 (.q 2 (.q 3 (.q 4 (.q 5 (.q 6 (.q 7 (.q 8 (.q 9 .done)))))))))) Tryz.mixed rfl (by kernel_rfl) ?_
    refine XT.q rfl rfl (Q.move rfl) ?_
    refine XT.q rfl rfl (Q.move rfl) ?_
    refine XT.ix rfl rfl rfl rfl (by omega) (by omega) fun i23 => ?_
    refine XT.q rfl rfl (Q.ldE rfl (by first | assumption | omega) rfl) ?_
    refine XT.q rfl rfl (Q.conv rfl) ?_
    rw [wrap64_of ⟨by omega, by omega⟩]
    refine XT.q rfl rfl (Q.fieldAddr rfl) ?_
    refine XT.q rfl rfl (Q.ld rfl rfl) ?_
    refine XT.q rfl rfl (Q.add rfl rfl ⟨by omega, by omega⟩) ?_
    refine XT.q rfl rfl (Q.rem rfl rfl (by omega) (by omega)) ?_
    rw [show (((x.getD i default).toNat : Nat) : Int) % ((b.gens.getD i default).tries + 1) = failAt b x i by rw [failAt, if_pos (by omega)]; rfl]
    refine XT.q rfl rfl (Q.assign rfl) ?_
    refine XT.done ?_
    exact mt1 (()) _ _ trivial (.c rfl (.base 10 rfl rfl)) inferInstance
   ·skip
    refine XK.skip ?_
    rw [show failAt b x i = 0 by rw [failAt, if_neg (by omega)]] at mt1
    exact mt1 (()) _ _ trivial (.c rfl (.base 0 rfl rfl)) inferInstance
 ·skip
  have hin : i = b.gens.length := by omega
  refine XK.exit rfl ?_
  refine XK.seq (XK.region rfl (XO.q (Q.move rfl) (XO.q (Q.assign rfl) (XO.done ?_))))
  refine XK.rt [kf] Tryz.func28 Tryz.results28 (.t rfl .n) ?_
  subst hin
  exact ⟨kf, rfl, OF⟩
end Go.X.Bk

set_option linter.unusedSimpArgs false
set_option linter.unusedVariables false
set_option maxRecDepth 20000
namespace Go.X
open Go.Proofs
theorem nextT (b : Nat) (vx : Value) (hx : PHeap) (x : List UInt8) [jx : Arr vx encU8 1 hx x] (i n : Nat) (hi : i ≤ 1000000000) (hn : 0 < n) (hn2 : n ≤ 1000000) : Spec Tryz.prog 10 #[ptr b 0, .int .i64 (n : Nat)] [blk b [vx, .int .i64 ((i : Nat) : Int)] 38] [hx]
  (fun v hs => hs = [blk b [vx, .int .i64 ((i + 1 : Nat) : Int)] 38] ∧ ∃ r : Nat, v = .int .i64 (r : Nat) ∧ r < n) := by
 refine Spec.intro (fn := Tryz.f10) (N := 36) Tryz.func10 rfl Tryz.ntmps10 rfl fun B => ?_
 refine XK.seq (XK.region rfl (XO.q (Q.assign rfl) (XO.done (XK.seq (XK.region rfl ?_)))))
 refine XO.q (Q.move rfl) ?_
 refine XO.q (Q.nilCheck rfl) ?_
 refine XO.q (Q.fieldAddr rfl) ?_
 refine XO.q (Q.ld rfl rfl) ?_
 refine XO.q (Q.add rfl rfl ⟨by omega, by omega⟩) ?_
 rw [show ((i : Int) + 1) = ((i + 1 : Nat) : Int) from rfl]
 refine XO.q (Q.nilCheck rfl) ?_
 refine XO.q (Q.fieldAddr rfl) ?_
 refine XO.st rfl rfl rfl ?_
 refine XO.done (XK.seq (XK.seq ?_))
 refine XK.drawn [0, 1, 2, 3, 4, 5, 6, 7, 8, 9] [b] [] (.q 0 (.q 1 (.q 2 (.q 3 (.q 4 (.q 5 (.q 6 (.q 7 (.q 8 (.q 9 .done)))))))))) Tryz.mixed rfl (by kernel_rfl) ?_
 refine XT.q rfl rfl (Q.move rfl) ?_
 refine XT.q rfl rfl (Q.nilCheck rfl) ?_
 refine XT.q rfl rfl (Q.fieldAddr rfl) ?_
 refine XT.q rfl rfl (Q.ld rfl rfl) ?_
 refine XT.q rfl rfl (Q.move rfl) ?_
 refine XT.q rfl rfl (Q.nilCheck rfl) ?_
 refine XT.q rfl rfl (Q.fieldAddr rfl) ?_
 refine XT.q rfl rfl (Q.ld rfl rfl) ?_
 refine XT.q rfl rfl (Q.len rfl) ?_
 refine XT.q rfl rfl (Q.gtr rfl rfl) ?_
 refine XT.done ?_
 refine XK.if rfl (fun c0 => ?_) (fun c0 => ?_)
 ·skip
  refine XK.seq (XK.region rfl (XO.q (Q.assign rfl) (XO.done ?_)))
  refine XK.rt [blk b [vx, .int .i64 ((i + 1 : Nat) : Int)] 38] Tryz.func10 Tryz.results10 (.t rfl .n) ?_
  exact ⟨rfl, 0, rfl, hn⟩
 ·skip
  refine XK.skip (XK.seq ?_)
  refine XK.drawn [0, 1, 2, 3, 4, 5, 6, 7, 8, 9, 10, 11, 12, 13, 14] [b] [] (.q 0 (.q 1 (.q 2 (.q 3 (.q 4 (.q 5 (.q 6 (.q 7 (.q 8 (.q 9 (.q 10 (.q 11 (.q 12 (.q 13 (.q 14 .done))))))))))))))) Tryz.mixed rfl (by kernel_rfl) ?_
  refine XT.q rfl rfl (Q.move rfl) ?_
  refine XT.q rfl rfl (Q.nilCheck rfl) ?_
  refine XT.q rfl rfl (Q.fieldAddr rfl) ?_
  refine XT.q rfl rfl (Q.ld rfl rfl) ?_
  refine XT.q rfl rfl (Q.move rfl) ?_
  refine XT.q rfl rfl (Q.nilCheck rfl) ?_
  refine XT.q rfl rfl (Q.fieldAddr rfl) ?_
  refine XT.q rfl rfl (Q.ld rfl rfl) ?_
  refine XT.q rfl rfl (Q.sub rfl rfl ⟨by omega, by omega⟩) ?_
  rw [show (((i + 1 : Nat) : Int) - 1) = (i : Int) by omega]
  refine XT.ix rfl rfl rfl rfl (by omega) (by omega) fun i31 => ?_
  refine XT.q rfl rfl (Q.ldE rfl (by first | assumption | omega) rfl) ?_
  refine XT.q rfl rfl (Q.conv rfl) ?_
  have hu := (x.getD i default).toNat_lt
  rw [wrap64_of ⟨by omega, by omega⟩]
  refine XT.q rfl rfl (Q.move rfl) ?_
  refine XT.q rfl rfl (Q.rem rfl rfl (by omega) (by omega)) ?_
  rw [show ((((x.getD i default).toNat : Nat) : Int) % (n : Int)) = (((x.getD i default).toNat % n : Nat) : Int) from rfl]
  refine XT.q rfl rfl (Q.assign rfl) ?_
  refine XT.done ?_
  refine XK.rt [blk b [vx, .int .i64 ((i + 1 : Nat) : Int)] 38] Tryz.func10 Tryz.results10 (.t rfl .n) ?_
  exact ⟨rfl, (x.getD i default).toNat % n, rfl, Nat.mod_lt _ hn⟩
theorem rack_cap {r : Pl.PRack} (h : Pl.rackR r = true) : 0 ≤ r.cap ∧ r.cap ≤ 10000 := by
 unfold Pl.rackR at h
 simp only [Bool.and_eq_true] at h
 exact Pl.pin_one.1 h.1.2
theorem lok_one {p : Int} (h0 : 0 ≤ p) (h1 : p ≤ 1000000) : Bk.LOk [⟨60, p⟩] := by
 refine ⟨by show 1 ≤ 64; decide, fun x hx => ?_, ?_⟩
 ·rw [List.mem_singleton] at hx; subst hx; dsimp only; omega
 ·simp [Bk.secs]
theorem later_le {b : Bk.BBank} (ok : Bk.BOk b) {fs : List Int} (fk : Bk.FOk b fs) {p q : Int} (h0 : 0 ≤ q) (hq : q ≤ p) (h1 : p ≤ 1000000) : Bk.laterP (Bk.runP b (Bk.powers [⟨60, q⟩]) fs).dark (Bk.runP b (Bk.powers [⟨60, p⟩]) fs).dark = true := by
 have e : ∀ x : Int, Bk.powers [⟨60, x⟩] = List.replicate 60 x := fun x => rfl
 have hb : Bk.BLe b b := ⟨rfl, rfl, fun i hi => ⟨rfl, rfl, rfl, Int.le_refl _⟩⟩
 have w1 := Bk.pwOk (lok_one (p := p) (by omega) h1)
 have w2 := Bk.pwOk (lok_one (p := q) h0 (by omega))
 refine (Bk.monotone_law hb ok ok fk fk (fun i _ => Int.le_refl _) w1 w2 ⟨by rw [e, e, List.length_replicate, List.length_replicate], fun i hi => ?_⟩).1
 rw [e, List.length_replicate] at hi
 rw [e, e, List.getD_eq_getElem?_getD, List.getD_eq_getElem?_getD, List.getElem?_replicate_of_lt hi, List.getElem?_replicate_of_lt hi]
 exact hq
set_option maxHeartbeats 4000000 in
set_option synthInstance.maxSize 1000 in
theorem TopCapped_spec (v0 : Value) (h0 : PHeap) (x0 : List UInt8) [i0 : Arr v0 encU8 1 h0 x0] (v1 : Value) (h1 : PHeap) (x1 : List UInt8) [i1 : Arr v1 encU8 1 h1 x1] (v2 : Value) (h2 : PHeap) (x2 : List UInt8) [i2 : Arr v2 encU8 1 h2 x2] (v3 : Value) (h3 : PHeap) (x3 : List UInt8) [i3 : Arr v3 encU8 1 h3 x3] : Spec Tryz.prog 5 #[v0, v1, v2, v3] [] [h0, h1, h2, h3] (fun v hs => v = .bool true ∧ hs = []) := by
 have nP : OArr (.slice none 0 0) Pl.encPJ 6 88 emp ([] : List (Value × Pl.PJob)) := OArr.nil (fun _ => rfl)
 refine Spec.intro (fn := Tryz.f5) (N := 180) Tryz.func5 rfl Tryz.ntmps5 rfl fun B => ?_
 refine XK.seq (XK.region rfl (XO.q (Q.assign rfl) (XO.done (XK.seq (XK.region rfl ?_)))))
 refine XO.q (Q.move rfl) ?_
 refine XO.call Tryz.call24 rfl rfl rfl (Pl.made09 v0 h0 x0) fun v30 s30 R30 => ?_
 obtain ⟨l, vl, kl, K, rs, vr, kr, m, rfl, rfl, OL, JL, OR, mk⟩ := R30
 dsimp only [lcA, lnA]
 have lm : (l.map Prod.snd).length = l.length := List.length_map ..
 have rd : Pl.readyG (⟨(l.map Prod.snd), rs, m⟩ : Pl.PTask) = 0 := mk.ready
 have few := mk.few
 have rk3 := mk.rk
 dsimp only at few rk3
 refine XO.alloc fun b9 => ?_
 refine XO.st rfl rfl rfl ?_
 refine XO.done (XK.seq (XK.region rfl ?_))
 refine XO.q (Q.ldA [_, _, _, _] rfl rfl rfl) ?_
 refine XO.call Tryz.call25 rfl rfl rfl (Pl.Best_spec l vl kl K JL rs vr kr m) fun v33 s33 R33 => ?_
 obtain ⟨vW, vP, kW, kP, bw, s, p, rfl, rfl, OW, OP, hb, _⟩ := R33
 dsimp only [lcA, lnA]
 rw [rd]
 have hb := hb rd
 have lb := Pl.best_len rd
 rw [← hb] at lb
 dsimp only at lb
 have bf := fun (r : Nat) (hr : r < rs.length) => Pl.best_fits (t := (⟨(l.map Prod.snd), rs, m⟩ : Pl.PTask)) (r := r) rd hr
 rw [← hb] at bf
 dsimp only at bf
 clear hb
 refine XO.q (Q.move rfl) ?_
 refine XO.q (Q.extract rfl rfl) ?_
 refine XO.q (Q.extract rfl rfl) ?_
 refine XO.alloc fun b10 => ?_
 refine XO.st rfl rfl rfl ?_
 refine XO.q (Q.assign rfl) (XO.done (XK.seq (XK.seq (XK.region rfl (XO.q (Q.move rfl) ?_)))))
 refine XO.q (Q.neq rfl rfl) ?_
 first | rw [decide_eq_false (show ¬ (0 : Int) ≠ (0 : Int) from fun h => h rfl)] | skip
 refine XO.q (Q.move rfl) ?_
 refine XO.q (Quiet.guardF rfl rfl fun g39 p39 => Q.fieldAddr rfl) ?_
 refine XO.q (Quiet.guardF rfl rfl fun g40 p40 => Q.ld (lzv rfl rfl) rfl) ?_
 refine XO.q (Quiet.guardF rfl rfl fun g41 p41 => Q.len (lzv rfl rfl)) ?_
 refine XO.q (Quiet.guardF rfl rfl fun g42 p42 => Q.fieldAddr rfl) ?_
 refine XO.q (Quiet.guardF rfl rfl fun g43 p43 => Q.ld (lzv rfl rfl) rfl) ?_
 refine XO.q (Quiet.guardF rfl rfl fun g44 p44 => Q.len (lzv rfl rfl)) ?_
 refine XO.q (Quiet.guardF rfl rfl fun g45 p45 => Q.neq (lzv rfl rfl) (lzv rfl rfl)) ?_
 rw [lb, lm]
 first | rw [decide_eq_false (show ¬ ((l.length : Nat) : Int) ≠ ((l.length : Nat) : Int) from fun h => h rfl)] | skip
 refine XO.q (Q.or rfl (fun hp => lzv hp rfl)) ?_
 refine XO.done ?_
 refine XK.if rfl (fun c0 => ?_) (fun c0 => ?_)
 ·skip
  simp at c0
 ·skip
  refine XK.skip (XK.seq (XK.region rfl (XO.q (Q.move rfl) ?_)))
  refine XO.q (Q.build [_, _] (.c 0 1 rfl rfl rfl (.n _))) ?_
  refine XO.box rfl fun b49 => ?_
  refine XO.q (Q.assign rfl) (XO.done (XK.seq (XK.region rfl (XO.q (Q.assign rfl) (XO.q (Q.assign rfl) ?_)))))
  refine XO.q (Q.assign rfl) (XO.done (XK.seq (XK.seq (XK.region rfl ?_))))
  refine XO.q (Q.fieldAddr rfl) ?_
  refine XO.q (Q.ld rfl rfl) ?_
  refine XO.len rfl fun l52 => ?_
  refine XO.q (Q.move rfl) (XO.done (XK.block ?_))
  refine XK.while (X := Nat × Int × Int × Bool × Nat) [8, 13, 14, 15, 16, 17, 18, 19, 20, 21, 22, 23, 53, 54, 55, 56, 57, 58, 59, 60, 61, 62, 63, 64, 65, 66, 67, 68, 69, 70, 71, 72, 73, 74, 75, 76, 77, 78, 79, 80, 81, 82, 83, 84, 85, 86, 87, 88, 89, 90, 91, 92, 93, 94, 95, 96, 97, 98, 99, 100, 101, 102, 103, 104, 105, 106, 107, 108, 109, 110, 111, 112, 113, 114, 115, 116, 117, 118, 119, 120, 121, 122, 123, 124, 125, 126, 127, 128] (fun ⟨r, tot, cps, ab, q⟩ => [(53, some (.int .i64 (r : Nat))), (13, some (.int .i64 tot)), (14, some (.int .i64 cps)), (15, some (.bool ab))]) (fun ⟨r, tot, cps, ab, q⟩ => [blk b49 [v2, .int .i64 ((q : Nat) : Int)] 38]) (fun ⟨r, tot, cps, ab, q⟩ => r ≤ rs.length ∧ q ≤ r * 7 ∧ (0 ≤ tot ∧ tot ≤ 7000 * r) ∧ (0 ≤ cps ∧ cps ≤ 10000 * r) ∧ (ab = false → tot ≤ cps)) (fun ⟨r, tot, cps, ab, q⟩ => rs.length - r) (0, 0, 0, false, 0) [blk b49 [v2, .int .i64 ((0 : Nat) : Int)] 38] rfl ⟨by omega, by omega, by omega, by omega, fun _ => Int.le_refl _⟩ (.c rfl (.c rfl (.c rfl (.c rfl (.base 0 rfl rfl))))) ?_
  rintro ⟨r, tot, cps, ab, q⟩ ⟨hr, hq, ht, hcp, hab⟩ ih0
  dsimp only [lcA, lnA] at ih0 ⊢
  refine XK.seq (XK.region rfl ?_)
  refine XO.q (Q.lss rfl rfl) ?_
  refine XO.done (XK.seq ?_)
  refine XK.if rfl (fun c1 => ?_) (fun c1 => ?_)
  ·skip
   have rr := rack_cap (mk.rack r (by dsimp only; omega))
   dsimp only at rr
   refine XK.skip (XK.seq (XK.block (XK.seq (XK.region rfl (XO.q (Q.move rfl) ?_)))))
   refine XO.ix rfl rfl (by omega) (by omega) fun i56 => ?_
   refine XO.q (Q.ldEA [_, _, _, _, _] rfl (by first | assumption | omega) rfl rfl) ?_
   refine XO.alloc fun b17 => ?_
   refine XO.q (Q.assign rfl) ?_
   refine XO.st rfl rfl rfl ?_
   refine XO.done (XK.seq (XK.region rfl (XO.q (Q.assign rfl) (XO.done (XK.seq ?_)))))
   refine XK.region rfl (XO.q (Q.assign rfl) (XO.done (XK.seq (XK.seq (XK.region rfl ?_)))))
   refine XO.q (Q.fieldAddr rfl) ?_
   refine XO.q (Q.ld rfl rfl) ?_
   refine XO.len rfl fun l60 => ?_
   refine XO.q (Q.move rfl) (XO.done (XK.block ?_))
   refine XK.while (X := Nat × Value × PHeap × Int × Nat) [18, 19, 20, 21, 61, 62, 63, 64, 65, 66, 67, 68, 69, 70, 71, 72, 73, 74, 75, 76, 77, 78, 79, 80, 81, 82, 83, 84, 85, 86, 87, 88, 89] (fun ⟨i, vj, kj, n, q2⟩ => [(61, some (.int .i64 (i : Nat))), (18, some (vj)), (19, some (.int .i64 n))]) (fun ⟨i, vj, kj, n, q2⟩ => [blk b49 [v2, .int .i64 ((q2 : Nat) : Int)] 38, kj]) (fun ⟨i, vj, kj, n, q2⟩ => i ≤ l.length ∧ q2 ≤ q + i ∧ OArr vj Pl.encPJ 6 88 kj (Pl.inTo l bw (r : Int) i) ∧ 0 ≤ n ∧ n ≤ 1000 * i) (fun ⟨i, vj, kj, n, q2⟩ => l.length - i) (0, .slice none 0 0, emp, 0, q) [blk b49 [v2, .int .i64 ((q : Nat) : Int)] 38, emp] rfl ⟨by omega, by omega, nP, by omega, by omega⟩ (.c rfl (.c rfl (.c rfl (.base 0 rfl rfl)))) ?_
   rintro ⟨i, vj, kj, n, q2⟩ ⟨hi, hq2, OJ, n0, n1⟩ ih1
   dsimp only [lcA, lnA] at ih1 ⊢
   refine XK.seq (XK.region rfl ?_)
   refine XO.q (Q.lss rfl rfl) ?_
   refine XO.done (XK.seq ?_)
   refine XK.if rfl (fun c2 => ?_) (fun c2 => ?_)
   ·skip
    haveI := JL i (by omega)
    have mj := mk.job i (by dsimp only; omega)
    dsimp only at mj
    rw [Pl.map_snd_atP] at mj
    have d1 := mj.ok.few
    have mf := mj.few
    refine XK.skip (XK.seq (XK.block (XK.seq (XK.region rfl (XO.q (Q.move rfl) ?_)))))
    refine XO.ix rfl rfl (by omega) (by omega) fun i64 => ?_
    refine XO.q (Q.ldEA [_, _, _, _, _, _] rfl (by first | assumption | omega) rfl rfl) ?_
    refine XO.alloc fun b21 => ?_
    refine XO.q (Q.assign rfl) ?_
    refine XO.st rfl rfl rfl ?_
    refine XO.done (XK.seq (XK.region rfl ?_))
    refine XO.q (Q.fieldAddr rfl) ?_
    refine XO.q (Q.ld rfl rfl) ?_
    refine XO.q (Q.move rfl) ?_
    refine XO.ix rfl rfl (by omega) (by omega) fun i69 => ?_
    refine XO.q (Q.ldE rfl (by first | assumption | omega) rfl) ?_
    refine XO.q (Q.move rfl) ?_
    refine XO.q (Q.eql rfl rfl) ?_
    refine XO.done ?_
    refine XK.if rfl (fun c3 => ?_) (fun c3 => ?_)
    ·skip
     refine XK.seq (XK.region rfl (XO.q (Q.move rfl) ?_))
     refine XO.q (Q.ldA [_, _, _, _, _, _] rfl rfl rfl) ?_
     refine XO.lit [_, _, _, _, _, _] [_, _, _, _, _, _] [l.getD i default] Pl.encPJ (by rfl) (by rfl) rfl (by rfl) (by exact .c 0 6 rfl rfl rfl (.n _)) (fun _ => rfl) (by rfl) rfl (by infer_instance) rfl fun v75 h75 O75 => ?_
     refine XO.append rfl rfl rfl rfl (by have := Pl.inTo_len l bw (r : Int) i; simp only [List.length_cons, List.length_nil]; omega) fun v76 h76 O76 => ?_
     refine XO.q (Q.assign rfl) (XO.done ?_)
     refine XK.drawn [0, 1, 2, 3, 4, 5, 6, 8, 9, 10, 11, 12] [b21] [K] (.q 0 (.q 1 (.q 2 (.q 3 (.q 4 (.q 5 (.q 6 (.br 7 true (.q 8 (.q 9 (.q 10 (.q 11 (.q 12 .done))))) .stop)))))))) Tryz.mixed rfl (by kernel_rfl) ?_
     refine XT.q rfl rfl (Q.move rfl) ?_
     refine XT.q rfl rfl (Q.fieldAddr rfl) ?_
     refine XT.q rfl rfl (Q.ld rfl rfl) ?_
     refine XT.q rfl rfl (Q.move rfl) ?_
     refine XT.q rfl rfl (Q.fieldAddr rfl) ?_
     refine XT.q rfl rfl (Q.ld rfl rfl) ?_
     refine XT.q rfl rfl (Q.len rfl) ?_
     refine XT.callB b49 rfl rfl Tryz.call10 rfl rfl rfl (nextT b49 v2 h2 x2 q2 (l.getD i default).2.draws.length (by omega) (by omega) (by omega)) (fun v84 s84 R84 => ?_) XT.stop
     obtain ⟨rfl, n84, rfl, h84⟩ := R84
     dsimp only [lcA, lnA]
     refine ⟨inferInstance, ?_⟩
     have dr := (mj.ok.draw n84 (by omega)).1
     refine XT.ix rfl rfl rfl rfl (by omega) (by omega) fun i85 => ?_
     refine XT.q rfl rfl (Q.fieldQ rfl (by first | assumption | omega)) ?_
     refine XT.q rfl rfl (Q.ldE rfl (by first | assumption | omega) rfl) ?_
     refine XT.q rfl rfl (Q.add rfl rfl ⟨by omega, by omega⟩) ?_
     refine XT.q rfl rfl (Q.assign rfl) ?_
     refine XT.done ?_
     refine XK.inBlock ?_
     refine XK.region rfl ?_
     refine XO.q (Q.add rfl rfl ⟨by omega, by omega⟩) ?_
     refine XO.q (Q.move rfl) (XO.done ?_)
     exact ih1 (i + 1, v76, h76, n + ((l.getD i default).2.draws.getD n84 default).power, q2 + 1) _ _ ⟨by dsimp only; omega, by dsimp only; omega, by dsimp only; rw [Pl.inTo, if_pos c3]; exact O76, by dsimp only; omega, by dsimp only; omega⟩ (by first | omega | (dsimp only; omega)) (.c rfl (.c rfl (.c rfl (.base 69 rfl rfl)))) inferInstance
    ·skip
     refine XK.skip ?_
     refine XK.inBlock ?_
     refine XK.region rfl ?_
     refine XO.q (Q.add rfl rfl ⟨by omega, by omega⟩) ?_
     refine XO.q (Q.move rfl) (XO.done ?_)
     exact ih1 (i + 1, vj, kj, n, q2) _ _ ⟨by dsimp only; omega, by dsimp only; omega, by dsimp only; rw [Pl.inTo, if_neg c3, List.append_nil]; exact OJ, by dsimp only; omega, by dsimp only; omega⟩ (by first | omega | (dsimp only; omega)) (.c rfl (.c rfl (.c rfl (.base 51 rfl rfl)))) inferInstance
   ·skip
    have hil : i = l.length := by omega
    subst hil
    refine XK.exit rfl ?_
    refine XK.seq (XK.region rfl (XO.q (Q.move rfl) ?_))
    refine XO.q (Q.fieldAddr rfl) ?_
    refine XO.q (Q.ld rfl rfl) ?_
    have JI : Pl.JobsK (Pl.inTo l bw (r : Int) l.length) K := JL.inTo (Nat.le_refl _)
    refine XO.call Tryz.call26 rfl rfl rfl (Pl.Chance_spec (Pl.inTo l bw (r : Int) l.length) vj kj K JI (rs.getD r default).cap) fun v94 s94 R94 => ?_
    obtain ⟨rfl, rfl⟩ := R94
    dsimp only [lcA, lnA]
    have bfr := bf r (by omega)
    have em : (Pl.inTo l bw (r : Int) l.length).map Prod.snd = Pl.inL (⟨(l.map Prod.snd), rs, m⟩ : Pl.PTask) bw (r : Int) := by rw [Pl.in_mem, Pl.inL, lb, lm]
    rw [← em] at bfr
    skip
    obtain ⟨ch, ech⟩ : ∃ c, c = Pl.chanceG ((Pl.inTo l bw (r : Int) l.length).map Prod.snd) (rs.getD r default).cap := ⟨_, rfl⟩
    rw [← ech] at bfr ⊢
    obtain ⟨_, ce, cb, cn, cd⟩ := bfr
    rw [ce]
    clear ech em
    have mr := Pl.chanceR_rng mk.most
    dsimp only at mr
    have p1 : 0 ≤ ch.1.n * m.d ∧ ch.1.n * m.d ≤ 1099511627776 * 1000000 := ⟨Int.mul_nonneg cn.1 mr.2.1, Int.mul_le_mul cn.2 mr.2.2 mr.2.1 (by omega)⟩
    have p2 : 0 ≤ m.n * ch.1.d ∧ m.n * ch.1.d ≤ 1000000 * 1099511627776 := ⟨Int.mul_nonneg mr.1.1 cd.1, Int.mul_le_mul mr.1.2 cd.2 cd.1 (by omega)⟩
    refine XO.q (Q.move rfl) ?_
    refine XO.q (Q.extract rfl rfl) ?_
    refine XO.q (Q.extract rfl rfl) ?_
    refine XO.alloc fun b22 => ?_
    refine XO.st rfl rfl rfl ?_
    refine XO.q (Q.assign rfl) (XO.done (XK.seq (XK.seq (XK.region rfl (XO.q (Q.move rfl) ?_)))))
    refine XO.q (Q.neq rfl rfl) ?_
    first | rw [decide_eq_false (show ¬ (0 : Int) ≠ (0 : Int) from fun h => h rfl)] | skip
    refine XO.q (Q.move rfl) ?_
    refine XO.q (Quiet.guardF rfl rfl fun g100 p100 => Q.fieldAddr rfl) ?_
    refine XO.q (Quiet.guardF rfl rfl fun g101 p101 => Q.ld (lzv rfl rfl) rfl) ?_
    refine XO.q (Quiet.guardF rfl rfl fun g102 p102 => Q.fieldAddr rfl) ?_
    refine XO.q (Quiet.guardF rfl rfl fun g103 p103 => Q.fieldAddr (lzv rfl rfl)) ?_
    refine XO.q (Quiet.guardF rfl rfl fun g104 p104 => Q.ld (lzv rfl rfl) rfl) ?_
    refine XO.q (Quiet.guardF rfl rfl fun g105 p105 => Q.mul (lzv rfl rfl) (lzv rfl rfl) ⟨by omega, by omega⟩) ?_
    refine XO.q (Quiet.guardF rfl rfl fun g106 p106 => Q.fieldAddr rfl) ?_
    refine XO.q (Quiet.guardF rfl rfl fun g107 p107 => Q.fieldAddr (lzv rfl rfl)) ?_
    refine XO.q (Quiet.guardF rfl rfl fun g108 p108 => Q.ld (lzv rfl rfl) rfl) ?_
    refine XO.q (Quiet.guardF rfl rfl fun g109 p109 => Q.fieldAddr rfl) ?_
    refine XO.q (Quiet.guardF rfl rfl fun g110 p110 => Q.ld (lzv rfl rfl) rfl) ?_
    refine XO.q (Quiet.guardF rfl rfl fun g111 p111 => Q.mul (lzv rfl rfl) (lzv rfl rfl) ⟨by omega, by omega⟩) ?_
    refine XO.q (Quiet.guardF rfl rfl fun g112 p112 => Q.gtr (lzv rfl rfl) (lzv rfl rfl)) ?_
    rw [decide_eq_false (show ¬ m.n * ch.1.d < ch.1.n * m.d from Int.not_lt.2 cb)]
    refine XO.q (Q.or rfl (fun hp => lzv hp rfl)) ?_
    refine XO.done ?_
    refine XK.if rfl (fun c4 => ?_) (fun c4 => ?_)
    ·skip
     simp at c4
    ·skip
     refine XK.skip (XK.seq (XK.region rfl (XO.q (Q.move rfl) (XO.q (Q.move rfl) ?_))))
     refine XO.q (Q.add rfl rfl ⟨by omega, by omega⟩) ?_
     refine XO.q (Q.assign rfl) (XO.done (XK.seq (XK.region rfl (XO.q (Q.move rfl) ?_))))
     refine XO.q (Q.fieldAddr rfl) ?_
     refine XO.q (Q.ld rfl rfl) ?_
     refine XO.q (Q.add rfl rfl ⟨by omega, by omega⟩) ?_
     refine XO.q (Q.assign rfl) (XO.done (XK.region rfl (XO.q (Q.move rfl) (XO.q (Q.move rfl) ?_))))
     refine XO.q (Quiet.guardF rfl rfl fun g123 p123 => Q.move rfl) ?_
     refine XO.q (Quiet.guardF rfl rfl fun g124 p124 => Q.fieldAddr rfl) ?_
     refine XO.q (Quiet.guardF rfl rfl fun g125 p125 => Q.ld (lzv g125 rfl) rfl) ?_
     refine XO.q (Quiet.guardF rfl rfl fun g126 p126 => Q.gtr (lzv g126 rfl) (lzv g126 rfl)) ?_
     refine XO.q (Q.or rfl (fun hp => lzv hp rfl)) ?_
     refine XO.q (Q.assign rfl) (XO.done ?_)
     refine XK.inBlock ?_
     refine XK.region rfl ?_
     refine XO.q (Q.add rfl rfl ⟨by omega, by omega⟩) ?_
     refine XO.q (Q.move rfl) (XO.done ?_)
     exact ih0 (r + 1, tot + n, cps + (rs.getD r default).cap, (ab || decide ((rs.getD r default).cap < n)), q2) _ _ ⟨by dsimp only; omega, by dsimp only; omega, by dsimp only; omega, by dsimp only; omega, fun h => by
      have h := Bool.or_eq_false_iff.1 h
      have h1 := hab h.1
      have h2 := of_decide_eq_false h.2
      dsimp only; omega⟩ (by first | omega | (dsimp only; omega)) (.c rfl (.c rfl (.c rfl (.c rfl (.base 186 rfl rfl))))) inferInstance
  ·skip
   have hrr : r = rs.length := by omega
   refine XK.exit rfl ?_
   refine XK.seq (XK.seq (XK.region rfl (XO.q (Q.move rfl) (XO.done ?_))))
   refine XK.if rfl (fun c5 => ?_) (fun c5 => ?_)
   ·skip
    refine XK.seq (XK.region rfl ?_)
    refine XO.call Tryz.call14 rfl rfl rfl (there_spec) fun v130 s130 R130 => ?_
    obtain ⟨rfl, rfl⟩ := R130
    dsimp only [lcA, lnA]
    refine XO.q (Q.assign rfl) (XO.done ?_)
    refine XK.rt [] Tryz.func5 Tryz.results5 (.t rfl .n) ?_
    exact ⟨by simp, rfl⟩
   ·skip
    have le := hab (by simpa using c5)
    refine XK.skip (XK.seq (XK.region rfl (XO.q (Q.move rfl) ?_)))
    refine XO.call Tryz.call27 rfl rfl rfl (Bk.made06 v1 h1 x1) fun v132 s132 R132 => ?_
    obtain ⟨vb, vg, kb, kg, rfl, rfl, OB, OG⟩ := R132
    dsimp only [lcA, lnA]
    obtain ⟨b, eb⟩ : ∃ b, b = Bk.madeP x1 := ⟨_, rfl⟩
    obtain ⟨ok, nb4, ng3⟩ := Bk.made_ok x1
    rw [← eb] at OB OG ok nb4 ng3
    clear eb
    refine XO.alloc fun b24 => ?_
    refine XO.st rfl rfl rfl ?_
    refine XO.done (XK.seq (XK.region rfl ?_))
    refine XO.q (Q.ldA [_, _] rfl rfl rfl) ?_
    refine XO.q (Q.move rfl) ?_
    refine XO.call Tryz.call28 rfl rfl rfl (Bk.failed06 b vb vg kb kg ok v3 h3 x3) fun v135 s135 R135 => ?_
    obtain ⟨kf, rfl, OF⟩ := R135
    dsimp only [lcA, lnA]
    obtain ⟨f, ef⟩ : ∃ f, f = Bk.failP b x3 := ⟨_, rfl⟩
    have fk := Bk.fail_ok ok x3
    rw [← ef] at OF fk
    clear ef
    refine XO.q (Q.assign rfl) (XO.done (XK.seq (XK.region rfl ?_)))
    refine XO.q (Q.ldA [_, _] rfl rfl rfl) ?_
    refine XO.q (Q.move rfl) ?_
    refine XO.q (Q.build [_, _] (.c 0 1 rfl rfl rfl (.c 1 1 rfl rfl rfl (.n _)))) ?_
    refine XO.lit [_, _] [_, _] [⟨60, cps⟩] Bk.encSpan (by rfl) (by rfl) rfl (by rfl) (by exact .c 0 2 rfl rfl rfl (.n _)) (fun _ => rfl) (by rfl) rfl (by infer_instance) rfl fun v140 h140 O140 => ?_
    refine XO.q (Q.move rfl) ?_
    have lka : Bk.LOk [⟨60, cps⟩] := lok_one (by omega) (by omega)
    have rd1 : Bk.readyP b [⟨60, cps⟩] f = 0 := Bk.readyP_iff.2 ⟨ok, lka, fk⟩
    refine XO.call Tryz.call29 rfl rfl rfl (Bk.Run_spec b vb vg kb kg [⟨60, cps⟩] v140 h140 f v135 kf) fun v142 s142 R142 => ?_
    obtain ⟨vea, vna, kea, kna, rfl, rfl, OEa, ONa⟩ := R142
    dsimp only [lcA, lnA]
    rw [if_pos rd1] at OEa ONa
    rw [rd1, if_pos rfl]
    obtain ⟨r1, er1⟩ : ∃ r, r = Bk.runP b (Bk.powers [⟨60, cps⟩]) f := ⟨_, rfl⟩
    rw [← er1] at OEa ONa ⊢
    refine XO.q (Q.move rfl) ?_
    refine XO.q (Q.extract rfl rfl) ?_
    refine XO.q (Q.extract rfl rfl) ?_
    refine XO.alloc fun b26 => ?_
    refine XO.st rfl rfl rfl ?_
    refine XO.q (Q.assign rfl) (XO.done (XK.seq (XK.region rfl ?_)))
    refine XO.q (Q.ldA [_, _] rfl rfl rfl) ?_
    refine XO.q (Q.move rfl) ?_
    refine XO.q (Q.build [_, _] (.c 0 1 rfl rfl rfl (.c 1 1 rfl rfl rfl (.n _)))) ?_
    refine XO.lit [_, _] [_, _] [⟨60, tot⟩] Bk.encSpan (by rfl) (by rfl) rfl (by rfl) (by exact .c 0 2 rfl rfl rfl (.n _)) (fun _ => rfl) (by rfl) rfl (by infer_instance) rfl fun v149 h149 O149 => ?_
    refine XO.q (Q.move rfl) ?_
    have lkb : Bk.LOk [⟨60, tot⟩] := lok_one (by omega) (by omega)
    have rd2 : Bk.readyP b [⟨60, tot⟩] f = 0 := Bk.readyP_iff.2 ⟨ok, lkb, fk⟩
    refine XO.call Tryz.call29 rfl rfl rfl (Bk.Run_spec b vb vg kb kg [⟨60, tot⟩] v149 h149 f v135 kf) fun v151 s151 R151 => ?_
    obtain ⟨veb, vnb, keb, knb, rfl, rfl, OEb, ONb⟩ := R151
    dsimp only [lcA, lnA]
    rw [if_pos rd2] at OEb ONb
    rw [rd2, if_pos rfl]
    obtain ⟨r2, er2⟩ : ∃ r, r = Bk.runP b (Bk.powers [⟨60, tot⟩]) f := ⟨_, rfl⟩
    rw [← er2] at OEb ONb ⊢
    refine XO.q (Q.move rfl) ?_
    refine XO.q (Q.extract rfl rfl) ?_
    refine XO.q (Q.extract rfl rfl) ?_
    refine XO.alloc fun b27 => ?_
    refine XO.st rfl rfl rfl ?_
    refine XO.q (Q.assign rfl) (XO.done (XK.seq (XK.region rfl ?_)))
    have lat := later_le ok fk (p := cps) (q := tot) (by omega) (by omega) (by omega)
    rw [← er1, ← er2] at lat
    refine XO.q (Q.move rfl) ?_
    refine XO.q (Q.eql rfl rfl) ?_
    first | rw [decide_eq_true (show (0 : Int) = (0 : Int) from rfl)] | skip
    refine XO.q (Q.move rfl) ?_
    refine XO.q (Quiet.guardT rfl rfl fun g157 p157 => Q.move rfl) ?_
    refine XO.q (Quiet.guardT rfl rfl fun g158 p158 => Q.eql (lzv rfl rfl) rfl) ?_
    first | rw [decide_eq_true (show (0 : Int) = (0 : Int) from rfl)] | skip
    refine XO.q (Q.and rfl (fun hp => lzv hp rfl)) ?_
    refine XO.q (Q.move rfl) ?_
    refine XO.q (Quiet.guardT rfl rfl fun g161 p161 => Q.fieldAddr rfl) ?_
    refine XO.q (Quiet.guardT rfl rfl fun g162 p162 => Q.ld (lzv rfl rfl) rfl) ?_
    refine XO.q (Quiet.guardT rfl rfl fun g163 p163 => Q.lss (lzv rfl rfl) rfl) ?_
    refine XO.q (Quiet.guardT rfl rfl fun g164 p164 => Q.move (lzv rfl rfl)) ?_
    refine XO.q (Quiet.guard2 rfl rfl fun g165a g165b => have p165a := bpT g165a; have p165b := bpF g165b; Q.fieldAddr rfl) ?_
    refine XO.q (Quiet.guard2 rfl rfl fun g166a g166b => have p166a := bpT g166a; have p166b := bpF g166b; Q.ld (lzv g166b (lzv rfl rfl)) rfl) ?_
    refine XO.q (Quiet.guard2 rfl rfl fun g167a g167b => have p167a := bpT g167a; have p167b := bpF g167b; Q.geq (lzv g167b (lzv rfl rfl)) rfl) ?_
    refine XO.q (Quiet.guard2 rfl rfl fun g168a g168b => have p168a := bpT g168a; have p168b := bpF g168b; Q.move (lzv g168b (lzv rfl rfl))) ?_
    refine XO.q (Quiet.guard3 rfl rfl fun g169a g169b g169c => have p169a := bpT g169a; have p169b := bpF g169b; have p169c := bpT g169c; Q.fieldAddr rfl) ?_
    refine XO.q (Quiet.guard3 rfl rfl fun g170a g170b g170c => have p170a := bpT g170a; have p170b := bpF g170b; have p170c := bpT g170c; Q.ld (lzv g170c (lzv g170b (lzv rfl rfl))) rfl) ?_
    refine XO.q (Quiet.guard3 rfl rfl fun g171a g171b g171c => have p171a := bpT g171a; have p171b := bpF g171b; have p171c := bpT g171c; Q.fieldAddr rfl) ?_
    refine XO.q (Quiet.guard3 rfl rfl fun g172a g172b g172c => have p172a := bpT g172a; have p172b := bpF g172b; have p172c := bpT g172c; Q.ld (lzv g172c (lzv g172b (lzv rfl rfl))) rfl) ?_
    refine XO.q (Quiet.guard3 rfl rfl fun g173a g173b g173c => have p173a := bpT g173a; have p173b := bpF g173b; have p173c := bpT g173c; Q.geq (lzv g173c (lzv g173b (lzv rfl rfl))) (lzv g173c (lzv g173b (lzv rfl rfl)))) ?_
    refine XO.q (Quiet.guard2 rfl rfl fun g174a g174b => have p174a := bpT g174a; have p174b := bpF g174b; Q.and (lzv g174b (lzv rfl rfl)) (fun hp => (lzv hp (lzv g174b (lzv rfl rfl))))) ?_
    refine XO.q (Quiet.guardT rfl rfl fun g175 p175 => Q.or (lzv rfl rfl) (fun hp => (lzv hp (lzv rfl rfl)))) ?_
    rw [show (decide (r2.dark < 0) || (decide (0 ≤ r1.dark) && decide (r1.dark ≤ r2.dark))) = true from lat]
    refine XO.q (Q.and rfl (fun hp => lzv hp rfl)) ?_
    refine XO.q (Q.move rfl) ?_
    refine XO.callS rfl rfl rfl Tryz.call14 rfl (.n) rfl (there_spec) fun v178 s178 R178 => ?_
    obtain ⟨rfl, rfl⟩ := R178
    dsimp only [lcA, lnA]
    refine XO.q (Q.and rfl (fun _ => rfl)) ?_
    refine XO.q (Q.assign rfl) (XO.done ?_)
    refine XK.rt [] Tryz.func5 Tryz.results5 (.t rfl .n) ?_
    exact ⟨by simp, rfl⟩
end Go.X
