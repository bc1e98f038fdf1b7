/- A part of the proof: a small program logic, plain laws and contracts of functions, each proved by a walk through its operations. No condition but those that stand in each theorem. -/
import Derived.Test.YtmpbiclgfnjjeaaA4
set_option linter.unusedSimpArgs false
set_option linter.unusedVariables false
set_option maxRecDepth 20000
namespace Go.X
open Go.Proofs
theorem Rows.to {us : List Value} {K : PHeap} {h : Hall} {c : Nat → HCase} {t : List Int} {n : Nat} (r : Rows us K (rowsL h c t n)) : RowsTo us K h c t n := ⟨r.1.trans (rows_len ..), fun i hi => by
  have := r.2 i (by rw [r.1, rows_len]; exact hi)
  rwa [rows_at hi] at this⟩
theorem worst_at {us : List Value} {v : Value} {k K : PHeap} {h : Hall} {c : Nat → HCase} {t : List Int} {m : Nat} (r : RowsTo us K h c t m) (a : Arr v encI 1 k t) {n : Nat} (hn : n ≤ m) : ArrE (([v] ++ us).getD n default) (iterT h c t n) k K := by
  match n, hn with
  | 0, _ => exact .inl a
  | n + 1, hn => exact .inr (r.2 n hn)
theorem run_cases {h : Hall} {t : List Int} {l : List (Value × HCase)} (hc : hcheck h = 0) (tk : TOk h t) (hl : l.length ≤ 20000) (lk : ∀ x ∈ l, COk h x.2) : runG h t (l.map Prod.snd) = (rowsL h (fun i => (l.getD i default).2) t l.length, 0) := by
  rw [run_fine hc tk (by rw [List.length_map]; exact hl) (fun c hc => by obtain ⟨x, hx, rfl⟩ := List.mem_map.1 hc; exact lk x hx), map_snd_getD, List.length_map]
def AllIn3 (m : Nat) (a d : HCase) (l : List (Value × HCase)) : Prop := ∀ x ∈ l, CasedOk m x.2 ∧ LeC a x.2 ∧ LeC x.2 d
theorem AllIn3.snoc {m : Nat} {a d : HCase} {l : List (Value × HCase)} {x : Value × HCase} (h : AllIn3 m a d l) (q : CasedOk m x.2) (h1 : LeC a x.2) (h2 : LeC x.2 d) : AllIn3 m a d (l ++ [x]) := fun y hy => by
  rcases List.mem_append.1 hy with hy | hy
  · exact h y hy
  · rw [List.mem_singleton] at hy; subst hy; exact ⟨q, h1, h2⟩
def LoadsIn (K : PHeap) (l : List (Value × HCase)) : Prop := ∀ i, i < l.length → Arr (l.getD i default).1 encI 1 K (l.getD i default).2.load
theorem LoadsIn.snoc {K K' : PHeap} {l : List (Value × HCase)} {x : Value × HCase} (h : LoadsIn K l) (hl : leH K K') (a : Arr x.1 encI 1 K' x.2.load) : LoadsIn K' (l ++ [x]) := fun i hi => by
  rw [List.length_append] at hi
  rw [getD_snoc]
  by_cases hc : i < l.length
  · rw [if_pos hc]; exact Arr.le_heap (h i hc) hl
  · rw [if_neg hc, if_pos (by simp at hi; omega)]; exact a
theorem LoadsIn.rep {K : PHeap} {v : Value} {c : HCase} (a : Arr v encI 1 K c.load) (n : Nat) : LoadsIn K (List.replicate n (v, c)) := fun i hi => by
  rw [replicate_getD (by simpa using hi)]; exact a
set_option maxHeartbeats 1000000 in
set_option synthInstance.maxHeartbeats 400000 in
set_option synthInstance.maxSize 1000 in
theorem HeatInside_spec (gl : Value) (hhl : PHeap) (l : List UInt8) [il : Arr gl encU8 1 hhl l] (gs : Value) (hhs : PHeap) (s : List UInt8) [is : Arr gs encU8 1 hhs s] (gt : Value) (hht : PHeap) (t : List UInt8) [it : Arr gt encU8 1 hht t] (ga : Value) (hha : PHeap) (a : List UInt8) [ia : Arr ga encU8 1 hha a] (gb : Value) (hhb : PHeap) (b : List UInt8) [ib : Arr gb encU8 1 hhb b] (gw : Value) (hhw : PHeap) (ws : List Value) [iw : Arr gw encV 1 hhw ws] (hrows : ∀ u ∈ ws, ∃ x, Arr u encU8 1 hhw x) (gq : Value) (hhq : PHeap) (q : List UInt8) [iq : Arr gq encU8 1 hhq q] : Spec Try.prog 8 #[gl, gs, gt, ga, gb, gw, gq] [] [hhl, hhs, hht, hha, hhb, hhw, hhq] (fun v hs => v = .bool true ∧ hs = []) := by
  have hnilC : OArr (.slice none 0 0) encCV 3 43 emp ([] : List (Value × HCase)) := OArr.nil (fun _ => rfl)
  refine Spec.intro (fn := Try.f8) (N := 309) Try.func8 rfl Try.ntmps8 rfl fun B => ?_
  refine XK.seq ?_
  refine XK.region rfl ?_
  refine XO.q (Q.assign rfl) ?_
  refine XO.done ?_
  refine XK.seq ?_
  refine XK.region rfl ?_
  refine XO.q (Q.move rfl) ?_
  refine XO.call Try.call9 rfl rfl rfl (made7 gl hhl l) fun v45 s45 R45 => ?_
  obtain ⟨h, vr, vw, vb, vc, kr, kw, kb, kc, rfl, rfl, Or, Ow, Ob, Oc, mk⟩ := R45
  dsimp only [List.cons_append, List.nil_append]
  have ok := hcheck_ok mk.ok
  have r1 := ok.r1
  have r2 := ok.r2
  have b2 := ok.b2
  have c2 := ok.c2
  have w2 := ok.w2
  refine XO.alloc fun b15 => ?_
  refine XO.st rfl rfl rfl ?_
  refine XO.done ?_
  refine XK.seq ?_
  refine XK.drawn [0, 1, 3, 4, 7, 8, 9, 10, 11] [b15] [] (.q 0 (.q 1 (.q 3 (.q 4 (.br 2 true (.br 5 true (.br 6 true (.q 7 (.q 8 (.q 9 (.q 10 (.q 11 .done))))) .stop) .stop) .stop))))) Try.mixed rfl (by kernel_rfl) ?_
  refine XT.q rfl rfl (Q.ldA [_, _, _, _] rfl rfl rfl) ?_
  refine XT.q rfl rfl (Q.move rfl) ?_
  refine XT.q rfl rfl (Q.ldA [_, _, _, _] rfl rfl rfl) ?_
  refine XT.q rfl rfl (Q.move rfl) ?_
  refine XT.call rfl rfl Try.call14 rfl rfl rfl (warm_made vr vw vb vc kr h.rooms r2 gs hhs s) (fun v49 s49 R49 => ?_) XT.stop
  obtain ⟨t49, k49, rfl, O49, w49⟩ := R49
  dsimp only [List.cons_append, List.nil_append]
  refine ⟨inferInstance, ?_⟩
  have tl49 := w49.1
  refine XT.call rfl rfl Try.call14 rfl rfl rfl (warm_made vr vw vb vc kr h.rooms r2 gt hht t) (fun v52 s52 R52 => ?_) XT.stop
  obtain ⟨t52, k52, rfl, O52, w52⟩ := R52
  dsimp only [List.cons_append, List.nil_append]
  refine ⟨inferInstance, ?_⟩
  have tl52 := w52.1
  refine XT.call rfl rfl Try.call19 rfl rfl rfl (sorted_spec v49 v52 k49 k52 t49 t52 (by omega) (by omega)) (fun v53 s53 R53 => ?_) XT.stop
  obtain ⟨vlo, vhi, klo, khi, rfl, rfl, Olo, Ohi⟩ := R53
  dsimp only [List.cons_append, List.nil_append]
  refine ⟨inferInstance, ?_⟩
  refine XT.q rfl rfl (Q.move rfl) ?_
  refine XT.q rfl rfl (Q.extract rfl rfl) ?_
  refine XT.q rfl rfl (Q.extract rfl rfl) ?_
  refine XT.q rfl rfl (Q.assign rfl) ?_
  refine XT.q rfl rfl (Q.assign rfl) ?_
  refine XT.done ?_
  refine XK.seq ?_
  refine XK.meet (X := HCase × HCase × Nat × Value × PHeap × Value × PHeap) [18, 56, 57, 58, 59, 60, 61, 62] (fun ⟨ca, cb, b18, wlo, jlo, whi, jhi⟩ => [(18, some (ptr b18 0))]) (fun ⟨ca, cb, b18, wlo, jlo, whi, jhi⟩ => [blk b18 [wlo, .int .i64 ca.out, .int .i64 ca.pump, whi, .int .i64 cb.out, .int .i64 cb.pump] 57, jlo, jhi]) (fun ⟨ca, cb, b18, wlo, jlo, whi, jhi⟩ => CasedOk h.rooms.length ca ∧ CasedOk h.rooms.length cb ∧ LeC ca cb ∧ OArr wlo encI 1 3 jlo ca.load ∧ OArr whi encI 1 3 jhi cb.load) [] ?_ ?_
  · rintro ⟨ca, cb, b18, wlo, jlo, whi, jhi⟩ ⟨qa, qb, lab, Plo, Phi⟩
    dsimp only [List.cons_append, List.nil_append]
    refine XK.seq ?_
    refine XK.region rfl ?_
    have tkl : TOk h (lowL t49 t52) := (w49.low w52).tok
    have tkh : TOk h (highL t49 t52) := (w49.high w52).tok
    have lol := tkl.len
    have hil := tkh.len
    refine XO.q (Q.move rfl) ?_
    refine XO.call Try.call23 rfl rfl rfl (cloneI vlo klo (lowL t49 t52) (by omega)) fun v64 s64 R64 => ?_
    obtain ⟨k64, rfl, O64⟩ := R64
    dsimp only [List.cons_append, List.nil_append]
    refine XO.q (Q.assign rfl) ?_
    refine XO.done ?_
    refine XK.seq ?_
    refine XK.seq ?_
    refine XK.region rfl ?_
    refine XO.q (Q.move rfl) ?_
    refine XO.len rfl fun l66 => ?_
    refine XO.q (Q.move rfl) ?_
    refine XO.done ?_
    refine XK.block ?_
    refine XK.while (X := Nat × PHeap × List Int) [20, 67, 68, 69, 70, 71, 72, 73, 74, 75, 76, 77, 78, 79, 80, 81, 82, 83, 84, 85, 86, 87, 88, 89, 90, 91, 92, 93, 94, 95, 96] (fun ⟨i, kst, sta⟩ => [(67, some (.int .i64 (i : Nat)))]) (fun ⟨i, kst, sta⟩ => [kst]) (fun ⟨i, kst, sta⟩ => i ≤ (lowL t49 t52).length ∧ MidTo (lowL t49 t52) (highL t49 t52) i sta ∧ OArr v64 encI 1 3 kst sta) (fun ⟨i, kst, sta⟩ => (lowL t49 t52).length - i) (0, k64, (lowL t49 t52)) [k64] rfl ⟨by omega, MidTo.start low_high, O64⟩ (.c rfl (.base 0 rfl rfl)) ?_
    rintro ⟨i, kst, sta⟩ ⟨hi0, hst, OS⟩ ih0
    dsimp only [List.cons_append, List.nil_append] at ih0 ⊢
    refine XK.seq ?_
    refine XK.region rfl ?_
    refine XO.q (Q.lss rfl rfl) ?_
    refine XO.done ?_
    refine XK.seq ?_
    refine XK.if rfl (fun c0 => ?_) (fun c0 => ?_)
    · have _t0 := True.intro
      have hsl := hst.1
      have f1 := tkl.rng i (by omega)
      have f2 := tkh.rng i (by omega)
      have f3 := (low_high (a := t49) (b := t52)) i (by omega)
      have f4 := hst.2.2 i (Nat.le_refl _) (by omega)
      change 0 ≤ (lowL t49 t52).getD i default ∧ (lowL t49 t52).getD i default ≤ _ at f1
      change 0 ≤ (highL t49 t52).getD i default ∧ (highL t49 t52).getD i default ≤ _ at f2
      change (lowL t49 t52).getD i default ≤ (highL t49 t52).getD i default at f3
      change sta.getD i default = (lowL t49 t52).getD i default at f4
      refine XK.skip ?_
      refine XK.seq ?_
      refine XK.block ?_
      refine XK.seq ?_
      refine XK.region rfl ?_
      refine XO.q (Q.move rfl) ?_
      refine XO.q (Q.assign rfl) ?_
      refine XO.done ?_
      refine XK.seq ?_
      refine XK.region rfl ?_
      refine XO.q (Q.move rfl) ?_
      refine XO.q (Q.move rfl) ?_
      refine XO.len rfl fun l72 => ?_
      refine XO.q (Q.lss rfl rfl) ?_
      refine XO.done ?_
      refine XK.if rfl (fun c1 => ?_) (fun c1 => ?_)
      · have _t1 := True.intro
        refine XK.drawn [0, 1, 2, 4, 5, 6, 7, 8, 9, 10, 11, 12, 13, 14, 15, 16, 17, 18, 19, 20, 21] [] [klo, khi] (.q 0 (.q 1 (.q 2 (.q 4 (.q 5 (.q 6 (.q 7 (.q 8 (.q 9 (.q 10 (.q 11 (.q 12 (.q 13 (.q 14 (.q 15 (.q 16 (.q 17 (.q 18 (.q 19 (.br 3 true (.q 20 (.q 21 (.br 22 false .done .stop))) .stop)))))))))))))))))))) Try.mixed rfl (by kernel_rfl) ?_
        refine XT.q rfl rfl (Q.move rfl) ?_
        refine XT.q rfl rfl (Q.move rfl) ?_
        refine XT.ix rfl rfl rfl rfl (by omega) (by omega) fun i76 => ?_
        refine XT.q rfl rfl (Q.move rfl) ?_
        refine XT.q rfl rfl (Q.move rfl) ?_
        refine XT.ix rfl rfl rfl rfl (by omega) (by omega) fun i80 => ?_
        refine XT.q rfl rfl (Q.ldE rfl (by first | assumption | omega) rfl) ?_
        refine XT.q rfl rfl (Q.move rfl) ?_
        refine XT.q rfl rfl (Q.move rfl) ?_
        refine XT.ix rfl rfl rfl rfl (by omega) (by omega) fun i84 => ?_
        refine XT.q rfl rfl (Q.ldE rfl (by first | assumption | omega) rfl) ?_
        refine XT.q rfl rfl (Q.sub rfl rfl ⟨by omega, by omega⟩) ?_
        refine XT.q rfl rfl (Q.move rfl) ?_
        refine XT.q rfl rfl (Q.move rfl) ?_
        refine XT.ix rfl rfl rfl rfl (by omega) (by omega) fun i89 => ?_
        refine XT.q rfl rfl (Q.ldE rfl (by first | assumption | omega) rfl) ?_
        have hu := (q.getD i default).toNat_lt
        refine XT.q rfl rfl (Q.conv rfl) ?_
        rw [wrap64_of ⟨by omega, by omega⟩]
        obtain ⟨g1, g2, g3, g4⟩ := mid_rng (n := (q.getD i default).toNat) f3 (by omega)
        refine XT.q rfl rfl (Q.mul rfl rfl ⟨by omega, by omega⟩) ?_
        refine XT.q rfl rfl (Q.quo rfl rfl (by omega) (by omega) (by omega)) ?_
        refine XT.qs rfl rfl (Q.ldE rfl (by first | assumption | omega) rfl) ⟨inferInstance, ?_⟩ XT.stop
        refine XT.q rfl rfl (Q.add rfl rfl ⟨by omega, by omega⟩) ?_
        refine XT.ix rfl rfl rfl rfl (by omega) (by omega) fun i95 => ?_
        refine XT.stE _ rfl rfl rfl rfl rfl (by assumption) rfl rfl (fun h9_22 O9_22 => ⟨inferInstance, ?_⟩) XT.stop
        refine XT.done ?_
        refine XK.inBlock ?_
        refine XK.region rfl ?_
        refine XO.q (Q.add rfl rfl ⟨by omega, by omega⟩) ?_
        refine XO.q (Q.move rfl) ?_
        refine XO.done ?_
        exact ih0 (i + 1, h9_22, _) _ _ ⟨by dsimp only; omega, hst.step (by omega) (by change (lowL t49 t52).getD i default ≤ _; omega) (by change _ ≤ (highL t49 t52).getD i default; omega), O9_22⟩ (by first | omega | (dsimp only; omega)) (.c rfl (.base 63 rfl rfl)) inferInstance
      · have _t1 := True.intro
        refine XK.skip ?_
        refine XK.inBlock ?_
        refine XK.region rfl ?_
        refine XO.q (Q.add rfl rfl ⟨by omega, by omega⟩) ?_
        refine XO.q (Q.move rfl) ?_
        refine XO.done ?_
        exact ih0 (i + 1, kst, sta) _ _ ⟨by dsimp only; omega, hst.skip, OS⟩ (by first | omega | (dsimp only; omega)) (.c rfl (.base 41 rfl rfl)) inferInstance
    · have _t0 := True.intro
      have hin : i = t49.length := by rw [lowL_len] at hi0 c0; omega
      clear ih0
      refine XK.exit rfl ?_
      refine XK.seq ?_
      refine XK.region rfl ?_
      refine XO.q (Q.assign rfl) ?_
      refine XO.done ?_
      refine XK.seq ?_
      refine XK.seq ?_
      refine XK.region rfl ?_
      refine XO.q (Q.move rfl) ?_
      refine XO.q (Q.move rfl) ?_
      refine XO.len rfl fun l99 => ?_
      refine XO.q (Q.min rfl rfl) ?_
      refine XO.cut (i := 0) (j := min ws.length 40) rfl .n (.s rfl (by omega)) (by omega) (by omega) fun v101 A101 => ?_
      obtain ⟨cs, ecs⟩ : ∃ cs, cs = (ws.drop 0).take (min ws.length 40 - 0) := ⟨_, rfl⟩
      rw [← ecs] at A101
      have hcl : cs.length ≤ 40 := by rw [ecs, List.length_take]; omega
      have hcs : ∀ u ∈ cs, u ∈ ws := fun u hu => by rw [ecs] at hu; exact List.mem_of_mem_drop (List.mem_of_mem_take hu)
      clear ecs
      refine XO.len rfl fun l102 => ?_
      refine XO.q (Q.move rfl) ?_
      refine XO.done ?_
      refine XK.block ?_
      refine XK.while (X := Nat × List (Value × HCase) × Value × PHeap × PHeap) [14, 21, 23, 24, 25, 26, 103, 104, 105, 106, 107, 108, 109, 110, 111, 112, 113, 114, 115, 116, 117, 118, 119, 120, 121, 122, 123, 124, 125, 126, 127] (fun ⟨i, l, vA, kA, KL⟩ => [(103, some (.int .i64 (i : Nat))), (21, some (vA))]) (fun ⟨i, l, vA, kA, KL⟩ => [kA, KL]) (fun ⟨i, l, vA, kA, KL⟩ => i ≤ cs.length ∧ l.length = i ∧ OArr vA encCV 3 43 kA l ∧ LoadsIn KL l ∧ AllIn3 h.rooms.length ca cb l) (fun ⟨i, l, vA, kA, KL⟩ => cs.length - i) (0, [], .slice none 0 0, emp, emp) [emp, emp] rfl ⟨by omega, rfl, hnilC, fun i hi => absurd hi (Nat.not_lt_zero i), fun x hx => by cases hx⟩ (.c rfl (.c rfl (.base 0 rfl rfl))) ?_
      rintro ⟨i, l, vA, kA, KL⟩ ⟨hi1, hll, OA, aL, hall⟩ ih1
      dsimp only [List.cons_append, List.nil_append] at ih1 ⊢
      refine XK.seq ?_
      refine XK.region rfl ?_
      refine XO.q (Q.lss rfl rfl) ?_
      refine XO.done ?_
      refine XK.seq ?_
      refine XK.if rfl (fun c2 => ?_) (fun c2 => ?_)
      · have _t2 := True.intro
        refine XK.skip ?_
        refine XK.seq ?_
        refine XK.block ?_
        refine XK.seq ?_
        refine XK.region rfl ?_
        refine XO.ix rfl rfl (by omega) (by omega) fun i105 => ?_
        refine XO.q (Q.ldE rfl (by first | assumption | omega) rfl) ?_
        obtain ⟨px, apx⟩ := hrows _ (hcs _ (getD_mem (show i < cs.length by omega)))
        refine XO.q (Q.assign rfl) ?_
        refine XO.done ?_
        refine XK.seq ?_
        refine XK.region rfl ?_
        refine XO.q (Q.ldA [_, _, _, _, _, _] rfl rfl rfl) ?_
        refine XO.q (Q.move rfl) ?_
        refine XO.call Try.call24 rfl rfl rfl (inside_spec h.rooms.length r2 ca cb wlo whi jlo jhi qa qb lab (cs.getD i default) hhw px) fun v109 s109 R109 => ?_
        obtain ⟨cc, vcc, kcc, rfl, rfl, Occ, lcc, acc, ccb⟩ := R109
        dsimp only [List.cons_append, List.nil_append]
        have qcc := qa.mid qb lcc acc ccb
        refine XO.alloc fun b24 => ?_
        refine XO.st rfl rfl rfl ?_
        refine XO.done ?_
        refine XK.seq ?_
        refine XK.seq ?_
        refine XK.region rfl ?_
        refine XO.q (Q.ldA [_, _, _, _] rfl rfl rfl) ?_
        refine XO.q (Q.ldA [_, _, _, _, _, _] rfl rfl rfl) ?_
        refine XO.q (Q.ldA [_, _, _] rfl rfl rfl) ?_
        refine XO.call Try.call31 rfl rfl rfl (Belongs_spec h vr vw vb vc kr kw kb kc ca cb wlo whi jlo jhi cc vcc kcc) fun v114 s114 R114 => ?_
        obtain ⟨rfl, rfl⟩ := R114
        dsimp only [List.cons_append, List.nil_append]
        rw [belongs_fine mk.ok qa.cok qb.cok qcc.cok lab acc ccb]
        dsimp only
        refine XO.q (Q.move rfl) ?_
        refine XO.q (Q.extract rfl rfl) ?_
        refine XO.q (Q.extract rfl rfl) ?_
        refine XO.q (Q.assign rfl) ?_
        refine XO.q (Q.assign rfl) ?_
        refine XO.done ?_
        refine XK.seq ?_
        refine XK.region rfl ?_
        refine XO.q (Q.move rfl) ?_
        refine XO.q (Q.neq rfl rfl) ?_
        refine XO.q (Q.move rfl) ?_
        refine XO.q (Quiet.guardF rfl rfl fun g120 p120 => Q.move rfl) ?_
        refine XO.q (Quiet.guardF rfl rfl fun g121 p121 => Q.not (lzv g121 rfl)) ?_
        refine XO.q (Q.or rfl (fun hp => lzv hp rfl)) ?_
        refine XO.done ?_
        refine XK.if rfl (fun c3 => ?_) (fun c3 => ?_)
        · have _t3 := True.intro
          exact absurd c3 (by simp)
        · have _t3 := True.intro
          refine XK.skip ?_
          refine XK.region rfl ?_
          refine XO.cat KL kcc fun leK leC => ?_
          have Acc : Arr vcc encI 1 (cat KL kcc) cc.load := Arr.le_heap (OArr.arr (s := Occ)) leC
          clear Occ
          refine XO.q (Q.move rfl) ?_
          refine XO.q (Q.ldA [_, _, _] rfl rfl rfl) ?_
          refine XO.lit [_, _, _] [_, _, _] [(vcc, cc)] encCV (by rfl) (by rfl) rfl (by rfl) (by exact .c 0 3 rfl rfl rfl (.n _)) (fun _ => rfl) (by rfl) rfl (by infer_instance) rfl fun v125 h125 O125 => ?_
          refine XO.append rfl rfl rfl rfl (by first | omega | (simp; omega)) fun v126 h126 O126 => ?_
          refine XO.q (Q.assign rfl) ?_
          refine XO.done ?_
          refine XK.inBlock ?_
          refine XK.region rfl ?_
          refine XO.q (Q.add rfl rfl ⟨by omega, by omega⟩) ?_
          refine XO.q (Q.move rfl) ?_
          refine XO.done ?_
          exact ih1 (i + 1, l ++ [(vcc, cc)], v126, h126, cat KL kcc) _ _ ⟨by dsimp only; omega, by dsimp only; rw [List.length_append, hll]; rfl, O126, aL.snoc leK Acc, hall.snoc qcc acc ccb⟩ (by first | omega | (dsimp only; omega)) (.c rfl (.c rfl (.base 63 rfl rfl))) inferInstance
      · have _t2 := True.intro
        refine XK.exit rfl ?_
        refine XK.seq ?_
        refine XK.region rfl ?_
        have tks : TOk h sta := tkl.mid tkh hst.1 hst.le1 hst.le2
        have hrun := run_cases mk.ok tks (l := l) (by omega) (fun x hx => (hall x hx).1.cok)
        have hck : ∀ i, i < l.length → COk h (l.getD i default).2 := fun i hi => (hall _ (getD_mem hi)).1.cok
        have hac : ∀ i, i < l.length → LeC ca (l.getD i default).2 := fun i hi => (hall _ (getD_mem hi)).2.1
        have hcd : ∀ i, i < l.length → LeC (l.getD i default).2 cb := fun i hi => (hall _ (getD_mem hi)).2.2
        refine XO.q (Q.ldA [_, _, _, _] rfl rfl rfl) ?_
        refine XO.q (Q.move rfl) ?_
        refine XO.q (Q.move rfl) ?_
        refine XO.call Try.call30 rfl rfl rfl (Run_spec h vr vw vb vc kr kw kb kc sta v64 kst l vA kA KL aL) fun v132 s132 R132 => ?_
        obtain ⟨x132, y132, K0, us0, rfl, rfl, O132, R0⟩ := R132
        dsimp only [List.cons_append, List.nil_append]
        rw [hrun] at R0 ⊢
        dsimp only at R0 ⊢
        have T0 := R0.to
        refine XO.q (Q.move rfl) ?_
        refine XO.q (Q.extract rfl rfl) ?_
        refine XO.q (Q.extract rfl rfl) ?_
        refine XO.q (Q.assign rfl) ?_
        refine XO.q (Q.assign rfl) ?_
        refine XO.done ?_
        refine XK.seq ?_
        refine XK.region rfl ?_
        refine XO.q (Q.ldA [_, _, _, _] rfl rfl rfl) ?_
        refine XO.q (Q.move rfl) ?_
        refine XO.q (Q.move rfl) ?_
        refine XO.q (Q.ldA [_, _, _, _, _, _] rfl rfl rfl) ?_
        refine XO.q (Q.move rfl) ?_
        refine XO.len rfl fun l141 => ?_
        refine XO.call Try.call32 rfl rfl rfl (Bounds_spec h vr vw vb vc kr kw kb kc ca cb wlo whi jlo jhi (lowL t49 t52) (highL t49 t52) vlo vhi klo khi (l.length : Nat)) fun v142 s142 R142 => ?_
        obtain ⟨xL, xH, yL, yH, KLo, KHi, usL, usH, rfl, rfl, OL, OH, RL, RH⟩ := R142
        dsimp only [List.cons_append, List.nil_append]
        rw [bounds_fine mk.ok qa.cok qb.cok lab tkl tkh low_high (by omega)] at RL RH ⊢
        dsimp only at RL RH ⊢
        have TL := RL.to
        have TH := RH.to
        refine XO.q (Q.move rfl) ?_
        refine XO.q (Q.extract rfl rfl) ?_
        refine XO.q (Q.extract rfl rfl) ?_
        refine XO.q (Q.extract rfl rfl) ?_
        refine XO.q (Q.assign rfl) ?_
        refine XO.q (Q.assign rfl) ?_
        refine XO.q (Q.assign rfl) ?_
        refine XO.done ?_
        refine XK.seq ?_
        refine XK.region rfl ?_
        refine XO.q (Q.ldA [_, _, _, _] rfl rfl rfl) ?_
        refine XO.q (Q.move rfl) ?_
        refine XO.q (Q.ldA [_, _, _, _, _, _] rfl rfl rfl) ?_
        refine XO.call Try.call33 rfl rfl rfl (Ride_spec h vr vw vb vc kr kw kb kc (highL t49 t52) vhi khi ca cb wlo whi jlo jhi 200) fun v150 s150 R150 => ?_
        obtain ⟨rfl, rfl⟩ := R150
        dsimp only [List.cons_append, List.nil_append]
        have hrd : rideG h (highL t49 t52) ca cb 200 = ((rideL h cb 200 0 (highL t49 t52)).1, (rideL h cb 200 0 (highL t49 t52)).2, 0) := ride_fine (n := 200) mk.ok qa.cok qb.cok lab tkh (by omega)
        rw [hrd]
        dsimp only
        obtain ⟨rk, hrk, erk, hcool, hend⟩ := ride_law h cb 200 0 (highL t49 t52)
        rw [Nat.zero_add] at erk
        obtain ⟨rm, erm⟩ : ∃ rm, rm = (rideL h cb 200 0 (highL t49 t52)).2 := ⟨_, rfl⟩
        rw [← erm] at hend ⊢
        rw [erk]
        clear erk erm hrd
        refine XO.q (Q.move rfl) ?_
        refine XO.q (Q.extract rfl rfl) ?_
        refine XO.q (Q.extract rfl rfl) ?_
        refine XO.q (Q.extract rfl rfl) ?_
        refine XO.q (Q.assign rfl) ?_
        refine XO.q (Q.assign rfl) ?_
        refine XO.q (Q.assign rfl) ?_
        refine XO.done ?_
        refine XK.seq ?_
        refine XK.seq ?_
        refine XK.region rfl ?_
        refine XO.q (Q.move rfl) ?_
        refine XO.q (Q.neq rfl rfl) ?_
        refine XO.q (Q.move rfl) ?_
        refine XO.q (Quiet.guardF rfl rfl fun g157 p157 => Q.move rfl) ?_
        refine XO.q (Quiet.guardF rfl rfl fun g158 p158 => Q.neq (lzv g158 rfl) rfl) ?_
        refine XO.q (Q.or rfl (fun hp => lzv hp rfl)) ?_
        refine XO.q (Q.move rfl) ?_
        refine XO.q (Quiet.guardF rfl rfl fun g161 p161 => Q.move rfl) ?_
        refine XO.q (Quiet.guardF rfl rfl fun g162 p162 => Q.neq (lzv g162 rfl) rfl) ?_
        refine XO.q (Q.or rfl (fun hp => lzv hp rfl)) ?_
        refine XO.q (Q.move rfl) ?_
        refine XO.q (Quiet.guardF rfl rfl fun g165 p165 => Q.move rfl) ?_
        refine XO.q (Quiet.guardF rfl rfl fun g166 p166 => Q.len (lzv g166 rfl)) ?_
        refine XO.q (Quiet.guardF rfl rfl fun g167 p167 => Q.move rfl) ?_
        refine XO.q (Quiet.guardF rfl rfl fun g168 p168 => Q.len (lzv g168 rfl)) ?_
        refine XO.q (Quiet.guardF rfl rfl fun g169 p169 => Q.neq (lzv g169 rfl) (lzv g169 rfl)) ?_
        refine XO.q (Q.or rfl (fun hp => lzv hp rfl)) ?_
        refine XO.q (Q.move rfl) ?_
        refine XO.q (Quiet.guardF rfl rfl fun g172 p172 => Q.move rfl) ?_
        refine XO.q (Quiet.guardF rfl rfl fun g173 p173 => Q.len (lzv g173 rfl)) ?_
        refine XO.q (Quiet.guardF rfl rfl fun g174 p174 => Q.move rfl) ?_
        refine XO.q (Quiet.guardF rfl rfl fun g175 p175 => Q.len (lzv g175 rfl)) ?_
        refine XO.q (Quiet.guardF rfl rfl fun g176 p176 => Q.neq (lzv g176 rfl) (lzv g176 rfl)) ?_
        refine XO.q (Q.or rfl (fun hp => lzv hp rfl)) ?_
        refine XO.done ?_
        refine XK.if rfl (fun c4 => ?_) (fun c4 => ?_)
        · have _t4 := True.intro
          exact absurd c4 (by rw [TL.1, TH.1, T0.1]; simp)
        · have _t4 := True.intro
          have t0l := T0.1
          have tll := TL.1
          have thl := TH.1
          refine XK.skip ?_
          refine XK.seq ?_
          refine XK.seq ?_
          refine XK.region rfl ?_
          refine XO.q (Q.move rfl) ?_
          refine XO.len rfl fun l179 => ?_
          refine XO.q (Q.move rfl) ?_
          refine XO.done ?_
          refine XK.block ?_
          refine XK.while (X := Nat) [14, 35, 36, 37, 38, 180, 181, 182, 183, 184, 185, 186, 187, 188, 189, 190, 191, 192, 193, 194, 195, 196, 197, 198, 199, 200, 201, 202, 203, 204, 205, 206, 207, 208, 209, 210, 211, 212, 213, 214, 215, 216, 217, 218, 219, 220, 221, 222, 223] (fun n => [(180, some (.int .i64 (n : Nat)))]) (fun n => []) (fun n => n ≤ us0.length) (fun n => us0.length - n) (0) [] rfl (by omega) (.c rfl (.base 0 rfl rfl)) ?_
          rintro n hn0 ih2
          dsimp only [List.cons_append, List.nil_append] at ih2 ⊢
          refine XK.seq ?_
          refine XK.region rfl ?_
          refine XO.q (Q.lss rfl rfl) ?_
          refine XO.done ?_
          refine XK.seq ?_
          refine XK.if rfl (fun c5 => ?_) (fun c5 => ?_)
          · have _t5 := True.intro
            have aLn := TL.2 n (by omega)
            have aHn := TH.2 n (by omega)
            have a0n := T0.2 n (by omega)
            obtain ⟨b1, b2, b3, b4⟩ := inside_below (hcheck_ok mk.ok) tkl tks tkh qa.cok qb.cok hck hst.le1 hst.le2 hac hcd (i := n + 1) (by omega)
            refine XK.skip ?_
            refine XK.seq ?_
            refine XK.block ?_
            refine XK.seq ?_
            refine XK.region rfl ?_
            refine XO.q (Q.move rfl) ?_
            refine XO.ix rfl rfl (by omega) (by omega) fun i183 => ?_
            refine XO.q (Q.ldE rfl (by first | assumption | omega) rfl) ?_
            refine XO.q (Q.assign rfl) ?_
            refine XO.q (Q.assign rfl) ?_
            refine XO.done ?_
            refine XK.seq ?_
            refine XK.seq ?_
            refine XK.region rfl ?_
            refine XO.q (Q.move rfl) ?_
            refine XO.q (Q.move rfl) ?_
            refine XO.ix rfl rfl (by omega) (by omega) fun i187 => ?_
            refine XO.q (Q.ldE rfl (by first | assumption | omega) rfl) ?_
            refine XO.q (Q.move rfl) ?_
            refine XO.call Try.call11 rfl rfl rfl (below_spec _ _ _ _ _ _) fun v190 s190 R190 => ?_
            obtain ⟨rfl, rfl⟩ := R190
            dsimp only [List.cons_append, List.nil_append]
            refine XO.q (Q.not rfl) ?_
            refine XO.q (Q.move rfl) ?_
            refine XO.q (Quiet.guardF rfl rfl fun g193 p193 => Q.move rfl) ?_
            refine XO.q (Quiet.guardF rfl rfl fun g194 p194 => Q.move rfl) ?_
            refine XO.q (Quiet.guardF rfl rfl fun g195 p195 => Q.move rfl) ?_
            refine XO.q (Quiet.guardF rfl rfl fun g196 p196 => Q.ix (lzv g196 rfl) (lzv g196 rfl) (by omega) (by omega)) ?_
            refine XO.q (Quiet.guardF rfl rfl fun g197 p197 => Q.ldE (lzv g197 rfl) (by first | assumption | omega) rfl) ?_
            refine XO.gcallF rfl rfl Try.call11 rfl (fun g198 => .c (lzv g198 rfl) (.c (lzv g198 rfl) .n)) rfl (fun g198 p198 => below_spec _ _ _ _ _ _) ?_
            refine XO.q (Quiet.guardF rfl rfl fun g199 p199 => Q.not (lzv g199 rfl)) ?_
            refine XO.q (Q.or rfl (fun hp => lzv hp rfl)) ?_
            refine XO.done ?_
            refine XK.if rfl (fun c6 => ?_) (fun c6 => ?_)
            · have _t6 := True.intro
              exact absurd c6 (fun hc => hc.elim (fun h0 => h0 b1) (fun h0 => h0 b2))
            · have _t6 := True.intro
              refine XK.skip ?_
              refine XK.seq ?_
              refine XK.region rfl ?_
              refine XO.q (Q.fieldAddr rfl) ?_
              refine XO.q (Q.ld rfl rfl) ?_
              refine XO.len rfl fun l203 => ?_
              refine XO.q (Q.move rfl) ?_
              refine XO.done ?_
              refine XK.block ?_
              refine XK.while (X := Nat) [14, 37, 38, 204, 205, 206, 207, 208, 209, 210, 211, 212, 213, 214, 215, 216, 217, 218, 219, 220, 221, 222] (fun j => [(204, some (.int .i64 (j : Nat)))]) (fun j => []) (fun j => j ≤ h.rooms.length) (fun j => h.rooms.length - j) (0) [] rfl (by omega) (.c rfl (.base 0 rfl rfl)) ?_
              rintro j hj0 ih3
              dsimp only [List.cons_append, List.nil_append] at ih3 ⊢
              refine XK.seq ?_
              refine XK.region rfl ?_
              refine XO.q (Q.lss rfl rfl) ?_
              refine XO.done ?_
              refine XK.seq ?_
              refine XK.if rfl (fun c7 => ?_) (fun c7 => ?_)
              · have _t7 := True.intro
                refine XK.skip ?_
                refine XK.seq ?_
                refine XK.block ?_
                refine XK.seq ?_
                refine XK.region rfl ?_
                refine XO.q (Q.move rfl) ?_
                refine XO.ix rfl rfl (by omega) (by omega) fun i207 => ?_
                refine XO.q (Q.ldEA [_, _] rfl (by first | assumption | omega) rfl rfl) ?_
                refine XO.alloc fun b38 => ?_
                refine XO.q (Q.assign rfl) ?_
                refine XO.st rfl rfl rfl ?_
                refine XO.done ?_
                refine XK.seq ?_
                refine XK.drawn [0, 1, 2, 3, 4, 5, 6, 7, 8, 9, 10, 11, 12] [b38] [K0] (.q 0 (.q 1 (.q 2 (.q 3 (.q 4 (.q 5 (.q 6 (.q 7 (.q 8 (.q 9 (.q 10 (.q 11 (.q 12 .done))))))))))))) Try.mixed rfl (by kernel_rfl) ?_
                refine XT.q rfl rfl (Q.move rfl) ?_
                refine XT.q rfl rfl (Q.add rfl rfl ⟨by omega, by omega⟩) ?_
                refine XT.q rfl rfl (Q.move rfl) ?_
                refine XT.q rfl rfl (Q.lss rfl rfl) ?_
                refine XT.q rfl rfl (Q.move rfl) ?_
                refine XT.q rfl rfl (Quiet.guardT rfl rfl fun g214 p214 => Q.move rfl) ?_
                refine XT.q rfl rfl (Quiet.guardT rfl rfl fun g215 p215 => Q.move rfl) ?_
                refine XT.q rfl rfl (Quiet.guardT rfl rfl fun g216 p216 => Q.ix (lzv g216 rfl) (lzv g216 rfl) (by omega) (by omega)) ?_
                refine XT.q rfl rfl (Quiet.guardT rfl rfl fun g217 p217 => Q.ldE (lzv g217 rfl) (by first | assumption | omega) rfl) ?_
                refine XT.q rfl rfl (Quiet.guardT rfl rfl fun g218 p218 => Q.fieldAddr rfl) ?_
                refine XT.q rfl rfl (Quiet.guardT rfl rfl fun g219 p219 => Q.ld (lzv g219 rfl) rfl) ?_
                refine XT.q rfl rfl (Quiet.guardT rfl rfl fun g220 p220 => Q.gtr (lzv g220 rfl) (lzv g220 rfl)) ?_
                refine XT.q rfl rfl (Q.and rfl (fun hp => lzv hp rfl)) ?_
                refine XT.done ?_
                refine XK.if rfl (fun c8 => ?_) (fun c8 => ?_)
                · have _t8 := True.intro
                  have z1 := not_hot (hcool (n + 1) (by omega) j (by omega))
                  have z2 := b3 j (by omega)
                  have z3 : (h.rooms.getD j default).limit < (iterT h (fun i => (l.getD i default).2) sta (n + 1)).getD j 0 := c8.2
                  omega
                · have _t8 := True.intro
                  refine XK.skip ?_
                  refine XK.inBlock ?_
                  refine XK.region rfl ?_
                  refine XO.q (Q.add rfl rfl ⟨by omega, by omega⟩) ?_
                  refine XO.q (Q.move rfl) ?_
                  refine XO.done ?_
                  exact ih3 (j + 1) _ _ (by omega) (by first | omega | (dsimp only; omega)) (.c rfl (.base 44 rfl rfl)) inferInstance
              · have _t7 := True.intro
                refine XK.exit rfl ?_
                refine XK.inBlock ?_
                refine XK.region rfl ?_
                refine XO.q (Q.add rfl rfl ⟨by omega, by omega⟩) ?_
                refine XO.q (Q.move rfl) ?_
                refine XO.done ?_
                exact ih2 (n + 1) _ _ (by omega) (by first | omega | (dsimp only; omega)) (.c rfl (.base 102 rfl rfl)) inferInstance
          · have _t5 := True.intro
            clear ih2
            refine XK.exit rfl ?_
            refine XK.seq ?_
            refine XK.drawn [0, 1, 2, 3, 5, 6, 9, 10, 11, 12, 13] [b15, b18] [] (.q 0 (.q 1 (.q 2 (.q 3 (.q 5 (.q 6 (.br 4 true (.br 7 true (.br 8 true (.q 9 (.q 10 (.q 11 (.q 12 (.q 13 .done))))) .stop) .stop) .stop))))))) Try.mixed rfl (by kernel_rfl) ?_
            refine XT.q rfl rfl (Q.ldA [_, _, _, _] rfl rfl rfl) ?_
            refine XT.q rfl rfl (Q.move rfl) ?_
            refine XT.q rfl rfl (Q.fieldAddr rfl) ?_
            refine XT.q rfl rfl (Q.ldA [_, _, _] rfl rfl rfl) ?_
            refine XT.q rfl rfl (Q.move rfl) ?_
            refine XT.q rfl rfl (Q.min rfl rfl) ?_
            rw [show min ((rk : Nat) : Int) 200 = ((min rk 200 : Nat) : Int) by omega]
            refine XT.lit [_, _, _] [_, _, _] [(whi, cb)] encCV rfl rfl (by rfl) (by rfl) rfl (by rfl) (by exact .c 0 3 rfl rfl rfl (.n _)) (fun _ => rfl) (by rfl) rfl (by infer_instance) rfl (fun v229 h229 O229 => ⟨inferInstance, ?_⟩) XT.stop
            refine XT.call rfl rfl Try.call34 rfl rfl rfl (repeatC v229 h229 (whi, cb) (min rk 200) (by omega)) (fun v232 s232 R232 => ?_) XT.stop
            obtain ⟨kR, rfl, OR⟩ := R232
            dsimp only [List.cons_append, List.nil_append]
            refine ⟨inferInstance, ?_⟩
            refine XT.call rfl rfl Try.call30 rfl rfl rfl (Run_spec h vr vw vb vc kr kw kb kc (highL t49 t52) vhi khi (List.replicate (min rk 200) (whi, cb)) v232 kR jhi (LoadsIn.rep (inferInstance) _)) (fun v233 s233 R233 => ?_) XT.stop
            obtain ⟨x233, y233, K2, us2, rfl, rfl, O233, R2⟩ := R233
            dsimp only [List.cons_append, List.nil_append]
            refine ⟨inferInstance, ?_⟩
            rw [run_cases mk.ok tkh (by rw [List.length_replicate]; omega) (fun x hx => by rw [List.eq_of_mem_replicate hx]; exact qb.cok), List.length_replicate] at R2 ⊢
            dsimp only at R2 ⊢
            have T2 := R2.to
            have t2l := T2.1
            refine XT.q rfl rfl (Q.move rfl) ?_
            refine XT.q rfl rfl (Q.extract rfl rfl) ?_
            refine XT.q rfl rfl (Q.extract rfl rfl) ?_
            refine XT.q rfl rfl (Q.assign rfl) ?_
            refine XT.q rfl rfl (Q.assign rfl) ?_
            refine XT.done ?_
            refine XK.seq ?_
            refine XK.seq ?_
            refine XK.region rfl ?_
            refine XO.q (Q.move rfl) ?_
            refine XO.q (Q.neq rfl rfl) ?_
            refine XO.done ?_
            refine XK.if rfl (fun c9 => ?_) (fun c9 => ?_)
            · have _t9 := True.intro
              exact absurd rfl c9
            · have _t9 := True.intro
              refine XK.skip ?_
              refine XK.seq ?_
              refine XK.region rfl ?_
              refine XO.q (Q.move rfl) ?_
              refine XO.lit [_] [_] [vhi] encV (by rfl) (by rfl) rfl (by rfl) (by exact .c 0 1 rfl rfl rfl (.n _)) (fun _ => rfl) (by rfl) rfl (by infer_instance) rfl fun v239 h239 O239 => ?_
              refine XO.q (Q.move rfl) ?_
              refine XO.append rfl rfl rfl rfl (by first | omega | (simp; omega)) fun v241 h241 O241 => ?_
              have O241 : OArr v241 encV 1 31 h241 ([vhi] ++ us2) := O241
              have hworst : ∀ n, n ≤ min rk 200 → ArrE (([vhi] ++ us2).getD n default) (iterT h (fun _ => cb) (highL t49 t52) n) khi K2 := fun n hn => by
                have := worst_at T2 (OArr.arr (s := Ohi)) (n := n) hn
                rwa [iter_congr (d := fun _ => cb) (fun i hi => by rw [replicate_getD (by omega)])] at this
              have wwl : ([vhi] ++ us2).length = min rk 200 + 1 := by rw [List.length_append, t2l]; simp; omega
              obtain ⟨ww, eww⟩ : ∃ ww, ww = [vhi] ++ us2 := ⟨_, rfl⟩
              rw [← eww] at O241 hworst wwl
              clear eww
              refine XO.q (Q.assign rfl) ?_
              refine XO.done ?_
              refine XK.seq ?_
              refine XK.seq ?_
              refine XK.region rfl ?_
              refine XO.q (Q.move rfl) ?_
              refine XO.len rfl fun l243 => ?_
              refine XO.q (Q.move rfl) ?_
              refine XO.done ?_
              refine XK.block ?_
              refine XK.while (X := Nat) [14, 40, 41, 42, 43, 244, 245, 246, 247, 248, 249, 250, 251, 252, 253, 254, 255, 256, 257, 258, 259, 260, 261, 262, 263, 264, 265, 266, 267, 268, 269, 270, 271, 272, 273, 274, 275, 276, 277, 278, 279, 280] (fun n => [(244, some (.int .i64 (n : Nat)))]) (fun n => []) (fun n => n ≤ min rk 200 + 1) (fun n => min rk 200 + 1 - n) (0) [] rfl (by omega) (.c rfl (.base 0 rfl rfl)) ?_
              rintro n hn1 ih4
              dsimp only [List.cons_append, List.nil_append] at ih4 ⊢
              refine XK.seq ?_
              refine XK.region rfl ?_
              refine XO.q (Q.lss rfl rfl) ?_
              refine XO.done ?_
              refine XK.seq ?_
              refine XK.if rfl (fun c10 => ?_) (fun c10 => ?_)
              · have _t10 := True.intro
                obtain ⟨kx, ax, ex⟩ := (hworst n (by omega)).open
                have b5 := iter_len (c := fun _ => cb) tkh.len n
                refine XK.skip ?_
                refine XK.seq ?_
                refine XK.block ?_
                refine XK.seq ?_
                refine XK.region rfl ?_
                refine XO.q (Q.move rfl) ?_
                refine XO.ix rfl rfl (by omega) (by omega) fun i247 => ?_
                refine XO.q (Q.ldE rfl (by first | assumption | omega) rfl) ?_
                refine XO.q (Q.assign rfl) ?_
                refine XO.q (Q.assign rfl) ?_
                refine XO.done ?_
                refine XK.seq ?_
                refine XK.region rfl ?_
                refine XO.q (Q.fieldAddr rfl) ?_
                refine XO.q (Q.ld rfl rfl) ?_
                refine XO.len rfl fun l251 => ?_
                refine XO.q (Q.move rfl) ?_
                refine XO.done ?_
                refine XK.block ?_
                refine XK.while (X := Nat) [14, 42, 43, 252, 253, 254, 255, 256, 257, 258, 259, 260, 261, 262, 263, 264, 265, 266, 267, 268, 269, 270, 271, 272, 273, 274, 275, 276, 277, 278, 279] (fun j => [(252, some (.int .i64 (j : Nat)))]) (fun j => []) (fun j => j ≤ h.rooms.length) (fun j => h.rooms.length - j) (0) [] rfl (by omega) (.c rfl (.base 0 rfl rfl)) ?_
                rintro j hj1 ih5
                dsimp only [List.cons_append, List.nil_append] at ih5 ⊢
                refine XK.seq ?_
                refine XK.region rfl ?_
                refine XO.q (Q.lss rfl rfl) ?_
                refine XO.done ?_
                refine XK.seq ?_
                refine XK.if rfl (fun c11 => ?_) (fun c11 => ?_)
                · have _t11 := True.intro
                  refine XK.skip ?_
                  refine XK.seq ?_
                  refine XK.block ?_
                  refine XK.seq ?_
                  refine XK.region rfl ?_
                  refine XO.q (Q.move rfl) ?_
                  refine XO.ix rfl rfl (by omega) (by omega) fun i255 => ?_
                  refine XO.q (Q.ldEA [_, _] rfl (by first | assumption | omega) rfl rfl) ?_
                  refine XO.alloc fun b43 => ?_
                  refine XO.q (Q.assign rfl) ?_
                  refine XO.st rfl rfl rfl ?_
                  refine XO.done ?_
                  refine XK.seq ?_
                  refine XK.drawn [0, 1, 2, 3, 4, 5, 6, 7, 8, 9, 10, 11, 12, 13, 14, 15, 16, 17, 18, 19, 20, 21] [b43] [khi, K2] (.q 0 (.q 1 (.q 2 (.q 3 (.q 4 (.q 5 (.q 6 (.q 7 (.q 8 (.q 9 (.q 10 (.q 11 (.q 12 (.q 13 (.q 14 (.q 15 (.q 16 (.q 17 (.q 18 (.q 19 (.q 20 (.q 21 .done)))))))))))))))))))))) Try.mixed rfl (by kernel_rfl) ?_
                  refine XT.q rfl rfl (Q.move rfl) ?_
                  refine XT.q rfl rfl (Q.move rfl) ?_
                  refine XT.ix rfl rfl rfl rfl (by omega) (by omega) fun i259 => ?_
                  refine XT.q rfl rfl (Q.ldE rfl (by first | assumption | omega) rfl) ?_
                  refine XT.q rfl rfl (Q.fieldAddr rfl) ?_
                  refine XT.q rfl rfl (Q.ld rfl rfl) ?_
                  refine XT.q rfl rfl (Q.gtr rfl rfl) ?_
                  refine XT.q rfl rfl (Q.move rfl) ?_
                  refine XT.q rfl rfl (Quiet.guardT rfl rfl fun g265 p265 => Q.move rfl) ?_
                  refine XT.q rfl rfl (Quiet.guardT rfl rfl fun g266 p266 => Q.move rfl) ?_
                  refine XT.q rfl rfl (Quiet.guardT rfl rfl fun g267 p267 => Q.lss (lzv g267 rfl) (lzv g267 rfl)) ?_
                  refine XT.q rfl rfl (Quiet.guardT rfl rfl fun g268 p268 => Q.move (lzv g268 rfl)) ?_
                  refine XT.q rfl rfl (Quiet.guard2 rfl rfl fun g269a g269b => have p269a := bpT g269a; have p269b := bpF g269b; Q.move rfl) ?_
                  refine XT.q rfl rfl (Quiet.guard2 rfl rfl fun g270a g270b => have p270a := bpT g270a; have p270b := bpF g270b; Q.move rfl) ?_
                  refine XT.q rfl rfl (Quiet.guard2 rfl rfl fun g271a g271b => have p271a := bpT g271a; have p271b := bpF g271b; Q.eql (lzv g271b (lzv g271a rfl)) (lzv g271b (lzv g271a rfl))) ?_
                  refine XT.q rfl rfl (Quiet.guard2 rfl rfl fun g272a g272b => have p272a := bpT g272a; have p272b := bpF g272b; Q.move (lzv g272b (lzv g272a rfl))) ?_
                  refine XT.q rfl rfl (Quiet.guard3 rfl rfl fun g273a g273b g273c => have p273a := bpT g273a; have p273b := bpF g273b; have p273c := bpT g273c; Q.move rfl) ?_
                  refine XT.q rfl rfl (Quiet.guard3 rfl rfl fun g274a g274b g274c => have p274a := bpT g274a; have p274b := bpF g274b; have p274c := bpT g274c; Q.move rfl) ?_
                  refine XT.q rfl rfl (Quiet.guard3 rfl rfl fun g275a g275b g275c => have p275a := bpT g275a; have p275b := bpF g275b; have p275c := bpT g275c; Q.lss (lzv g275c (lzv g275b (lzv g275a rfl))) (lzv g275c (lzv g275b (lzv g275a rfl)))) ?_
                  refine XT.q rfl rfl (Quiet.guard2 rfl rfl fun g276a g276b => have p276a := bpT g276a; have p276b := bpF g276b; Q.and (lzv g276b (lzv g276a rfl)) (fun hp => (lzv hp (lzv g276b (lzv g276a rfl))))) ?_
                  refine XT.q rfl rfl (Quiet.guardT rfl rfl fun g277 p277 => Q.or (lzv g277 rfl) (fun hp => (lzv hp (lzv g277 rfl)))) ?_
                  refine XT.q rfl rfl (Q.and rfl (fun hp => lzv hp rfl)) ?_
                  refine XT.done ?_
                  refine XK.if rfl (fun c12 => ?_) (fun c12 => ?_)
                  · have _t12 := True.intro
                    have z3 : (h.rooms.getD j default).limit < (iterT h (fun _ => cb) (highL t49 t52) n).getD j 0 := c12.1
                    rcases c12.2 with c13 | c13
                    · have z1 := not_hot (hcool n (by omega) j (by omega))
                      omega
                    · rcases hend with ⟨z4, _⟩ | ⟨z4, r, z5, z6, z7, z8⟩
                      · omega
                      · have z9 := not_hot (z8 j (by omega))
                        rw [show rk = n by omega] at z9
                        omega
                  · have _t12 := True.intro
                    refine XK.skip ?_
                    refine XK.inBlock ?_
                    refine XK.region rfl ?_
                    refine XO.q (Q.add rfl rfl ⟨by omega, by omega⟩) ?_
                    refine XO.q (Q.move rfl) ?_
                    refine XO.done ?_
                    exact ih5 (j + 1) _ _ (by omega) (by first | omega | (dsimp only; omega)) (.c rfl (.base 62 rfl rfl)) inferInstance
                · have _t11 := True.intro
                  refine XK.exit rfl ?_
                  refine XK.inBlock ?_
                  refine XK.region rfl ?_
                  refine XO.q (Q.add rfl rfl ⟨by omega, by omega⟩) ?_
                  refine XO.q (Q.move rfl) ?_
                  refine XO.done ?_
                  exact ih4 (n + 1) _ _ (by omega) (by first | omega | (dsimp only; omega)) (.c rfl (.base 88 rfl rfl)) inferInstance
              · have _t10 := True.intro
                clear ih4
                refine XK.exit rfl ?_
                refine XK.seq ?_
                refine XK.seq ?_
                refine XK.region rfl ?_
                refine XO.q (Q.move rfl) ?_
                refine XO.q (Q.eql rfl rfl) ?_
                refine XO.done ?_
                refine XK.if rfl (fun c13 => ?_) (fun c13 => ?_)
                · have _t13 := True.intro
                  refine XK.seq ?_
                  refine XK.region rfl ?_
                  refine XO.q (Q.move rfl) ?_
                  refine XO.q (Q.eql rfl rfl) ?_
                  refine XO.q (Q.move rfl) ?_
                  refine XO.gcallT rfl rfl Try.call12 rfl (fun g286 => .n) rfl (fun g286 p286 => awake7) ?_
                  refine XO.q (Q.and rfl (fun hp => lzv hp rfl)) ?_
                  refine XO.q (Q.assign rfl) ?_
                  refine XO.done ?_
                  refine XK.rt [] Try.func8 Try.results8 (.t rfl .n) ?_
                  rcases hend with ⟨_, e⟩ | ⟨e, _⟩
                  · exact ⟨by rw [e]; rfl, rfl⟩
                  · omega
                · have _t13 := True.intro
                  obtain ⟨hk2, r, hr, er, hot1, hot2⟩ := hend.resolve_left (fun hc => c13 (by omega))
                  subst er
                  obtain ⟨kx, ax, ex⟩ := (hworst rk (by omega)).open
                  have b5 := iter_len (c := fun _ => cb) tkh.len rk
                  refine XK.skip ?_
                  refine XK.seq ?_
                  refine XK.drawn [0, 1, 2, 3, 4, 5, 6, 7, 8, 9, 10, 11, 12, 13, 14, 15, 16, 17, 18, 20, 21] [b15] [khi, K2, h241, kr] (.q 0 (.q 1 (.q 2 (.q 3 (.q 4 (.q 5 (.q 6 (.q 7 (.q 8 (.q 9 (.q 10 (.q 11 (.q 12 (.q 13 (.q 14 (.q 15 (.q 16 (.q 17 (.q 18 (.br 19 true (.q 20 (.q 21 .done)) .stop)))))))))))))))))))) Try.mixed rfl (by kernel_rfl) ?_
                  refine XT.q rfl rfl (Q.move rfl) ?_
                  refine XT.q rfl rfl (Q.geq rfl rfl) ?_
                  refine XT.q rfl rfl (Q.move rfl) ?_
                  refine XT.q rfl rfl (Quiet.guardT rfl rfl fun g291 p291 => Q.move rfl) ?_
                  refine XT.q rfl rfl (Quiet.guardT rfl rfl fun g292 p292 => Q.move rfl) ?_
                  refine XT.q rfl rfl (Quiet.guardT rfl rfl fun g293 p293 => Q.ix (lzv g293 rfl) (lzv g293 rfl) (by omega) (by omega)) ?_
                  refine XT.q rfl rfl (Quiet.guardT rfl rfl fun g294 p294 => Q.ldE (lzv g294 rfl) (by first | assumption | omega) rfl) ?_
                  refine XT.q rfl rfl (Quiet.guardT rfl rfl fun g295 p295 => Q.move rfl) ?_
                  refine XT.q rfl rfl (Quiet.guardT rfl rfl fun g296 p296 => Q.ix (lzv g296 rfl) (lzv g296 rfl) (by omega) (by omega)) ?_
                  refine XT.q rfl rfl (Quiet.guardT rfl rfl fun g297 p297 => Q.ldE (lzv g297 rfl) (by first | assumption | omega) rfl) ?_
                  refine XT.q rfl rfl (Quiet.guardT rfl rfl fun g298 p298 => Q.fieldAddr rfl) ?_
                  refine XT.q rfl rfl (Quiet.guardT rfl rfl fun g299 p299 => Q.ld (lzv g299 rfl) rfl) ?_
                  refine XT.q rfl rfl (Quiet.guardT rfl rfl fun g300 p300 => Q.move rfl) ?_
                  refine XT.q rfl rfl (Quiet.guardT rfl rfl fun g301 p301 => Q.ix (lzv g301 rfl) (lzv g301 rfl) (by omega) (by omega)) ?_
                  refine XT.q rfl rfl (Quiet.guardT rfl rfl fun g302 p302 => Q.fieldQ (lzv g302 rfl) (by first | assumption | omega)) ?_
                  refine XT.q rfl rfl (Quiet.guardT rfl rfl fun g303 p303 => Q.ldE (lzv g303 rfl) (by first | assumption | omega) rfl) ?_
                  refine XT.q rfl rfl (Quiet.guardT rfl rfl fun g304 p304 => Q.gtr (lzv g304 rfl) (lzv g304 rfl)) ?_
                  refine XT.q rfl rfl (Q.and rfl (fun hp => lzv hp rfl)) ?_
                  refine XT.q rfl rfl (Q.move rfl) ?_
                  refine XT.gcallT rfl rfl rfl rfl Try.call12 rfl (fun g307 => .n) rfl (fun g307 p307 => awake7) ⟨inferInstance, ?_⟩ XT.stop
                  refine XT.q rfl rfl (Q.and rfl (fun hp => lzv hp rfl)) ?_
                  refine XT.q rfl rfl (Q.assign rfl) ?_
                  refine XT.done ?_
                  refine XK.rt [] Try.func8 Try.results8 (.t rfl .n) ?_
                  have z : (h.rooms.getD r default).limit < (iterT h (fun _ => cb) (highL t49 t52) rk).getD r default := is_hot hot1
                  exact ⟨by rw [decide_eq_true z, decide_eq_true (by omega : (0 : Int) ≤ (r : Int))]; rfl, rfl⟩
  · intro mtr3
    dsimp only [List.cons_append, List.nil_append] at mtr3
    refine XK.drawn [0, 1, 3, 4] [b15] [] (.q 0 (.q 1 (.q 3 (.q 4 (.br 2 true (.br 5 true (.br 6 true (.br 7 true (.br 8 false .done .stop) .stop) (.br 7 true (.br 6 true (.br 8 false .done .stop) .stop) .stop)) (.br 7 true (.br 5 true (.br 6 true (.br 8 false .done .stop) .stop) .stop) .stop)) (.br 7 true (.br 2 true (.br 5 true (.br 6 true (.br 8 false .done .stop) .stop) .stop) .stop) .stop)))))) Try.mixed rfl (by kernel_rfl) ?_
    refine XT.q rfl rfl (Q.ldA [_, _, _, _] rfl rfl rfl) ?_
    refine XT.q rfl rfl (Q.move rfl) ?_
    refine XT.q rfl rfl (Q.ldA [_, _, _, _] rfl rfl rfl) ?_
    refine XT.q rfl rfl (Q.move rfl) ?_
    refine XT.call rfl rfl Try.call15 rfl rfl rfl (cased_made vr vw vb vc kr h.rooms r2 ga hha a) (fun v58 s58 R58 => ?_) ?_
    · skip
      obtain ⟨c58, u58, k58, rfl, rfl, O58, q58⟩ := R58
      dsimp only [List.cons_append, List.nil_append]
      refine ⟨inferInstance, ?_⟩
      have cl58 := q58.1.1
      refine XT.call rfl rfl Try.call15 rfl rfl rfl (cased_made vr vw vb vc kr h.rooms r2 gb hhb b) (fun v61 s61 R61 => ?_) ?_
      · skip
        obtain ⟨c61, u61, k61, rfl, rfl, O61, q61⟩ := R61
        dsimp only [List.cons_append, List.nil_append]
        refine ⟨inferInstance, ?_⟩
        have cl61 := q61.1.1
        refine XT.call rfl rfl Try.call20 rfl rfl rfl (classed_spec u58 u61 k58 k61 c58 c61 (by omega) (by omega)) (fun v62 s62 R62 => ?_) ?_
        · skip
          obtain ⟨wlo, whi, jlo, jhi, rfl, rfl, Plo, Phi⟩ := R62
          dsimp only [List.cons_append, List.nil_append]
          refine ⟨inferInstance, ?_⟩
          refine XT.alloc rfl rfl (fun b18 => ⟨inferInstance, ?_⟩) XT.stop
          refine XT.st rfl rfl rfl rfl rfl ⟨inferInstance, ?_⟩ XT.stop
          refine XT.done ?_
          exact mtr3 ((lowC c58 c61, highC c58 c61, b18, wlo, jlo, whi, jhi)) _ _ ⟨q58.low q61, q58.high q61, lowC_highC, Plo, Phi⟩ (.c rfl (.base 8 rfl rfl)) inferInstance
        · skip
          refine XT.alloc rfl rfl (fun b18 => ⟨inferInstance, ?_⟩) XT.stop
          refine XT.call rfl rfl Try.call20 rfl rfl rfl (classed_spec u58 u61 k58 k61 c58 c61 (by omega) (by omega)) (fun v62 s62 R62 => ?_) XT.stop
          obtain ⟨wlo, whi, jlo, jhi, rfl, rfl, Plo, Phi⟩ := R62
          dsimp only [List.cons_append, List.nil_append]
          refine ⟨inferInstance, ?_⟩
          refine XT.st rfl rfl rfl rfl rfl ⟨inferInstance, ?_⟩ XT.stop
          refine XT.done ?_
          exact mtr3 ((lowC c58 c61, highC c58 c61, b18, wlo, jlo, whi, jhi)) _ _ ⟨q58.low q61, q58.high q61, lowC_highC, Plo, Phi⟩ (.c rfl (.base 8 rfl rfl)) inferInstance
      · skip
        refine XT.alloc rfl rfl (fun b18 => ⟨inferInstance, ?_⟩) XT.stop
        refine XT.call rfl rfl Try.call15 rfl rfl rfl (cased_made vr vw vb vc kr h.rooms r2 gb hhb b) (fun v61 s61 R61 => ?_) XT.stop
        obtain ⟨c61, u61, k61, rfl, rfl, O61, q61⟩ := R61
        dsimp only [List.cons_append, List.nil_append]
        refine ⟨inferInstance, ?_⟩
        have cl61 := q61.1.1
        refine XT.call rfl rfl Try.call20 rfl rfl rfl (classed_spec u58 u61 k58 k61 c58 c61 (by omega) (by omega)) (fun v62 s62 R62 => ?_) XT.stop
        obtain ⟨wlo, whi, jlo, jhi, rfl, rfl, Plo, Phi⟩ := R62
        dsimp only [List.cons_append, List.nil_append]
        refine ⟨inferInstance, ?_⟩
        refine XT.st rfl rfl rfl rfl rfl ⟨inferInstance, ?_⟩ XT.stop
        refine XT.done ?_
        exact mtr3 ((lowC c58 c61, highC c58 c61, b18, wlo, jlo, whi, jhi)) _ _ ⟨q58.low q61, q58.high q61, lowC_highC, Plo, Phi⟩ (.c rfl (.base 8 rfl rfl)) inferInstance
    · skip
      refine XT.alloc rfl rfl (fun b18 => ⟨inferInstance, ?_⟩) XT.stop
      refine XT.call rfl rfl Try.call15 rfl rfl rfl (cased_made vr vw vb vc kr h.rooms r2 ga hha a) (fun v58 s58 R58 => ?_) XT.stop
      obtain ⟨c58, u58, k58, rfl, rfl, O58, q58⟩ := R58
      dsimp only [List.cons_append, List.nil_append]
      refine ⟨inferInstance, ?_⟩
      have cl58 := q58.1.1
      refine XT.call rfl rfl Try.call15 rfl rfl rfl (cased_made vr vw vb vc kr h.rooms r2 gb hhb b) (fun v61 s61 R61 => ?_) XT.stop
      obtain ⟨c61, u61, k61, rfl, rfl, O61, q61⟩ := R61
      dsimp only [List.cons_append, List.nil_append]
      refine ⟨inferInstance, ?_⟩
      have cl61 := q61.1.1
      refine XT.call rfl rfl Try.call20 rfl rfl rfl (classed_spec u58 u61 k58 k61 c58 c61 (by omega) (by omega)) (fun v62 s62 R62 => ?_) XT.stop
      obtain ⟨wlo, whi, jlo, jhi, rfl, rfl, Plo, Phi⟩ := R62
      dsimp only [List.cons_append, List.nil_append]
      refine ⟨inferInstance, ?_⟩
      refine XT.st rfl rfl rfl rfl rfl ⟨inferInstance, ?_⟩ XT.stop
      refine XT.done ?_
      exact mtr3 ((lowC c58 c61, highC c58 c61, b18, wlo, jlo, whi, jhi)) _ _ ⟨q58.low q61, q58.high q61, lowC_highC, Plo, Phi⟩ (.c rfl (.base 8 rfl rfl)) inferInstance
end Go.X
