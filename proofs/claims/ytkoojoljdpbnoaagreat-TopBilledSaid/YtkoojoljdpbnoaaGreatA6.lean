/- A part of the proof: a small program logic, plain laws and contracts of functions, each proved by a walk through its operations. No condition but those that stand in each theorem. -/
import Derived.Test.YtkoojoljdpbnoaaGreatA5
set_option linter.unusedSimpArgs false
set_option linter.unusedVariables false
set_option maxRecDepth 20000
namespace Go.X.Pl
open Go.Proofs
set_option maxHeartbeats 2000000 in
theorem over_spec (l : List (Value × PJob)) (vl : Value) (hl K : PHeap) [jl : Arr vl encPJ 6 hl l] (aL : JobsK l K) (ok : ListOk (l.map Prod.snd)) (limit all : Int) (ha : 1 ≤ all ∧ all ≤ 1099511627776) : Spec Tryz.prog 74 #[vl, .int .i64 limit, .int .i64 all] [] [hl, K] (fun v hs => v = .agg #[.int .i64 (overG (l.map Prod.snd) limit all).n, .int .i64 (overG (l.map Prod.snd) limit all).d] ∧ hs = []) := by
 have cl := combos_len ok (l.map Prod.snd).length (Nat.le_refl _)
 rw [List.take_length] at cl
 have pr := ok.prod (l.map Prod.snd).length (Nat.le_refl _)
 have ol := over_len (combos (l.map Prod.snd)) limit
 have gp := gcd_pos (n := ((overN (combos (l.map Prod.snd)) limit : Nat) : Int)) ha.1
 refine Spec.intro (fn := Tryz.f74) (N := 35) Tryz.func74 rfl Tryz.ntmps74 rfl fun B => ?_
 refine XK.seq (XK.region rfl ?_)
 refine XO.alloc fun b6 => ?_
 refine XO.done (XK.seq (XK.region rfl (XO.q (Q.assign rfl) (XO.done (XK.seq ?_)))))
 refine XK.seq (XK.region rfl (XO.q (Q.move rfl) ?_))
 refine XO.call Tryz.call127 rfl rfl rfl (sums_spec l vl hl K aL ok) fun v12 s12 R12 => ?_
 obtain ⟨b, es, rfl, rfl, mi⟩ := R12
 dsimp only [lcA, lnA]
 refine XO.range rfl fun q13 => ?_
 refine XO.done (XK.block ?_)
 refine XK.while (X := List Nat) [7, 8, 9, 14, 15, 16, 17, 18, 19, 20, 21, 22, 23, 24] (fun seen => [(7, some (.int .i64 (overS es limit seen)))]) (fun seen => [itH q13 b es.length seen]) (fun seen => seen.Nodup ∧ (∀ i ∈ seen, i < es.length)) (fun seen => es.length - seen.length) ([]) [itH q13 b es.length []] rfl ⟨List.nodup_nil, fun i h => (by cases h)⟩ (.c rfl (.base 0 rfl rfl)) ?_
 rintro seen ⟨hnd, hlt⟩ ih0
 dsimp only [lcA, lnA] at ih0 ⊢
 refine XK.seq (XK.region rfl ?_)
 refine XO.next rfl rfl fun more14 nl14 seen14 out14 => ?_
 refine XO.q (Q.extract0 rfl) ?_
 refine XO.done (XK.seq ?_)
 refine XK.if rfl (fun c0 => ?_) (fun c0 => ?_)
 ·skip
  obtain ⟨q, hq, hqs, rfl⟩ := Out.next out14 c0
  refine XK.skip (XK.block (XK.seq (XK.region rfl ?_)))
  refine XO.q (Q.entry (i := q) rfl rfl hq) ?_
  refine XO.q (Q.extract rfl rfl) ?_
  refine XO.q (Q.extract rfl rfl) ?_
  rw [(mi.at hq).1]
  have os := overS_snoc es limit seen q
  rw [(mi.at hq).2.1] at os
  have orr := overS_rng (limit := limit) mi hnd hlt
  have cle : List.count (es.getD q default).1 (combos (l.map Prod.snd)) ≤ (combos (l.map Prod.snd)).length := List.count_le_length
  refine XO.q (Q.assign rfl) (XO.q (Q.assign rfl) (XO.done (XK.seq (XK.region rfl (XO.q (Q.move rfl) ?_)))))
  refine XO.q (Q.move rfl) ?_
  refine XO.q (Q.gtr rfl rfl) ?_
  refine XO.done ?_
  refine XK.if rfl (fun c1 => ?_) (fun c1 => ?_)
  ·skip
   rw [if_pos c1] at os
   refine XK.region rfl (XO.q (Q.move rfl) (XO.q (Q.move rfl) ?_))
   refine XO.q (Q.add rfl rfl ⟨by omega, by omega⟩) ?_
   refine XO.q (Q.assign rfl) (XO.done ?_)
   refine XK.inBlock ?_
   rw [← os]
   exact ih0 (seen ++ [q]) _ _ ⟨nodup_snoc hnd hqs, mem_snoc hlt hq⟩ (by have := seen_few (nodup_snoc hnd hqs) (mem_snoc hlt hq); rw [List.length_append, List.length_singleton] at this; (try dsimp only); rw [List.length_append, List.length_singleton]; omega) (.c rfl (.base 29 rfl rfl)) inferInstance
  ·skip
   rw [if_neg c1, Int.add_zero] at os
   refine XK.skip ?_
   refine XK.inBlock ?_
   rw [← os]
   exact ih0 (seen ++ [q]) _ _ ⟨nodup_snoc hnd hqs, mem_snoc hlt hq⟩ (by have := seen_few (nodup_snoc hnd hqs) (mem_snoc hlt hq); rw [List.length_append, List.length_singleton] at this; (try dsimp only); rw [List.length_append, List.length_singleton]; omega) (.c rfl (.base 25 rfl rfl)) inferInstance
 ·skip
  obtain ⟨rfl, hall⟩ := Out.done out14 (by simpa using c0)
  rw [overS_all mi hnd hlt hall]
  refine XK.exit rfl ?_
  refine XK.seq (XK.region rfl (XO.q (Q.move rfl) (XO.q (Q.move rfl) ?_)))
  refine XO.call Tryz.call128 rfl rfl rfl ((by
   have q := divisor_spec (overN (combos (l.map Prod.snd)) limit) all.toNat (by omega) (by omega)
   rw [show ((all.toNat : Nat) : Int) = all by omega] at q
   exact q)) fun v27 s27 R27 => ?_
  obtain ⟨rfl, rfl⟩ := R27
  dsimp only [lcA, lnA]
  rw [show (Nat.gcd (overN (combos (l.map Prod.snd)) limit) all.toNat : Nat) = Int.gcd ((overN (combos (l.map Prod.snd)) limit : Nat) : Int) all by unfold Int.gcd; rw [Int.natAbs_natCast, show all.natAbs = all.toNat by omega]]
  refine XO.q (Q.assign rfl) (XO.done (XK.seq ?_))
  refine XK.drawn [0, 1, 2, 3, 4, 5, 6] [] [] (.q 0 (.q 1 (.q 2 (.q 3 (.q 4 (.q 5 (.q 6 (.br 7 false .done .stop)))))))) Tryz.mixed rfl (by kernel_rfl) ?_
  refine XT.q rfl rfl (Q.move rfl) ?_
  refine XT.q rfl rfl (Q.move rfl) ?_
  refine XT.q rfl rfl (Q.quo rfl rfl (by omega) (by omega) (by omega)) ?_
  refine XT.q rfl rfl (Q.move rfl) ?_
  refine XT.q rfl rfl (Q.move rfl) ?_
  refine XT.q rfl rfl (Q.quo rfl rfl (by omega) (by omega) (by omega)) ?_
  refine XT.q rfl rfl (Q.build [_, _] (.c 0 1 rfl rfl rfl (.c 1 1 rfl rfl rfl (.n _)))) ?_
  refine XT.st rfl rfl rfl rfl rfl ⟨inferInstance, ?_⟩ XT.stop
  refine XT.done ?_
  refine XK.rt [] Tryz.func74 Tryz.results74 (.cell [_, _] rfl rfl rfl (.n)) ?_
  exact ⟨rfl, rfl⟩
theorem listed_rng {l : List PJob} (ok : ListOk l) : listedG l = (prodJ l l.length, 0) ∧ 1 ≤ prodJ l l.length ∧ prodJ l l.length ≤ 1099511627776 := ⟨listed_prod ok, prod_pos ok _ (Nat.le_refl _), ok.prod _ (Nat.le_refl _)⟩
theorem Chance_spec (l : List (Value × PJob)) (vl : Value) (hl K : PHeap) [jl : Arr vl encPJ 6 hl l] (aL : JobsK l K) (limit : Int) : Spec Tryz.prog 26 #[vl, .int .i64 limit] [] [hl, K] (fun v hs => v = .tuple #[.agg #[.int .i64 (chanceG (l.map Prod.snd) limit).1.n, .int .i64 (chanceG (l.map Prod.snd) limit).1.d], .int .i64 (chanceG (l.map Prod.snd) limit).2] ∧ hs = []) := by
 refine Spec.intro (fn := Tryz.f26) (N := 21) Tryz.func26 rfl Tryz.ntmps26 rfl fun B => ?_
 refine XK.seq (XK.region rfl ?_)
 refine XO.alloc fun b4 => ?_
 refine XO.q (Q.assign rfl) (XO.done (XK.seq (XK.region rfl (XO.q (Q.move rfl) ?_))))
 refine XO.call Tryz.call73 rfl rfl rfl (listed_spec l vl hl K aL) fun v10 s10 R10 => ?_
 obtain ⟨rfl, rfl⟩ := R10
 dsimp only [lcA, lnA]
 refine XO.q (Q.move rfl) ?_
 refine XO.q (Q.extract rfl rfl) ?_
 refine XO.q (Q.extract rfl rfl) ?_
 refine XO.q (Q.assign rfl) (XO.q (Q.assign rfl) (XO.done (XK.seq (XK.seq (XK.region rfl ?_)))))
 refine XO.q (Q.move rfl) ?_
 refine XO.q (Q.neq rfl rfl) ?_
 refine XO.done ?_
 refine XK.if rfl (fun c0 => ?_) (fun c0 => ?_)
 ·skip
  refine XK.seq (XK.region rfl ?_)
  refine XO.q (Q.build [_, _] (.n _)) ?_
  refine XO.q (Q.move rfl) ?_
  refine XO.st rfl rfl rfl ?_
  refine XO.q (Q.assign rfl) (XO.done ?_)
  refine XK.rt [] Tryz.func26 Tryz.results26 (.cell [_, _] rfl rfl rfl (.t rfl .n)) ?_
  exact ⟨by rw [chanceG, if_pos c0], rfl⟩
 ·skip
  have ok := listed_ok.1 (Decidable.of_not_not c0)
  have lr := listed_rng ok
  refine XK.skip (XK.seq (XK.region rfl (XO.q (Q.move rfl) (XO.q (Q.move rfl) (XO.q (Q.move rfl) ?_)))))
  refine XO.call Tryz.call74 rfl rfl rfl (over_spec l vl hl K aL ok limit (listedG (l.map Prod.snd)).1 (by rw [lr.1]; exact lr.2)) fun v20 s20 R20 => ?_
  obtain ⟨rfl, rfl⟩ := R20
  dsimp only [lcA, lnA]
  refine XO.st rfl rfl rfl ?_
  refine XO.q (Q.assign rfl) (XO.done ?_)
  refine XK.rt [] Tryz.func26 Tryz.results26 (.cell [_, _] rfl rfl rfl (.t rfl .n)) ?_
  exact ⟨by rw [chanceG, if_neg c0], rfl⟩
end Go.X.Pl

set_option linter.unusedSimpArgs false
set_option linter.unusedVariables false
set_option maxRecDepth 20000
namespace Go.X.Ma
open Go.Proofs
def encHour (x : KHour) : List Value := [.int .i64 x.buy, .int .i64 x.sell, .int .i64 x.sun, .int .i64 x.load, .int .i64 x.carbon, .int .i64 x.water]
def encJob (x : KJob) : List Value := [.int .i64 x.beg, .int .i64 x.fin, .int .i64 x.hours, .int .i64 x.power]
def encRow (x : KRow) : List Value := [.int .i64 x.bought, .int .i64 x.sold, .int .i64 x.made, .int .i64 x.used, .int .i64 x.stored, .int .i64 x.carbon, .int .i64 x.water]
theorem cloneI (v : Value) (h : PHeap) (xs : List Int) [s : Arr v encI 1 h xs] (hl : xs.length ≤ 68719476736) :
  Spec Tryz.prog 59 #[v] [] [h] (fun v' hs => ∃ h', hs = [h'] ∧ OArr v' encI 1 3 h' xs) := by apply Go.X.Bk.cloneI <;> assumption
theorem equalI (v1 v2 : Value) (h1 h2 : PHeap) (xs ys : List Int) [s1 : Arr v1 encI 1 h1 xs] [s2 : Arr v2 encI 1 h2 ys] :
  Spec Tryz.prog 35 #[v1, v2] [] [h1, h2] (fun v hs => v = .bool (decide (xs = ys)) ∧ hs = []) := by apply Go.X.Bk.equalI <;> assumption
theorem indexFuncI (v : Value) (h : PHeap) (xs : List Int) [s : Arr v encI 1 h xs] (gid : FuncId) (cap : List Value) (Hr : List PHeap) (p : Int → Bool)
  (hc : ∀ args w, (callFunc gid args).run Tryz.prog w = .ok (.enter gid args) w) (hS : ∀ x ∈ xs, Spec Tryz.prog gid (.int .i64 x :: cap).toArray [] Hr (fun v hs => v = .bool (p x) ∧ hs = [])) :
  Spec Tryz.prog 159 #[v, .func (.func gid) #[] cap.toArray] [] (h :: Hr) (fun v hs => v = .int .i64 (findFirst p xs) ∧ hs = []) := by apply Go.X.Bk.indexFuncI <;> assumption
theorem containsFuncI (v : Value) (h : PHeap) (xs : List Int) [s : Arr v encI 1 h xs] (gid : FuncId) (cap : List Value) (Hr : List PHeap) (p : Int → Bool)
  (hc : ∀ args w, (callFunc gid args).run Tryz.prog w = .ok (.enter gid args) w) (hS : ∀ x ∈ xs, Spec Tryz.prog gid (.int .i64 x :: cap).toArray [] Hr (fun v hs => v = .bool (p x) ∧ hs = [])) :
  Spec Tryz.prog 97 #[v, .func (.func gid) #[] cap.toArray] [] (h :: Hr) (fun v hs => v = .bool (xs.any p) ∧ hs = []) := by apply Go.X.Bk.containsFuncI <;> assumption
theorem indexFuncH (v : Value) (h : PHeap) (xs : List KHour) [s : Arr v encHour 6 h xs] (gid : FuncId) (cap : List Value) (Hr : List PHeap) (p : KHour → Bool)
  (hc : ∀ args w, (callFunc gid args).run Tryz.prog w = .ok (.enter gid args) w) (hS : ∀ x ∈ xs, Spec Tryz.prog gid (.agg #[.int .i64 x.buy, .int .i64 x.sell, .int .i64 x.sun, .int .i64 x.load, .int .i64 x.carbon, .int .i64 x.water] :: cap).toArray [] Hr (fun v hs => v = .bool (p x) ∧ hs = [])) :
  Spec Tryz.prog 203 #[v, .func (.func gid) #[] cap.toArray] [] (h :: Hr) (fun v hs => v = .int .i64 (findFirst p xs) ∧ hs = []) := by
 refine Spec.intro (fn := Tryz.f203) (N := 19) Tryz.func203 rfl Tryz.ntmps203 rfl fun B => ?_
 refine XK.seq (XK.region rfl (XO.q (Q.assign rfl) (XO.done (XK.seq (XK.seq ?_)))))
 refine XK.region rfl (XO.q (Q.move rfl) ?_)
 refine XO.len rfl fun l7 => ?_
 refine XO.q (Q.move rfl) (XO.done (XK.block ?_))
 refine XK.while (X := Nat) [4, 5, 8, 9, 10, 11, 12, 13, 14, 15, 16, 17, 18] (fun i => [(8, some (.int .i64 (i : Nat)))]) (fun i => []) (fun i => i ≤ xs.length ∧ (xs.take i).any p = false) (fun i => xs.length - i) (0) [] rfl ⟨by omega, rfl⟩ (.c rfl (.base 0 rfl rfl)) ?_
 rintro i ⟨hi, ht⟩ ih0
 dsimp only [lcA, lnA] at ih0 ⊢
 refine XK.seq (XK.region rfl ?_)
 refine XO.q (Q.lss rfl rfl) ?_
 refine XO.done (XK.seq ?_)
 refine XK.if rfl (fun c0 => ?_) (fun c0 => ?_)
 ·skip
  refine XK.skip (XK.seq (XK.block (XK.seq (XK.region rfl (XO.q (Q.move rfl) ?_)))))
  refine XO.q (Q.assign rfl) (XO.done (XK.seq (XK.region rfl (XO.q (Q.move rfl) (XO.q (Q.move rfl) ?_)))))
  refine XO.q (Q.move rfl) ?_
  refine XO.ix rfl rfl (by omega) (by omega) fun i14 => ?_
  refine XO.q (Q.ldEA [_, _, _, _, _, _] rfl (by first | assumption | omega) rfl rfl) ?_
  refine XO.call hc rfl rfl rfl (hS _ (getD_mem (by omega))) fun v16 s16 R16 => ?_
  obtain ⟨rfl, rfl⟩ := R16
  dsimp only [lcA, lnA]
  refine XO.done ?_
  refine XK.if rfl (fun c1 => ?_) (fun c1 => ?_)
  ·skip
   refine XK.seq (XK.region rfl (XO.q (Q.move rfl) (XO.q (Q.assign rfl) (XO.done ?_))))
   refine XK.rt [] Tryz.func203 Tryz.results203 (.t rfl .n) ?_
   exact ⟨by rw [findFirst_here ht (by omega) c1], rfl⟩
  ·skip
   refine XK.skip ?_
   refine XK.inBlock ?_
   refine XK.region rfl ?_
   refine XO.q (Q.add rfl rfl ⟨by omega, by omega⟩) ?_
   refine XO.q (Q.move rfl) (XO.done ?_)
   exact ih0 (i + 1) _ _ ⟨by omega, any_step ht (by omega) (Bool.eq_false_iff.2 c1)⟩ (by first | omega | (dsimp only; omega)) (.c rfl (.base 25 rfl rfl)) inferInstance
 ·skip
  refine XK.exit rfl ?_
  refine XK.seq (XK.region rfl (XO.q (Q.assign rfl) (XO.done ?_)))
  refine XK.rt [] Tryz.func203 Tryz.results203 (.t rfl .n) ?_
  exact ⟨by rw [findFirst_none ht c0], rfl⟩
theorem containsFuncH (v : Value) (h : PHeap) (xs : List KHour) [s : Arr v encHour 6 h xs] (gid : FuncId) (cap : List Value) (Hr : List PHeap) (p : KHour → Bool)
  (hc : ∀ args w, (callFunc gid args).run Tryz.prog w = .ok (.enter gid args) w) (hS : ∀ x ∈ xs, Spec Tryz.prog gid (.agg #[.int .i64 x.buy, .int .i64 x.sell, .int .i64 x.sun, .int .i64 x.load, .int .i64 x.carbon, .int .i64 x.water] :: cap).toArray [] Hr (fun v hs => v = .bool (p x) ∧ hs = [])) :
  Spec Tryz.prog 185 #[v, .func (.func gid) #[] cap.toArray] [] (h :: Hr) (fun v hs => v = .bool (xs.any p) ∧ hs = []) := by
 refine Spec.intro (fn := Tryz.f185) (N := 9) Tryz.func185 rfl Tryz.ntmps185 rfl fun B => ?_
 refine XK.seq (XK.region rfl (XO.q (Q.assign rfl) (XO.done (XK.seq (XK.region rfl ?_)))))
 refine XO.q (Q.move rfl) (XO.q (Q.move rfl) ?_)
 refine XO.call Tryz.call203 rfl rfl rfl (indexFuncH v h xs gid cap Hr p hc hS) fun v7 s7 R7 => ?_
 obtain ⟨rfl, rfl⟩ := R7
 dsimp only [lcA, lnA]
 refine XO.q (Q.geq rfl rfl) ?_
 refine XO.q (Q.assign rfl) (XO.done ?_)
 refine XK.rt [] Tryz.func185 Tryz.results185 (.t rfl .n) ?_
 exact ⟨by rw [← findFirst_any], rfl⟩
theorem indexFuncJ (v : Value) (h : PHeap) (xs : List KJob) [s : Arr v encJob 4 h xs] (gid : FuncId) (cap : List Value) (Hr : List PHeap) (p : KJob → Bool)
  (hc : ∀ args w, (callFunc gid args).run Tryz.prog w = .ok (.enter gid args) w) (hS : ∀ x ∈ xs, Spec Tryz.prog gid (.agg #[.int .i64 x.beg, .int .i64 x.fin, .int .i64 x.hours, .int .i64 x.power] :: cap).toArray [] Hr (fun v hs => v = .bool (p x) ∧ hs = [])) :
  Spec Tryz.prog 204 #[v, .func (.func gid) #[] cap.toArray] [] (h :: Hr) (fun v hs => v = .int .i64 (findFirst p xs) ∧ hs = []) := by
 refine Spec.intro (fn := Tryz.f204) (N := 19) Tryz.func204 rfl Tryz.ntmps204 rfl fun B => ?_
 refine XK.seq (XK.region rfl (XO.q (Q.assign rfl) (XO.done (XK.seq (XK.seq ?_)))))
 refine XK.region rfl (XO.q (Q.move rfl) ?_)
 refine XO.len rfl fun l7 => ?_
 refine XO.q (Q.move rfl) (XO.done (XK.block ?_))
 refine XK.while (X := Nat) [4, 5, 8, 9, 10, 11, 12, 13, 14, 15, 16, 17, 18] (fun i => [(8, some (.int .i64 (i : Nat)))]) (fun i => []) (fun i => i ≤ xs.length ∧ (xs.take i).any p = false) (fun i => xs.length - i) (0) [] rfl ⟨by omega, rfl⟩ (.c rfl (.base 0 rfl rfl)) ?_
 rintro i ⟨hi, ht⟩ ih0
 dsimp only [lcA, lnA] at ih0 ⊢
 refine XK.seq (XK.region rfl ?_)
 refine XO.q (Q.lss rfl rfl) ?_
 refine XO.done (XK.seq ?_)
 refine XK.if rfl (fun c0 => ?_) (fun c0 => ?_)
 ·skip
  refine XK.skip (XK.seq (XK.block (XK.seq (XK.region rfl (XO.q (Q.move rfl) ?_)))))
  refine XO.q (Q.assign rfl) (XO.done (XK.seq (XK.region rfl (XO.q (Q.move rfl) (XO.q (Q.move rfl) ?_)))))
  refine XO.q (Q.move rfl) ?_
  refine XO.ix rfl rfl (by omega) (by omega) fun i14 => ?_
  refine XO.q (Q.ldEA [_, _, _, _] rfl (by first | assumption | omega) rfl rfl) ?_
  refine XO.call hc rfl rfl rfl (hS _ (getD_mem (by omega))) fun v16 s16 R16 => ?_
  obtain ⟨rfl, rfl⟩ := R16
  dsimp only [lcA, lnA]
  refine XO.done ?_
  refine XK.if rfl (fun c1 => ?_) (fun c1 => ?_)
  ·skip
   refine XK.seq (XK.region rfl (XO.q (Q.move rfl) (XO.q (Q.assign rfl) (XO.done ?_))))
   refine XK.rt [] Tryz.func204 Tryz.results204 (.t rfl .n) ?_
   exact ⟨by rw [findFirst_here ht (by omega) c1], rfl⟩
  ·skip
   refine XK.skip ?_
   refine XK.inBlock ?_
   refine XK.region rfl ?_
   refine XO.q (Q.add rfl rfl ⟨by omega, by omega⟩) ?_
   refine XO.q (Q.move rfl) (XO.done ?_)
   exact ih0 (i + 1) _ _ ⟨by omega, any_step ht (by omega) (Bool.eq_false_iff.2 c1)⟩ (by first | omega | (dsimp only; omega)) (.c rfl (.base 25 rfl rfl)) inferInstance
 ·skip
  refine XK.exit rfl ?_
  refine XK.seq (XK.region rfl (XO.q (Q.assign rfl) (XO.done ?_)))
  refine XK.rt [] Tryz.func204 Tryz.results204 (.t rfl .n) ?_
  exact ⟨by rw [findFirst_none ht c0], rfl⟩
theorem containsFuncJ (v : Value) (h : PHeap) (xs : List KJob) [s : Arr v encJob 4 h xs] (gid : FuncId) (cap : List Value) (Hr : List PHeap) (p : KJob → Bool)
  (hc : ∀ args w, (callFunc gid args).run Tryz.prog w = .ok (.enter gid args) w) (hS : ∀ x ∈ xs, Spec Tryz.prog gid (.agg #[.int .i64 x.beg, .int .i64 x.fin, .int .i64 x.hours, .int .i64 x.power] :: cap).toArray [] Hr (fun v hs => v = .bool (p x) ∧ hs = [])) :
  Spec Tryz.prog 189 #[v, .func (.func gid) #[] cap.toArray] [] (h :: Hr) (fun v hs => v = .bool (xs.any p) ∧ hs = []) := by
 refine Spec.intro (fn := Tryz.f189) (N := 9) Tryz.func189 rfl Tryz.ntmps189 rfl fun B => ?_
 refine XK.seq (XK.region rfl (XO.q (Q.assign rfl) (XO.done (XK.seq (XK.region rfl ?_)))))
 refine XO.q (Q.move rfl) (XO.q (Q.move rfl) ?_)
 refine XO.call Tryz.call204 rfl rfl rfl (indexFuncJ v h xs gid cap Hr p hc hS) fun v7 s7 R7 => ?_
 obtain ⟨rfl, rfl⟩ := R7
 dsimp only [lcA, lnA]
 refine XO.q (Q.geq rfl rfl) ?_
 refine XO.q (Q.assign rfl) (XO.done ?_)
 refine XK.rt [] Tryz.func189 Tryz.results189 (.t rfl .n) ?_
 exact ⟨by rw [← findFirst_any], rfl⟩
theorem in1 (b : Nat) (m x : Int) : Spec Tryz.prog 196 #[.int .i64 x, ptr b 0] [] [blk b [.int .i64 m] 3] (fun v hs => v = .bool (kout m x) ∧ hs = []) := by
 refine Spec.intro (fn := Tryz.f196) (N := 11) Tryz.func196 rfl Tryz.ntmps196 rfl fun B => ?_
 refine XK.seq (XK.region rfl (XO.q (Q.assign rfl) (XO.done (XK.seq (XK.region rfl ?_)))))
 refine XO.q (Q.move rfl) ?_
 refine XO.q (Q.lss rfl rfl) ?_
 refine XO.q (Q.move rfl) ?_
 refine XO.q (Quiet.guardF rfl rfl fun g7 p7 => Q.move rfl) ?_
 refine XO.q (Quiet.guardF rfl rfl fun g8 p8 => Q.ld rfl rfl) ?_
 refine XO.q (Quiet.guardF rfl rfl fun g9 p9 => Q.gtr (lzv g9 rfl) (lzv g9 rfl)) ?_
 refine XO.q (Q.or rfl (fun hp => lzv hp rfl)) ?_
 refine XO.q (Q.assign rfl) (XO.done ?_)
 refine XK.rt [] Tryz.func196 Tryz.results196 (.t rfl .n) ?_
 exact ⟨rfl, rfl⟩
theorem kin_spec (m : Int) (v : Value) (h : PHeap) (xs : List Int) [s : Arr v encI 1 h xs] : Spec Tryz.prog 151 #[.int .i64 m, v] [] [h] (fun v hs => v = .bool (kin m xs) ∧ hs = []) := by
 refine Spec.intro (fn := Tryz.f151) (N := 9) Tryz.func151 rfl Tryz.ntmps151 rfl fun B => ?_
 refine XK.seq (XK.region rfl ?_)
 refine XO.box rfl fun b2 => ?_
 refine XO.q (Q.assign rfl) (XO.done (XK.seq (XK.region rfl (XO.q (Q.move rfl) ?_))))
 refine XO.q (Q.func (fun _ he => rfl) (fun _ he => evs_rel he rfl)) ?_
 refine XO.call Tryz.call97 rfl rfl rfl (containsFuncI v h xs 196 [ptr b2 0] [blk b2 [.int .i64 m] 3] (kout m) Tryz.call196 (fun x hx => in1 b2 m x)) fun v7 s7 R7 => ?_
 obtain ⟨rfl, rfl⟩ := R7
 dsimp only [lcA, lnA]
 refine XO.q (Q.not rfl) ?_
 refine XO.q (Q.assign rfl) (XO.done ?_)
 refine XK.rt [] Tryz.func151 Tryz.results151 (.t rfl .n) ?_
 exact ⟨rfl, rfl⟩
theorem hourR_spec (h : KHour) : Spec Tryz.prog 187 #[.agg #[.int .i64 h.buy, .int .i64 h.sell, .int .i64 h.sun, .int .i64 h.load, .int .i64 h.carbon, .int .i64 h.water]] [] [] (fun v hs => v = .bool (hourR h) ∧ hs = []) := by
 refine Spec.intro (fn := Tryz.f187) (N := 32) Tryz.func187 rfl Tryz.ntmps187 rfl fun B => ?_
 refine XK.seq (XK.region rfl ?_)
 refine XO.box rfl fun b1 => ?_
 refine XO.q (Q.assign rfl) (XO.done (XK.seq (XK.region rfl ?_)))
 refine XO.q (Q.fieldAddr rfl) ?_
 refine XO.q (Q.ld rfl rfl) ?_
 refine XO.q (Q.fieldAddr rfl) ?_
 refine XO.q (Q.ld rfl rfl) ?_
 refine XO.lit [_, _] [_, _] [h.buy, h.sell] encI (by rfl) (by rfl) rfl (by rfl) (by exact .c 0 1 rfl rfl rfl (.c 1 1 rfl rfl rfl (.n _))) (fun _ => rfl) (by rfl) rfl (by infer_instance) rfl fun v7 h7 O7 => ?_
 refine XO.call Tryz.call151 rfl rfl rfl (kin_spec 1000 v7 h7 [h.buy, h.sell]) fun v8 s8 R8 => ?_
 obtain ⟨rfl, rfl⟩ := R8
 dsimp only [lcA, lnA]
 refine XO.q (Q.move rfl) ?_
 refine XO.q (Quiet.guardT rfl rfl fun g10 p10 => Q.fieldAddr rfl) ?_
 refine XO.q (Quiet.guardT rfl rfl fun g11 p11 => Q.ld (lzv g11 rfl) rfl) ?_
 refine XO.q (Quiet.guardT rfl rfl fun g12 p12 => Q.fieldAddr rfl) ?_
 refine XO.q (Quiet.guardT rfl rfl fun g13 p13 => Q.ld (lzv g13 rfl) rfl) ?_
 refine XO.q (Quiet.guardT rfl rfl fun g14 p14 => Q.leq (lzv g14 rfl) (lzv g14 rfl)) ?_
 refine XO.q (Q.and rfl (fun hp => lzv hp rfl)) ?_
 refine XO.q (Q.move rfl) ?_
 refine XO.q (Quiet.guardT rfl rfl fun g17 p17 => Q.fieldAddr rfl) ?_
 refine XO.q (Quiet.guardT rfl rfl fun g18 p18 => Q.ld (lzv g18 rfl) rfl) ?_
 refine XO.q (Quiet.guardT rfl rfl fun g19 p19 => Q.fieldAddr rfl) ?_
 refine XO.q (Quiet.guardT rfl rfl fun g20 p20 => Q.ld (lzv g20 rfl) rfl) ?_
 refine XO.lit1 [_, _] [_, _] [h.sun, h.load] encI rfl rfl (by rfl) (by rfl) rfl (by rfl) (fun g21 => by exact .c 0 1 (lzv g21 rfl) rfl rfl (.c 1 1 (lzv g21 rfl) rfl rfl (.n _))) (fun _ => rfl) (by rfl) rfl (fun _ => by infer_instance) rfl (fun v21 h21 O21 => ?_)
 refine XO.gcallT rfl rfl Tryz.call151 rfl (fun g22 => .c rfl (.c (lzv g22 rfl) .n)) rfl (fun g22 p22 => by haveI := O21 g22; exact kin_spec 40 v21 h21 [h.sun, h.load]) ?_
 refine XO.q (Q.and rfl (fun hp => lzv hp rfl)) ?_
 refine XO.q (Q.move rfl) ?_
 refine XO.q (Quiet.guardT rfl rfl fun g25 p25 => Q.fieldAddr rfl) ?_
 refine XO.q (Quiet.guardT rfl rfl fun g26 p26 => Q.ld (lzv g26 rfl) rfl) ?_
 refine XO.q (Quiet.guardT rfl rfl fun g27 p27 => Q.fieldAddr rfl) ?_
 refine XO.q (Quiet.guardT rfl rfl fun g28 p28 => Q.ld (lzv g28 rfl) rfl) ?_
 refine XO.lit1 [_, _] [_, _] [h.carbon, h.water] encI rfl rfl (by rfl) (by rfl) rfl (by rfl) (fun g29 => by exact .c 0 1 (lzv g29 rfl) rfl rfl (.c 1 1 (lzv g29 rfl) rfl rfl (.n _))) (fun _ => rfl) (by rfl) rfl (fun _ => by infer_instance) rfl (fun v29 h29 O29 => ?_)
 refine XO.gcallT rfl rfl Tryz.call151 rfl (fun g30 => .c rfl (.c (lzv g30 rfl) .n)) rfl (fun g30 p30 => by haveI := O29 g30; exact kin_spec 10000 v29 h29 [h.carbon, h.water]) ?_
 refine XO.q (Q.and rfl (fun hp => lzv hp rfl)) ?_
 refine XO.q (Q.assign rfl) (XO.done ?_)
 refine XK.rt [] Tryz.func187 Tryz.results187 (.t rfl .n) ?_
 exact ⟨rfl, rfl⟩
theorem storeR_spec (s : KStore) : Spec Tryz.prog 188 #[.agg #[.int .i64 s.energy, .int .i64 s.full, .int .i64 s.power, .int .i64 s.fin]] [] [] (fun v hs => v = .bool (storeR s) ∧ hs = []) := by
 refine Spec.intro (fn := Tryz.f188) (N := 19) Tryz.func188 rfl Tryz.ntmps188 rfl fun B => ?_
 refine XK.seq (XK.region rfl ?_)
 refine XO.box rfl fun b1 => ?_
 refine XO.q (Q.assign rfl) (XO.done (XK.seq (XK.region rfl ?_)))
 refine XO.q (Q.fieldAddr rfl) ?_
 refine XO.q (Q.ld rfl rfl) ?_
 refine XO.q (Q.fieldAddr rfl) ?_
 refine XO.q (Q.ld rfl rfl) ?_
 refine XO.lit [_, _] [_, _] [s.full, s.power] encI (by rfl) (by rfl) rfl (by rfl) (by exact .c 0 1 rfl rfl rfl (.c 1 1 rfl rfl rfl (.n _))) (fun _ => rfl) (by rfl) rfl (by infer_instance) rfl fun v7 h7 O7 => ?_
 refine XO.call Tryz.call151 rfl rfl rfl (kin_spec 10 v7 h7 [s.full, s.power]) fun v8 s8 R8 => ?_
 obtain ⟨rfl, rfl⟩ := R8
 dsimp only [lcA, lnA]
 refine XO.q (Q.move rfl) ?_
 refine XO.q (Quiet.guardT rfl rfl fun g10 p10 => Q.fieldAddr rfl) ?_
 refine XO.q (Quiet.guardT rfl rfl fun g11 p11 => Q.ld (lzv g11 rfl) rfl) ?_
 refine XO.q (Quiet.guardT rfl rfl fun g12 p12 => Q.fieldAddr rfl) ?_
 refine XO.q (Quiet.guardT rfl rfl fun g13 p13 => Q.ld (lzv g13 rfl) rfl) ?_
 refine XO.q (Quiet.guardT rfl rfl fun g14 p14 => Q.fieldAddr rfl) ?_
 refine XO.q (Quiet.guardT rfl rfl fun g15 p15 => Q.ld (lzv g15 rfl) rfl) ?_
 refine XO.lit1 [_, _] [_, _] [s.energy, s.fin] encI rfl rfl (by rfl) (by rfl) rfl (by rfl) (fun g16 => by exact .c 0 1 (lzv g16 rfl) rfl rfl (.c 1 1 (lzv g16 rfl) rfl rfl (.n _))) (fun _ => rfl) (by rfl) rfl (fun _ => by infer_instance) rfl (fun v16 h16 O16 => ?_)
 refine XO.gcallT rfl rfl Tryz.call151 rfl (fun g17 => .c (lzv g17 rfl) (.c (lzv g17 rfl) .n)) rfl (fun g17 p17 => by haveI := O16 g17; exact kin_spec s.full v16 h16 [s.energy, s.fin]) ?_
 refine XO.q (Q.and rfl (fun hp => lzv hp rfl)) ?_
 refine XO.q (Q.assign rfl) (XO.done ?_)
 refine XK.rt [] Tryz.func188 Tryz.results188 (.t rfl .n) ?_
 exact ⟨rfl, rfl⟩
theorem jobR_spec (j : KJob) (n : Nat) (hn : (n : Int) ≤ 140737488355328) : Spec Tryz.prog 191 #[.agg #[.int .i64 j.beg, .int .i64 j.fin, .int .i64 j.hours, .int .i64 j.power], .int .i64 (n : Nat)] [] [] (fun v hs => v = .bool (jobR n j) ∧ hs = []) := by
 refine Spec.intro (fn := Tryz.f191) (N := 33) Tryz.func191 rfl Tryz.ntmps191 rfl fun B => ?_
 refine XK.seq (XK.region rfl ?_)
 refine XO.box rfl fun b2 => ?_
 refine XO.q (Q.assign rfl) (XO.done (XK.seq (XK.region rfl (XO.q (Q.move rfl) ?_))))
 refine XO.q (Q.fieldAddr rfl) ?_
 refine XO.q (Q.ld rfl rfl) ?_
 refine XO.q (Q.fieldAddr rfl) ?_
 refine XO.q (Q.ld rfl rfl) ?_
 refine XO.lit [_, _] [_, _] [j.beg, j.fin] encI (by rfl) (by rfl) rfl (by rfl) (by exact .c 0 1 rfl rfl rfl (.c 1 1 rfl rfl rfl (.n _))) (fun _ => rfl) (by rfl) rfl (by infer_instance) rfl fun v10 h10 O10 => ?_
 refine XO.call Tryz.call151 rfl rfl rfl (kin_spec (n : Int) v10 h10 [j.beg, j.fin]) fun v11 s11 R11 => ?_
 obtain ⟨rfl, rfl⟩ := R11
 dsimp only [lcA, lnA]
 refine XO.q (Q.move rfl) ?_
 refine XO.q (Quiet.guardT rfl rfl fun g13 p13 => Q.fieldAddr rfl) ?_
 refine XO.q (Quiet.guardT rfl rfl fun g14 p14 => Q.ld (lzv g14 rfl) rfl) ?_
 refine XO.q (Quiet.guardT rfl rfl fun g15 p15 => Q.geq (lzv g15 rfl) rfl) ?_
 refine XO.q (Q.and rfl (fun hp => lzv hp rfl)) ?_
 refine XO.q (Q.move rfl) ?_
 refine XO.q (Quiet.guardT rfl rfl fun g18 p18 => Q.fieldAddr rfl) ?_
 refine XO.q (Quiet.guardT rfl rfl fun g19 p19 => Q.ld (lzv g19 rfl) rfl) ?_
 refine XO.q (Quiet.guardT rfl rfl fun g20 p20 => Q.fieldAddr rfl) ?_
 refine XO.q (Quiet.guardT rfl rfl fun g21 p21 => Q.ld (lzv g21 rfl) rfl) ?_
 refine XO.q (Quiet.guardT rfl rfl fun g22 p22 => Q.fieldAddr rfl) ?_
 refine XO.q (Quiet.guardT rfl rfl fun g23 p23 => Q.ld (lzv g23 rfl) rfl) ?_
 refine XO.q (Quiet.guardT rfl rfl fun g24 p24 => Q.sub (lzv g24 rfl) (lzv g24 rfl) (by have q := kin_two.1 p24.1; exact ⟨by omega, by omega⟩)) ?_
 refine XO.q (Quiet.guardT rfl rfl fun g25 p25 => Q.leq (lzv g25 rfl) (lzv g25 rfl)) ?_
 refine XO.q (Q.and rfl (fun hp => lzv hp rfl)) ?_
 refine XO.q (Q.move rfl) ?_
 refine XO.q (Quiet.guardT rfl rfl fun g28 p28 => Q.fieldAddr rfl) ?_
 refine XO.q (Quiet.guardT rfl rfl fun g29 p29 => Q.ld (lzv g29 rfl) rfl) ?_
 refine XO.lit1 [_] [_] [j.power] encI rfl rfl (by rfl) (by rfl) rfl (by rfl) (fun g30 => by exact .c 0 1 (lzv g30 rfl) rfl rfl (.n _)) (fun _ => rfl) (by rfl) rfl (fun _ => by infer_instance) rfl (fun v30 h30 O30 => ?_)
 refine XO.gcallT rfl rfl Tryz.call151 rfl (fun g31 => .c rfl (.c (lzv g31 rfl) .n)) rfl (fun g31 p31 => by haveI := O30 g31; exact kin_spec 20 v30 h30 [j.power]) ?_
 refine XO.q (Q.and rfl (fun hp => lzv hp rfl)) ?_
 refine XO.q (Q.assign rfl) (XO.done ?_)
 refine XK.rt [] Tryz.func191 Tryz.results191 (.t rfl .n) ?_
 exact ⟨rfl, rfl⟩
theorem check1 (h : KHour) : Spec Tryz.prog 186 #[.agg #[.int .i64 h.buy, .int .i64 h.sell, .int .i64 h.sun, .int .i64 h.load, .int .i64 h.carbon, .int .i64 h.water]] [] [] (fun v hs => v = .bool (!hourR h) ∧ hs = []) := by
 refine Spec.intro (fn := Tryz.f186) (N := 6) Tryz.func186 rfl Tryz.ntmps186 rfl fun B => ?_
 refine XK.seq (XK.region rfl ?_)
 refine XO.box rfl fun b1 => ?_
 refine XO.q (Q.assign rfl) (XO.done (XK.seq (XK.region rfl ?_)))
 refine XO.q (Q.ldA [_, _, _, _, _, _] rfl rfl rfl) ?_
 refine XO.call Tryz.call187 rfl rfl rfl (hourR_spec h) fun v4 s4 R4 => ?_
 obtain ⟨rfl, rfl⟩ := R4
 dsimp only [lcA, lnA]
 refine XO.q (Q.not rfl) ?_
 refine XO.q (Q.assign rfl) (XO.done ?_)
 refine XK.rt [] Tryz.func186 Tryz.results186 (.t rfl .n) ?_
 exact ⟨rfl, rfl⟩
theorem check2 (d : KDay) (vh vj : Value) (hh hj : PHeap) [ih : Arr vh encHour 6 hh d.hours] [ij : Arr vj encJob 4 hj d.jobs] (j : KJob) (b : Nat) : Spec Tryz.prog 190 #[.agg #[.int .i64 j.beg, .int .i64 j.fin, .int .i64 j.hours, .int .i64 j.power], ptr b 0] [] [blk b [vh, .int .i64 d.store.energy, .int .i64 d.store.full, .int .i64 d.store.power, .int .i64 d.store.fin, vj, .int .i64 d.most, .int .i64 d.peak] 116] (fun v hs => v = .bool (!jobR d.hours.length j) ∧ hs = []) := by
 have lh := ih.le
 refine Spec.intro (fn := Tryz.f190) (N := 10) Tryz.func190 rfl Tryz.ntmps190 rfl fun B => ?_
 refine XK.seq (XK.region rfl ?_)
 refine XO.box rfl fun b2 => ?_
 refine XO.q (Q.assign rfl) (XO.done (XK.seq (XK.region rfl ?_)))
 refine XO.q (Q.ldA [_, _, _, _] rfl rfl rfl) ?_
 refine XO.q (Q.fieldAddr rfl) ?_
 refine XO.q (Q.ld rfl rfl) ?_
 refine XO.len rfl fun l7 => ?_
 refine XO.call Tryz.call191 rfl rfl rfl (jobR_spec j d.hours.length (by omega)) fun v8 s8 R8 => ?_
 obtain ⟨rfl, rfl⟩ := R8
 dsimp only [lcA, lnA]
 refine XO.q (Q.not rfl) ?_
 refine XO.q (Q.assign rfl) (XO.done ?_)
 refine XK.rt [] Tryz.func190 Tryz.results190 (.t rfl .n) ?_
 exact ⟨rfl, rfl⟩
theorem prod_rng {js : List KJob} {n : Nat} (hn : n ≤ 24) (h2 : js.length ≤ 2) (h : ∀ i, i < js.length → JobOk n (js.getD i default)) : ∀ i, i ≤ js.length → 1 ≤ prodS js i ∧ prodS js i ≤ (if i = 0 then 1 else if i = 1 then 24 else 576) := fun i hi => by
 have sp : ∀ k, k < js.length → 1 ≤ spanS (js.getD k default) ∧ spanS (js.getD k default) ≤ 24 := fun k hk => by
  have := h k hk
  have := this.b0; have := (h k hk).b1; have := (h k hk).t1; have := (h k hk).h0
  unfold spanS; omega
 match i, hi with
 | 0, _ => exact ⟨Int.le_refl _, Int.le_refl _⟩
 | 1, hi => have := sp 0 (by omega); simp only [prodS]; omega
 | 2, hi =>
  have h0 := sp 0 (by omega)
  have h1 := sp 1 (by omega)
  simp only [prodS, Int.one_mul]
  have a : 1 * 1 ≤ spanS (js.getD 0 default) * spanS (js.getD 1 default) := Int.mul_le_mul h0.1 h1.1 (by omega) (by omega)
  have b : spanS (js.getD 0 default) * spanS (js.getD 1 default) ≤ 24 * 24 := Int.mul_le_mul h0.2 h1.2 (by omega) (by omega)
  omega
 | n + 3, hi => omega
theorem Check_spec (d : KDay) (vh vj : Value) (hh hj : PHeap) [ih : Arr vh encHour 6 hh d.hours] [ij : Arr vj encJob 4 hj d.jobs] : Spec Tryz.prog 144 #[.agg #[vh, .int .i64 d.store.energy, .int .i64 d.store.full, .int .i64 d.store.power, .int .i64 d.store.fin, vj, .int .i64 d.most, .int .i64 d.peak]] [] [hh, hj] (fun v hs => v = .int .i64 (kcheck d) ∧ hs = []) := by
 have lh := ih.le
 have lj := ij.le
 refine Spec.intro (fn := Tryz.f144) (N := 66) Tryz.func144 rfl Tryz.ntmps144 rfl fun B => ?_
 refine XK.seq (XK.region rfl ?_)
 refine XO.box rfl fun b1 => ?_
 refine XO.q (Q.assign rfl) (XO.done (XK.seq (XK.block (XK.seq (XK.region rfl ?_)))))
 refine XO.q (Q.fieldAddr rfl) ?_
 refine XO.q (Q.ld rfl rfl) ?_
 refine XO.len rfl fun l9 => ?_
 refine XO.q (Q.lss rfl rfl) ?_
 refine XO.q (Q.move rfl) ?_
 refine XO.q (Quiet.guardF rfl rfl fun g12 p12 => Q.fieldAddr rfl) ?_
 refine XO.q (Quiet.guardF rfl rfl fun g13 p13 => Q.ld (lzv g13 rfl) rfl) ?_
 refine XO.q (Quiet.guardF rfl rfl fun g14 p14 => Q.len (lzv g14 rfl)) ?_
 refine XO.q (Quiet.guardF rfl rfl fun g15 p15 => Q.gtr (lzv g15 rfl) rfl) ?_
 refine XO.q (Q.or rfl (fun hp => lzv hp rfl)) ?_
 refine XO.q (Q.move rfl) ?_
 refine XO.q (Quiet.guardF rfl rfl fun g18 p18 => Q.fieldAddr rfl) ?_
 refine XO.q (Quiet.guardF rfl rfl fun g19 p19 => Q.ld (lzv g19 rfl) rfl) ?_
 refine XO.q (Quiet.guardF rfl rfl fun g20 p20 => Q.len (lzv g20 rfl)) ?_
 refine XO.q (Quiet.guardF rfl rfl fun g21 p21 => Q.gtr (lzv g21 rfl) rfl) ?_
 refine XO.q (Q.or rfl (fun hp => lzv hp rfl)) ?_
 refine XO.q (Q.assign rfl) (XO.done ?_)
 refine XK.if rfl (fun c0 => ?_) (fun c0 => ?_)
 ·skip
  refine XK.seq (XK.region rfl (XO.q (Q.assign rfl) (XO.done ?_)))
  refine XK.rt [] Tryz.func144 Tryz.results144 (.t rfl .n) ?_
  exact ⟨by rw [kcheck, if_pos c0], rfl⟩
 ·skip
  refine XK.seq (XK.seq (XK.region rfl ?_))
  refine XO.q (Q.fieldAddr rfl) ?_
  refine XO.q (Q.ld rfl rfl) ?_
  refine XO.call Tryz.call185 rfl rfl rfl (containsFuncH vh hh d.hours 186 [] [] (fun h => !hourR h) Tryz.call186 (fun x hx => check1 x)) fun v26 s26 R26 => ?_
  obtain ⟨rfl, rfl⟩ := R26
  dsimp only [lcA, lnA]
  refine XO.q (Q.assign rfl) (XO.done ?_)
  refine XK.meet (X := Bool) [23, 27, 28, 29, 30, 31, 32, 33, 34, 35, 36, 37, 38, 39, 40, 41, 42, 43, 44] (fun q => [(23, some (.bool q))]) (fun q => []) (fun q => q = kbad d) [] ?_ ?_
  ·rintro q hq
   dsimp only [lcA, lnA]
   subst hq
   refine XK.if rfl (fun c2 => ?_) (fun c2 => ?_)
   ·skip
    refine XK.seq (XK.region rfl (XO.q (Q.assign rfl) (XO.done ?_)))
    refine XK.rt [] Tryz.func144 Tryz.results144 (.t rfl .n) ?_
    exact ⟨by rw [kcheck, if_neg c0, if_pos c2], rfl⟩
   ·skip
    have kf := kbad_false.1 (Bool.eq_false_iff.2 c2)
    have pr := prod_rng (by omega) (by omega) kf.2.2.1
    refine XK.skip ?_
    refine XK.inBlock ?_
    refine XK.seq (XK.region rfl (XO.q (Q.assign rfl) (XO.done (XK.seq (XK.seq ?_)))))
    refine XK.region rfl ?_
    refine XO.q (Q.fieldAddr rfl) ?_
    refine XO.q (Q.ld rfl rfl) ?_
    refine XO.len rfl fun l47 => ?_
    refine XO.q (Q.move rfl) (XO.done (XK.block ?_))
    refine XK.while (X := Nat) [3, 5, 48, 49, 50, 51, 52, 53, 54, 55, 56, 57, 58, 59, 60, 61, 62, 63] (fun i => [(3, some (.int .i64 (prodS d.jobs i))), (48, some (.int .i64 (i : Nat)))]) (fun i => []) (fun i => i ≤ d.jobs.length) (fun i => d.jobs.length - i) (0) [] rfl (by omega) (.c rfl (.c rfl (.base 0 rfl rfl))) ?_
    rintro i hi ih0
    dsimp only [lcA, lnA] at ih0 ⊢
    refine XK.seq (XK.region rfl ?_)
    refine XO.q (Q.lss rfl rfl) ?_
    refine XO.done (XK.seq ?_)
    refine XK.if rfl (fun c3 => ?_) (fun c3 => ?_)
    ·skip
     have pi := pr i (by omega)
     have pi1 := pr (i + 1) (by omega)
     have ji := kf.2.2.1 i (by omega)
     have j1 := ji.b0
     have j2 := ji.b1
     have j3 := ji.t1
     have j4 := ji.h0
     have e1 : prodS d.jobs (i + 1) = prodS d.jobs i * spanS (d.jobs.getD i default) := rfl
     unfold spanS at e1
     have hi2 : i = 0 ∨ i = 1 := by omega
     rw [e1] at pi1
     refine XK.skip (XK.seq (XK.block (XK.seq (XK.region rfl ?_))))
     refine XO.ix rfl rfl (by omega) (by omega) fun i50 => ?_
     refine XO.q (Q.ldEA [_, _, _, _] rfl (by first | assumption | omega) rfl rfl) ?_
     refine XO.alloc fun b5 => ?_
     refine XO.st rfl rfl rfl ?_
     refine XO.done (XK.region rfl (XO.q (Q.move rfl) ?_))
     refine XO.q (Q.fieldAddr rfl) ?_
     refine XO.q (Q.ld rfl rfl) ?_
     refine XO.q (Q.fieldAddr rfl) ?_
     refine XO.q (Q.ld rfl rfl) ?_
     refine XO.q (Q.sub rfl rfl ⟨by omega, by omega⟩) ?_
     refine XO.q (Q.fieldAddr rfl) ?_
     refine XO.q (Q.ld rfl rfl) ?_
     refine XO.q (Q.sub rfl rfl ⟨by omega, by omega⟩) ?_
     refine XO.q (Q.add rfl rfl ⟨by omega, by omega⟩) ?_
     refine XO.q (Q.mul rfl rfl ⟨by omega, by omega⟩) ?_
     refine XO.q (Q.assign rfl) (XO.done ?_)
     refine XK.inBlock ?_
     refine XK.region rfl ?_
     refine XO.q (Q.add rfl rfl ⟨by omega, by omega⟩) ?_
     refine XO.q (Q.move rfl) (XO.done ?_)
     exact ih0 (i + 1) _ _ (by omega) (by first | omega | (dsimp only; omega)) (.c rfl (.c rfl (.base 38 rfl rfl))) inferInstance
    ·skip
     have hil : i = d.jobs.length := by omega
     subst hil
     refine XK.exit rfl ?_
     refine XK.seq (XK.seq (XK.region rfl (XO.q (Q.move rfl) ?_)))
     refine XO.q (Q.gtr rfl rfl) ?_
     refine XO.done ?_
     refine XK.if rfl (fun c4 => ?_) (fun c4 => ?_)
     ·skip
      refine XK.seq (XK.region rfl (XO.q (Q.assign rfl) (XO.done ?_)))
      refine XK.rt [] Tryz.func144 Tryz.results144 (.t rfl .n) ?_
      exact ⟨by rw [kcheck, if_neg c0, if_neg c2, if_pos c4], rfl⟩
     ·skip
      refine XK.skip (XK.seq (XK.region rfl (XO.q (Q.assign rfl) (XO.done ?_))))
      refine XK.rt [] Tryz.func144 Tryz.results144 (.t rfl .n) ?_
      exact ⟨by rw [kcheck, if_neg c0, if_neg c2, if_neg c4], rfl⟩
  ·intro mt1
   dsimp only [lcA, lnA] at mt1
   refine XK.if rfl (fun c1 => ?_) (fun c1 => ?_)
   ·skip
    refine XK.skip ?_
    exact mt1 (d.hours.any fun h => !hourR h) _ _ (by unfold kbad; rw [c1]; rfl) (.c rfl (.base 0 rfl rfl)) inferInstance
   ·skip
    refine XK.seq (XK.region rfl ?_)
    refine XO.q (Q.fieldAddr rfl) ?_
    refine XO.q (Q.ldA [_, _, _, _] rfl rfl rfl) ?_
    refine XO.call Tryz.call188 rfl rfl rfl (storeR_spec d.store) fun v29 s29 R29 => ?_
    obtain ⟨rfl, rfl⟩ := R29
    dsimp only [lcA, lnA]
    refine XO.q (Q.not rfl) ?_
    refine XO.q (Q.assign rfl) (XO.done ?_)
    refine XK.if rfl (fun c5 => ?_) (fun c5 => ?_)
    ·skip
     refine XK.skip ?_
     exact mt1 (!storeR d.store) _ _ (by unfold kbad; rw [Bool.eq_false_iff.2 c1, Bool.eq_false_iff.2 c5]; rfl) (.c rfl (.base 5 rfl rfl)) inferInstance
    ·skip
     refine XK.seq (XK.region rfl ?_)
     refine XO.q (Q.fieldAddr rfl) ?_
     refine XO.q (Q.ld rfl rfl) ?_
     refine XO.q (Q.func (fun _ he => rfl) (fun _ he => evs_rel he rfl)) ?_
     refine XO.call Tryz.call189 rfl rfl rfl (containsFuncJ vj hj d.jobs 190 [ptr b1 0] [blk b1 [vh, .int .i64 d.store.energy, .int .i64 d.store.full, .int .i64 d.store.power, .int .i64 d.store.fin, vj, .int .i64 d.most, .int .i64 d.peak] 116] (fun j => !jobR d.hours.length j) Tryz.call190 (fun x hx => check2 d vh vj hh hj x b1)) fun v34 s34 R34 => ?_
     obtain ⟨rfl, rfl⟩ := R34
     dsimp only [lcA, lnA]
     refine XO.q (Q.assign rfl) (XO.done ?_)
     refine XK.if rfl (fun c6 => ?_) (fun c6 => ?_)
     ·skip
      refine XK.skip ?_
      exact mt1 (d.jobs.any fun j => !jobR d.hours.length j) _ _ (by unfold kbad; rw [Bool.eq_false_iff.2 c1, Decidable.of_not_not c5, c6]; rfl) (.c rfl (.base 10 rfl rfl)) inferInstance
     ·skip
      refine XK.seq (XK.region rfl ?_)
      refine XO.q (Q.fieldAddr rfl) ?_
      refine XO.q (Q.ld rfl rfl) ?_
      refine XO.lit [_] [_] [d.most] encI (by rfl) (by rfl) rfl (by rfl) (by exact .c 0 1 rfl rfl rfl (.n _)) (fun _ => rfl) (by rfl) rfl (by infer_instance) rfl fun v37 h37 O37 => ?_
      refine XO.call Tryz.call151 rfl rfl rfl (kin_spec 40 v37 h37 [d.most]) fun v38 s38 R38 => ?_
      obtain ⟨rfl, rfl⟩ := R38
      dsimp only [lcA, lnA]
      refine XO.q (Q.not rfl) ?_
      refine XO.q (Q.assign rfl) (XO.done ?_)
      refine XK.if rfl (fun c7 => ?_) (fun c7 => ?_)
      ·skip
       refine XK.skip ?_
       exact mt1 (!kin 40 [d.most]) _ _ (by unfold kbad; rw [Bool.eq_false_iff.2 c1, Decidable.of_not_not c5, Bool.eq_false_iff.2 c6, Bool.eq_false_iff.2 c7]; rfl) (.c rfl (.base 16 rfl rfl)) inferInstance
      ·skip
       refine XK.region rfl ?_
       refine XO.q (Q.fieldAddr rfl) ?_
       refine XO.q (Q.ld rfl rfl) ?_
       refine XO.lit [_] [_] [d.peak] encI (by rfl) (by rfl) rfl (by rfl) (by exact .c 0 1 rfl rfl rfl (.n _)) (fun _ => rfl) (by rfl) rfl (by infer_instance) rfl fun v42 h42 O42 => ?_
       refine XO.call Tryz.call151 rfl rfl rfl (kin_spec 1000 v42 h42 [d.peak]) fun v43 s43 R43 => ?_
       obtain ⟨rfl, rfl⟩ := R43
       dsimp only [lcA, lnA]
       refine XO.q (Q.not rfl) ?_
       refine XO.q (Q.assign rfl) (XO.done ?_)
       exact mt1 (!kin 1000 [d.peak]) _ _ (by unfold kbad; rw [Bool.eq_false_iff.2 c1, Decidable.of_not_not c5, Bool.eq_false_iff.2 c6, Decidable.of_not_not c7]; rfl) (.c rfl (.base 22 rfl rfl)) inferInstance
end Go.X.Ma

set_option linter.unusedSimpArgs false
set_option linter.unusedVariables false
set_option maxRecDepth 20000
namespace Go.X.Ma
open Go.Proofs
theorem span_rng {d : KDay} (ok : DayOk d) {i : Nat} (hi : i < d.jobs.length) : 1 ≤ (spanS (d.jobs.getD i default)).toNat ∧ (spanS (d.jobs.getD i default)).toNat ≤ 24 := by
 have j := ok.job i hi
 have := j.b0; have := j.b1; have := j.t1; have := j.h0; have := ok.h2
 unfold spanS; omega
theorem addJob_take {out : List (List Int)} (j : KJob) : addJob (out.take out.length) j = addJob out j := by rw [List.take_length]
set_option maxHeartbeats 1000000 in
theorem starts_spec (d : KDay) (vh vj : Value) (hh hj : PHeap) [ih : Arr vh encHour 6 hh d.hours] [ij : Arr vj encJob 4 hj d.jobs] (ok : DayOk d) : Spec Tryz.prog 145 #[.agg #[vh, .int .i64 d.store.energy, .int .i64 d.store.full, .int .i64 d.store.power, .int .i64 d.store.fin, vj, .int .i64 d.most, .int .i64 d.peak]] [] [hh, hj] (fun v hs => ∃ ho us K, hs = [ho, K] ∧ OArr v encV 1 29 ho us ∧ RowsK us K (startsL d)) := by
 have lj := ij.le
 have j2 := ok.j2
 have h24 := ok.h2
 have pr := prod_rng ok.h2 ok.j2 ok.job
 have sl := starts_len ok.job
 have nV : OArr (.slice none 0 0) encV 1 29 emp ([] : List Value) := OArr.nil (fun _ => rfl)
 refine Spec.intro (fn := Tryz.f145) (N := 47) Tryz.func145 rfl Tryz.ntmps145 rfl fun B => ?_
 refine XK.seq (XK.region rfl ?_)
 refine XO.box rfl fun b1 => ?_
 refine XO.q (Q.assign rfl) (XO.done (XK.seq (XK.region rfl ?_)))
 refine XO.lit [_] [_] [.slice none 0 0] encV (by rfl) (by rfl) rfl (by rfl) (by exact .c 0 1 rfl rfl rfl (.n _)) (fun _ => rfl) (by rfl) rfl (by infer_instance) rfl fun v10 h10 O10 => ?_
 refine XO.q (Q.assign rfl) (XO.done (XK.seq (XK.seq (XK.region rfl ?_))))
 refine XO.q (Q.fieldAddr rfl) ?_
 refine XO.q (Q.ld rfl rfl) ?_
 refine XO.len rfl fun l13 => ?_
 refine XO.q (Q.move rfl) (XO.done (XK.block ?_))
 refine XK.while (X := Nat × Value × PHeap × List Value × PHeap) [3, 5, 6, 8, 9, 14, 15, 16, 17, 18, 19, 20, 21, 22, 23, 24, 25, 26, 27, 28, 29, 30, 31, 32, 33, 34, 35, 36, 37, 38, 39, 40, 41, 42, 43, 44, 45] (fun ⟨i, vo, ko, us, K⟩ => [(3, some (vo)), (14, some (.int .i64 (i : Nat)))]) (fun ⟨i, vo, ko, us, K⟩ => [ko, K]) (fun ⟨i, vo, ko, us, K⟩ => i ≤ d.jobs.length ∧ OArr vo encV 1 29 ko us ∧ RowsK us K (startsTo d.jobs (i))) (fun ⟨i, vo, ko, us, K⟩ => d.jobs.length - i) (0, v10, h10, [.slice none 0 0], emp) [h10, emp] rfl ⟨by omega, O10, ⟨rfl, fun i hi => (by have h0 : i = 0 := (by simpa using hi); subst h0; exact Arr.nil (fun _ => rfl))⟩⟩ (.c rfl (.c rfl (.base 0 rfl rfl))) ?_
 rintro ⟨i, vo, ko, us, K⟩ ⟨hi, OO, RO⟩ ih0
 dsimp only [lcA, lnA] at ih0 ⊢
 refine XK.seq (XK.region rfl ?_)
 refine XO.q (Q.lss rfl rfl) ?_
 refine XO.done (XK.seq ?_)
 refine XK.if rfl (fun c0 => ?_) (fun c0 => ?_)
 ·skip
  have ji := ok.job i (by omega)
  have jb := ji.b0
  have jc := ji.b1
  have jt := ji.t1
  have jh := ji.h0
  have sp := span_rng ok (i := i) (by omega)
  have pi := pr i (by omega)
  have pi1 := pr (i + 1) (by omega)
  have si := sl i (by omega)
  have rl := RO.1
  have hi2 : i = 0 ∨ i = 1 := by omega
  have sl3 : (startsTo d.jobs (i)).length ≤ 24 := by rcases hi2 with h | h <;> (subst h; simp at pi; omega)
  refine XK.skip (XK.seq (XK.block (XK.seq (XK.region rfl ?_))))
  refine XO.ix rfl rfl (by omega) (by omega) fun i16 => ?_
  refine XO.q (Q.ldEA [_, _, _, _] rfl (by first | assumption | omega) rfl rfl) ?_
  refine XO.alloc fun b5 => ?_
  refine XO.st rfl rfl rfl ?_
  refine XO.done (XK.seq (XK.region rfl (XO.q (Q.assign rfl) (XO.done (XK.seq ?_)))))
  refine XK.seq (XK.region rfl (XO.q (Q.move rfl) ?_))
  refine XO.len rfl fun l19 => ?_
  refine XO.q (Q.move rfl) (XO.done (XK.block ?_))
  refine XK.while (X := Nat × Value × PHeap × List Value × PHeap) [6, 8, 9, 20, 21, 22, 23, 24, 25, 26, 27, 28, 29, 30, 31, 32, 33, 34, 35, 36, 37, 38, 39, 40, 41, 42, 43] (fun ⟨k, vn, kn, un, K2⟩ => [(6, some (vn)), (20, some (.int .i64 (k : Nat)))]) (fun ⟨k, vn, kn, un, K2⟩ => [kn, K2]) (fun ⟨k, vn, kn, un, K2⟩ => k ≤ us.length ∧ OArr vn encV 1 29 kn un ∧ RowsK us K2 (startsTo d.jobs (i)) ∧ RowsK un K2 (addPart (startsTo d.jobs (i)) (d.jobs.getD i default) (k) (0))) (fun ⟨k, vn, kn, un, K2⟩ => us.length - k) (0, .slice none 0 0, emp, [], K) [emp, K] rfl ⟨by omega, nV, RO, by rw [addPart_zero, List.take_zero]; exact RowsK.nil⟩ (.c rfl (.c rfl (.base 0 rfl rfl))) ?_
  rintro ⟨k, vn, kn, un, K2⟩ ⟨hk, ON, RS, RP⟩ ih1
  dsimp only [lcA, lnA] at ih1 ⊢
  refine XK.seq (XK.region rfl ?_)
  refine XO.q (Q.lss rfl rfl) ?_
  refine XO.done (XK.seq ?_)
  refine XK.if rfl (fun c1 => ?_) (fun c1 => ?_)
  ·skip
   have ak := RS.2 k (by omega)
   have lk := starts_each d.jobs i ((startsTo d.jobs (i)).getD k default) (getD_mem (by omega))
   refine XK.skip (XK.seq (XK.block (XK.seq (XK.region rfl ?_))))
   refine XO.ix rfl rfl (by omega) (by omega) fun i22 => ?_
   refine XO.q (Q.ldE rfl (by first | assumption | omega) rfl) ?_
   refine XO.q (Q.assign rfl) (XO.done (XK.seq (XK.region rfl ?_)))
   refine XO.q (Q.fieldAddr rfl) ?_
   refine XO.q (Q.ld rfl rfl) ?_
   refine XO.q (Q.assign rfl) (XO.done (XK.block ?_))
   refine XK.while (X := Nat × Int × Value × PHeap × List Value × PHeap) [6, 9, 26, 27, 28, 29, 30, 31, 32, 33, 34, 35, 36, 37, 38, 39, 40, 41, 42] (fun ⟨q, tt, vn3, kn3, un3, K3⟩ => [(6, some (vn3)), (9, some (.int .i64 tt))]) (fun ⟨q, tt, vn3, kn3, un3, K3⟩ => [kn3, K3]) (fun ⟨q, tt, vn3, kn3, un3, K3⟩ => q ≤ (spanS (d.jobs.getD i default)).toNat ∧ tt = (d.jobs.getD i default).beg + ((q : Nat) : Int) ∧ OArr vn3 encV 1 29 kn3 un3 ∧ RowsK us K3 (startsTo d.jobs (i)) ∧ RowsK un3 K3 (addPart (startsTo d.jobs (i)) (d.jobs.getD i default) (k) (q))) (fun ⟨q, tt, vn3, kn3, un3, K3⟩ => (spanS (d.jobs.getD i default)).toNat - q) (0, (d.jobs.getD i default).beg, vn, kn, un, K2) [kn, K2] rfl ⟨by omega, by omega, ON, RS, RP⟩ (.c rfl (.c rfl (.base 0 rfl rfl))) ?_
   rintro ⟨q, tt, vn3, kn3, un3, K3⟩ ⟨hq, htt, ON3, RS3, RP3⟩ ih2
   dsimp only [lcA, lnA] at ih2 ⊢
   subst htt
   refine XK.seq (XK.seq (XK.region rfl (XO.q (Q.move rfl) ?_)))
   refine XO.q (Q.fieldAddr rfl) ?_
   refine XO.q (Q.ld rfl rfl) ?_
   refine XO.q (Q.fieldAddr rfl) ?_
   refine XO.q (Q.ld rfl rfl) ?_
   refine XO.q (Q.sub rfl rfl ⟨by omega, by omega⟩) ?_
   refine XO.q (Q.leq rfl rfl) ?_
   refine XO.done ?_
   refine XK.if rfl (fun c2 => ?_) (fun c2 => ?_)
   ·skip
    have hq2 : q < (spanS (d.jobs.getD i default)).toNat := by unfold spanS; omega
    have ak3 := RS3.2 k (by omega)
    have al := addPart_len (out := (startsTo d.jobs (i))) (j := (d.jobs.getD i default)) (k := k) (q := q) (by omega) (by omega)
    have rl3 := RP3.1
    rw [al] at rl3
    have mq : k * (spanS (d.jobs.getD i default)).toNat ≤ 24 * 24 := Nat.mul_le_mul (by omega) (by omega)
    refine XK.skip (XK.seq (XK.block (XK.region rfl (XO.q (Q.move rfl) (XO.q (Q.move rfl) ?_)))))
    refine XO.call Tryz.call59 rfl rfl rfl (cloneI (us.getD k default) K3 ((startsTo d.jobs (i)).getD k default) (by omega)) fun v37 s37 R37 => ?_
    obtain ⟨k37, rfl, O37⟩ := R37
    dsimp only [lcA, lnA]
    refine XO.q (Q.move rfl) ?_
    refine XO.lit [_] [_] [(d.jobs.getD i default).beg + ((q : Nat) : Int)] encI (by rfl) (by rfl) rfl (by rfl) (by exact .c 0 1 rfl rfl rfl (.n _)) (fun _ => rfl) (by rfl) rfl (by infer_instance) rfl fun v39 h39 O39 => ?_
    have AK : True := trivial
    refine XO.append rfl rfl rfl rfl (by simp only [List.length_cons, List.length_nil]; omega) fun v40 h40 O40 => ?_
    refine XO.lit [_] [_] [v40] encV (by rfl) (by rfl) rfl (by rfl) (by exact .c 0 1 rfl rfl rfl (.n _)) (fun _ => rfl) (by rfl) rfl (by infer_instance) rfl fun v41 h41 O41 => ?_
    refine XO.append rfl rfl rfl rfl (by simp only [List.length_cons, List.length_nil]; omega) fun v42 h42 O42 => ?_
    refine XO.q (Q.assign rfl) (XO.done ?_)
    refine XK.inBlock ?_
    refine XK.region rfl (XO.q (Q.move rfl) ?_)
    refine XO.q (Q.add rfl rfl ⟨by omega, by omega⟩) ?_
    refine XO.q (Q.assign rfl) (XO.done ?_)
    refine XK.cat K3 h40 fun l1 l2 => ?_
    exact ih2 (q + 1, (d.jobs.getD i default).beg + ((q : Nat) : Int) + 1, v42, h42, un3 ++ [v40], cat K3 h40) _ _ ⟨by dsimp only; omega, by dsimp only; omega, O42, RS3.mono l1, by dsimp only; rw [addPart_succ hq2]; exact (RP3.mono l1).snoc (Arr.le_heap (OArr.arr (s := O40)) l2)⟩ (by first | omega | (dsimp only; omega)) (.c rfl (.c rfl (.base 40 rfl rfl))) inferInstance
   ·skip
    have hqe : q = (spanS (d.jobs.getD i default)).toNat := by unfold spanS at hq ⊢; omega
    refine XK.exit rfl ?_
    refine XK.inBlock ?_
    refine XK.region rfl ?_
    refine XO.q (Q.add rfl rfl ⟨by omega, by omega⟩) ?_
    refine XO.q (Q.move rfl) (XO.done ?_)
    exact ih1 (k + 1, vn3, kn3, un3, K3) _ _ ⟨by dsimp only; omega, ON3, RS3, by dsimp only; rw [hqe, addPart_all (by omega)] at RP3; rw [addPart_zero]; exact RP3⟩ (by first | omega | (dsimp only; omega)) (.c rfl (.c rfl (.base 66 rfl rfl))) inferInstance
  ·skip
   have hkl : k = us.length := by omega
   subst hkl
   refine XK.exit rfl ?_
   refine XK.region rfl (XO.q (Q.move rfl) (XO.q (Q.assign rfl) (XO.done ?_)))
   refine XK.inBlock ?_
   refine XK.region rfl ?_
   refine XO.q (Q.add rfl rfl ⟨by omega, by omega⟩) ?_
   refine XO.q (Q.move rfl) (XO.done ?_)
   exact ih0 (i + 1, vn, kn, un, K2) _ _ ⟨by dsimp only; omega, ON, by dsimp only; rw [rl, addPart_zero, addJob_take] at RP; exact RP⟩ (by first | omega | (dsimp only; omega)) (.c rfl (.c rfl (.base 81 rfl rfl))) inferInstance
 ·skip
  have hil : i = d.jobs.length := by omega
  subst hil
  refine XK.exit rfl ?_
  refine XK.seq (XK.region rfl (XO.q (Q.move rfl) (XO.q (Q.assign rfl) (XO.done ?_))))
  refine XK.rt [ko, K] Tryz.func145 Tryz.results145 (.t rfl .n) ?_
  exact ⟨ko, us, K, rfl, OO, RO⟩
end Go.X.Ma

set_option linter.unusedSimpArgs false
set_option linter.unusedVariables false
set_option maxRecDepth 20000
namespace Go.X.Ma
open Go.Proofs
theorem range_snocI (f : Nat → Int) (n : Nat) : (List.range (n + 1)).map f = (List.range n).map f ++ [f n] := by rw [List.range_succ, List.map_append]; rfl
theorem used_spec (d : KDay) (vh vj : Value) (hh hj : PHeap) [ih : Arr vh encHour 6 hh d.hours] [ij : Arr vj encJob 4 hj d.jobs] (s : List Int) (vs : Value) (hs_ : PHeap) [js : Arr vs encI 1 hs_ s] (ok : DayOk d) (so : SOk d s) : Spec Tryz.prog 84 #[.agg #[vh, .int .i64 d.store.energy, .int .i64 d.store.full, .int .i64 d.store.power, .int .i64 d.store.fin, vj, .int .i64 d.most, .int .i64 d.peak], vs] [] [hh, hj, hs_] (fun v hs => ∃ k, hs = [k] ∧ OArr v encI 1 3 k (usedL d s)) := by
 have lh := ih.le
 have lj := ij.le
 have h24 := ok.h2
 have j2 := ok.j2
 have sl := so.len
 have nI : OArr (.slice none 0 0) encI 1 3 emp ([] : List Int) := OArr.nil (fun _ => rfl)
 refine Spec.intro (fn := Tryz.f84) (N := 53) Tryz.func84 rfl Tryz.ntmps84 rfl fun B => ?_
 refine XK.seq (XK.region rfl ?_)
 refine XO.box rfl fun b2 => ?_
 refine XO.q (Q.assign rfl) (XO.done (XK.seq (XK.region rfl (XO.q (Q.assign rfl) (XO.done ?_)))))
 refine XK.seq (XK.seq (XK.region rfl ?_))
 refine XO.q (Q.fieldAddr rfl) ?_
 refine XO.q (Q.ld rfl rfl) ?_
 refine XO.len rfl fun l13 => ?_
 refine XO.q (Q.move rfl) (XO.done (XK.block ?_))
 refine XK.while (X := Nat × Value × PHeap) [5, 7, 14, 15, 16, 17, 18, 19, 20, 21, 22, 23] (fun ⟨i, vo, ko⟩ => [(5, some (vo)), (14, some (.int .i64 (i : Nat)))]) (fun ⟨i, vo, ko⟩ => [ko]) (fun ⟨i, vo, ko⟩ => i ≤ d.hours.length ∧ OArr vo encI 1 3 ko ((List.range i).map (fun i => (d.hours.getD i default).load))) (fun ⟨i, vo, ko⟩ => d.hours.length - i) (0, .slice none 0 0, emp) [emp] rfl ⟨by omega, nI⟩ (.c rfl (.c rfl (.base 0 rfl rfl))) ?_
 rintro ⟨i, vo, ko⟩ ⟨hi, OL⟩ ih0
 dsimp only [lcA, lnA] at ih0 ⊢
 have ll : ((List.range i).map (fun i => (d.hours.getD i default).load)).length = i := range_len
 refine XK.seq (XK.region rfl ?_)
 refine XO.q (Q.lss rfl rfl) ?_
 refine XO.done (XK.seq ?_)
 refine XK.if rfl (fun c0 => ?_) (fun c0 => ?_)
 ·skip
  refine XK.skip (XK.seq (XK.block (XK.seq (XK.region rfl ?_))))
  refine XO.ix rfl rfl (by omega) (by omega) fun i16 => ?_
  refine XO.q (Q.ldEA [_, _, _, _, _, _] rfl (by first | assumption | omega) rfl rfl) ?_
  refine XO.alloc fun b7 => ?_
  refine XO.st rfl rfl rfl ?_
  refine XO.done (XK.region rfl (XO.q (Q.move rfl) ?_))
  refine XO.q (Q.fieldAddr rfl) ?_
  refine XO.q (Q.ld rfl rfl) ?_
  refine XO.lit [_] [_] [(d.hours.getD i default).load] encI (by rfl) (by rfl) rfl (by rfl) (by exact .c 0 1 rfl rfl rfl (.n _)) (fun _ => rfl) (by rfl) rfl (by infer_instance) rfl fun v21 h21 O21 => ?_
  refine XO.append rfl rfl rfl rfl (by first | omega | (simp; omega)) fun v22 h22 O22 => ?_
  refine XO.q (Q.assign rfl) (XO.done ?_)
  refine XK.inBlock ?_
  refine XK.region rfl ?_
  refine XO.q (Q.add rfl rfl ⟨by omega, by omega⟩) ?_
  refine XO.q (Q.move rfl) (XO.done ?_)
  exact ih0 (i + 1, v22, h22) _ _ ⟨by dsimp only; omega, by dsimp only; rw [range_snocI]; exact O22⟩ (by first | omega | (dsimp only; omega)) (.c rfl (.c rfl (.base 26 rfl rfl))) inferInstance
 ·skip
  have hin : i = d.hours.length := by omega
  rw [hin, ← usedT_start d s] at OL
  clear ih0
  refine XK.exit rfl ?_
  refine XK.seq (XK.seq (XK.region rfl ?_))
  refine XO.q (Q.fieldAddr rfl) ?_
  refine XO.q (Q.ld rfl rfl) ?_
  refine XO.len rfl fun l26 => ?_
  refine XO.q (Q.move rfl) (XO.done (XK.block ?_))
  refine XK.while (X := Nat × PHeap) [8, 9, 10, 27, 28, 29, 30, 31, 32, 33, 34, 35, 36, 37, 38, 39, 40, 41, 42, 43, 44, 45, 46, 47, 48, 49, 50, 51] (fun ⟨k, kq⟩ => [(27, some (.int .i64 (k : Nat)))]) (fun ⟨k, kq⟩ => [kq]) (fun ⟨k, kq⟩ => k ≤ d.jobs.length ∧ OArr vo encI 1 3 kq (usedT d s k 0)) (fun ⟨k, kq⟩ => d.jobs.length - k) (0, ko) [ko] rfl ⟨by omega, OL⟩ (.c rfl (.base 0 rfl rfl)) ?_
  rintro ⟨k, kq⟩ ⟨hk, OU⟩ ih1
  dsimp only [lcA, lnA] at ih1 ⊢
  refine XK.seq (XK.region rfl ?_)
  refine XO.q (Q.lss rfl rfl) ?_
  refine XO.done (XK.seq ?_)
  refine XK.if rfl (fun c1 => ?_) (fun c1 => ?_)
  ·skip
   have ji := ok.job k (by omega)
   have jb := ji.b0
   have jc := ji.b1
   have jt := ji.t1
   have jh := ji.h0
   have jp := ji.p0
   have jq := ji.p1
   have sk := so.at' k (by omega)
   refine XK.skip (XK.seq (XK.block (XK.seq (XK.region rfl (XO.q (Q.move rfl) ?_)))))
   refine XO.ix rfl rfl (by omega) (by omega) fun i30 => ?_
   refine XO.q (Q.ldEA [_, _, _, _] rfl (by first | assumption | omega) rfl rfl) ?_
   refine XO.alloc fun b9 => ?_
   refine XO.q (Q.assign rfl) ?_
   refine XO.st rfl rfl rfl ?_
   refine XO.done (XK.seq (XK.region rfl ?_))
   refine XO.q (Q.fieldAddr rfl) ?_
   refine XO.q (Q.ld rfl rfl) ?_
   refine XO.q (Q.move rfl) (XO.done (XK.block ?_))
   refine XK.while (X := Nat × PHeap) [10, 34, 35, 36, 37, 38, 39, 40, 41, 42, 43, 44, 45, 46, 47, 48, 49, 50] (fun ⟨t, kr⟩ => [(34, some (.int .i64 (t : Nat)))]) (fun ⟨t, kr⟩ => [kr]) (fun ⟨t, kr⟩ => (t : Int) ≤ (d.jobs.getD k default).hours ∧ OArr vo encI 1 3 kr (usedT d s k t)) (fun ⟨t, kr⟩ => (d.jobs.getD k default).hours.toNat - t) (0, kq) [kq] rfl ⟨by (try dsimp only); omega, OU⟩ (.c rfl (.base 0 rfl rfl)) ?_
   rintro ⟨t, kr⟩ ⟨ht, OT⟩ ih2
   dsimp only [lcA, lnA] at ih2 ⊢
   refine XK.seq (XK.region rfl ?_)
   refine XO.q (Q.lss rfl rfl) ?_
   refine XO.done (XK.seq ?_)
   refine XK.if rfl (fun c2 => ?_) (fun c2 => ?_)
   ·skip
    have ul := usedT_len d s k t
    have ha : (s.getD k default + ((t : Nat) : Int)).toNat < d.hours.length := by omega
    have ur := used_rng ok s ha k (by omega)
    have ue : (usedT d s k t).getD (s.getD k default + ((t : Nat) : Int)).toNat default = usedAt d s (s.getD k default + ((t : Nat) : Int)).toNat k + partS (d.jobs.getD k default) (s.getD k default) t (s.getD k default + ((t : Nat) : Int)).toNat := by rw [usedT, range_at ha]
    unfold partS at ue
    rw [if_neg (by omega), Int.add_zero] at ue
    refine XK.skip (XK.seq (XK.block (XK.seq (XK.region rfl (XO.q (Q.move rfl) ?_)))))
    refine XO.q (Q.assign rfl) (XO.done ?_)
    refine XK.drawn [0, 1, 2, 3, 4, 5, 6, 7, 8, 9, 10, 11, 12] [b9] [kr] (.q 0 (.q 1 (.q 2 (.q 3 (.q 4 (.q 5 (.q 6 (.q 7 (.q 8 (.q 9 (.q 10 (.q 11 (.q 12 (.br 13 false .done .stop)))))))))))))) Tryz.mixed rfl (by kernel_rfl) ?_
    refine XT.q rfl rfl (Q.move rfl) ?_
    refine XT.q rfl rfl (Q.move rfl) ?_
    refine XT.q rfl rfl (Q.move rfl) ?_
    refine XT.ix rfl rfl rfl rfl (by omega) (by omega) fun i40 => ?_
    refine XT.q rfl rfl (Q.ldE rfl (by first | assumption | omega) rfl) ?_
    refine XT.q rfl rfl (Q.move rfl) ?_
    refine XT.q rfl rfl (Q.add rfl rfl ⟨by omega, by omega⟩) ?_
    refine XT.ix rfl rfl rfl rfl (by omega) (by omega) fun i44 => ?_
    refine XT.q rfl rfl (Q.ldE rfl (by first | assumption | omega) rfl) ?_
    refine XT.q rfl rfl (Q.fieldAddr rfl) ?_
    refine XT.q rfl rfl (Q.ld rfl rfl) ?_
    refine XT.q rfl rfl (Q.add rfl rfl ⟨by omega, by omega⟩) ?_
    refine XT.ix rfl rfl rfl rfl (by omega) (by omega) fun i49 => ?_
    refine XT.stE _ rfl rfl rfl rfl rfl (by assumption) rfl rfl (fun h13_13 O13_13 => ⟨inferInstance, ?_⟩) XT.stop
    rw [usedT_step ha (by omega) (by omega)] at O13_13
    refine XT.done ?_
    refine XK.inBlock ?_
    refine XK.region rfl ?_
    refine XO.q (Q.add rfl rfl ⟨by omega, by omega⟩) ?_
    refine XO.q (Q.move rfl) (XO.done ?_)
    exact ih2 (t + 1, h13_13) _ _ ⟨by dsimp only; omega, O13_13⟩ (by first | omega | (dsimp only; omega)) (.c rfl (.base 37 rfl rfl)) inferInstance
   ·skip
    have hte : ((t : Nat) : Int) = (d.jobs.getD k default).hours := by omega
    refine XK.exit rfl ?_
    refine XK.inBlock ?_
    refine XK.region rfl ?_
    refine XO.q (Q.add rfl rfl ⟨by omega, by omega⟩) ?_
    refine XO.q (Q.move rfl) (XO.done ?_)
    exact ih1 (k + 1, kr) _ _ ⟨by dsimp only; omega, by dsimp only; rw [← usedT_all hte]; exact OT⟩ (by first | omega | (dsimp only; omega)) (.c rfl (.base 60 rfl rfl)) inferInstance
  ·skip
   have hkl : k = d.jobs.length := by omega
   rw [hkl, usedT_end] at OU
   refine XK.exit rfl ?_
   refine XK.seq (XK.region rfl (XO.q (Q.move rfl) (XO.q (Q.assign rfl) (XO.done ?_))))
   refine XK.rt [kq] Tryz.func84 Tryz.results84 (.t rfl .n) ?_
   exact ⟨kq, rfl, OU⟩
theorem needs_spec (d : KDay) (vh vj : Value) (hh hj : PHeap) [ih : Arr vh encHour 6 hh d.hours] [ij : Arr vj encJob 4 hj d.jobs] (s : List Int) (vs : Value) (hs_ : PHeap) [js : Arr vs encI 1 hs_ s] (ok : DayOk d) (so : SOk d s) : Spec Tryz.prog 150 #[.agg #[vh, .int .i64 d.store.energy, .int .i64 d.store.full, .int .i64 d.store.power, .int .i64 d.store.fin, vj, .int .i64 d.most, .int .i64 d.peak], vs] [] [hh, hj, hs_] (fun v hs => ∃ k, hs = [k] ∧ OArr v encI 1 3 k (needsL d s)) := by
 have lh := ih.le
 refine Spec.intro (fn := Tryz.f150) (N := 29) Tryz.func150 rfl Tryz.ntmps150 rfl fun B => ?_
 refine XK.seq (XK.region rfl ?_)
 refine XO.box rfl fun b2 => ?_
 refine XO.q (Q.assign rfl) (XO.done (XK.seq (XK.region rfl ?_)))
 refine XO.q (Q.ldA [_, _, _, _, _, _, _, _] rfl rfl rfl) ?_
 refine XO.q (Q.move rfl) ?_
 refine XO.call Tryz.call84 rfl rfl rfl (used_spec d vh vj hh hj s vs hs_ ok so) fun v10 s10 R10 => ?_
 obtain ⟨ku, rfl, OU0⟩ := R10
 dsimp only [lcA, lnA]
 refine XO.q (Q.assign rfl) (XO.done (XK.seq (XK.seq (XK.region rfl ?_))))
 refine XO.q (Q.fieldAddr rfl) ?_
 refine XO.q (Q.ld rfl rfl) ?_
 refine XO.len rfl fun l13 => ?_
 refine XO.q (Q.move rfl) (XO.done (XK.block ?_))
 refine XK.while (X := Nat × PHeap) [6, 7, 14, 15, 16, 17, 18, 19, 20, 21, 22, 23, 24, 25, 26, 27] (fun ⟨i, kq⟩ => [(14, some (.int .i64 (i : Nat)))]) (fun ⟨i, kq⟩ => [kq]) (fun ⟨i, kq⟩ => i ≤ d.hours.length ∧ OArr v10 encI 1 3 kq (needT d s i)) (fun ⟨i, kq⟩ => d.hours.length - i) (0, ku) [ku] rfl ⟨by omega, by rw [needT_zero]; exact OU0⟩ (.c rfl (.base 0 rfl rfl)) ?_
 rintro ⟨i, kq⟩ ⟨hi, OU⟩ ih0
 dsimp only [lcA, lnA] at ih0 ⊢
 refine XK.seq (XK.region rfl ?_)
 refine XO.q (Q.lss rfl rfl) ?_
 refine XO.done (XK.seq ?_)
 refine XK.if rfl (fun c0 => ?_) (fun c0 => ?_)
 ·skip
  have nl := needT_len d s i
  have ur := used_rng ok s (show i < d.hours.length by omega) d.jobs.length (Nat.le_refl _)
  have j2 := ok.j2
  have hk := ok.hour i (by omega)
  have u0 := hk.u0
  have u1 := hk.u1
  have na := needT_at (s := s) (show i < d.hours.length by omega)
  refine XK.skip (XK.seq (XK.block (XK.seq (XK.region rfl (XO.q (Q.move rfl) ?_)))))
  refine XO.ix rfl rfl (by omega) (by omega) fun i17 => ?_
  refine XO.q (Q.ldEA [_, _, _, _, _, _] rfl (by first | assumption | omega) rfl rfl) ?_
  refine XO.alloc fun b7 => ?_
  refine XO.q (Q.assign rfl) ?_
  refine XO.st rfl rfl rfl ?_
  refine XO.done ?_
  refine XK.drawn [0, 1, 2, 3, 4, 5, 6, 7] [b7] [kq] (.q 0 (.q 1 (.q 2 (.q 3 (.q 4 (.q 5 (.q 6 (.q 7 (.br 8 false .done .stop))))))))) Tryz.mixed rfl (by kernel_rfl) ?_
  refine XT.q rfl rfl (Q.move rfl) ?_
  refine XT.q rfl rfl (Q.move rfl) ?_
  refine XT.ix rfl rfl rfl rfl (by omega) (by omega) fun i21 => ?_
  refine XT.q rfl rfl (Q.ldE rfl (by first | assumption | omega) rfl) ?_
  refine XT.q rfl rfl (Q.fieldAddr rfl) ?_
  refine XT.q rfl rfl (Q.ld rfl rfl) ?_
  refine XT.q rfl rfl (Q.sub rfl rfl ⟨by omega, by omega⟩) ?_
  refine XT.ix rfl rfl rfl rfl (by omega) (by omega) fun i26 => ?_
  refine XT.stE _ rfl rfl rfl rfl rfl (by assumption) rfl rfl (fun h5_8 O5_8 => ⟨inferInstance, ?_⟩) XT.stop
  rw [needT_step (by omega)] at O5_8
  refine XT.done ?_
  refine XK.inBlock ?_
  refine XK.region rfl ?_
  refine XO.q (Q.add rfl rfl ⟨by omega, by omega⟩) ?_
  refine XO.q (Q.move rfl) (XO.done ?_)
  exact ih0 (i + 1, h5_8) _ _ ⟨by dsimp only; omega, O5_8⟩ (by first | omega | (dsimp only; omega)) (.c rfl (.base 33 rfl rfl)) inferInstance
 ·skip
  have hin : i = d.hours.length := by omega
  rw [hin, needT_all] at OU
  refine XK.exit rfl ?_
  refine XK.seq (XK.region rfl (XO.q (Q.move rfl) (XO.q (Q.assign rfl) (XO.done ?_))))
  refine XK.rt [kq] Tryz.func150 Tryz.results150 (.t rfl .n) ?_
  exact ⟨kq, rfl, OU⟩
theorem price_mul {a b : Int} (a0 : 0 ≤ a) (a1 : a ≤ 1000) (b0 : 0 ≤ b) (b1 : b ≤ 1000) : 0 ≤ a * b ∧ a * b ≤ 1000000 := ⟨Int.mul_nonneg a0 b0, Int.le_trans (Int.mul_le_mul a1 b1 b0 (by omega)) (by decide)⟩
theorem price_rng {h : KHour} (k : HourOk h) {n : Int} (h0 : -1000 ≤ n) (h1 : n ≤ 1000) : -1000000 ≤ priceH h n ∧ priceH h n ≤ 1000000 := by
 have := k.b0; have := k.b1; have := k.s0; have := k.s1
 have p1 := price_mul (a := max n 0) (b := h.buy) (by omega) (by omega) (by omega) (by omega)
 have p2 := price_mul (a := max (-n) 0) (b := h.sell) (by omega) (by omega) (by omega) (by omega)
 unfold priceH; omega
theorem price_spec (h : KHour) (k : HourOk h) (n : Int) (h0 : -1000 ≤ n) (h1 : n ≤ 1000) : Spec Tryz.prog 162 #[.agg #[.int .i64 h.buy, .int .i64 h.sell, .int .i64 h.sun, .int .i64 h.load, .int .i64 h.carbon, .int .i64 h.water], .int .i64 n] [] [] (fun v hs => v = .int .i64 (priceH h n) ∧ hs = []) := by
 have := k.b0
 have := k.b1
 have := k.s0
 have := k.s1
 have p1 := price_mul (a := max n 0) (b := h.buy) (by omega) (by omega) (by omega) (by omega)
 have p2 := price_mul (a := max (-n) 0) (b := h.sell) (by omega) (by omega) (by omega) (by omega)
 refine Spec.intro (fn := Tryz.f162) (N := 17) Tryz.func162 rfl Tryz.ntmps162 rfl fun B => ?_
 refine XK.seq (XK.region rfl ?_)
 refine XO.box rfl fun b2 => ?_
 refine XO.q (Q.assign rfl) (XO.done (XK.seq (XK.region rfl (XO.q (Q.move rfl) ?_))))
 refine XO.q (Q.max rfl rfl) ?_
 refine XO.q (Q.fieldAddr rfl) ?_
 refine XO.q (Q.ld rfl rfl) ?_
 refine XO.q (Q.mul rfl rfl ⟨by omega, by omega⟩) ?_
 refine XO.q (Q.move rfl) ?_
 refine XO.q (Q.neg rfl ⟨by omega, by omega⟩) ?_
 rw [show (0 : Int) - n = -n by omega]
 refine XO.q (Q.max rfl rfl) ?_
 refine XO.q (Q.fieldAddr rfl) ?_
 refine XO.q (Q.ld rfl rfl) ?_
 refine XO.q (Q.mul rfl rfl ⟨by omega, by omega⟩) ?_
 refine XO.q (Q.sub rfl rfl ⟨by omega, by omega⟩) ?_
 refine XO.q (Q.assign rfl) (XO.done ?_)
 refine XK.rt [] Tryz.func162 Tryz.results162 (.t rfl .n) ?_
 exact ⟨rfl, rfl⟩
end Go.X.Ma

set_option linter.unusedSimpArgs false
set_option linter.unusedVariables false
set_option maxRecDepth 20000
namespace Go.X.Ma
open Go.Proofs
theorem indexRows (v : Value) (h : PHeap) (us : List Value) [s : Arr v encV 1 h us] (K : PHeap) (rows : List (List Int)) (rk : RowsK us K rows) (gid : FuncId) (cap : List Value) (Hr : List PHeap) (p : List Int → Bool)
  (hc : ∀ args w, (callFunc gid args).run Tryz.prog w = .ok (.enter gid args) w) (hS : ∀ i, i < us.length → Spec Tryz.prog gid (us.getD i default :: cap).toArray [] (K :: Hr) (fun v hs => v = .bool (p (rows.getD i default)) ∧ hs = [])) :
  Spec Tryz.prog 90 #[v, .func (.func gid) #[] cap.toArray] [] (h :: K :: Hr) (fun v hs => v = .int .i64 (findFirst p rows) ∧ hs = []) := by
 have rl := rk.1
 refine Spec.intro (fn := Tryz.f90) (N := 19) Tryz.func90 rfl Tryz.ntmps90 rfl fun B => ?_
 refine XK.seq (XK.region rfl (XO.q (Q.assign rfl) (XO.done (XK.seq (XK.seq ?_)))))
 refine XK.region rfl (XO.q (Q.move rfl) ?_)
 refine XO.len rfl fun l7 => ?_
 refine XO.q (Q.move rfl) (XO.done (XK.block ?_))
 refine XK.while (X := Nat) [4, 5, 8, 9, 10, 11, 12, 13, 14, 15, 16, 17, 18] (fun i => [(8, some (.int .i64 (i : Nat)))]) (fun i => []) (fun i => i ≤ us.length ∧ (rows.take i).any p = false) (fun i => us.length - i) (0) [] rfl ⟨by omega, rfl⟩ (.c rfl (.base 0 rfl rfl)) ?_
 rintro i ⟨hi, ht⟩ ih0
 dsimp only [lcA, lnA] at ih0 ⊢
 refine XK.seq (XK.region rfl ?_)
 refine XO.q (Q.lss rfl rfl) ?_
 refine XO.done (XK.seq ?_)
 refine XK.if rfl (fun c0 => ?_) (fun c0 => ?_)
 ·skip
  refine XK.skip (XK.seq (XK.block (XK.seq (XK.region rfl (XO.q (Q.move rfl) ?_)))))
  refine XO.q (Q.assign rfl) (XO.done (XK.seq (XK.region rfl (XO.q (Q.move rfl) (XO.q (Q.move rfl) ?_)))))
  refine XO.q (Q.move rfl) ?_
  refine XO.ix rfl rfl (by omega) (by omega) fun i14 => ?_
  refine XO.q (Q.ldE rfl (by first | assumption | omega) rfl) ?_
  refine XO.call hc rfl rfl rfl (hS i (by omega)) fun v16 s16 R16 => ?_
  obtain ⟨rfl, rfl⟩ := R16
  dsimp only [lcA, lnA]
  refine XO.done ?_
  refine XK.if rfl (fun c1 => ?_) (fun c1 => ?_)
  ·skip
   refine XK.seq (XK.region rfl (XO.q (Q.move rfl) (XO.q (Q.assign rfl) (XO.done ?_))))
   refine XK.rt [] Tryz.func90 Tryz.results90 (.t rfl .n) ?_
   exact ⟨by rw [findFirst_here ht (by omega) c1], rfl⟩
  ·skip
   refine XK.skip ?_
   refine XK.inBlock ?_
   refine XK.region rfl ?_
   refine XO.q (Q.add rfl rfl ⟨by omega, by omega⟩) ?_
   refine XO.q (Q.move rfl) (XO.done ?_)
   exact ih0 (i + 1) _ _ ⟨by omega, any_step ht (by omega) (Bool.eq_false_iff.2 c1)⟩ (by first | omega | (dsimp only; omega)) (.c rfl (.base 25 rfl rfl)) inferInstance
 ·skip
  refine XK.exit rfl ?_
  refine XK.seq (XK.region rfl (XO.q (Q.assign rfl) (XO.done ?_)))
  refine XK.rt [] Tryz.func90 Tryz.results90 (.t rfl .n) ?_
  exact ⟨by rw [findFirst_none ht (by omega)], rfl⟩
theorem containsRows (v : Value) (h : PHeap) (us : List Value) [s : Arr v encV 1 h us] (K : PHeap) (rows : List (List Int)) (rk : RowsK us K rows) (gid : FuncId) (cap : List Value) (Hr : List PHeap) (p : List Int → Bool)
  (hc : ∀ args w, (callFunc gid args).run Tryz.prog w = .ok (.enter gid args) w) (hS : ∀ i, i < us.length → Spec Tryz.prog gid (us.getD i default :: cap).toArray [] (K :: Hr) (fun v hs => v = .bool (p (rows.getD i default)) ∧ hs = [])) :
  Spec Tryz.prog 36 #[v, .func (.func gid) #[] cap.toArray] [] (h :: K :: Hr) (fun v hs => v = .bool (rows.any p) ∧ hs = []) := by
 refine Spec.intro (fn := Tryz.f36) (N := 9) Tryz.func36 rfl Tryz.ntmps36 rfl fun B => ?_
 refine XK.seq (XK.region rfl (XO.q (Q.assign rfl) (XO.done (XK.seq (XK.region rfl ?_)))))
 refine XO.q (Q.move rfl) (XO.q (Q.move rfl) ?_)
 refine XO.call Tryz.call90 rfl rfl rfl (indexRows v h us K rows rk gid cap Hr p hc hS) fun v7 s7 R7 => ?_
 obtain ⟨rfl, rfl⟩ := R7
 dsimp only [lcA, lnA]
 refine XO.q (Q.geq rfl rfl) ?_
 refine XO.q (Q.assign rfl) (XO.done ?_)
 refine XK.rt [] Tryz.func36 Tryz.results36 (.t rfl .n) ?_
 exact ⟨by rw [← findFirst_any], rfl⟩
theorem form1 (p : KPlan) (vs vc : Value) (hs_ hc : PHeap) [js : Arr vs encI 1 hs_ p.starts] [jc : Arr vc encI 1 hc p.charge] (b : Nat) (x : Value) (K : PHeap) (xs : List Int) [ix : Arr x encI 1 K xs] : Spec Tryz.prog 149 #[x, ptr b 0] [] [K, blk b [vs, vc, .int .i64 p.cost] 118, hs_] (fun v hs => v = .bool (decide (xs = p.starts)) ∧ hs = []) := by
 refine Spec.intro (fn := Tryz.f149) (N := 8) Tryz.func149 rfl Tryz.ntmps149 rfl fun B => ?_
 refine XK.seq (XK.region rfl (XO.q (Q.assign rfl) (XO.done (XK.seq (XK.region rfl ?_)))))
 refine XO.q (Q.move rfl) ?_
 refine XO.q (Q.fieldAddr rfl) ?_
 refine XO.q (Q.ld rfl rfl) ?_
 refine XO.call Tryz.call35 rfl rfl rfl (equalI x vs K hs_ xs p.starts) fun v7 s7 R7 => ?_
 obtain ⟨rfl, rfl⟩ := R7
 dsimp only [lcA, lnA]
 refine XO.q (Q.assign rfl) (XO.done ?_)
 refine XK.rt [] Tryz.func149 Tryz.results149 (.t rfl .n) ?_
 exact ⟨rfl, rfl⟩
theorem okAt_bad {d : KDay} {p : KPlan} {i : Nat} (h : (((p.charge.getD i default < -d.store.power ∨ d.store.power < p.charge.getD i default) ∨ ¬ kin d.store.full [energyTo d p.charge i + p.charge.getD i default] = true) ∨ d.most < (needsL d p.starts).getD i default + p.charge.getD i default)) : okAt d (needsL d p.starts) p.charge i = false := by
 unfold okAt
 simp only [Bool.and_eq_false_iff, Bool.not_eq_false', decide_eq_true_eq]
 rcases h with ((h | h) | h) | h
 ·exact .inl (.inl (.inl h))
 ·exact .inl (.inl (.inr h))
 ·exact .inl (.inr (Bool.eq_false_iff.2 h))
 ·exact .inr h
theorem okAt_good {d : KDay} {p : KPlan} {i : Nat} (h : ¬ (((p.charge.getD i default < -d.store.power ∨ d.store.power < p.charge.getD i default) ∨ ¬ kin d.store.full [energyTo d p.charge i + p.charge.getD i default] = true) ∨ d.most < (needsL d p.starts).getD i default + p.charge.getD i default)) : okAt d (needsL d p.starts) p.charge i = true := by
 unfold okAt
 simp only [not_or, Classical.not_not] at h
 simp only [Bool.and_eq_true, Bool.not_eq_true', decide_eq_false_iff_not]
 exact ⟨⟨⟨h.1.1.1, h.1.1.2⟩, h.1.2⟩, h.2⟩
set_option maxHeartbeats 1000000 in
theorem form_spec (d : KDay) (vh vj : Value) (hh hj : PHeap) [ih : Arr vh encHour 6 hh d.hours] [ij : Arr vj encJob 4 hj d.jobs] (p : KPlan) (vs vc : Value) (hs_ hc : PHeap) [js : Arr vs encI 1 hs_ p.starts] [jc : Arr vc encI 1 hc p.charge] : Spec Tryz.prog 83 #[.agg #[vh, .int .i64 d.store.energy, .int .i64 d.store.full, .int .i64 d.store.power, .int .i64 d.store.fin, vj, .int .i64 d.most, .int .i64 d.peak], .agg #[vs, vc, .int .i64 p.cost]] [] [hh, hj, hs_, hc] (fun v hs => ∃ v1 k1, v = .tuple #[v1, .int .i64 (formG d p).2] ∧ hs = [k1] ∧ OArr v1 encI 1 3 k1 (formG d p).1) := by
 have lh := ih.le
 have lc := jc.le
 have nI : OArr (.slice none 0 0) encI 1 3 emp ([] : List Int) := OArr.nil (fun _ => rfl)
 refine Spec.intro (fn := Tryz.f83) (N := 90) Tryz.func83 rfl Tryz.ntmps83 rfl fun B => ?_
 refine XK.seq (XK.region rfl ?_)
 refine XO.box rfl fun b2 => ?_
 refine XO.box rfl fun b3 => ?_
 refine XO.q (Q.assign rfl) (XO.q (Q.assign rfl) (XO.done (XK.seq (XK.seq (XK.region rfl ?_)))))
 refine XO.q (Q.ldA [_, _, _, _, _, _, _, _] rfl rfl rfl) ?_
 refine XO.call Tryz.call144 rfl rfl rfl (Check_spec d vh vj hh hj) fun v12 s12 R12 => ?_
 obtain ⟨rfl, rfl⟩ := R12
 dsimp only [lcA, lnA]
 refine XO.q (Q.assign rfl) (XO.done (XK.seq (XK.region rfl (XO.q (Q.move rfl) ?_))))
 refine XO.q (Q.neq rfl rfl) ?_
 refine XO.done ?_
 refine XK.if rfl (fun c0 => ?_) (fun c0 => ?_)
 ·skip
  refine XK.seq (XK.region rfl (XO.q (Q.move rfl) (XO.q (Q.assign rfl) (XO.q (Q.assign rfl) (XO.done ?_)))))
  refine XK.rt [emp] Tryz.func83 Tryz.results83 (.t rfl (.t rfl .n)) ?_
  have e : formG d p = ([], kcheck d) := by rw [formG, if_pos c0]
  rw [e]
  exact ⟨.slice none 0 0, emp, rfl, rfl, nI⟩
 ·skip
  have ok := kcheck_iff.1 (Decidable.of_not_not c0)
  have st := ok.store
  have s1 := st.f0
  have s2 := st.f1
  have s3 := st.p0
  have s4 := st.p1
  have s5 := st.e0
  have s6 := st.e1
  refine XK.skip (XK.seq (XK.seq (XK.region rfl ?_)))
  refine XO.q (Q.ldA [_, _, _, _, _, _, _, _] rfl rfl rfl) ?_
  refine XO.call Tryz.call145 rfl rfl rfl (starts_spec d vh vj hh hj ok) fun v17 s17 R17 => ?_
  obtain ⟨ho, us, K, rfl, OO, RO⟩ := R17
  dsimp only [lcA, lnA]
  refine XO.q (Q.func (fun _ he => rfl) (fun _ he => evs_rel he rfl)) ?_
  refine XO.call Tryz.call36 rfl rfl rfl (containsRows v17 ho us K (startsL d) RO 149 [ptr b3 0] [blk b3 [vs, vc, .int .i64 p.cost] 118, hs_] (fun l => decide (l = p.starts)) Tryz.call149 (fun i hi => by haveI := RO.2 i hi; exact form1 p vs vc hs_ hc b3 (us.getD i default) K ((startsL d).getD i default))) fun v19 s19 R19 => ?_
  obtain ⟨rfl, rfl⟩ := R19
  dsimp only [lcA, lnA]
  refine XO.q (Q.not rfl) ?_
  refine XO.q (Q.move rfl) ?_
  refine XO.q (Quiet.guardF rfl rfl fun g22 p22 => Q.fieldAddr rfl) ?_
  refine XO.q (Quiet.guardF rfl rfl fun g23 p23 => Q.ld (lzv g23 rfl) rfl) ?_
  refine XO.q (Quiet.guardF rfl rfl fun g24 p24 => Q.len (lzv g24 rfl)) ?_
  refine XO.q (Quiet.guardF rfl rfl fun g25 p25 => Q.fieldAddr rfl) ?_
  refine XO.q (Quiet.guardF rfl rfl fun g26 p26 => Q.ld (lzv g26 rfl) rfl) ?_
  refine XO.q (Quiet.guardF rfl rfl fun g27 p27 => Q.len (lzv g27 rfl)) ?_
  refine XO.q (Quiet.guardF rfl rfl fun g28 p28 => Q.neq (lzv g28 rfl) (lzv g28 rfl)) ?_
  refine XO.q (Q.or rfl (fun hp => lzv hp rfl)) ?_
  refine XO.done ?_
  refine XK.if rfl (fun c1 => ?_) (fun c1 => ?_)
  ·skip
   refine XK.seq (XK.region rfl (XO.q (Q.assign rfl) (XO.q (Q.assign rfl) (XO.done ?_))))
   refine XK.rt [emp] Tryz.func83 Tryz.results83 (.t rfl (.t rfl .n)) ?_
   have e : formG d p = ([], 1) := by rw [formG, if_neg c0, if_pos c1]
   rw [e]
   exact ⟨.slice none 0 0, emp, rfl, rfl, nI⟩
  ·skip
   have c1a : (startsL d).any (fun l => decide (l = p.starts)) = true := Decidable.of_not_not fun h => c1 (.inl h)
   have so := starts_any c1a
   have cl : p.charge.length = d.hours.length := by have := fun h => c1 (.inr h); omega
   refine XK.skip (XK.seq (XK.region rfl ?_))
   refine XO.q (Q.ldA [_, _, _, _, _, _, _, _] rfl rfl rfl) ?_
   refine XO.q (Q.fieldAddr rfl) ?_
   refine XO.q (Q.ld rfl rfl) ?_
   refine XO.call Tryz.call150 rfl rfl rfl (needs_spec d vh vj hh hj p.starts vs hs_ ok so) fun v33 s33 R33 => ?_
   obtain ⟨kb, rfl, OB⟩ := R33
   dsimp only [lcA, lnA]
   refine XO.q (Q.assign rfl) (XO.done (XK.seq (XK.region rfl ?_)))
   refine XO.q (Q.fieldAddr rfl) ?_
   refine XO.q (Q.fieldAddr rfl) ?_
   refine XO.q (Q.ld rfl rfl) ?_
   refine XO.q (Q.assign rfl) (XO.done (XK.seq (XK.seq (XK.region rfl ?_))))
   refine XO.q (Q.fieldAddr rfl) ?_
   refine XO.q (Q.ld rfl rfl) ?_
   refine XO.len rfl fun l39 => ?_
   refine XO.q (Q.move rfl) (XO.done (XK.block ?_))
   refine XK.while (X := Nat) [4, 5, 8, 9, 10, 40, 41, 42, 43, 44, 45, 46, 47, 48, 49, 50, 51, 52, 53, 54, 55, 56, 57, 58, 59, 60, 61, 62, 63, 64, 65, 66, 67, 68, 69, 70, 71, 72, 73, 74, 75, 76, 77, 78, 79, 80, 81, 82, 83] (fun i => [(8, some (.int .i64 (energyTo d p.charge i))), (40, some (.int .i64 (i : Nat)))]) (fun i => []) (fun i => i ≤ p.charge.length ∧ allTo (okAt d (needsL d p.starts) p.charge) i = true ∧ 0 ≤ energyTo d p.charge i ∧ energyTo d p.charge i ≤ d.store.full) (fun i => p.charge.length - i) (0) [] rfl ⟨by omega, rfl, s5, s6⟩ (.c rfl (.c rfl (.base 0 rfl rfl))) ?_
   rintro i ⟨hi, ha, e0, e1⟩ ih0
   dsimp only [lcA, lnA] at ih0 ⊢
   refine XK.seq (XK.region rfl ?_)
   refine XO.q (Q.lss rfl rfl) ?_
   refine XO.done (XK.seq ?_)
   refine XK.if rfl (fun c2 => ?_) (fun c2 => ?_)
   ·skip
    have nr := needs_rng ok p.starts (show i < d.hours.length by omega)
    have nl := needsL_len d p.starts
    refine XK.skip (XK.seq (XK.block (XK.seq (XK.region rfl (XO.q (Q.move rfl) ?_)))))
    refine XO.ix rfl rfl (by omega) (by omega) fun i43 => ?_
    refine XO.q (Q.ldE rfl (by first | assumption | omega) rfl) ?_
    refine XO.q (Q.assign rfl) (XO.q (Q.assign rfl) (XO.done (XK.seq (XK.seq ?_))))
    refine XK.drawn [0, 1, 2, 3, 4, 5, 6, 7, 8, 9, 10, 11, 12, 13, 14, 15, 16, 17, 18, 19, 22, 23, 24, 25, 26, 27, 28, 29, 30, 31, 32, 33, 34] [b2] [kb] (.q 0 (.q 1 (.q 2 (.q 3 (.q 4 (.q 5 (.q 6 (.q 7 (.q 8 (.q 9 (.q 10 (.q 11 (.q 12 (.q 13 (.q 14 (.q 15 (.q 16 (.q 17 (.q 18 (.q 19 (.br 20 true (.br 21 true (.q 22 (.q 23 (.q 24 (.q 25 (.q 26 (.q 27 (.q 28 (.q 29 (.q 30 (.q 31 (.q 32 (.q 33 (.q 34 .done))))))))))))) .stop) .stop))))))))))))))))))))) Tryz.mixed rfl (by kernel_rfl) ?_
    refine XT.q rfl rfl (Q.move rfl) ?_
    refine XT.q rfl rfl (Q.fieldAddr rfl) ?_
    refine XT.q rfl rfl (Q.fieldAddr rfl) ?_
    refine XT.q rfl rfl (Q.ld rfl rfl) ?_
    refine XT.q rfl rfl (Q.neg rfl ⟨by omega, by omega⟩) ?_
    rw [show (0 : Int) - d.store.power = -d.store.power by omega]
    refine XT.q rfl rfl (Q.lss rfl rfl) ?_
    refine XT.q rfl rfl (Q.move rfl) ?_
    refine XT.q rfl rfl (Quiet.guardF rfl rfl fun g52 p52 => Q.move rfl) ?_
    refine XT.q rfl rfl (Quiet.guardF rfl rfl fun g53 p53 => Q.fieldAddr rfl) ?_
    refine XT.q rfl rfl (Quiet.guardF rfl rfl fun g54 p54 => Q.fieldAddr (lzv g54 rfl)) ?_
    refine XT.q rfl rfl (Quiet.guardF rfl rfl fun g55 p55 => Q.ld (lzv g55 rfl) rfl) ?_
    refine XT.q rfl rfl (Quiet.guardF rfl rfl fun g56 p56 => Q.gtr (lzv g56 rfl) (lzv g56 rfl)) ?_
    refine XT.q rfl rfl (Q.or rfl (fun hp => lzv hp rfl)) ?_
    refine XT.q rfl rfl (Q.move rfl) ?_
    refine XT.q rfl rfl (Quiet.guardF rfl rfl fun g59 p59 => Q.fieldAddr rfl) ?_
    refine XT.q rfl rfl (Quiet.guardF rfl rfl fun g60 p60 => Q.fieldAddr (lzv g60 rfl)) ?_
    refine XT.q rfl rfl (Quiet.guardF rfl rfl fun g61 p61 => Q.ld (lzv g61 rfl) rfl) ?_
    refine XT.q rfl rfl (Quiet.guardF rfl rfl fun g62 p62 => Q.move rfl) ?_
    refine XT.q rfl rfl (Quiet.guardF rfl rfl fun g63 p63 => Q.move rfl) ?_
    refine XT.q rfl rfl (Quiet.guardF rfl rfl fun g64 p64 => Q.add (lzv g64 rfl) (lzv g64 rfl) (by have q := p64; exact ⟨by omega, by omega⟩)) ?_
    refine XT.lit1 [_] [_] [energyTo d p.charge i + (p.charge.getD i default)] encI rfl rfl rfl rfl (by rfl) (by rfl) rfl (by rfl) (fun g65 => by exact .c 0 1 (lzv g65 rfl) rfl rfl (.n _)) (fun _ => rfl) (by rfl) rfl (fun _ => by infer_instance) rfl (fun v65 h65 O65 => ⟨inferInstance, ?_⟩) XT.stop
    refine XT.gcallF rfl rfl rfl rfl Tryz.call151 rfl (fun g66 => .c (lzv g66 rfl) (.c (lzv g66 rfl) .n)) rfl (fun g66 p66 => by haveI := O65 g66; exact kin_spec d.store.full v65 h65 [energyTo d p.charge i + (p.charge.getD i default)]) ⟨inferInstance, ?_⟩ XT.stop
    refine XT.q rfl rfl (Quiet.guardF rfl rfl fun g67 p67 => Q.not (lzv g67 rfl)) ?_
    refine XT.q rfl rfl (Q.or rfl (fun hp => lzv hp rfl)) ?_
    refine XT.q rfl rfl (Q.move rfl) ?_
    refine XT.q rfl rfl (Quiet.guardF rfl rfl fun g70 p70 => Q.move rfl) ?_
    refine XT.q rfl rfl (Quiet.guardF rfl rfl fun g71 p71 => Q.move rfl) ?_
    refine XT.q rfl rfl (Quiet.guardF rfl rfl fun g72 p72 => Q.ix (lzv g72 rfl) (lzv g72 rfl) (by omega) (by omega)) ?_
    refine XT.q rfl rfl (Quiet.guardF rfl rfl fun g73 p73 => Q.ldE (lzv g73 rfl) (by first | assumption | omega) rfl) ?_
    refine XT.q rfl rfl (Quiet.guardF rfl rfl fun g74 p74 => Q.move rfl) ?_
    refine XT.q rfl rfl (Quiet.guardF rfl rfl fun g75 p75 => Q.add (lzv g75 rfl) (lzv g75 rfl) (by have q := p75; exact ⟨by omega, by omega⟩)) ?_
    refine XT.q rfl rfl (Quiet.guardF rfl rfl fun g76 p76 => Q.fieldAddr rfl) ?_
    refine XT.q rfl rfl (Quiet.guardF rfl rfl fun g77 p77 => Q.ld (lzv g77 rfl) rfl) ?_
    refine XT.q rfl rfl (Quiet.guardF rfl rfl fun g78 p78 => Q.gtr (lzv g78 rfl) (lzv g78 rfl)) ?_
    refine XT.q rfl rfl (Q.or rfl (fun hp => lzv hp rfl)) ?_
    refine XT.done ?_
    refine XK.if rfl (fun c3 => ?_) (fun c3 => ?_)
    ·skip
     refine XK.seq (XK.region rfl (XO.q (Q.assign rfl) (XO.q (Q.assign rfl) (XO.done ?_))))
     refine XK.rt [emp] Tryz.func83 Tryz.results83 (.t rfl (.t rfl .n)) ?_
     have e : formG d p = ([], 120) := by rw [formG, if_neg c0, if_neg c1, if_pos (by rw [allTo_false (s := i) (by omega) (okAt_bad c3)]; decide)]
     rw [e]
     exact ⟨.slice none 0 0, emp, rfl, rfl, nI⟩
    ·skip
     have good := okAt_good c3
     have c3b := c3
     simp only [not_or, Classical.not_not] at c3b
     have k1 := kin_one.1 c3b.1.2
     refine XK.skip (XK.region rfl (XO.q (Q.move rfl) (XO.q (Q.move rfl) ?_)))
     refine XO.q (Q.add rfl rfl ⟨by omega, by omega⟩) ?_
     refine XO.q (Q.assign rfl) (XO.done ?_)
     refine XK.inBlock ?_
     refine XK.region rfl ?_
     refine XO.q (Q.add rfl rfl ⟨by omega, by omega⟩) ?_
     refine XO.q (Q.move rfl) (XO.done ?_)
     exact ih0 (i + 1) _ _ ⟨by omega, by rw [allTo_succ, ha, good]; rfl, by rw [energyTo]; omega, by rw [energyTo]; omega⟩ (by first | omega | (dsimp only; omega)) (.c rfl (.c rfl (.base 98 rfl rfl))) inferInstance
   ·skip
    have hin : i = p.charge.length := by omega
    subst hin
    refine XK.exit rfl ?_
    refine XK.seq (XK.seq (XK.region rfl (XO.q (Q.move rfl) ?_)))
    refine XO.q (Q.fieldAddr rfl) ?_
    refine XO.q (Q.fieldAddr rfl) ?_
    refine XO.q (Q.ld rfl rfl) ?_
    refine XO.q (Q.lss rfl rfl) ?_
    refine XO.done ?_
    refine XK.if rfl (fun c4 => ?_) (fun c4 => ?_)
    ·skip
     refine XK.seq (XK.region rfl (XO.q (Q.assign rfl) (XO.q (Q.assign rfl) (XO.done ?_))))
     refine XK.rt [emp] Tryz.func83 Tryz.results83 (.t rfl (.t rfl .n)) ?_
     have e : formG d p = ([], 120) := by rw [formG, if_neg c0, if_neg c1, if_neg (fun h => h ha), if_pos c4]
     rw [e]
     exact ⟨.slice none 0 0, emp, rfl, rfl, nI⟩
    ·skip
     refine XK.skip (XK.seq (XK.region rfl (XO.q (Q.move rfl) (XO.q (Q.assign rfl) (XO.q (Q.assign rfl) ?_)))))
     refine XO.done ?_
     refine XK.rt [kb] Tryz.func83 Tryz.results83 (.t rfl (.t rfl .n)) ?_
     have e : formG d p = (needsL d p.starts, 0) := by rw [formG, if_neg c0, if_neg c1, if_neg (fun h => h ha), if_neg c4]
     rw [e]
     exact ⟨v33, kb, rfl, rfl, OB⟩
theorem cost_rng {d : KDay} {base ch : List Int} (hok : ∀ i, i < d.hours.length → HourOk (d.hours.getD i default)) (hl : ch.length ≤ d.hours.length) (hr : ∀ i, i < ch.length → -1000 ≤ base.getD i default + ch.getD i default ∧ base.getD i default + ch.getD i default ≤ 1000) : ∀ i, i ≤ ch.length → (-(1000000 * (i : Int)) ≤ costTo d base ch i ∧ costTo d base ch i ≤ 1000000 * i) ∧ 0 ≤ peakTo base ch i ∧ peakTo base ch i ≤ 1000
 | 0, _ => by simp [costTo, peakTo]
 | i + 1, hi => by
  have h := cost_rng hok hl hr i (by omega)
  have r := hr i (by omega)
  have p := price_rng (hok i (by omega)) r.1 r.2
  rw [costTo, peakTo]
  omega
theorem cost_spec (d : KDay) (vh vj : Value) (hh hj : PHeap) [ih : Arr vh encHour 6 hh d.hours] [ij : Arr vj encJob 4 hj d.jobs] (base : List Int) (vb : Value) (hb : PHeap) [jb : Arr vb encI 1 hb base] (ch : List Int) (vc : Value) (hc : PHeap) [jc : Arr vc encI 1 hc ch] (ok : DayOk d) (hl : ch.length = d.hours.length) (hbl : base.length = d.hours.length) (hr : ∀ i, i < ch.length → (-1000 ≤ base.getD i default ∧ base.getD i default ≤ 1000) ∧ (-1000 ≤ ch.getD i default ∧ ch.getD i default ≤ 1000) ∧ -1000 ≤ base.getD i default + ch.getD i default ∧ base.getD i default + ch.getD i default ≤ 1000) :
  Spec Tryz.prog 105 #[.agg #[vh, .int .i64 d.store.energy, .int .i64 d.store.full, .int .i64 d.store.power, .int .i64 d.store.fin, vj, .int .i64 d.most, .int .i64 d.peak], vb, vc] [] [hh, hj, hb, hc] (fun v hs => v = .int .i64 (costL d base ch) ∧ hs = []) := by
 have lh := ih.le
 have h24 := ok.h2
 have cr := cost_rng ok.hour (by omega) (fun i hi => (hr i hi).2.2)
 have pk0 := ok.p0
 have pk1 := ok.p1
 refine Spec.intro (fn := Tryz.f105) (N := 47) Tryz.func105 rfl Tryz.ntmps105 rfl fun B => ?_
 refine XK.seq (XK.region rfl ?_)
 refine XO.box rfl fun b3 => ?_
 refine XO.q (Q.assign rfl) (XO.done (XK.seq (XK.region rfl (XO.q (Q.assign rfl) (XO.q (Q.assign rfl) ?_)))))
 refine XO.done (XK.seq (XK.seq (XK.region rfl (XO.q (Q.move rfl) ?_))))
 refine XO.len rfl fun l12 => ?_
 refine XO.q (Q.move rfl) (XO.done (XK.block ?_))
 refine XK.while (X := Nat) [7, 8, 9, 10, 13, 14, 15, 16, 17, 18, 19, 20, 21, 22, 23, 24, 25, 26, 27, 28, 29, 30, 31, 32, 33, 34, 35, 36, 37, 38, 39, 40] (fun i => [(7, some (.int .i64 (costTo d base ch i))), (8, some (.int .i64 (peakTo base ch i))), (13, some (.int .i64 (i : Nat)))]) (fun i => []) (fun i => i ≤ ch.length) (fun i => ch.length - i) (0) [] rfl (by omega) (.c rfl (.c rfl (.c rfl (.base 0 rfl rfl)))) ?_
 rintro i hi ih0
 dsimp only [lcA, lnA] at ih0 ⊢
 refine XK.seq (XK.region rfl ?_)
 refine XO.q (Q.lss rfl rfl) ?_
 refine XO.done (XK.seq ?_)
 refine XK.if rfl (fun c0 => ?_) (fun c0 => ?_)
 ·skip
  have ri := hr i (by omega)
  have ci := cr i (by omega)
  have pi := price_rng (ok.hour i (by omega)) ri.2.2.1 ri.2.2.2
  refine XK.skip (XK.seq (XK.block (XK.seq (XK.region rfl (XO.q (Q.move rfl) ?_)))))
  refine XO.ix rfl rfl (by omega) (by omega) fun i16 => ?_
  refine XO.q (Q.ldE rfl (by first | assumption | omega) rfl) ?_
  refine XO.q (Q.assign rfl) (XO.q (Q.assign rfl) (XO.done (XK.seq ?_)))
  refine XK.drawn [0, 1, 2, 3, 4, 5, 6, 7, 8, 9, 10, 11, 13, 14] [b3] [] (.q 0 (.q 1 (.q 2 (.q 3 (.q 4 (.q 5 (.q 6 (.q 7 (.q 8 (.q 9 (.q 10 (.q 11 (.br 12 true (.q 13 (.q 14 .done)) .stop))))))))))))) Tryz.mixed rfl (by kernel_rfl) ?_
  refine XT.q rfl rfl (Q.move rfl) ?_
  refine XT.q rfl rfl (Q.fieldAddr rfl) ?_
  refine XT.q rfl rfl (Q.ld rfl rfl) ?_
  refine XT.q rfl rfl (Q.move rfl) ?_
  refine XT.ix rfl rfl rfl rfl (by omega) (by omega) fun i22 => ?_
  refine XT.q rfl rfl (Q.ldEA [_, _, _, _, _, _] rfl (by first | assumption | omega) rfl rfl) ?_
  refine XT.q rfl rfl (Q.move rfl) ?_
  refine XT.q rfl rfl (Q.move rfl) ?_
  refine XT.ix rfl rfl rfl rfl (by omega) (by omega) fun i26 => ?_
  refine XT.q rfl rfl (Q.ldE rfl (by first | assumption | omega) rfl) ?_
  refine XT.q rfl rfl (Q.move rfl) ?_
  refine XT.q rfl rfl (Q.add rfl rfl ⟨by omega, by omega⟩) ?_
  refine XT.call rfl rfl Tryz.call162 rfl rfl rfl (price_spec (d.hours.getD i default) (ok.hour i (by omega)) (base.getD i default + ch.getD i default) (by omega) (by omega)) (fun v30 s30 R30 => ?_) XT.stop
  obtain ⟨rfl, rfl⟩ := R30
  dsimp only [lcA, lnA]
  refine ⟨inferInstance, ?_⟩
  refine XT.q rfl rfl (Q.add rfl rfl ⟨by omega, by omega⟩) ?_
  refine XT.q rfl rfl (Q.assign rfl) ?_
  refine XT.done ?_
  refine XK.region rfl (XO.q (Q.move rfl) (XO.q (Q.move rfl) (XO.q (Q.move rfl) ?_)))
  refine XO.ix rfl rfl (by omega) (by omega) fun i35 => ?_
  refine XO.q (Q.ldE rfl (by first | assumption | omega) rfl) ?_
  refine XO.q (Q.move rfl) ?_
  refine XO.q (Q.add rfl rfl ⟨by omega, by omega⟩) ?_
  refine XO.q (Q.max rfl rfl) ?_
  refine XO.q (Q.assign rfl) (XO.done ?_)
  refine XK.inBlock ?_
  refine XK.region rfl ?_
  refine XO.q (Q.add rfl rfl ⟨by omega, by omega⟩) ?_
  refine XO.q (Q.move rfl) (XO.done ?_)
  exact ih0 (i + 1) _ _ (by omega) (by first | omega | (dsimp only; omega)) (.c rfl (.c rfl (.c rfl (.base 67 rfl rfl)))) inferInstance
 ·skip
  have hin : i = ch.length := by omega
  subst hin
  have ci := cr ch.length (Nat.le_refl _)
  have pm := price_mul (a := d.peak) (b := peakTo base ch ch.length) pk0 pk1 ci.2.1 ci.2.2
  refine XK.exit rfl ?_
  refine XK.seq (XK.region rfl (XO.q (Q.move rfl) ?_))
  refine XO.q (Q.fieldAddr rfl) ?_
  refine XO.q (Q.ld rfl rfl) ?_
  refine XO.q (Q.move rfl) ?_
  refine XO.q (Q.mul rfl rfl ⟨by omega, by omega⟩) ?_
  refine XO.q (Q.add rfl rfl ⟨by omega, by omega⟩) ?_
  refine XO.q (Q.assign rfl) (XO.done ?_)
  refine XK.rt [] Tryz.func105 Tryz.results105 (.t rfl .n) ?_
  exact ⟨rfl, rfl⟩
theorem form_fine {d : KDay} {p : KPlan} (h : (formG d p).2 = 0) : DayOk d ∧ SOk d p.starts ∧ (startsL d).any (fun l => decide (l = p.starts)) = true ∧ p.charge.length = d.hours.length ∧ allTo (okAt d (needsL d p.starts) p.charge) p.charge.length = true ∧ d.store.fin ≤ energyTo d p.charge p.charge.length ∧ (formG d p).1 = needsL d p.starts := by
 unfold formG at h ⊢
 split at h
 ·rename_i h0; exact absurd h h0
 ·rename_i h0
  rw [if_neg h0]
  split at h
  ·cases h
  ·rename_i h1
   rw [if_neg h1]
   split at h
   ·cases h
   ·rename_i h2
    rw [if_neg h2]
    split at h
    ·cases h
    ·rename_i h3
     rw [if_neg h3]
     have c1a : (startsL d).any (fun l => decide (l = p.starts)) = true := Decidable.of_not_not fun h => h1 (.inl h)
     exact ⟨kcheck_iff.1 (Decidable.of_not_not h0), starts_any c1a, c1a, (by have := fun h => h1 (.inr h); omega), Decidable.of_not_not h2, by omega, rfl⟩
theorem okAt_iff {d : KDay} {base ch : List Int} {i : Nat} : okAt d base ch i = true ↔ (-d.store.power ≤ ch.getD i default ∧ ch.getD i default ≤ d.store.power) ∧ (0 ≤ energyTo d ch i + ch.getD i default ∧ energyTo d ch i + ch.getD i default ≤ d.store.full) ∧ base.getD i default + ch.getD i default ≤ d.most := by
 unfold okAt
 simp only [Bool.and_eq_true, Bool.not_eq_true', decide_eq_false_iff_not]
 rw [kin_one]
 omega
theorem form_rng {d : KDay} {p : KPlan} (h : (formG d p).2 = 0) : ∀ i, i < p.charge.length → ((formG d p).1.length = d.hours.length) ∧ (-1000 ≤ (formG d p).1.getD i default ∧ (formG d p).1.getD i default ≤ 1000) ∧ (-1000 ≤ p.charge.getD i default ∧ p.charge.getD i default ≤ 1000) ∧ -1000 ≤ (formG d p).1.getD i default + p.charge.getD i default ∧ (formG d p).1.getD i default + p.charge.getD i default ≤ 1000 := fun i hi => by
 obtain ⟨ok, so, _, hl, ha, _, e⟩ := form_fine h
 have nr := needs_rng ok p.starts (show i < d.hours.length by omega)
 have oi := okAt_iff.1 (allTo_at ha hi)
 have s3 := ok.store.p0; have s4 := ok.store.p1
 rw [e]
 exact ⟨needsL_len d _, by omega, by omega, by omega, by omega⟩
theorem Cost_spec (d : KDay) (vh vj : Value) (hh hj : PHeap) [ih : Arr vh encHour 6 hh d.hours] [ij : Arr vj encJob 4 hj d.jobs] (p : KPlan) (vs vc : Value) (hs_ hc : PHeap) [js : Arr vs encI 1 hs_ p.starts] [jc : Arr vc encI 1 hc p.charge] : Spec Tryz.prog 48 #[.agg #[vh, .int .i64 d.store.energy, .int .i64 d.store.full, .int .i64 d.store.power, .int .i64 d.store.fin, vj, .int .i64 d.most, .int .i64 d.peak], .agg #[vs, vc, .int .i64 p.cost]] [] [hh, hj, hs_, hc] (fun v hs => v = .tuple #[.int .i64 (costG d p).1, .int .i64 (costG d p).2] ∧ hs = []) := by
 refine Spec.intro (fn := Tryz.f48) (N := 22) Tryz.func48 rfl Tryz.ntmps48 rfl fun B => ?_
 refine XK.seq (XK.region rfl ?_)
 refine XO.box rfl fun b2 => ?_
 refine XO.box rfl fun b3 => ?_
 refine XO.q (Q.assign rfl) (XO.q (Q.assign rfl) (XO.done (XK.seq (XK.region rfl ?_))))
 refine XO.q (Q.ldA [_, _, _, _, _, _, _, _] rfl rfl rfl) ?_
 refine XO.q (Q.ldA [_, _, _] rfl rfl rfl) ?_
 refine XO.call Tryz.call83 rfl rfl rfl (form_spec d vh vj hh hj p vs vc hs_ hc) fun v11 s11 R11 => ?_
 obtain ⟨v1, k1, rfl, rfl, O1⟩ := R11
 dsimp only [lcA, lnA]
 refine XO.q (Q.move rfl) ?_
 refine XO.q (Q.extract rfl rfl) ?_
 refine XO.q (Q.extract rfl rfl) ?_
 refine XO.q (Q.assign rfl) (XO.q (Q.assign rfl) (XO.done (XK.seq (XK.seq (XK.region rfl ?_)))))
 refine XO.q (Q.move rfl) ?_
 refine XO.q (Q.neq rfl rfl) ?_
 refine XO.done ?_
 refine XK.if rfl (fun c0 => ?_) (fun c0 => ?_)
 ·skip
  refine XK.seq (XK.region rfl (XO.q (Q.move rfl) (XO.q (Q.assign rfl) (XO.q (Q.assign rfl) (XO.done ?_)))))
  refine XK.rt [] Tryz.func48 Tryz.results48 (.t rfl (.t rfl .n)) ?_
  exact ⟨by rw [costG, if_pos c0], rfl⟩
 ·skip
  have e0 := Decidable.of_not_not c0
  have ff := form_fine e0
  refine XK.skip (XK.seq (XK.region rfl ?_))
  refine XO.q (Q.ldA [_, _, _, _, _, _, _, _] rfl rfl rfl) ?_
  refine XO.q (Q.move rfl) ?_
  refine XO.q (Q.fieldAddr rfl) ?_
  refine XO.q (Q.ld rfl rfl) ?_
  refine XO.call Tryz.call105 rfl rfl rfl (cost_spec d vh vj hh hj (formG d p).1 v1 k1 p.charge vc hc ff.1 ff.2.2.2.1 (by rw [ff.2.2.2.2.2.2]; exact needsL_len d _) (fun i hi => (form_rng e0 i hi).2)) fun v21 s21 R21 => ?_
  obtain ⟨rfl, rfl⟩ := R21
  dsimp only [lcA, lnA]
  refine XO.q (Q.assign rfl) (XO.q (Q.assign rfl) (XO.done ?_))
  refine XK.rt [] Tryz.func48 Tryz.results48 (.t rfl (.t rfl .n)) ?_
  exact ⟨by rw [costG, if_neg c0], rfl⟩
end Go.X.Ma

set_option linter.unusedSimpArgs false
set_option linter.unusedVariables false
set_option maxRecDepth 20000
namespace Go.X.Me
open Go.Proofs
def encNode (x : MNode) : List Value := [.int .i64 x.up, .int .i64 x.low, .int .i64 x.high]
theorem cloneI (v : Value) (h : PHeap) (xs : List Int) [s : Arr v encI 1 h xs] (hl : xs.length ≤ 68719476736) :
  Spec Tryz.prog 59 #[v] [] [h] (fun v' hs => ∃ h', hs = [h'] ∧ OArr v' encI 1 3 h' xs) := by apply Go.X.Bk.cloneI <;> assumption
theorem equalI (v1 v2 : Value) (h1 h2 : PHeap) (xs ys : List Int) [s1 : Arr v1 encI 1 h1 xs] [s2 : Arr v2 encI 1 h2 ys] :
  Spec Tryz.prog 35 #[v1, v2] [] [h1, h2] (fun v hs => v = .bool (decide (xs = ys)) ∧ hs = []) := by apply Go.X.Bk.equalI <;> assumption
theorem indexFuncI (v : Value) (h : PHeap) (xs : List Int) [s : Arr v encI 1 h xs] (gid : FuncId) (cap : List Value) (Hr : List PHeap) (p : Int → Bool)
  (hc : ∀ args w, (callFunc gid args).run Tryz.prog w = .ok (.enter gid args) w) (hS : ∀ x ∈ xs, Spec Tryz.prog gid (.int .i64 x :: cap).toArray [] Hr (fun v hs => v = .bool (p x) ∧ hs = [])) :
  Spec Tryz.prog 159 #[v, .func (.func gid) #[] cap.toArray] [] (h :: Hr) (fun v hs => v = .int .i64 (findFirst p xs) ∧ hs = []) := by apply Go.X.Bk.indexFuncI <;> assumption
theorem containsFuncI (v : Value) (h : PHeap) (xs : List Int) [s : Arr v encI 1 h xs] (gid : FuncId) (cap : List Value) (Hr : List PHeap) (p : Int → Bool)
  (hc : ∀ args w, (callFunc gid args).run Tryz.prog w = .ok (.enter gid args) w) (hS : ∀ x ∈ xs, Spec Tryz.prog gid (.int .i64 x :: cap).toArray [] Hr (fun v hs => v = .bool (p x) ∧ hs = [])) :
  Spec Tryz.prog 97 #[v, .func (.func gid) #[] cap.toArray] [] (h :: Hr) (fun v hs => v = .bool (xs.any p) ∧ hs = []) := by apply Go.X.Bk.containsFuncI <;> assumption
theorem in1 (b : Nat) (m x : Int) : Spec Tryz.prog 158 #[.int .i64 x, ptr b 0] [] [blk b [.int .i64 m] 3] (fun v hs => v = .bool (outP m x) ∧ hs = []) := by
 refine Spec.intro (fn := Tryz.f158) (N := 11) Tryz.func158 rfl Tryz.ntmps158 rfl fun B => ?_
 refine XK.seq (XK.region rfl (XO.q (Q.assign rfl) (XO.done (XK.seq (XK.region rfl ?_)))))
 refine XO.q (Q.move rfl) ?_
 refine XO.q (Q.lss rfl rfl) ?_
 refine XO.q (Q.move rfl) ?_
 refine XO.q (Quiet.guardF rfl rfl fun g7 p7 => Q.move rfl) ?_
 refine XO.q (Quiet.guardF rfl rfl fun g8 p8 => Q.ld rfl rfl) ?_
 refine XO.q (Quiet.guardF rfl rfl fun g9 p9 => Q.gtr (lzv g9 rfl) (lzv g9 rfl)) ?_
 refine XO.q (Q.or rfl (fun hp => lzv hp rfl)) ?_
 refine XO.q (Q.assign rfl) (XO.done ?_)
 refine XK.rt [] Tryz.func158 Tryz.results158 (.t rfl .n) ?_
 exact ⟨rfl, rfl⟩
theorem in_spec11 (m : Int) (v : Value) (h : PHeap) (xs : List Int) [s : Arr v encI 1 h xs] : Spec Tryz.prog 95 #[.int .i64 m, v] [] [h] (fun v hs => v = .bool (inA m xs) ∧ hs = []) := by
 refine Spec.intro (fn := Tryz.f95) (N := 9) Tryz.func95 rfl Tryz.ntmps95 rfl fun B => ?_
 refine XK.seq (XK.region rfl ?_)
 refine XO.box rfl fun b2 => ?_
 refine XO.q (Q.assign rfl) (XO.done (XK.seq (XK.region rfl (XO.q (Q.move rfl) ?_))))
 refine XO.q (Q.func (fun _ he => rfl) (fun _ he => evs_rel he rfl)) ?_
 refine XO.call Tryz.call97 rfl rfl rfl (containsFuncI v h xs 158 [ptr b2 0] [blk b2 [.int .i64 m] 3] (outP m) Tryz.call158 (fun x hx => in1 b2 m x)) fun v7 s7 R7 => ?_
 obtain ⟨rfl, rfl⟩ := R7
 dsimp only [lcA, lnA]
 refine XO.q (Q.not rfl) ?_
 refine XO.q (Q.assign rfl) (XO.done ?_)
 refine XK.rt [] Tryz.func95 Tryz.results95 (.t rfl .n) ?_
 exact ⟨rfl, rfl⟩
theorem Check_spec11 (c : MCase) (vn vv : Value) (hn hv : PHeap) [jn : Arr vn encNode 3 hn c.nodes] [jv : Arr vv encI 1 hv c.vals] : Spec Tryz.prog 86 #[.agg #[vn, vv]] [] [hn, hv] (fun v hs => v = .int .i64 (mcheck c) ∧ hs = []) := by
 have ln := jn.le
 have lv := jv.le
 refine Spec.intro (fn := Tryz.f86) (N := 72) Tryz.func86 rfl Tryz.ntmps86 rfl fun B => ?_
 refine XK.seq (XK.region rfl ?_)
 refine XO.box rfl fun b1 => ?_
 refine XO.q (Q.assign rfl) (XO.done (XK.seq (XK.seq (XK.region rfl ?_))))
 refine XO.q (Q.fieldAddr rfl) ?_
 refine XO.q (Q.ld rfl rfl) ?_
 refine XO.len rfl fun l7 => ?_
 refine XO.q (Q.lss rfl rfl) ?_
 refine XO.q (Q.move rfl) ?_
 refine XO.q (Quiet.guardF rfl rfl fun g10 p10 => Q.fieldAddr rfl) ?_
 refine XO.q (Quiet.guardF rfl rfl fun g11 p11 => Q.ld (lzv g11 rfl) rfl) ?_
 refine XO.q (Quiet.guardF rfl rfl fun g12 p12 => Q.len (lzv g12 rfl)) ?_
 refine XO.q (Quiet.guardF rfl rfl fun g13 p13 => Q.gtr (lzv g13 rfl) rfl) ?_
 refine XO.q (Q.or rfl (fun hp => lzv hp rfl)) ?_
 refine XO.done ?_
 refine XK.if rfl (fun c0 => ?_) (fun c0 => ?_)
 ·skip
  refine XK.seq (XK.region rfl (XO.q (Q.assign rfl) (XO.done ?_)))
  refine XK.rt [] Tryz.func86 Tryz.results86 (.t rfl .n) ?_
  exact ⟨by rw [mcheck, if_pos c0], rfl⟩
 ·skip
  refine XK.skip (XK.seq (XK.seq (XK.region rfl ?_)))
  refine XO.q (Q.fieldAddr rfl) ?_
  refine XO.q (Q.ld rfl rfl) ?_
  refine XO.len rfl fun l17 => ?_
  refine XO.q (Q.fieldAddr rfl) ?_
  refine XO.q (Q.ld rfl rfl) ?_
  refine XO.len rfl fun l20 => ?_
  refine XO.q (Q.neq rfl rfl) ?_
  refine XO.done ?_
  refine XK.if rfl (fun c1 => ?_) (fun c1 => ?_)
  ·skip
   refine XK.seq (XK.region rfl (XO.q (Q.assign rfl) (XO.done ?_)))
   refine XK.rt [] Tryz.func86 Tryz.results86 (.t rfl .n) ?_
   exact ⟨by rw [mcheck, if_neg c0, if_pos c1], rfl⟩
  ·skip
   refine XK.skip (XK.seq (XK.seq (XK.region rfl ?_)))
   refine XO.q (Q.fieldAddr rfl) ?_
   refine XO.q (Q.ld rfl rfl) ?_
   refine XO.len rfl fun l24 => ?_
   refine XO.q (Q.move rfl) (XO.done (XK.block ?_))
   refine XK.while (X := Nat) [2, 3, 4, 25, 26, 27, 28, 29, 30, 31, 32, 33, 34, 35, 36, 37, 38, 39, 40, 41, 42, 43, 44, 45, 46, 47, 48, 49, 50, 51, 52, 53, 54, 55, 56, 57, 58, 59, 60, 61, 62, 63, 64, 65, 66, 67, 68, 69, 70, 71] (fun i => [(25, some (.int .i64 (i : Nat)))]) (fun i => []) (fun i => i ≤ c.nodes.length ∧ nodesOk c i = true) (fun i => c.nodes.length - i) (0) [] rfl ⟨by omega, rfl⟩ (.c rfl (.base 0 rfl rfl)) ?_
   rintro i ⟨hi, hall⟩ ih0
   dsimp only [lcA, lnA] at ih0 ⊢
   refine XK.seq (XK.region rfl ?_)
   refine XO.q (Q.lss rfl rfl) ?_
   refine XO.done (XK.seq ?_)
   refine XK.if rfl (fun c2 => ?_) (fun c2 => ?_)
   ·skip
    refine XK.skip (XK.seq (XK.block (XK.seq (XK.region rfl (XO.q (Q.move rfl) ?_)))))
    refine XO.ix rfl rfl (by omega) (by omega) fun i28 => ?_
    refine XO.q (Q.ldEA [_, _, _] rfl (by first | assumption | omega) rfl rfl) ?_
    refine XO.alloc fun b4 => ?_
    refine XO.q (Q.assign rfl) ?_
    refine XO.st rfl rfl rfl ?_
    refine XO.done (XK.seq ?_)
    refine XK.drawn [0, 1, 2, 3, 4, 5, 6, 9, 10, 11, 12, 13, 14, 17, 18, 19, 20, 21, 22, 23, 24, 25, 26, 27, 28, 29, 30, 31, 32, 33, 34, 35, 38, 39, 40] [b4, b1] [] (.q 0 (.q 1 (.q 2 (.q 3 (.q 4 (.q 5 (.q 6 (.br 7 true (.br 8 true (.q 9 (.q 10 (.q 11 (.q 12 (.q 13 (.q 14 (.br 15 true (.br 16 true (.q 17 (.q 18 (.q 19 (.q 20 (.q 21 (.q 22 (.q 23 (.q 24 (.q 25 (.q 26 (.q 27 (.q 28 (.q 29 (.q 30 (.q 31 (.q 32 (.q 33 (.q 34 (.q 35 (.br 36 true (.br 37 true (.q 38 (.q 39 (.q 40 .done))) .stop) .stop)))))))))))))))))))) .stop) .stop))))))) .stop) .stop)))))))) Tryz.mixed rfl (by kernel_rfl) ?_
    refine XT.q rfl rfl (Q.fieldAddr rfl) ?_
    refine XT.q rfl rfl (Q.ld rfl rfl) ?_
    refine XT.q rfl rfl (Q.fieldAddr rfl) ?_
    refine XT.q rfl rfl (Q.ld rfl rfl) ?_
    refine XT.q rfl rfl (Q.move rfl) ?_
    refine XT.ix rfl rfl rfl rfl (by omega) (by omega) fun i35 => ?_
    refine XT.q rfl rfl (Q.ldE rfl (by first | assumption | omega) rfl) ?_
    refine XT.lit [_, _] [_, _] [(c.nodes.getD i default).high, c.vals.getD i default] encI rfl rfl (by rfl) (by rfl) rfl (by rfl) (by exact .c 0 1 rfl rfl rfl (.c 1 1 rfl rfl rfl (.n _))) (fun _ => rfl) (by rfl) rfl (by infer_instance) rfl (fun v37 h37 O37 => ⟨inferInstance, ?_⟩) XT.stop
    refine XT.call rfl rfl Tryz.call95 rfl rfl rfl (in_spec11 1000000000 v37 h37 [(c.nodes.getD i default).high, c.vals.getD i default]) (fun v38 s38 R38 => ?_) XT.stop
    obtain ⟨rfl, rfl⟩ := R38
    dsimp only [lcA, lnA]
    refine ⟨inferInstance, ?_⟩
    refine XT.q rfl rfl (Q.not rfl) ?_
    refine XT.q rfl rfl (Q.move rfl) ?_
    refine XT.q rfl rfl (Quiet.guardF rfl rfl fun g41 p41 => Q.fieldAddr rfl) ?_
    refine XT.q rfl rfl (Quiet.guardF rfl rfl fun g42 p42 => Q.ld (lzv g42 rfl) rfl) ?_
    refine XT.q rfl rfl (Quiet.guardF rfl rfl fun g43 p43 => Q.fieldAddr rfl) ?_
    refine XT.q rfl rfl (Quiet.guardF rfl rfl fun g44 p44 => Q.ld (lzv g44 rfl) rfl) ?_
    refine XT.lit1 [_] [_] [(c.nodes.getD i default).low] encI rfl rfl rfl rfl (by rfl) (by rfl) rfl (by rfl) (fun g45 => by exact .c 0 1 (lzv g45 rfl) rfl rfl (.n _)) (fun _ => rfl) (by rfl) rfl (fun _ => by infer_instance) rfl (fun v45 h45 O45 => ⟨inferInstance, ?_⟩) XT.stop
    refine XT.gcallF rfl rfl rfl rfl Tryz.call95 rfl (fun g46 => .c (lzv g46 rfl) (.c (lzv g46 rfl) .n)) rfl (fun g46 p46 => by haveI := O45 g46; exact in_spec11 (c.nodes.getD i default).high v45 h45 [(c.nodes.getD i default).low]) ⟨inferInstance, ?_⟩ XT.stop
    refine XT.q rfl rfl (Quiet.guardF rfl rfl fun g47 p47 => Q.not (lzv g47 rfl)) ?_
    refine XT.q rfl rfl (Q.or rfl (fun hp => lzv hp rfl)) ?_
    refine XT.q rfl rfl (Q.move rfl) ?_
    refine XT.q rfl rfl (Quiet.guardF rfl rfl fun g50 p50 => Q.move rfl) ?_
    refine XT.q rfl rfl (Quiet.guardF rfl rfl fun g51 p51 => Q.eql (lzv g51 rfl) rfl) ?_
    refine XT.q rfl rfl (Quiet.guardF rfl rfl fun g52 p52 => Q.move (lzv g52 rfl)) ?_
    refine XT.q rfl rfl (Quiet.guard2 rfl rfl fun g53a g53b => have p53a := bpF g53a; have p53b := bpT g53b; Q.fieldAddr rfl) ?_
    refine XT.q rfl rfl (Quiet.guard2 rfl rfl fun g54a g54b => have p54a := bpF g54a; have p54b := bpT g54b; Q.ld (lzv g54b (lzv g54a rfl)) rfl) ?_
    refine XT.q rfl rfl (Quiet.guard2 rfl rfl fun g55a g55b => have p55a := bpF g55a; have p55b := bpT g55b; Q.neq (lzv g55b (lzv g55a rfl)) rfl) ?_
    refine XT.q rfl rfl (Quiet.guardF rfl rfl fun g56 p56 => Q.and (lzv g56 rfl) (fun hp => (lzv hp (lzv g56 rfl)))) ?_
    refine XT.q rfl rfl (Q.or rfl (fun hp => lzv hp rfl)) ?_
    refine XT.q rfl rfl (Q.move rfl) ?_
    refine XT.q rfl rfl (Quiet.guardF rfl rfl fun g59 p59 => Q.move rfl) ?_
    refine XT.q rfl rfl (Quiet.guardF rfl rfl fun g60 p60 => Q.gtr (lzv g60 rfl) rfl) ?_
    refine XT.q rfl rfl (Quiet.guardF rfl rfl fun g61 p61 => Q.move (lzv g61 rfl)) ?_
    refine XT.q rfl rfl (Quiet.guard2 rfl rfl fun g62a g62b => have p62a := bpF g62a; have p62b := bpT g62b; Q.move rfl) ?_
    refine XT.q rfl rfl (Quiet.guard2 rfl rfl fun g63a g63b => have p63a := bpF g63a; have p63b := bpT g63b; Q.sub (lzv g63b (lzv g63a rfl)) rfl ⟨by omega, by omega⟩) ?_
    refine XT.q rfl rfl (Quiet.guard2 rfl rfl fun g64a g64b => have p64a := bpF g64a; have p64b := bpT g64b; Q.fieldAddr rfl) ?_
    refine XT.q rfl rfl (Quiet.guard2 rfl rfl fun g65a g65b => have p65a := bpF g65a; have p65b := bpT g65b; Q.ld (lzv g65b (lzv g65a rfl)) rfl) ?_
    refine XT.lit2 [_] [_] [(c.nodes.getD i default).up] encI rfl rfl rfl rfl (by rfl) (by rfl) rfl (by rfl) (fun g66a g66b => by exact .c 0 1 (lzv g66b (lzv g66a rfl)) rfl rfl (.n _)) (fun _ => rfl) (by rfl) rfl (fun _ _ => by infer_instance) rfl (fun v66 h66 O66 => ⟨inferInstance, ?_⟩) XT.stop
    refine XT.vg2 rfl rfl rfl rfl (fun g67a g67b => rfl) (fun g67a g67b => .c (lzv g67b (lzv g67a rfl)) (.c (lzv g67b (lzv g67a rfl)) .n)) (fun g67a g67b => have p67a := bpF g67a; have p67b := bpT g67b; VSpec.fn (P := Tryz.prog) Tryz.call95 rfl (by haveI := O66 g67a g67b; exact in_spec11 ((i : Int) - 1) v66 h66 [(c.nodes.getD i default).up])) ⟨inferInstance, ?_⟩ XT.stop
    refine XT.q rfl rfl (Quiet.guard2 rfl rfl fun g68a g68b => have p68a := bpF g68a; have p68b := bpT g68b; Q.not (lzv g68b (lzv g68a rfl))) ?_
    refine XT.q rfl rfl (Quiet.guardF rfl rfl fun g69 p69 => Q.and (lzv g69 rfl) (fun hp => (lzv hp (lzv g69 rfl)))) ?_
    refine XT.q rfl rfl (Q.or rfl (fun hp => lzv hp rfl)) ?_
    refine XT.done ?_
    refine XK.if rfl (fun c3 => ?_) (fun c3 => ?_)
    ·skip
     refine XK.seq (XK.region rfl (XO.q (Q.assign rfl) (XO.done ?_)))
     refine XK.rt [] Tryz.func86 Tryz.results86 (.t rfl .n) ?_
     exact ⟨by rw [mcheck, if_neg c0, if_neg c1, if_neg (by rw [nodesOk, allTo_false (s := i) (by omega) (by rw [Bool.not_eq_false', decide_eq_true_eq]; exact c3)]; decide)], rfl⟩
    ·skip
     refine XK.skip ?_
     refine XK.inBlock ?_
     refine XK.region rfl ?_
     refine XO.q (Q.add rfl rfl ⟨by omega, by omega⟩) ?_
     refine XO.q (Q.move rfl) (XO.done ?_)
     exact ih0 (i + 1) _ _ ⟨by omega, by rw [nodesOk, allTo_succ]; rw [nodesOk] at hall; rw [hall, Bool.true_and, Bool.not_eq_true', decide_eq_false_iff_not]; exact c3⟩ (by first | omega | (dsimp only; omega)) (.c rfl (.base 100 rfl rfl)) inferInstance
   ·skip
    refine XK.exit rfl ?_
    refine XK.seq (XK.region rfl (XO.q (Q.assign rfl) (XO.done ?_)))
    refine XK.rt [] Tryz.func86 Tryz.results86 (.t rfl .n) ?_
    have hin : i = c.nodes.length := by omega
    rw [hin] at hall
    exact ⟨by rw [mcheck, if_neg c0, if_neg c1, if_pos hall], rfl⟩
end Go.X.Me

set_option linter.unusedSimpArgs false
set_option linter.unusedVariables false
set_option maxRecDepth 20000
namespace Go.X.Me
open Go.Proofs
theorem sons_spec (c : MCase) (vn vv : Value) (hn : PHeap) [jn : Arr vn encNode 3 hn c.nodes] [ov : One vv] (hl : c.nodes.length ≤ 14) (i : Int) : Spec Tryz.prog 87 #[.agg #[vn, vv], .int .i64 i] [] [hn] (fun v hs => ∃ k, hs = [k] ∧ OArr v encI 1 3 k (ints (sonsTo c i c.nodes.length))) := by
 have hnil : OArr (.slice none 0 0) encI 1 3 emp ([] : List Int) := OArr.nil (fun _ => rfl)
 refine Spec.intro (fn := Tryz.f87) (N := 26) Tryz.func87 rfl Tryz.ntmps87 rfl fun B => ?_
 refine XK.seq (XK.region rfl ?_)
 refine XO.box rfl fun b2 => ?_
 refine XO.q (Q.assign rfl) (XO.done (XK.seq (XK.region rfl (XO.q (Q.assign rfl) (XO.done ?_)))))
 refine XK.seq (XK.seq (XK.region rfl ?_))
 refine XO.q (Q.fieldAddr rfl) ?_
 refine XO.q (Q.ld rfl rfl) ?_
 refine XO.len rfl fun l10 => ?_
 refine XO.q (Q.move rfl) (XO.done (XK.block ?_))
 refine XK.while (X := Nat × Value × PHeap) [5, 6, 7, 11, 12, 13, 14, 15, 16, 17, 18, 19, 20, 21, 22, 23, 24] (fun ⟨j, v5, k5⟩ => [(11, some (.int .i64 (j : Nat))), (5, some (v5))]) (fun ⟨j, v5, k5⟩ => [k5]) (fun ⟨j, v5, k5⟩ => j ≤ c.nodes.length ∧ OArr v5 encI 1 3 k5 (ints (sonsTo c i j))) (fun ⟨j, v5, k5⟩ => c.nodes.length - j) (0, .slice none 0 0, emp) [emp] rfl ⟨by omega, hnil⟩ (.c rfl (.c rfl (.base 0 rfl rfl))) ?_
 rintro ⟨j, v5, k5⟩ ⟨hj, O5⟩ ih0
 dsimp only [lcA, lnA] at ih0 ⊢
 refine XK.seq (XK.region rfl ?_)
 refine XO.q (Q.lss rfl rfl) ?_
 refine XO.done (XK.seq ?_)
 refine XK.if rfl (fun c0 => ?_) (fun c0 => ?_)
 ·skip
  have hsl := sonsTo_len (c := c) (i := i) (n := j)
  refine XK.skip (XK.seq (XK.block (XK.seq (XK.region rfl (XO.q (Q.move rfl) ?_)))))
  refine XO.ix rfl rfl (by omega) (by omega) fun i14 => ?_
  refine XO.q (Q.ldEA [_, _, _] rfl (by first | assumption | omega) rfl rfl) ?_
  refine XO.alloc fun b7 => ?_
  refine XO.q (Q.assign rfl) ?_
  refine XO.st rfl rfl rfl ?_
  refine XO.done (XK.seq (XK.region rfl ?_))
  refine XO.q (Q.fieldAddr rfl) ?_
  refine XO.q (Q.ld rfl rfl) ?_
  refine XO.q (Q.move rfl) ?_
  refine XO.q (Q.eql rfl rfl) ?_
  refine XO.done ?_
  refine XK.if rfl (fun c1 => ?_) (fun c1 => ?_)
  ·skip
   refine XK.region rfl (XO.q (Q.move rfl) (XO.q (Q.move rfl) ?_))
   refine XO.lit [_] [_] [((j : Nat) : Int)] encI (by rfl) (by rfl) rfl (by rfl) (by exact .c 0 1 rfl rfl rfl (.n _)) (fun _ => rfl) (by rfl) rfl (by infer_instance) rfl fun v22 h22 O22 => ?_
   refine XO.append rfl rfl rfl rfl (by simp only [ints_len, List.length_cons, List.length_nil]; omega) fun v23 h23 O23 => ?_
   refine XO.q (Q.assign rfl) (XO.done ?_)
   refine XK.inBlock ?_
   refine XK.region rfl ?_
   refine XO.q (Q.add rfl rfl ⟨by omega, by omega⟩) ?_
   refine XO.q (Q.move rfl) (XO.done ?_)
   exact ih0 (j + 1, v23, h23) _ _ ⟨by dsimp only; omega, by dsimp only; rw [sonsTo, if_pos c1, ints_snoc]; exact O23⟩ (by first | omega | (dsimp only; omega)) (.c rfl (.c rfl (.base 36 rfl rfl))) inferInstance
  ·skip
   refine XK.skip ?_
   refine XK.inBlock ?_
   refine XK.region rfl ?_
   refine XO.q (Q.add rfl rfl ⟨by omega, by omega⟩) ?_
   refine XO.q (Q.move rfl) (XO.done ?_)
   exact ih0 (j + 1, v5, k5) _ _ ⟨by dsimp only; omega, by dsimp only; rw [sonsTo, if_neg c1]; exact O5⟩ (by first | omega | (dsimp only; omega)) (.c rfl (.c rfl (.base 31 rfl rfl))) inferInstance
 ·skip
  refine XK.exit rfl ?_
  refine XK.seq (XK.region rfl (XO.q (Q.move rfl) (XO.q (Q.assign rfl) (XO.done ?_))))
  refine XK.rt [k5] Tryz.func87 Tryz.results87 (.t rfl .n) ?_
  have hin : j = c.nodes.length := by omega
  rw [hin] at O5
  exact ⟨k5, rfl, O5⟩
end Go.X.Me

set_option linter.unusedSimpArgs false
set_option linter.unusedVariables false
set_option maxRecDepth 20000
namespace Go.X.Me
open Go.Proofs
end Go.X.Me

set_option linter.unusedSimpArgs false
set_option linter.unusedVariables false
set_option maxRecDepth 20000
namespace Go.X.Me
open Go.Proofs
end Go.X.Me

set_option linter.unusedSimpArgs false
set_option linter.unusedVariables false
set_option maxRecDepth 20000
namespace Go.X.Me
open Go.Proofs
end Go.X.Me

set_option linter.unusedSimpArgs false
set_option linter.unusedVariables false
set_option maxRecDepth 20000
namespace Go.X.Me
open Go.Proofs
def encTier (x : MTier) : List Value := [.int .i64 x.min, .int .i64 x.pct]
instance : Inhabited (Value × MUse) := ⟨(.slice none 0 0, default)⟩
theorem right_spec (t : MTariff) (vp vt : Value) (hp ht : PHeap) [jp : Arr vp encI 1 hp t.price] [jt : Arr vt encTier 2 ht t.tiers] : Spec Tryz.prog 94 #[.agg #[vp, .int .i64 t.base, vt, .int .i64 t.credit]] [] [hp, ht] (fun v hs => v = .int .i64 (rightG t) ∧ hs = []) := by
 have lp := jp.le
 have lt := jt.le
 refine Spec.intro (fn := Tryz.f94) (N := 91) Tryz.func94 rfl Tryz.ntmps94 rfl fun B => ?_
 refine XK.seq (XK.region rfl ?_)
 refine XO.box rfl fun b1 => ?_
 refine XO.q (Q.assign rfl) (XO.done (XK.seq (XK.block (XK.seq (XK.region rfl ?_)))))
 refine XO.q (Q.fieldAddr rfl) ?_
 refine XO.q (Q.fieldAddr rfl) ?_
 refine XO.q (Q.ld rfl rfl) ?_
 refine XO.len rfl fun l9 => ?_
 refine XO.q (Q.neq rfl rfl) ?_
 refine XO.q (Q.assign rfl) (XO.done ?_)
 refine XK.if rfl (fun c0 => ?_) (fun c0 => ?_)
 ·skip
  refine XK.seq (XK.region rfl (XO.q (Q.assign rfl) (XO.done ?_)))
  refine XK.rt [] Tryz.func94 Tryz.results94 (.t rfl .n) ?_
  exact ⟨by rw [rightG, if_pos c0], rfl⟩
 ·skip
  refine XK.seq (XK.region rfl ?_)
  refine XO.q (Q.fieldAddr rfl) ?_
  refine XO.q (Q.fieldAddr rfl) ?_
  refine XO.q (Q.ld rfl rfl) ?_
  refine XO.len rfl fun l15 => ?_
  refine XO.q (Q.gtr rfl rfl) ?_
  refine XO.q (Q.assign rfl) (XO.done ?_)
  refine XK.if rfl (fun c1 => ?_) (fun c1 => ?_)
  ·skip
   refine XK.seq (XK.region rfl (XO.q (Q.assign rfl) (XO.done ?_)))
   refine XK.rt [] Tryz.func94 Tryz.results94 (.t rfl .n) ?_
   exact ⟨by rw [rightG, if_neg c0, if_pos c1], rfl⟩
  ·skip
   refine XK.seq (XK.region rfl ?_)
   refine XO.q (Q.fieldAddr rfl) ?_
   refine XO.q (Q.fieldAddr rfl) ?_
   refine XO.q (Q.ld rfl rfl) ?_
   refine XO.call Tryz.call95 rfl rfl rfl (in_spec11 1000 vp hp t.price) fun v21 s21 R21 => ?_
   obtain ⟨rfl, rfl⟩ := R21
   dsimp only [lcA, lnA]
   refine XO.q (Q.not rfl) ?_
   refine XO.q (Q.move rfl) ?_
   refine XO.q (Quiet.guardF rfl rfl fun g24 p24 => Q.fieldAddr rfl) ?_
   refine XO.q (Quiet.guardF rfl rfl fun g25 p25 => Q.fieldAddr (lzv g25 rfl)) ?_
   refine XO.q (Quiet.guardF rfl rfl fun g26 p26 => Q.ld (lzv g26 rfl) rfl) ?_
   refine XO.lit1 [_] [_] [t.base] encI rfl rfl (by rfl) (by rfl) rfl (by rfl) (fun g27 => by exact .c 0 1 (lzv g27 rfl) rfl rfl (.n _)) (fun _ => rfl) (by rfl) rfl (fun _ => by infer_instance) rfl (fun v27 h27 O27 => ?_)
   refine XO.gcallF rfl rfl Tryz.call95 rfl (fun g28 => .c rfl (.c (lzv g28 rfl) .n)) rfl (fun g28 p28 => by haveI := O27 g28; exact in_spec11 1000000000 v27 h27 [t.base]) ?_
   refine XO.q (Quiet.guardF rfl rfl fun g29 p29 => Q.not (lzv g29 rfl)) ?_
   refine XO.q (Q.or rfl (fun hp => lzv hp rfl)) ?_
   refine XO.q (Q.move rfl) ?_
   refine XO.q (Quiet.guardF rfl rfl fun g32 p32 => Q.fieldAddr rfl) ?_
   refine XO.q (Quiet.guardF rfl rfl fun g33 p33 => Q.fieldAddr (lzv g33 rfl)) ?_
   refine XO.q (Quiet.guardF rfl rfl fun g34 p34 => Q.ld (lzv g34 rfl) rfl) ?_
   refine XO.lit1 [_] [_] [t.credit] encI rfl rfl (by rfl) (by rfl) rfl (by rfl) (fun g35 => by exact .c 0 1 (lzv g35 rfl) rfl rfl (.n _)) (fun _ => rfl) (by rfl) rfl (fun _ => by infer_instance) rfl (fun v35 h35 O35 => ?_)
   refine XO.gcallF rfl rfl Tryz.call95 rfl (fun g36 => .c rfl (.c (lzv g36 rfl) .n)) rfl (fun g36 p36 => by haveI := O35 g36; exact in_spec11 100 v35 h35 [t.credit]) ?_
   refine XO.q (Quiet.guardF rfl rfl fun g37 p37 => Q.not (lzv g37 rfl)) ?_
   refine XO.q (Q.or rfl (fun hp => lzv hp rfl)) ?_
   refine XO.q (Q.assign rfl) (XO.done ?_)
   refine XK.if rfl (fun c2 => ?_) (fun c2 => ?_)
   ·skip
    refine XK.seq (XK.region rfl (XO.q (Q.assign rfl) (XO.done ?_)))
    refine XK.rt [] Tryz.func94 Tryz.results94 (.t rfl .n) ?_
    exact ⟨by rw [rightG, if_neg c0, if_neg c1, if_pos c2], rfl⟩
   ·skip
    refine XK.skip ?_
    refine XK.inBlock ?_
    refine XK.seq (XK.seq (XK.region rfl ?_))
    refine XO.q (Q.fieldAddr rfl) ?_
    refine XO.q (Q.fieldAddr rfl) ?_
    refine XO.q (Q.ld rfl rfl) ?_
    refine XO.len rfl fun l42 => ?_
    refine XO.q (Q.move rfl) (XO.done (XK.block ?_))
    refine XK.while (X := Nat) [2, 3, 4, 43, 44, 45, 46, 47, 48, 49, 50, 51, 52, 53, 54, 55, 56, 57, 58, 59, 60, 61, 62, 63, 64, 65, 66, 67, 68, 69, 70, 71, 72, 73, 74, 75, 76, 77, 78, 79, 80, 81, 82, 83, 84, 85, 86, 87, 88, 89, 90] (fun i => [(43, some (.int .i64 (i : Nat)))]) (fun i => []) (fun i => i ≤ t.tiers.length ∧ tiersOk t i = true) (fun i => t.tiers.length - i) (0) [] rfl ⟨by omega, rfl⟩ (.c rfl (.base 0 rfl rfl)) ?_
    rintro i ⟨hi, hall⟩ ih0
    dsimp only [lcA, lnA] at ih0 ⊢
    refine XK.seq (XK.region rfl ?_)
    refine XO.q (Q.lss rfl rfl) ?_
    refine XO.done (XK.seq ?_)
    refine XK.if rfl (fun c3 => ?_) (fun c3 => ?_)
    ·skip
     refine XK.skip (XK.seq (XK.block (XK.seq (XK.region rfl (XO.q (Q.move rfl) ?_)))))
     refine XO.ix rfl rfl (by omega) (by omega) fun i46 => ?_
     refine XO.q (Q.ldEA [_, _] rfl (by first | assumption | omega) rfl rfl) ?_
     refine XO.alloc fun b4 => ?_
     refine XO.q (Q.assign rfl) ?_
     refine XO.st rfl rfl rfl ?_
     refine XO.done (XK.seq ?_)
     refine XK.drawn [0, 1, 4, 5, 6, 7, 10, 11, 12, 13, 14, 15, 16, 17, 18, 19, 20, 21, 22, 23, 24, 25, 26, 27, 28, 29, 30, 31, 32, 33, 34, 35, 36, 37, 38, 39, 40, 41] [b4, b1] [] (.q 0 (.q 1 (.br 2 true (.br 3 true (.q 4 (.q 5 (.q 6 (.q 7 (.br 8 true (.br 9 true (.q 10 (.q 11 (.q 12 (.q 13 (.q 14 (.q 15 (.q 16 (.q 17 (.q 18 (.q 19 (.q 20 (.q 21 (.q 22 (.q 23 (.q 24 (.q 25 (.q 26 (.q 27 (.q 28 (.q 29 (.q 30 (.q 31 (.q 32 (.q 33 (.q 34 (.q 35 (.q 36 (.q 37 (.q 38 (.q 39 (.q 40 (.q 41 .done)))))))))))))))))))))))))))))))) .stop) .stop))))) .stop) .stop))) Tryz.mixed rfl (by kernel_rfl) ?_
     refine XT.q rfl rfl (Q.fieldAddr rfl) ?_
     refine XT.q rfl rfl (Q.ld rfl rfl) ?_
     refine XT.lit [_] [_] [(t.tiers.getD i default).min] encI rfl rfl (by rfl) (by rfl) rfl (by rfl) (by exact .c 0 1 rfl rfl rfl (.n _)) (fun _ => rfl) (by rfl) rfl (by infer_instance) rfl (fun v50 h50 O50 => ⟨inferInstance, ?_⟩) XT.stop
     refine XT.call rfl rfl Tryz.call95 rfl rfl rfl (in_spec11 50000 v50 h50 [(t.tiers.getD i default).min]) (fun v51 s51 R51 => ?_) XT.stop
     obtain ⟨rfl, rfl⟩ := R51
     dsimp only [lcA, lnA]
     refine ⟨inferInstance, ?_⟩
     refine XT.q rfl rfl (Q.not rfl) ?_
     refine XT.q rfl rfl (Q.move rfl) ?_
     refine XT.q rfl rfl (Quiet.guardF rfl rfl fun g54 p54 => Q.fieldAddr rfl) ?_
     refine XT.q rfl rfl (Quiet.guardF rfl rfl fun g55 p55 => Q.ld (lzv g55 rfl) rfl) ?_
     refine XT.lit1 [_] [_] [(t.tiers.getD i default).pct] encI rfl rfl rfl rfl (by rfl) (by rfl) rfl (by rfl) (fun g56 => by exact .c 0 1 (lzv g56 rfl) rfl rfl (.n _)) (fun _ => rfl) (by rfl) rfl (fun _ => by infer_instance) rfl (fun v56 h56 O56 => ⟨inferInstance, ?_⟩) XT.stop
     refine XT.gcallF rfl rfl rfl rfl Tryz.call95 rfl (fun g57 => .c rfl (.c (lzv g57 rfl) .n)) rfl (fun g57 p57 => by haveI := O56 g57; exact in_spec11 100 v56 h56 [(t.tiers.getD i default).pct]) ⟨inferInstance, ?_⟩ XT.stop
     refine XT.q rfl rfl (Quiet.guardF rfl rfl fun g58 p58 => Q.not (lzv g58 rfl)) ?_
     refine XT.q rfl rfl (Q.or rfl (fun hp => lzv hp rfl)) ?_
     refine XT.q rfl rfl (Q.move rfl) ?_
     refine XT.q rfl rfl (Quiet.guardF rfl rfl fun g61 p61 => Q.move rfl) ?_
     refine XT.q rfl rfl (Quiet.guardF rfl rfl fun g62 p62 => Q.gtr (lzv g62 rfl) rfl) ?_
     refine XT.q rfl rfl (Quiet.guardF rfl rfl fun g63 p63 => Q.move (lzv g63 rfl)) ?_
     refine XT.q rfl rfl (Quiet.guard2 rfl rfl fun g64a g64b => have p64a := bpF g64a; have p64b := bpT g64b; Q.fieldAddr rfl) ?_
     refine XT.q rfl rfl (Quiet.guard2 rfl rfl fun g65a g65b => have p65a := bpF g65a; have p65b := bpT g65b; Q.ld (lzv g65b (lzv g65a rfl)) rfl) ?_
     refine XT.q rfl rfl (Quiet.guard2 rfl rfl fun g66a g66b => have p66a := bpF g66a; have p66b := bpT g66b; Q.fieldAddr rfl) ?_
     refine XT.q rfl rfl (Quiet.guard2 rfl rfl fun g67a g67b => have p67a := bpF g67a; have p67b := bpT g67b; Q.fieldAddr (lzv g67b (lzv g67a rfl))) ?_
     refine XT.q rfl rfl (Quiet.guard2 rfl rfl fun g68a g68b => have p68a := bpF g68a; have p68b := bpT g68b; Q.ld (lzv g68b (lzv g68a rfl)) rfl) ?_
     refine XT.q rfl rfl (Quiet.guard2 rfl rfl fun g69a g69b => have p69a := bpF g69a; have p69b := bpT g69b; Q.move rfl) ?_
     refine XT.q rfl rfl (Quiet.guard2 rfl rfl fun g70a g70b => have p70a := bpF g70a; have p70b := bpT g70b; Q.sub (lzv g70b (lzv g70a rfl)) rfl ⟨by omega, by omega⟩) ?_
     refine XT.q rfl rfl (Quiet.guard2 rfl rfl fun g71a g71b => have p71a := bpF g71a; have p71b := bpT g71b; Q.ix (lzv g71b (lzv g71a rfl)) (lzv g71b (lzv g71a rfl)) (by omega) (by omega)) ?_
     refine XT.q rfl rfl (Quiet.guard2 rfl rfl fun g72a g72b => have p72a := bpF g72a; have p72b := bpT g72b; Q.fieldQ (lzv g72b (lzv g72a rfl)) (by first | assumption | omega)) ?_
     refine XT.q rfl rfl (Quiet.guard2 rfl rfl fun g73a g73b => have p73a := bpF g73a; have p73b := bpT g73b; Q.ldE (lzv g73b (lzv g73a rfl)) (by first | assumption | omega) rfl) ?_
     refine XT.q rfl rfl (Quiet.guard2 rfl rfl fun g74a g74b => have p74a := bpF g74a; have p74b := bpT g74b; Q.leq (lzv g74b (lzv g74a rfl)) (lzv g74b (lzv g74a rfl))) ?_
     refine XT.q rfl rfl (Quiet.guard2 rfl rfl fun g75a g75b => have p75a := bpF g75a; have p75b := bpT g75b; Q.move (lzv g75b (lzv g75a rfl))) ?_
     refine XT.q rfl rfl (Quiet.guard3 rfl rfl fun g76a g76b g76c => have p76a := bpF g76a; have p76b := bpT g76b; have p76c := bpF g76c; Q.fieldAddr rfl) ?_
     refine XT.q rfl rfl (Quiet.guard3 rfl rfl fun g77a g77b g77c => have p77a := bpF g77a; have p77b := bpT g77b; have p77c := bpF g77c; Q.ld (lzv g77c (lzv g77b (lzv g77a rfl))) rfl) ?_
     refine XT.q rfl rfl (Quiet.guard3 rfl rfl fun g78a g78b g78c => have p78a := bpF g78a; have p78b := bpT g78b; have p78c := bpF g78c; Q.fieldAddr rfl) ?_
     refine XT.q rfl rfl (Quiet.guard3 rfl rfl fun g79a g79b g79c => have p79a := bpF g79a; have p79b := bpT g79b; have p79c := bpF g79c; Q.fieldAddr (lzv g79c (lzv g79b (lzv g79a rfl)))) ?_
     refine XT.q rfl rfl (Quiet.guard3 rfl rfl fun g80a g80b g80c => have p80a := bpF g80a; have p80b := bpT g80b; have p80c := bpF g80c; Q.ld (lzv g80c (lzv g80b (lzv g80a rfl))) rfl) ?_
     refine XT.q rfl rfl (Quiet.guard3 rfl rfl fun g81a g81b g81c => have p81a := bpF g81a; have p81b := bpT g81b; have p81c := bpF g81c; Q.move rfl) ?_
     refine XT.q rfl rfl (Quiet.guard3 rfl rfl fun g82a g82b g82c => have p82a := bpF g82a; have p82b := bpT g82b; have p82c := bpF g82c; Q.sub (lzv g82c (lzv g82b (lzv g82a rfl))) rfl ⟨by omega, by omega⟩) ?_
     refine XT.q rfl rfl (Quiet.guard3 rfl rfl fun g83a g83b g83c => have p83a := bpF g83a; have p83b := bpT g83b; have p83c := bpF g83c; Q.ix (lzv g83c (lzv g83b (lzv g83a rfl))) (lzv g83c (lzv g83b (lzv g83a rfl))) (by omega) (by omega)) ?_
     refine XT.q rfl rfl (Quiet.guard3 rfl rfl fun g84a g84b g84c => have p84a := bpF g84a; have p84b := bpT g84b; have p84c := bpF g84c; Q.fieldQ (lzv g84c (lzv g84b (lzv g84a rfl))) (by first | assumption | omega)) ?_
     refine XT.q rfl rfl (Quiet.guard3 rfl rfl fun g85a g85b g85c => have p85a := bpF g85a; have p85b := bpT g85b; have p85c := bpF g85c; Q.ldE (lzv g85c (lzv g85b (lzv g85a rfl))) (by first | assumption | omega) rfl) ?_
     refine XT.q rfl rfl (Quiet.guard3 rfl rfl fun g86a g86b g86c => have p86a := bpF g86a; have p86b := bpT g86b; have p86c := bpF g86c; Q.lss (lzv g86c (lzv g86b (lzv g86a rfl))) (lzv g86c (lzv g86b (lzv g86a rfl)))) ?_
     refine XT.q rfl rfl (Quiet.guard2 rfl rfl fun g87a g87b => have p87a := bpF g87a; have p87b := bpT g87b; Q.or (lzv g87b (lzv g87a rfl)) (fun hp => (lzv hp (lzv g87b (lzv g87a rfl))))) ?_
     refine XT.q rfl rfl (Quiet.guardF rfl rfl fun g88 p88 => Q.and (lzv g88 rfl) (fun hp => (lzv hp (lzv g88 rfl)))) ?_
     refine XT.q rfl rfl (Q.or rfl (fun hp => lzv hp rfl)) ?_
     refine XT.done ?_
     refine XK.if rfl (fun c4 => ?_) (fun c4 => ?_)
     ·skip
      refine XK.seq (XK.region rfl (XO.q (Q.assign rfl) (XO.done ?_)))
      refine XK.rt [] Tryz.func94 Tryz.results94 (.t rfl .n) ?_
      exact ⟨by rw [rightG, if_neg c0, if_neg c1, if_neg c2, if_neg (by rw [tiersOk, allTo_false (s := i) (by omega) (by rw [Bool.not_eq_false', decide_eq_true_eq]; exact c4)]; decide)], rfl⟩
     ·skip
      refine XK.skip ?_
      refine XK.inBlock ?_
      refine XK.region rfl ?_
      refine XO.q (Q.add rfl rfl ⟨by omega, by omega⟩) ?_
      refine XO.q (Q.move rfl) (XO.done ?_)
      exact ih0 (i + 1) _ _ ⟨by omega, by rw [tiersOk, allTo_succ]; rw [tiersOk] at hall; rw [hall, Bool.true_and, Bool.not_eq_true', decide_eq_false_iff_not]; exact c4⟩ (by first | omega | (dsimp only; omega)) (.c rfl (.base 102 rfl rfl)) inferInstance
    ·skip
     refine XK.exit rfl ?_
     refine XK.seq (XK.region rfl (XO.q (Q.assign rfl) (XO.done ?_)))
     refine XK.rt [] Tryz.func94 Tryz.results94 (.t rfl .n) ?_
     have hin : i = t.tiers.length := by omega
     rw [hin] at hall
     exact ⟨by rw [rightG, if_neg c0, if_neg c1, if_neg c2, if_pos hall], rfl⟩
theorem percent_spec (t : MTariff) (vp vt : Value) (hp ht : PHeap) [jp : Arr vp encI 1 hp t.price] [jt : Arr vt encTier 2 ht t.tiers] (out : Int) : Spec Tryz.prog 96 #[.agg #[vp, .int .i64 t.base, vt, .int .i64 t.credit], .int .i64 out] [] [hp, ht] (fun v hs => v = .int .i64 (percentL t out) ∧ hs = []) := by
 have lt := jt.le
 refine Spec.intro (fn := Tryz.f96) (N := 28) Tryz.func96 rfl Tryz.ntmps96 rfl fun B => ?_
 refine XK.seq (XK.region rfl ?_)
 refine XO.box rfl fun b2 => ?_
 refine XO.q (Q.assign rfl) (XO.done (XK.seq (XK.region rfl (XO.q (Q.assign rfl) (XO.done ?_)))))
 refine XK.seq (XK.seq (XK.region rfl ?_))
 refine XO.q (Q.fieldAddr rfl) ?_
 refine XO.q (Q.fieldAddr rfl) ?_
 refine XO.q (Q.ld rfl rfl) ?_
 refine XO.len rfl fun l11 => ?_
 refine XO.q (Q.move rfl) (XO.done (XK.block ?_))
 refine XK.while (X := Nat) [5, 7, 12, 13, 14, 15, 16, 17, 18, 19, 20, 21, 22] (fun i => [(12, some (.int .i64 (i : Nat))), (5, some (.int .i64 (pctTo t out i)))]) (fun i => []) (fun i => i ≤ t.tiers.length) (fun i => t.tiers.length - i) (0) [] rfl (by omega) (.c rfl (.c rfl (.base 0 rfl rfl))) ?_
 rintro i hi ih0
 dsimp only [lcA, lnA] at ih0 ⊢
 refine XK.seq (XK.region rfl ?_)
 refine XO.q (Q.lss rfl rfl) ?_
 refine XO.done (XK.seq ?_)
 refine XK.if rfl (fun c0 => ?_) (fun c0 => ?_)
 ·skip
  refine XK.skip (XK.seq (XK.block (XK.seq (XK.region rfl ?_))))
  refine XO.ix rfl rfl (by omega) (by omega) fun i14 => ?_
  refine XO.q (Q.ldEA [_, _] rfl (by first | assumption | omega) rfl rfl) ?_
  refine XO.alloc fun b7 => ?_
  refine XO.st rfl rfl rfl ?_
  refine XO.done (XK.seq (XK.region rfl ?_))
  refine XO.q (Q.fieldAddr rfl) ?_
  refine XO.q (Q.ld rfl rfl) ?_
  refine XO.q (Q.move rfl) ?_
  refine XO.q (Q.leq rfl rfl) ?_
  refine XO.done ?_
  refine XK.if rfl (fun c1 => ?_) (fun c1 => ?_)
  ·skip
   refine XK.region rfl ?_
   refine XO.q (Q.fieldAddr rfl) ?_
   refine XO.q (Q.ld rfl rfl) ?_
   refine XO.q (Q.assign rfl) (XO.done ?_)
   refine XK.inBlock ?_
   refine XK.region rfl ?_
   refine XO.q (Q.add rfl rfl ⟨by omega, by omega⟩) ?_
   refine XO.q (Q.move rfl) (XO.done ?_)
   rw [show (t.tiers.getD i default).pct = pctTo t out (i + 1) by rw [pctTo, if_pos c1]]
   exact ih0 (i + 1) _ _ (by omega) (by first | omega | (dsimp only; omega)) (.c rfl (.c rfl (.base 28 rfl rfl))) inferInstance
  ·skip
   refine XK.skip ?_
   refine XK.inBlock ?_
   refine XK.region rfl ?_
   refine XO.q (Q.add rfl rfl ⟨by omega, by omega⟩) ?_
   refine XO.q (Q.move rfl) (XO.done ?_)
   rw [show pctTo t out i = pctTo t out (i + 1) by rw [pctTo, if_neg c1]]
   exact ih0 (i + 1) _ _ (by omega) (by first | omega | (dsimp only; omega)) (.c rfl (.c rfl (.base 25 rfl rfl))) inferInstance
 ·skip
  refine XK.exit rfl ?_
  refine XK.seq (XK.region rfl (XO.q (Q.move rfl) ?_))
  refine XO.q (Q.fieldAddr rfl) ?_
  refine XO.q (Q.fieldAddr rfl) ?_
  refine XO.q (Q.ld rfl rfl) ?_
  refine XO.q (Q.min rfl rfl) ?_
  refine XO.q (Q.assign rfl) (XO.done ?_)
  refine XK.rt [] Tryz.func96 Tryz.results96 (.t rfl .n) ?_
  have hin : i = t.tiers.length := by omega
  rw [hin]
  exact ⟨rfl, rfl⟩
theorem Make_spec (t : MTariff) (vp vt : Value) (hp ht : PHeap) [jp : Arr vp encI 1 hp t.price] [jt : Arr vt encTier 2 ht t.tiers] (u : MUse) (vu : Value) (hu : PHeap) [ju : Arr vu encI 1 hu u.values] : Spec Tryz.prog 42 #[.agg #[vp, .int .i64 t.base, vt, .int .i64 t.credit], .agg #[vu, .int .i64 u.out]] [] [hp, ht, hu] (fun v hs => v = .tuple #[.agg #[.int .i64 (makeG t u).1.energy, .int .i64 (makeG t u).1.amount, .int .i64 (makeG t u).1.credit, .int .i64 (makeG t u).1.due], .int .i64 (makeG t u).2] ∧ hs = []) := by
 have lu := ju.le
 refine Spec.intro (fn := Tryz.f42) (N := 86) Tryz.func42 rfl Tryz.ntmps42 rfl fun B => ?_
 refine XK.seq (XK.region rfl ?_)
 refine XO.box rfl fun b2 => ?_
 refine XO.box rfl fun b3 => ?_
 refine XO.alloc fun b4 => ?_
 refine XO.q (Q.assign rfl) (XO.done (XK.seq (XK.region rfl ?_)))
 refine XO.q (Q.ldA [_, _, _, _] rfl rfl rfl) ?_
 refine XO.q (Q.build [_, _, _, _] (.c 0 4 rfl rfl rfl (.n _))) ?_
 refine XO.alloc fun b6 => ?_
 refine XO.st rfl rfl rfl ?_
 refine XO.done (XK.seq (XK.seq (XK.region rfl ?_)))
 refine XO.q (Q.ldA [_, _, _, _] rfl rfl rfl) ?_
 refine XO.call Tryz.call94 rfl rfl rfl (right_spec t vp vt hp ht) fun v14 s14 R14 => ?_
 obtain ⟨rfl, rfl⟩ := R14
 dsimp only [lcA, lnA]
 refine XO.q (Q.assign rfl) (XO.done (XK.seq (XK.region rfl (XO.q (Q.move rfl) ?_))))
 refine XO.q (Q.neq rfl rfl) ?_
 refine XO.done ?_
 refine XK.if rfl (fun c0 => ?_) (fun c0 => ?_)
 ·skip
  refine XK.seq (XK.region rfl ?_)
  refine XO.q (Q.build [_, _, _, _] (.n _)) ?_
  refine XO.q (Q.move rfl) ?_
  refine XO.st rfl rfl rfl ?_
  refine XO.q (Q.assign rfl) (XO.done ?_)
  refine XK.rt [] Tryz.func42 Tryz.results42 (.cell [_, _, _, _] rfl rfl rfl (.t rfl .n)) ?_
  have hw0 : makeG t u = (default, rightG t) := by rw [makeG, if_pos c0]
  rw [hw0]
  exact ⟨rfl, rfl⟩
 ·skip
  have k := right_ok (Decidable.of_not_not c0)
  have pl := k.len
  have bs := k.base
  refine XK.skip (XK.seq (XK.block (XK.seq (XK.region rfl ?_))))
  refine XO.q (Q.fieldAddr rfl) ?_
  refine XO.q (Q.ld rfl rfl) ?_
  refine XO.len rfl fun l22 => ?_
  refine XO.q (Q.gtr rfl rfl) ?_
  refine XO.q (Q.assign rfl) (XO.done ?_)
  refine XK.if rfl (fun c1 => ?_) (fun c1 => ?_)
  ·skip
   refine XK.seq (XK.region rfl ?_)
   refine XO.q (Q.build [_, _, _, _] (.n _)) ?_
   refine XO.st rfl rfl rfl ?_
   refine XO.q (Q.assign rfl) (XO.done ?_)
   refine XK.rt [] Tryz.func42 Tryz.results42 (.cell [_, _, _, _] rfl rfl rfl (.t rfl .n)) ?_
   have hw0 : makeG t u = (default, 2) := by rw [makeG, if_neg c0, if_pos c1]
   rw [hw0]
   exact ⟨rfl, rfl⟩
  ·skip
   refine XK.seq (XK.region rfl ?_)
   refine XO.q (Q.fieldAddr rfl) ?_
   refine XO.q (Q.ld rfl rfl) ?_
   refine XO.call Tryz.call95 rfl rfl rfl (in_spec11 100000 vu hu u.values) fun v28 s28 R28 => ?_
   obtain ⟨rfl, rfl⟩ := R28
   dsimp only [lcA, lnA]
   refine XO.q (Q.not rfl) ?_
   refine XO.q (Q.move rfl) ?_
   refine XO.q (Quiet.guardF rfl rfl fun g31 p31 => Q.fieldAddr rfl) ?_
   refine XO.q (Quiet.guardF rfl rfl fun g32 p32 => Q.ld (lzv g32 rfl) rfl) ?_
   refine XO.lit1 [_] [_] [u.out] encI rfl rfl (by rfl) (by rfl) rfl (by rfl) (fun g33 => by exact .c 0 1 (lzv g33 rfl) rfl rfl (.n _)) (fun _ => rfl) (by rfl) rfl (fun _ => by infer_instance) rfl (fun v33 h33 O33 => ?_)
   refine XO.gcallF rfl rfl Tryz.call95 rfl (fun g34 => .c rfl (.c (lzv g34 rfl) .n)) rfl (fun g34 p34 => by haveI := O33 g34; exact in_spec11 50000 v33 h33 [u.out]) ?_
   refine XO.q (Quiet.guardF rfl rfl fun g35 p35 => Q.not (lzv g35 rfl)) ?_
   refine XO.q (Q.or rfl (fun hp => lzv hp rfl)) ?_
   refine XO.q (Q.assign rfl) (XO.done ?_)
   refine XK.if rfl (fun c2 => ?_) (fun c2 => ?_)
   ·skip
    refine XK.seq (XK.region rfl ?_)
    refine XO.q (Q.build [_, _, _, _] (.n _)) ?_
    refine XO.st rfl rfl rfl ?_
    refine XO.q (Q.assign rfl) (XO.done ?_)
    refine XK.rt [] Tryz.func42 Tryz.results42 (.cell [_, _, _, _] rfl rfl rfl (.t rfl .n)) ?_
    have hw0 : makeG t u = (default, 6) := by rw [makeG, if_neg c0, if_neg c1, if_pos c2]
    rw [hw0]
    exact ⟨rfl, rfl⟩
   ·skip
    have q := make_use (t := t) c1 c2
    refine XK.skip ?_
    refine XK.inBlock ?_
    refine XK.seq (XK.region rfl ?_)
    refine XO.q (Q.fieldAddr rfl) ?_
    refine XO.q (Q.fieldAddr rfl) ?_
    refine XO.q (Q.ld rfl rfl) ?_
    refine XO.q (Q.build [_, _, _, _] (.c 1 1 rfl rfl rfl (.n _))) ?_
    refine XO.alloc fun b8 => ?_
    refine XO.st rfl rfl rfl ?_
    refine XO.done (XK.seq (XK.seq (XK.region rfl ?_)))
    refine XO.q (Q.fieldAddr rfl) ?_
    refine XO.q (Q.ld rfl rfl) ?_
    refine XO.len rfl fun l44 => ?_
    refine XO.q (Q.move rfl) (XO.done (XK.block ?_))
    refine XK.while (X := Nat) [9, 10, 45, 46, 47, 48, 49, 50, 51, 52, 53, 54, 55, 56, 57, 58, 59, 60, 61, 62, 63, 64, 65, 66, 67, 68] (fun i => [(45, some (.int .i64 (i : Nat)))]) (fun i => [blk b8 [.int .i64 (energyTo u.values i), .int .i64 (amtTo t u.values i), .int .i64 0, .int .i64 0] 157]) (fun i => i ≤ u.values.length) (fun i => u.values.length - i) (0) [blk b8 [.int .i64 0, .int .i64 t.base, .int .i64 0, .int .i64 0] 157] rfl (by omega) (.c rfl (.base 0 rfl rfl)) ?_
    rintro i hi ih0
    dsimp only [lcA, lnA] at ih0 ⊢
    refine XK.seq (XK.region rfl ?_)
    refine XO.q (Q.lss rfl rfl) ?_
    refine XO.done (XK.seq ?_)
    refine XK.if rfl (fun c3 => ?_) (fun c3 => ?_)
    ·skip
     have cr := cost_rng k q.vals (n := i) (by omega)
     have ae := amtTo_eq t u.values i
     have er := energy_rng q.vals (n := i) (by omega)
     have co := cost_one k q.vals (i := i) (by omega)
     have va := vals_at q.vals (i := i) (by omega)
     have pa := price_at k i
     change 0 ≤ u.values.getD i default ∧ u.values.getD i default ≤ _ at va
     change 0 ≤ t.price.getD (i % 24) default ∧ t.price.getD (i % 24) default ≤ _ at pa
     change 0 ≤ u.values.getD i default * t.price.getD (i % 24) default ∧ u.values.getD i default * t.price.getD (i % 24) default ≤ _ at co
     refine XK.skip (XK.seq (XK.block (XK.seq (XK.region rfl (XO.q (Q.move rfl) ?_)))))
     refine XO.ix rfl rfl (by omega) (by omega) fun i48 => ?_
     refine XO.q (Q.ldE rfl (by first | assumption | omega) rfl) ?_
     refine XO.q (Q.assign rfl) (XO.q (Q.assign rfl) (XO.done (XK.seq (XK.region rfl ?_))))
     refine XO.q (Q.fieldAddr rfl) ?_
     refine XO.q (Q.ld rfl rfl) ?_
     refine XO.q (Q.move rfl) ?_
     refine XO.q (Q.add rfl rfl ⟨by omega, by omega⟩) ?_
     rw [show (energyTo u.values i) + u.values.getD i default = energyTo u.values (i + 1) from rfl]
     refine XO.q (Q.fieldAddr rfl) ?_
     refine XO.st rfl rfl rfl ?_
     refine XO.done ?_
     refine XK.drawn [0, 1, 2, 3, 4, 5, 6, 7, 8, 9, 10, 11, 12] [b8, b6] [] (.q 0 (.q 1 (.q 2 (.q 3 (.q 4 (.q 5 (.q 6 (.q 7 (.q 8 (.q 9 (.q 10 (.q 11 (.q 12 (.br 13 false .done .stop)))))))))))))) Tryz.mixed rfl (by kernel_rfl) ?_
     refine XT.q rfl rfl (Q.fieldAddr rfl) ?_
     refine XT.q rfl rfl (Q.ld rfl rfl) ?_
     refine XT.q rfl rfl (Q.move rfl) ?_
     refine XT.q rfl rfl (Q.fieldAddr rfl) ?_
     refine XT.q rfl rfl (Q.fieldAddr rfl) ?_
     refine XT.q rfl rfl (Q.ld rfl rfl) ?_
     refine XT.q rfl rfl (Q.move rfl) ?_
     refine XT.q rfl rfl (Q.rem rfl rfl (by omega) (by omega)) ?_
     rw [show ((i : Int) % 24) = ((i % 24 : Nat) : Int) from rfl]
     refine XT.ix rfl rfl rfl rfl (by omega) (by omega) fun i63 => ?_
     refine XT.q rfl rfl (Q.ldE rfl (by first | assumption | omega) rfl) ?_
     refine XT.q rfl rfl (Q.mul rfl rfl ⟨by omega, by omega⟩) ?_
     refine XT.q rfl rfl (Q.add rfl rfl ⟨by omega, by omega⟩) ?_
     rw [show (amtTo t u.values i) + u.values.getD i default * t.price.getD (i % 24) default = amtTo t u.values (i + 1) from rfl]
     refine XT.q rfl rfl (Q.fieldAddr rfl) ?_
     refine XT.st rfl rfl rfl rfl rfl ⟨inferInstance, ?_⟩ XT.stop
     refine XT.done ?_
     refine XK.inBlock ?_
     refine XK.region rfl ?_
     refine XO.q (Q.add rfl rfl ⟨by omega, by omega⟩) ?_
     refine XO.q (Q.move rfl) (XO.done ?_)
     exact ih0 (i + 1) _ _ (by omega) (by first | omega | (dsimp only; omega)) (.c rfl (.base 53 rfl rfl)) inferInstance
    ·skip
     have hin : i = u.values.length := by omega
     rw [hin]
     rw [show amtTo t u.values u.values.length = amountL t u from amtTo_eq ..]
     have ar := amount_rng k q
     have crr := credit_rng k q
     clear ih0
     refine XK.exit rfl ?_
     refine XK.seq ?_
     refine XK.drawn [0, 1, 2, 3, 4, 6, 7, 8, 9] [b8, b6, b3] [] (.q 0 (.q 1 (.q 2 (.q 3 (.q 4 (.br 5 true (.q 6 (.q 7 (.q 8 (.q 9 (.br 10 false .done .stop))))) .stop)))))) Tryz.mixed rfl (by kernel_rfl) ?_
     refine XT.q rfl rfl (Q.fieldAddr rfl) ?_
     refine XT.q rfl rfl (Q.ld rfl rfl) ?_
     refine XT.q rfl rfl (Q.ldA [_, _, _, _] rfl rfl rfl) ?_
     refine XT.q rfl rfl (Q.fieldAddr rfl) ?_
     refine XT.q rfl rfl (Q.ld rfl rfl) ?_
     refine XT.call rfl rfl Tryz.call96 rfl rfl rfl (percent_spec t vp vt hp ht u.out) (fun v74 s74 R74 => ?_) XT.stop
     obtain ⟨rfl, rfl⟩ := R74
     dsimp only [lcA, lnA]
     refine ⟨inferInstance, ?_⟩
     refine XT.q rfl rfl (Q.mul rfl rfl ⟨by omega, by omega⟩) ?_
     refine XT.q rfl rfl (Q.add rfl rfl ⟨by omega, by omega⟩) ?_
     refine XT.q rfl rfl (Q.quo rfl rfl (by omega) (by omega) (by omega)) ?_
     rw [show (amountL t u * percentL t u.out + 50) / 100 = creditL t u from rfl]
     refine XT.q rfl rfl (Q.fieldAddr rfl) ?_
     refine XT.st rfl rfl rfl rfl rfl ⟨inferInstance, ?_⟩ XT.stop
     refine XT.done ?_
     refine XK.seq (XK.region rfl ?_)
     refine XO.q (Q.fieldAddr rfl) ?_
     refine XO.q (Q.ld rfl rfl) ?_
     refine XO.q (Q.fieldAddr rfl) ?_
     refine XO.q (Q.ld rfl rfl) ?_
     refine XO.q (Q.sub rfl rfl ⟨by omega, by omega⟩) ?_
     refine XO.q (Q.fieldAddr rfl) ?_
     refine XO.st rfl rfl rfl ?_
     refine XO.done (XK.seq (XK.region rfl ?_))
     refine XO.q (Q.ldA [_, _, _, _] rfl rfl rfl) ?_
     refine XO.st rfl rfl rfl ?_
     refine XO.q (Q.assign rfl) (XO.done ?_)
     refine XK.rt [] Tryz.func42 Tryz.results42 (.cell [_, _, _, _] rfl rfl rfl (.t rfl .n)) ?_
     have hw0 : makeG t u = (billL t u, 0) := by rw [makeG, if_neg c0, if_neg c1, if_neg c2]
     rw [hw0]
     exact ⟨rfl, rfl⟩
end Go.X.Me

set_option linter.unusedSimpArgs false
set_option linter.unusedVariables false
set_option maxRecDepth 20000
namespace Go.X.Me
open Go.Proofs
theorem mul64_one (n : Nat) (h : n ≤ 4294967295) : Spec Tryz.prog 199 #[.int .u64 1, .int .u64 (n : Nat)] [] [] (fun v hs => v = .tuple #[.int .u64 0, .int .u64 (n : Nat)] ∧ hs = []) := by apply Go.X.Ke.mul64_one <;> assumption
theorem mul_one' (n : Nat) (h : n ≤ 4294967295) : Spec Tryz.prog 160 #[.int .u64 1, .int .u64 (n : Nat)] [] [] (fun v hs => v = .tuple #[.int .u64 0, .int .u64 (n : Nat)] ∧ hs = []) := by apply Go.X.Ke.mul_one' <;> assumption
theorem repeatI (v : Value) (h : PHeap) (x : Int) [s : Arr v encI 1 h [x]] (n : Nat) (hn : n ≤ 4294967295) : Spec Tryz.prog 100 #[v, .int .i64 (n : Nat)] [] [h] (fun v' hs => ∃ h', hs = [h'] ∧ OArr v' encI 1 3 h' (List.replicate n x)) := by apply Go.X.Ke.repeatI <;> assumption
end Go.X.Me

set_option linter.unusedSimpArgs false
set_option linter.unusedVariables false
set_option maxRecDepth 20000
namespace Go.X.Me
open Go.Proofs
end Go.X.Me

set_option linter.unusedSimpArgs false
set_option linter.unusedVariables false
set_option maxRecDepth 20000
namespace Go.X.Me
open Go.Proofs
theorem lost_rng {c : MCase} (ok : MOk c) {i : Nat} (hi : i < c.nodes.length) {n : Nat} (hn : n ≤ (sonsN c i).length) : -14000000000 ≤ lostAt c i n ∧ lostAt c i n ≤ 1000000000 := by
 have hs : ∀ q, q < n → 0 ≤ c.vals.getD ((sonsN c i).getD q 0) 0 ∧ c.vals.getD ((sonsN c i).getD q 0) 0 ≤ 1000000000 := fun q hq => by
  obtain ⟨a, _, _⟩ := ok.son (getD_mem0 (l := sonsN c i) (j := q) (by omega))
  exact (ok.node _ a).2.1
 have h1 : 0 ≤ sumV c c.vals i n := sum_nonneg fun q hq => (hs q hq).1
 have h2 : sumV c c.vals i n ≤ n * 1000000000 := sum_le fun q hq => (hs q hq).2
 have h3 := (ok.node i hi).2.1
 have h4 : (sonsN c i).length ≤ c.nodes.length := sonsTo_len
 have h5 := ok.n2
 unfold lostAt; omega
theorem Broken_spec (c : MCase) (vn vv : Value) (hn hv : PHeap) [jn : Arr vn encNode 3 hn c.nodes] [jv : Arr vv encI 1 hv c.vals] : Spec Tryz.prog 33 #[.agg #[vn, vv]] [] [hn, hv] (fun v hs => ∃ v1 k1, v = .tuple #[v1, .int .i64 (brokenG c).2] ∧ hs = [k1] ∧ OArr v1 encI 1 3 k1 (brokenG c).1) := by
 have nI : OArr (.slice none 0 0) encI 1 3 emp ([] : List Int) := OArr.nil (fun _ => rfl)
 refine Spec.intro (fn := Tryz.f33) (N := 68) Tryz.func33 rfl Tryz.ntmps33 rfl fun B => ?_
 refine XK.seq (XK.region rfl ?_)
 refine XO.box rfl fun b1 => ?_
 refine XO.q (Q.assign rfl) (XO.q (Q.assign rfl) (XO.done (XK.seq (XK.seq (XK.region rfl ?_)))))
 refine XO.q (Q.ldA [_, _] rfl rfl rfl) ?_
 refine XO.call Tryz.call86 rfl rfl rfl (Check_spec11 c vn vv hn hv) fun v13 s13 R13 => ?_
 obtain ⟨rfl, rfl⟩ := R13
 dsimp only [lcA, lnA]
 refine XO.q (Q.assign rfl) (XO.done (XK.seq (XK.region rfl (XO.q (Q.move rfl) ?_))))
 refine XO.q (Q.neq rfl rfl) ?_
 refine XO.done ?_
 refine XK.if rfl (fun c0 => ?_) (fun c0 => ?_)
 ·skip
  refine XK.seq (XK.region rfl (XO.q (Q.move rfl) (XO.q (Q.assign rfl) (XO.q (Q.assign rfl) (XO.done ?_)))))
  refine XK.rt [emp] Tryz.func33 Tryz.results33 (.t rfl (.t rfl .n)) ?_
  have hw0 : brokenG c = ([], mcheck c) := by rw [brokenG, if_pos c0]
  rw [hw0]
  exact ⟨.slice none 0 0, emp, rfl, rfl, OArr.nil (fun _ => rfl)⟩
 ·skip
  have ok := mcheck_ok (Decidable.of_not_not c0)
  have vl := ok.vl
  refine XK.skip (XK.seq (XK.region rfl (XO.q (Q.assign rfl) (XO.done (XK.seq ?_)))))
  refine XK.seq (XK.region rfl ?_)
  refine XO.q (Q.fieldAddr rfl) ?_
  refine XO.q (Q.ld rfl rfl) ?_
  refine XO.len rfl fun l19 => ?_
  refine XO.q (Q.move rfl) (XO.done (XK.block ?_))
  refine XK.while (X := Nat × Value × PHeap) [5, 6, 7, 8, 9, 11, 20, 21, 22, 23, 24, 25, 26, 27, 28, 29, 30, 31, 32, 33, 34, 35, 36, 37, 38, 39, 40, 41, 42, 43, 44, 45, 46, 47, 48, 49, 50, 51, 52, 53, 54, 55, 56, 57, 58, 59, 60, 61, 62, 63, 64, 65, 66] (fun ⟨i, vo, ko⟩ => [(20, some (.int .i64 (i : Nat))), (5, some (vo))]) (fun ⟨i, vo, ko⟩ => [ko]) (fun ⟨i, vo, ko⟩ => i ≤ c.nodes.length ∧ OArr vo encI 1 3 ko (ints (brokenTo c i))) (fun ⟨i, vo, ko⟩ => c.nodes.length - i) (0, .slice none 0 0, emp) [emp] rfl ⟨by omega, nI⟩ (.c rfl (.c rfl (.base 0 rfl rfl))) ?_
  rintro ⟨i, vo, ko⟩ ⟨hi, OO⟩ ih0
  dsimp only [lcA, lnA] at ih0 ⊢
  refine XK.seq (XK.region rfl ?_)
  refine XO.q (Q.lss rfl rfl) ?_
  refine XO.done (XK.seq ?_)
  refine XK.if rfl (fun c1 => ?_) (fun c1 => ?_)
  ·skip
   have il := ints_len (l := (sonsN c i))
   have nd := (ok.node i (by omega)).2.1
   have bl := brokenTo_len c i
   have n2 := ok.n2
   refine XK.skip (XK.seq (XK.block (XK.seq (XK.region rfl (XO.q (Q.move rfl) ?_)))))
   refine XO.ix rfl rfl (by omega) (by omega) fun i23 => ?_
   refine XO.q (Q.ldEA [_, _, _] rfl (by first | assumption | omega) rfl rfl) ?_
   refine XO.alloc fun b7 => ?_
   refine XO.q (Q.assign rfl) ?_
   refine XO.st rfl rfl rfl ?_
   refine XO.done (XK.seq (XK.region rfl ?_))
   refine XO.q (Q.ldA [_, _] rfl rfl rfl) ?_
   refine XO.q (Q.move rfl) ?_
   refine XO.call Tryz.call87 rfl rfl rfl (sons_spec c vn vv hn ok.n2 (i : Nat)) fun v27 s27 R27 => ?_
   obtain ⟨k27, rfl, O27⟩ := R27
   dsimp only [lcA, lnA]
   change OArr v27 encI 1 3 k27 (ints (sonsN c i)) at O27
   refine XO.q (Q.assign rfl) (XO.done (XK.seq (XK.region rfl ?_)))
   refine XO.q (Q.fieldAddr rfl) ?_
   refine XO.q (Q.ld rfl rfl) ?_
   refine XO.q (Q.move rfl) ?_
   refine XO.ix rfl rfl (by omega) (by omega) fun i31 => ?_
   refine XO.q (Q.ldE rfl (by first | assumption | omega) rfl) ?_
   rw [show c.vals.getD i default = lostAt c i 0 by rw [lostAt, sumV, sumTo, Int.sub_zero]; rfl]
   refine XO.q (Q.assign rfl) (XO.done (XK.seq (XK.seq (XK.region rfl (XO.q (Q.move rfl) ?_)))))
   refine XO.len rfl fun l34 => ?_
   rw [il]
   refine XO.q (Q.move rfl) (XO.done (XK.block ?_))
   refine XK.while (X := Nat) [9, 11, 35, 36, 37, 38, 39, 40, 41, 42, 43, 44, 45, 46] (fun j => [(35, some (.int .i64 (j : Nat))), (9, some (.int .i64 (lostAt c i j)))]) (fun j => []) (fun j => j ≤ (sonsN c i).length) (fun j => (sonsN c i).length - j) (0) [] rfl (by omega) (.c rfl (.c rfl (.base 0 rfl rfl))) ?_
   rintro j hj ih1
   dsimp only [lcA, lnA] at ih1 ⊢
   refine XK.seq (XK.region rfl ?_)
   refine XO.q (Q.lss rfl rfl) ?_
   refine XO.done (XK.seq ?_)
   refine XK.if rfl (fun c2 => ?_) (fun c2 => ?_)
   ·skip
    have lr := lost_rng ok (i := i) (by omega) (n := j) (by omega)
    have lr2 := lost_rng ok (i := i) (by omega) (n := j + 1) (by omega)
    have lr3 : -14000000000 ≤ c.vals.getD i 0 := by omega
    refine XK.skip (XK.seq (XK.block (XK.seq (XK.region rfl ?_))))
    refine XO.ix rfl rfl (by omega) (by omega) fun i37 => ?_
    refine XO.q (Q.ldE rfl (by first | assumption | omega) rfl) ?_
    rw [ints_at (by omega)]
    obtain ⟨k, ek⟩ : ∃ k, k = (sonsN c i).getD j 0 := ⟨_, rfl⟩
    rw [← ek]
    obtain ⟨k1, k2, k3⟩ := ok.son (i := i) (k := k) (by rw [ek]; exact getD_mem0 (by omega))
    have vk : 0 ≤ c.vals.getD k default ∧ c.vals.getD k default ≤ 1000000000 := (ok.node k k1).2.1
    refine XO.q (Q.assign rfl) (XO.done (XK.region rfl (XO.q (Q.move rfl) ?_)))
    refine XO.q (Q.fieldAddr rfl) ?_
    refine XO.q (Q.ld rfl rfl) ?_
    refine XO.q (Q.move rfl) ?_
    refine XO.ix rfl rfl (by omega) (by omega) fun i43 => ?_
    refine XO.q (Q.ldE rfl (by first | assumption | omega) rfl) ?_
    refine XO.q (Q.sub rfl rfl ⟨by omega, by omega⟩) ?_
    rw [show (lostAt c i j) - c.vals.getD k default = (lostAt c i (j + 1)) by rw [lostAt, lostAt, sumV, sumV, sumTo, ← ek, ← Int.sub_sub]; rfl]
    refine XO.q (Q.assign rfl) (XO.done ?_)
    refine XK.inBlock ?_
    refine XK.region rfl ?_
    refine XO.q (Q.add rfl rfl ⟨by omega, by omega⟩) ?_
    refine XO.q (Q.move rfl) (XO.done ?_)
    exact ih1 (j + 1) _ _ (by omega) (by first | omega | (dsimp only; omega)) (.c rfl (.c rfl (.base 30 rfl rfl))) inferInstance
   ·skip
    have hjn : j = (sonsN c i).length := by omega
    subst hjn
    refine XK.exit rfl ?_
    refine XK.seq (XK.region rfl (XO.q (Q.move rfl) ?_))
    refine XO.len rfl fun l48 => ?_
    rw [il]
    refine XO.q (Q.gtr rfl rfl) ?_
    refine XO.q (Q.move rfl) ?_
    refine XO.q (Quiet.guardT rfl rfl fun g51 p51 => Q.move rfl) ?_
    refine XO.q (Quiet.guardT rfl rfl fun g52 p52 => Q.fieldAddr rfl) ?_
    refine XO.q (Quiet.guardT rfl rfl fun g53 p53 => Q.ld (lzv g53 rfl) rfl) ?_
    refine XO.q (Quiet.guardT rfl rfl fun g54 p54 => Q.lss (lzv g54 rfl) (lzv g54 rfl)) ?_
    refine XO.q (Quiet.guardT rfl rfl fun g55 p55 => Q.move (lzv g55 rfl)) ?_
    refine XO.q (Quiet.guard2 rfl rfl fun g56a g56b => have p56a := bpT g56a; have p56b := bpF g56b; Q.move rfl) ?_
    refine XO.q (Quiet.guard2 rfl rfl fun g57a g57b => have p57a := bpT g57a; have p57b := bpF g57b; Q.fieldAddr rfl) ?_
    refine XO.q (Quiet.guard2 rfl rfl fun g58a g58b => have p58a := bpT g58a; have p58b := bpF g58b; Q.ld (lzv g58b (lzv g58a rfl)) rfl) ?_
    refine XO.q (Quiet.guard2 rfl rfl fun g59a g59b => have p59a := bpT g59a; have p59b := bpF g59b; Q.gtr (lzv g59b (lzv g59a rfl)) (lzv g59b (lzv g59a rfl))) ?_
    refine XO.q (Quiet.guardT rfl rfl fun g60 p60 => Q.or (lzv g60 rfl) (fun hp => (lzv hp (lzv g60 rfl)))) ?_
    refine XO.q (Q.and rfl (fun hp => lzv hp rfl)) ?_
    refine XO.done ?_
    refine XK.if rfl (fun c3 => ?_) (fun c3 => ?_)
    ·skip
     refine XK.region rfl (XO.q (Q.move rfl) (XO.q (Q.move rfl) ?_))
     refine XO.lit [_] [_] [((i : Nat) : Int)] encI (by rfl) (by rfl) rfl (by rfl) (by exact .c 0 1 rfl rfl rfl (.n _)) (fun _ => rfl) (by rfl) rfl (by infer_instance) rfl fun v64 h64 O64 => ?_
     refine XO.append rfl rfl rfl rfl (by simp only [ints_len, List.length_cons, List.length_nil]; omega) fun v65 h65 O65 => ?_
     refine XO.q (Q.assign rfl) (XO.done ?_)
     refine XK.inBlock ?_
     refine XK.region rfl ?_
     refine XO.q (Q.add rfl rfl ⟨by omega, by omega⟩) ?_
     refine XO.q (Q.move rfl) (XO.done ?_)
     exact ih0 (i + 1, v65, h65) _ _ ⟨by dsimp only; omega, by dsimp only; rw [brokenTo, if_pos (show isBroken c i from c3), ints_snoc]; exact O65⟩ (by first | omega | (dsimp only; omega)) (.c rfl (.c rfl (.base 113 rfl rfl))) inferInstance
    ·skip
     refine XK.skip ?_
     refine XK.inBlock ?_
     refine XK.region rfl ?_
     refine XO.q (Q.add rfl rfl ⟨by omega, by omega⟩) ?_
     refine XO.q (Q.move rfl) (XO.done ?_)
     exact ih0 (i + 1, vo, ko) _ _ ⟨by dsimp only; omega, by dsimp only; rw [brokenTo, if_neg (show ¬ isBroken c i from c3)]; exact OO⟩ (by first | omega | (dsimp only; omega)) (.c rfl (.c rfl (.base 108 rfl rfl))) inferInstance
  ·skip
   refine XK.exit rfl ?_
   refine XK.seq (XK.region rfl (XO.q (Q.move rfl) (XO.q (Q.assign rfl) (XO.q (Q.assign rfl) (XO.done ?_)))))
   refine XK.rt [ko] Tryz.func33 Tryz.results33 (.t rfl (.t rfl .n)) ?_
   have hin : i = c.nodes.length := by omega
   subst hin
   have hw0 : brokenG c = (ints (brokenTo c c.nodes.length), 0) := by rw [brokenG, if_neg c0]
   rw [hw0]
   exact ⟨vo, ko, rfl, rfl, OO⟩
end Go.X.Me

set_option linter.unusedSimpArgs false
set_option linter.unusedVariables false
set_option maxRecDepth 20000
namespace Go.X
open Go.Proofs
theorem there_spec : Spec Tryz.prog 14 #[] [] [] (fun v hs => v = .bool true ∧ hs = []) := by
 have nG : ∀ h, Arr (.slice none 0 0) Bk.encGen 5 h ([] : List Bk.BGen) := fun h => Arr.nil (fun _ => rfl)
 have nI : ∀ h, Arr (.slice none 0 0) encI 1 h ([] : List Int) := fun h => Arr.nil (fun _ => rfl)
 have nW : ∀ h, Arr (.slice none 0 0) Ht.encWall 3 h ([] : List HWall) := fun h => Arr.nil (fun _ => rfl)
 have nB : ∀ h, Arr (.slice none 0 0) Ht.encBranch 3 h ([] : List HBranch) := fun h => Arr.nil (fun _ => rfl)
 have nC : ∀ h, Arr (.slice none 0 0) Ht.encCooler 5 h ([] : List HCooler) := fun h => Arr.nil (fun _ => rfl)
 have nJ : ∀ h, Arr (.slice none 0 0) Ma.encJob 4 h ([] : List Ma.KJob) := fun h => Arr.nil (fun _ => rfl)
 refine Spec.intro (fn := Tryz.f14) (N := 118) Tryz.func14 rfl Tryz.ntmps14 rfl fun B => ?_
 refine XK.seq (XK.region rfl (XO.q (Q.assign rfl) (XO.done (XK.seq (XK.region rfl ?_)))))
 refine XO.q (Q.build [_, _, _, _] (.c 0 1 rfl rfl rfl (.c 1 1 rfl rfl rfl (.c 2 1 rfl rfl rfl (.n _))))) ?_
 refine XO.lit [_, _, _, _] [_, _, _, _] [⟨30, 30, 10, 0⟩] Bk.encBat (by rfl) (by rfl) rfl (by rfl) (by exact .c 0 4 rfl rfl rfl (.n _)) (fun _ => rfl) (by rfl) rfl (by infer_instance) rfl fun v15 h15 O15 => ?_
 refine XO.q (Q.build [_, _] (.c 0 1 rfl rfl rfl (.n _))) ?_
 refine XO.q (Q.build [_, _] (.c 0 1 rfl rfl rfl (.c 1 1 rfl rfl rfl (.n _)))) ?_
 refine XO.lit [_, _] [_, _] [⟨5, 10⟩] Bk.encSpan (by rfl) (by rfl) rfl (by rfl) (by exact .c 0 2 rfl rfl rfl (.n _)) (fun _ => rfl) (by rfl) rfl (by infer_instance) rfl fun v18 h18 O18 => ?_
 refine XO.call Tryz.call29 rfl rfl rfl (Bk.Run_spec thB v15 (.slice none 0 0) h15 h15 (ib := O15.arr) (ig := nG _) thL v18 h18 (il := O18.arr) [] (.slice none 0 0) h15 (jf := nI _)) fun v19 s19 R19 => ?_
 obtain ⟨ve, vn, ke, kn, rfl, rfl, OE, OB⟩ := R19
 dsimp only [lcA, lnA]
 rw [if_pos th_ready] at OE OB
 rw [th_ready, if_pos rfl]
 dsimp only [Bk.resV]
 rw [th_dark]
 refine XO.q (Q.move rfl) ?_
 refine XO.q (Q.extract rfl rfl) ?_
 refine XO.q (Q.extract rfl rfl) ?_
 refine XO.alloc fun b1 => ?_
 refine XO.st rfl rfl rfl ?_
 refine XO.q (Q.assign rfl) (XO.done (XK.seq (XK.region rfl ?_)))
 refine XO.q (Q.build [_, _] (.c 0 1 rfl rfl rfl (.c 1 1 rfl rfl rfl (.n _)))) ?_
 refine XO.lit [_, _] [_, _] [⟨2, 9⟩] Ht.encRoom (by rfl) (by rfl) rfl (by rfl) (by exact .c 0 2 rfl rfl rfl (.n _)) (fun _ => rfl) (by rfl) rfl (by infer_instance) rfl fun v24 h24 O24 => ?_
 refine XO.q (Q.build [_, _, _, _] (.c 0 1 rfl rfl rfl (.n _))) ?_
 refine XO.lit [_] [_] [5] encI (by rfl) (by rfl) rfl (by rfl) (by exact .c 0 1 rfl rfl rfl (.n _)) (fun _ => rfl) (by rfl) rfl (by infer_instance) rfl fun v26 h26 O26 => ?_
 refine XO.lit [_] [_] [4] encI (by rfl) (by rfl) rfl (by rfl) (by exact .c 0 1 rfl rfl rfl (.n _)) (fun _ => rfl) (by rfl) rfl (by infer_instance) rfl fun v27 h27 O27 => ?_
 refine XO.q (Q.build [_, _, _] (.c 0 1 rfl rfl rfl (.n _))) ?_
 refine XO.call Tryz.call16 rfl rfl rfl (Ht.Next_spec thH v24 (.slice none 0 0) (.slice none 0 0) (.slice none 0 0) h24 h24 h24 h24 (ir := O24.arr) (iw := nW _) (ib := nB _) (ic := nC _) [5] v26 h26 ⟨[4], 0, 0⟩ v27 h27) fun v29 s29 R29 => ?_
 obtain ⟨w29, k29, rfl, rfl, O29⟩ := R29
 dsimp only [lcA, lnA]
 rw [th_next1] at O29
 rw [th_next2]
 refine XO.q (Q.move rfl) ?_
 refine XO.q (Q.extract rfl rfl) ?_
 refine XO.q (Q.extract rfl rfl) ?_
 refine XO.q (Q.assign rfl) (XO.q (Q.assign rfl) (XO.done (XK.seq (XK.region rfl ?_))))
 refine XO.lit [_] [_] [0] encI (by rfl) (by rfl) rfl (by rfl) (by exact .c 0 1 rfl rfl rfl (.n _)) (fun _ => rfl) (by rfl) rfl (by infer_instance) rfl fun v33 h33 O33 => ?_
 refine XO.lit [_] [_] [true] encB (by rfl) (by rfl) rfl (by rfl) (by exact .c 0 1 rfl rfl rfl (.n _)) (fun _ => rfl) (by rfl) rfl (by infer_instance) rfl fun v34 h34 O34 => ?_
 refine XO.q (Q.build [_, _, _, _, _] (.c 0 1 rfl rfl rfl (.c 1 1 rfl rfl rfl (.c 2 1 rfl rfl rfl (.c 3 1 rfl rfl rfl (.c 4 1 rfl rfl rfl (.n _))))))) ?_
 refine XO.call Tryz.call12 rfl rfl rfl (Ke.Solve_spec thG v33 v34 h33 h34 (sn := O33.arr) (sg := O34.arr)) fun v36 s36 R36 => ?_
 obtain ⟨p1, p2, p3, q1, q2, q3, rfl, rfl, OP1, OP2, OP3⟩ := R36
 dsimp only [lcA, lnA]
 rw [th_solve] at OP1
 have hl1 : (0 : Int).toNat < ([true] : List Bool).length := by decide
 rw [th_game]
 refine XO.q (Q.move rfl) ?_
 refine XO.q (Q.extract rfl rfl) ?_
 refine XO.q (Q.extract rfl rfl) ?_
 refine XO.alloc fun b5 => ?_
 refine XO.st rfl rfl rfl ?_
 refine XO.q (Q.assign rfl) (XO.done (XK.seq (XK.region rfl ?_)))
 refine XO.q (Q.build [_, _] (.c 0 1 rfl rfl rfl (.c 1 1 rfl rfl rfl (.n _)))) ?_
 refine XO.q (Q.build [_, _] (.c 0 1 rfl rfl rfl (.c 1 1 rfl rfl rfl (.n _)))) ?_
 refine XO.lit [_, _, _, _] [_, _, _, _] [⟨1, 1⟩, ⟨3, 3⟩] Pl.encDraw (by rfl) (by rfl) rfl (by rfl) (by exact .c 0 2 rfl rfl rfl (.c 2 2 rfl rfl rfl (.n _))) (fun _ => rfl) (by rfl) rfl (by infer_instance) rfl fun v42 h42 O42 => ?_
 refine XO.q (Q.build [_, _, _, _, _, _] (.c 3 1 rfl rfl rfl (.n _))) ?_
 refine XO.lit [_, _, _, _, _, _] [_, _, _, _, _, _] [(v42, ⟨0, 0, 0, [⟨1, 1⟩, ⟨3, 3⟩], 0, 0⟩)] Pl.encPJ (by rfl) (by rfl) rfl (by rfl) (by exact .c 0 6 rfl rfl rfl (.n _)) (fun _ => rfl) (by rfl) rfl (by infer_instance) rfl fun v44 h44 O44 => ?_
 refine XO.call Tryz.call26 rfl rfl rfl (Pl.Chance_spec [(v42, ⟨0, 0, 0, [⟨1, 1⟩, ⟨3, 3⟩], 0, 0⟩)] v44 h44 h42 (fun i hi => by have e : i = 0 := (by simp at hi; omega); subst e; exact O42.arr) 2) fun v45 s45 R45 => ?_
 obtain ⟨rfl, rfl⟩ := R45
 dsimp only [lcA, lnA]
 rw [show Pl.chanceG (List.map Prod.snd [(v42, (⟨0, 0, 0, [⟨1, 1⟩, ⟨3, 3⟩], 0, 0⟩ : Pl.PJob))]) 2 = (⟨3, 4⟩, 0) from th_chance]
 refine XO.q (Q.move rfl) ?_
 refine XO.q (Q.extract rfl rfl) ?_
 refine XO.q (Q.extract rfl rfl) ?_
 refine XO.alloc fun b7 => ?_
 refine XO.st rfl rfl rfl ?_
 refine XO.q (Q.assign rfl) (XO.done (XK.seq (XK.region rfl ?_)))
 refine XO.q (Q.build [_, _, _, _, _, _] (.c 0 1 rfl rfl rfl (.c 3 1 rfl rfl rfl (.n _)))) ?_
 refine XO.lit [_, _, _, _, _, _] [_, _, _, _, _, _] [⟨7, 0, 0, 3, 0, 0⟩] Ma.encHour (by rfl) (by rfl) rfl (by rfl) (by exact .c 0 6 rfl rfl rfl (.n _)) (fun _ => rfl) (by rfl) rfl (by infer_instance) rfl fun v50 h50 O50 => ?_
 refine XO.q (Q.build [_, _, _, _, _, _, _, _] (.c 0 1 rfl rfl rfl (.c 6 1 rfl rfl rfl (.n _)))) ?_
 refine XO.lit [_] [_] [0] encI (by rfl) (by rfl) rfl (by rfl) (by exact .c 0 1 rfl rfl rfl (.n _)) (fun _ => rfl) (by rfl) rfl (by infer_instance) rfl fun v52 h52 O52 => ?_
 refine XO.q (Q.build [_, _, _] (.c 1 1 rfl rfl rfl (.n _))) ?_
 refine XO.call Tryz.call48 rfl rfl rfl (Ma.Cost_spec thD v50 (.slice none 0 0) h50 h50 (ih := O50.arr) (ij := nJ _) ⟨[], [0], 0⟩ (.slice none 0 0) v52 h50 h52 (js := nI _) (jc := O52.arr)) fun v54 s54 R54 => ?_
 obtain ⟨rfl, rfl⟩ := R54
 dsimp only [lcA, lnA]
 rw [th_cost]
 refine XO.q (Q.move rfl) ?_
 refine XO.q (Q.extract rfl rfl) ?_
 refine XO.q (Q.extract rfl rfl) ?_
 refine XO.q (Q.assign rfl) (XO.q (Q.assign rfl) (XO.done (XK.seq (XK.region rfl ?_))))
 refine XO.q (Q.build [_, _, _] (.c 0 1 rfl rfl rfl (.n _))) ?_
 refine XO.q (Q.build [_, _, _] (.n _)) ?_
 refine XO.lit [_, _, _, _, _, _] [_, _, _, _, _, _] [⟨-1, 0, 0⟩, ⟨0, 0, 0⟩] Me.encNode (by rfl) (by rfl) rfl (by rfl) (by exact .c 0 3 rfl rfl rfl (.c 3 3 rfl rfl rfl (.n _))) (fun _ => rfl) (by rfl) rfl (by infer_instance) rfl fun v60 h60 O60 => ?_
 refine XO.lit [_, _] [_, _] [4, 5] encI (by rfl) (by rfl) rfl (by rfl) (by exact .c 0 1 rfl rfl rfl (.c 1 1 rfl rfl rfl (.n _))) (fun _ => rfl) (by rfl) rfl (by infer_instance) rfl fun v61 h61 O61 => ?_
 refine XO.q (Q.build [_, _] (.c 0 1 rfl rfl rfl (.c 1 1 rfl rfl rfl (.n _)))) ?_
 refine XO.call Tryz.call33 rfl rfl rfl (Me.Broken_spec thM v60 v61 h60 h61 (jn := O60.arr) (jv := O61.arr)) fun v63 s63 R63 => ?_
 obtain ⟨w63, k63, rfl, rfl, O63⟩ := R63
 dsimp only [lcA, lnA]
 rw [show (Me.brokenG thM).1 = [0] by rw [th_broken]] at O63
 rw [th_broken]
 refine XO.q (Q.move rfl) ?_
 refine XO.q (Q.extract rfl rfl) ?_
 refine XO.q (Q.extract rfl rfl) ?_
 refine XO.q (Q.assign rfl) (XO.q (Q.assign rfl) (XO.done (XK.seq (XK.region rfl (XO.q (Q.move rfl) ?_)))))
 refine XO.q (Q.eql rfl rfl) ?_
 refine XO.q (Q.move rfl) ?_
 refine XO.q (Quiet.guardT rfl rfl fun g69 p69 => Q.move rfl) ?_
 refine XO.q (Quiet.guardT rfl rfl fun g70 p70 => Q.eql (lzv rfl rfl) rfl) ?_
 refine XO.q (Q.and rfl (fun hp => lzv hp rfl)) ?_
 refine XO.q (Q.move rfl) ?_
 refine XO.q (Quiet.guardT rfl rfl fun g73 p73 => Q.move rfl) ?_
 refine XO.q (Quiet.guardT rfl rfl fun g74 p74 => Q.eql (lzv rfl rfl) rfl) ?_
 refine XO.q (Q.and rfl (fun hp => lzv hp rfl)) ?_
 refine XO.q (Q.move rfl) ?_
 refine XO.q (Quiet.guardT rfl rfl fun g77 p77 => Q.move rfl) ?_
 refine XO.q (Quiet.guardT rfl rfl fun g78 p78 => Q.eql (lzv rfl rfl) rfl) ?_
 refine XO.q (Q.and rfl (fun hp => lzv hp rfl)) ?_
 refine XO.q (Q.move rfl) ?_
 refine XO.q (Quiet.guardT rfl rfl fun g81 p81 => Q.move rfl) ?_
 refine XO.q (Quiet.guardT rfl rfl fun g82 p82 => Q.eql (lzv rfl rfl) rfl) ?_
 refine XO.q (Q.and rfl (fun hp => lzv hp rfl)) ?_
 refine XO.q (Q.move rfl) ?_
 refine XO.q (Quiet.guardT rfl rfl fun g85 p85 => Q.move rfl) ?_
 refine XO.q (Quiet.guardT rfl rfl fun g86 p86 => Q.eql (lzv rfl rfl) rfl) ?_
 refine XO.q (Q.and rfl (fun hp => lzv hp rfl)) ?_
 refine XO.q (Q.move rfl) ?_
 refine XO.q (Quiet.guardT rfl rfl fun g89 p89 => Q.fieldAddr rfl) ?_
 refine XO.q (Quiet.guardT rfl rfl fun g90 p90 => Q.ld (lzv rfl rfl) rfl) ?_
 refine XO.q (Quiet.guardT rfl rfl fun g91 p91 => Q.eql (lzv rfl rfl) rfl) ?_
 refine XO.q (Q.and rfl (fun hp => lzv hp rfl)) ?_
 refine XO.q (Q.move rfl) ?_
 refine XO.q (Quiet.guardT rfl rfl fun g94 p94 => Q.move rfl) ?_
 refine XO.litG [_] [_] [7] encI rfl rfl rfl (by rfl) (by rfl) rfl (by rfl) (by exact .c 0 1 rfl rfl rfl (.n _)) (fun _ => rfl) (by rfl) rfl (by infer_instance) rfl fun v95 h95 O95 => ?_
 refine XO.callS rfl rfl rfl Tryz.call35 rfl (.c (lzv rfl rfl) (.c rfl .n)) rfl (Bk.equalI w29 v95 k29 h95 [7] [7]) fun v96 s96 R96 => ?_
 obtain ⟨rfl, rfl⟩ := R96
 dsimp only [lcA, lnA]
 refine XO.q (Q.and rfl (fun _ => rfl)) ?_
 refine XO.q (Q.move rfl) ?_
 refine XO.q (Quiet.guardT rfl rfl fun g99 p99 => Q.fieldAddr rfl) ?_
 refine XO.q (Quiet.guardT rfl rfl fun g100 p100 => Q.ld (lzv rfl rfl) rfl) ?_
 refine XO.q (Quiet.guardT rfl rfl fun g101 p101 => Q.ix (lzv rfl rfl) rfl (by decide) (by decide)) ?_
 refine XO.q (Quiet.guardT rfl rfl fun g102 p102 => Q.ldE (lzv rfl rfl) (by first | assumption | omega) rfl) ?_
 refine XO.q (Q.and rfl (fun hp => lzv hp rfl)) ?_
 refine XO.q (Q.move rfl) ?_
 refine XO.q (Quiet.guardT rfl rfl fun g105 p105 => Q.ldA [_, _] rfl rfl rfl) ?_
 refine XO.q (Quiet.guardT rfl rfl fun g106 p106 => Q.build [_, _] (.c 0 1 rfl rfl rfl (.c 1 1 rfl rfl rfl (.n _)))) ?_
 refine XO.q (Quiet.guardT rfl rfl fun g107 p107 => Q.eqlS (us := [_, _]) (vs := [_, _]) rfl rfl inferInstance (by kernel_rfl) (by kernel_rfl) (.c rfl inferInstance inferInstance rfl rfl (.c rfl inferInstance inferInstance rfl rfl .n))) ?_
 refine XO.q (Q.and rfl (fun hp => lzv hp rfl)) ?_
 refine XO.q (Q.move rfl) ?_
 refine XO.q (Quiet.guardT rfl rfl fun g110 p110 => Q.move rfl) ?_
 refine XO.q (Quiet.guardT rfl rfl fun g111 p111 => Q.eql (lzv rfl rfl) rfl) ?_
 refine XO.q (Q.and rfl (fun hp => lzv hp rfl)) ?_
 refine XO.q (Q.move rfl) ?_
 refine XO.q (Quiet.guardT rfl rfl fun g114 p114 => Q.move rfl) ?_
 refine XO.litG [_] [_] [0] encI rfl rfl rfl (by rfl) (by rfl) rfl (by rfl) (by exact .c 0 1 rfl rfl rfl (.n _)) (fun _ => rfl) (by rfl) rfl (by infer_instance) rfl fun v115 h115 O115 => ?_
 refine XO.callS rfl rfl rfl Tryz.call35 rfl (.c (lzv rfl rfl) (.c rfl .n)) rfl (Bk.equalI w63 v115 k63 h115 [0] [0]) fun v116 s116 R116 => ?_
 obtain ⟨rfl, rfl⟩ := R116
 dsimp only [lcA, lnA]
 refine XO.q (Q.and rfl (fun _ => rfl)) ?_
 refine XO.q (Q.assign rfl) (XO.done ?_)
 refine XK.rt [] Tryz.func14 Tryz.results14 (.t rfl .n) ?_
 exact ⟨rfl, rfl⟩
end Go.X

/- The rows of a ledger: their ranges. -/
set_option linter.unusedVariables false
namespace Go.X.Ma
structure RowSmall (m : Int) (r : KRow) : Prop where
  a : -m ≤ r.bought ∧ r.bought ≤ m
  b : -m ≤ r.sold ∧ r.sold ≤ m
  c : -m ≤ r.made ∧ r.made ≤ m
  d : -m ≤ r.used ∧ r.used ≤ m
  e : -m ≤ r.stored ∧ r.stored ≤ m
  f : -m ≤ r.carbon ∧ r.carbon ≤ m
  g : -m ≤ r.water ∧ r.water ≤ m
theorem sumRow_rng {f : Nat → KRow} {n : Nat} (h : ∀ i, i < n → RowSmall 1000000 (f i)) : ∀ i, i ≤ n → RowSmall (1000000 * i) (sumRow f i)
  | 0, _ => by constructor <;> simp [sumRow]
  | i + 1, hi => by
    have r := sumRow_rng h i (by omega)
    have s := h i (by omega)
    have := r.a; have := r.b; have := r.c; have := r.d; have := r.e; have := r.f; have := r.g
    have := s.a; have := s.b; have := s.c; have := s.d; have := s.e; have := s.f; have := s.g
    constructor <;> simp only [sumRow, addRow] <;> omega
theorem sumRow_ext {f g : Nat → KRow} : ∀ n, (∀ i, i < n → f i = g i) → sumRow f n = sumRow g n
  | 0, _ => rfl
  | n + 1, h => by rw [sumRow, sumRow, sumRow_ext n fun i hi => h i (by omega), h n (by omega)]
theorem mul_rng {a b m n : Int} (a0 : 0 ≤ a) (a1 : a ≤ m) (b0 : 0 ≤ b) (b1 : b ≤ n) (n0 : 0 ≤ n) : 0 ≤ a * b ∧ a * b ≤ m * n := ⟨Int.mul_nonneg a0 b0, Int.le_trans (Int.mul_le_mul_of_nonneg_right a1 b0) (Int.mul_le_mul_of_nonneg_left b1 (Int.le_trans a0 a1))⟩
theorem row_facts {d : KDay} {p : KPlan} (h : (formG d p).2 = 0) {i : Nat} (hi : i < d.hours.length) :
    let n := (formG d p).1.getD i default + p.charge.getD i default
    (-50 ≤ n ∧ n ≤ 40) ∧ (0 ≤ (usedL d p.starts).getD i default ∧ (usedL d p.starts).getD i default ≤ 80) ∧ (-10 ≤ p.charge.getD i default ∧ p.charge.getD i default ≤ 10) ∧
    (0 ≤ max n 0 * (d.hours.getD i default).carbon ∧ max n 0 * (d.hours.getD i default).carbon ≤ 1000000) ∧ (0 ≤ (usedL d p.starts).getD i default * (d.hours.getD i default).water ∧ (usedL d p.starts).getD i default * (d.hours.getD i default).water ≤ 1000000) := by
  obtain ⟨ok, so, _, hl, ha, _, e⟩ := form_fine h
  have nr := needs_rng ok p.starts hi
  have ur := used_rng ok p.starts hi d.jobs.length (Nat.le_refl _)
  have ue : (usedL d p.starts).getD i default = usedAt d p.starts i d.jobs.length := by rw [usedL, range_at hi]
  have oi := okAt_iff.1 (allTo_at ha (by omega : i < p.charge.length))
  have s3 := ok.store.p0; have s4 := ok.store.p1
  have j2 := ok.j2
  have m1 := ok.m1
  have hk := ok.hour i hi
  intro n
  have hn : n = (needsL d p.starts).getD i default + p.charge.getD i default := by show (formG d p).1.getD i default + _ = _; rw [e]
  have c1 := mul_rng (a := max n 0) (b := (d.hours.getD i default).carbon) (m := 40) (n := 10000) (by omega) (by omega) hk.c0 hk.c1 (by omega)
  have w1 := mul_rng (a := (usedL d p.starts).getD i default) (b := (d.hours.getD i default).water) (m := 80) (n := 10000) (by omega) (by omega) hk.w0 hk.w1 (by omega)
  exact ⟨by omega, by omega, by omega, by omega, by omega⟩
theorem row_small {d : KDay} {p : KPlan} (h : (formG d p).2 = 0) {i : Nat} (hi : i < d.hours.length) : RowSmall 1000000 (rowAt d (formG d p).1 (usedL d p.starts) p.charge i) := by
  obtain ⟨a, b, c, e, f⟩ := row_facts h hi
  have hk := (form_fine h).1.hour i hi
  have := hk.u0; have := hk.u1
  (try dsimp only at a e)
  constructor <;> simp only [rowAt] <;> omega
theorem range_getK {α : Type} [Inhabited α] {f : Nat → α} {n i : Nat} (h : i < n) : ((List.range n).map f).getD i default = f i := by
  rw [List.getD_eq_getElem?_getD, List.getElem?_map, List.getElem?_range h]; rfl
end Go.X.Ma

/- Ledgers and costs of plans, as the statements use them. No condition. -/
set_option linter.unusedVariables false
namespace Go.X.Ma
theorem led_yes {d : KDay} {s ch : List Int} {c : Int} (h : formG d ⟨s, ch, c⟩ = (needsL d s, 0)) : ledgerG d ⟨s, ch, c⟩ = ((List.range d.hours.length).map (rowA d s ch), sumRow (rowA d s ch) d.hours.length, 0) := by
  rw [ledgerG, h]; rfl
theorem cost_yes {d : KDay} {s ch : List Int} {c : Int} (h : formG d ⟨s, ch, c⟩ = (needsL d s, 0)) : costG d ⟨s, ch, c⟩ = (costL d (needsL d s) ch, 0) := by
  rw [costG, h]; rfl
structure RowIs (d : KDay) (s ch : List Int) (i : Nat) (r : KRow) : Prop where
  bal : r.bought + r.made = r.sold + r.used + r.stored
  one : r.bought ≤ 0 ∨ r.sold ≤ 0
  b0 : 0 ≤ r.bought
  s0 : 0 ≤ r.sold
  made : r.made = (d.hours.getD i default).sun
  used : (d.hours.getD i default).load ≤ r.used
  carbon : r.carbon = r.bought * (d.hours.getD i default).carbon
  water : r.water = r.used * (d.hours.getD i default).water
  energy : energyTo d ch (i + 1) = energyTo d ch i + r.stored
  peak : peakTo (needsL d s) ch (i + 1) = max (peakTo (needsL d s) ch i) r.bought
  cost : costTo d (needsL d s) ch (i + 1) = costTo d (needsL d s) ch i + (r.bought * (d.hours.getD i default).buy - r.sold * (d.hours.getD i default).sell)
  small : RowSmall 1000000 r
  buy : 0 ≤ r.bought * (d.hours.getD i default).buy ∧ r.bought * (d.hours.getD i default).buy ≤ 1000000000
  sell : 0 ≤ r.sold * (d.hours.getD i default).sell ∧ r.sold * (d.hours.getD i default).sell ≤ 1000000000
theorem row_is {d : KDay} {s ch : List Int} {c : Int} (h : formG d ⟨s, ch, c⟩ = (needsL d s, 0)) {i : Nat} (hi : i < d.hours.length) : RowIs d s ch i (rowA d s ch i) := by
  have h0 : (formG d ⟨s, ch, c⟩).2 = 0 := by rw [h]
  have ok := (form_fine h0).1
  have r := row_law (s := s) (ch := ch) ok hi
  have sm := row_small h0 hi
  rw [h] at sm
  have sm : RowSmall 1000000 (rowA d s ch i) := sm
  have hk := ok.hour i hi
  have a := sm.a; have b := sm.b
  exact ⟨r.bal, r.one, r.b0, r.s0, r.made, r.used, r.carbon, r.water, r.energy, r.peak, r.cost, sm,
    mul_rng r.b0 a.2 hk.b0 hk.b1 (by omega), mul_rng r.s0 b.2 hk.s0 (Int.le_trans hk.s1 hk.b1) (by omega)⟩
theorem plan_rng {d : KDay} {s ch : List Int} {c : Int} (h : formG d ⟨s, ch, c⟩ = (needsL d s, 0)) : Poss d (needsL d s) ch ∧ s ∈ startsL d ∧ DayOk d ∧ ch.length = d.hours.length ∧ (∀ i, i ≤ d.hours.length → StateOk d (energyTo d ch i) (peakTo (needsL d s) ch i)) ∧ ∀ i, i ≤ d.hours.length → -100000000 ≤ costTo d (needsL d s) ch i ∧ costTo d (needsL d s) ch i ≤ 100000000 := by
  have h0 : (formG d ⟨s, ch, c⟩).2 = 0 := by rw [h]
  obtain ⟨kc, sm, po⟩ := form_poss h0
  have ok := kcheck_iff.1 kc
  have po : Poss d (needsL d s) ch := po
  refine ⟨po, sm, ok, po.len, poss_state ok po.ok, fun i hi => ?_⟩
  have h24 := ok.h2
  have := (cost_rng (d := d) (base := needsL d s) (ch := ch) ok.hour (by rw [po.len]; exact Nat.le_refl _) (fun j hj => by
    have o := okAt_iffK.1 (po.ok j (by rw [← po.len]; exact hj))
    have b := needs_rng ok s (show j < d.hours.length by rw [← po.len]; exact hj)
    have := ok.store.p1; have := ok.m1
    omega) i (by rw [po.len]; exact hi)).1
  omega
end Go.X.Ma

/- A best plan's meters balance. No condition. -/
set_option linter.unusedVariables false
namespace Go.X
open Ma
structure SumIs (r : KRow) (t g : Int) (n : Nat) : Prop where
  bal : r.bought + r.made + g = r.used + r.sold + t
  b0 : 0 ≤ r.bought ∧ r.bought ≤ 1000000 * n
  m0 : 0 ≤ r.made ∧ r.made ≤ 1000000 * n
  u0 : 0 ≤ r.used ∧ r.used ≤ 1000000 * n
  s0 : 0 ≤ r.sold ∧ r.sold ≤ 1000000 * n
  t0 : 0 ≤ t ∧ t ≤ 1000000 * n
  g0 : 0 ≤ g ∧ g ≤ 1000000 * n
end Go.X

set_option linter.unusedSimpArgs false
set_option linter.unusedVariables false
set_option maxRecDepth 20000
namespace Go.X.Ma
open Go.Proofs
theorem at_spec (d : KDay) (vh vj vb : Value) (vv : Value) (ok : DayOk d) (b : Nat) (h e m : Int) (h0 : 0 ≤ h ∧ h ≤ 100) (e0 : -100 ≤ e ∧ e ≤ 100) (m0 : -1000 ≤ m ∧ m ≤ 1000) : Spec Tryz.prog 147 #[ptr b 0, .int .i64 h, .int .i64 e, .int .i64 m] [] [blk b [vh, .int .i64 d.store.energy, .int .i64 d.store.full, .int .i64 d.store.power, .int .i64 d.store.fin, vj, .int .i64 d.most, .int .i64 d.peak, vb, vv] 298] (fun v hs => v = .int .i64 (atK d h e m) ∧ hs = []) := by
 have f0 := ok.store.f0
 have f1 := ok.store.f1
 have q0 := ok.m0
 have q1 := ok.m1
 have p1 : 0 ≤ h * (d.store.full + 1) ∧ h * (d.store.full + 1) ≤ 1100 := ⟨Int.mul_nonneg h0.1 (by omega), Int.le_trans (Int.mul_le_mul h0.2 (show d.store.full + 1 ≤ 11 by omega) (by omega) (by omega)) (by decide)⟩
 have p2 : -100 * 41 ≤ (h * (d.store.full + 1) + e) * (d.most + 1) ∧ (h * (d.store.full + 1) + e) * (d.most + 1) ≤ 1200 * 41 := by
  constructor
  ·rcases Int.le_total 0 (h * (d.store.full + 1) + e) with hp | hp
   ·have := Int.mul_nonneg hp (show 0 ≤ d.most + 1 by omega); omega
   ·have := Int.mul_le_mul_of_nonneg_right (show -100 ≤ h * (d.store.full + 1) + e by omega) (show 0 ≤ d.most + 1 by omega)
    omega
  ·rcases Int.le_total 0 (h * (d.store.full + 1) + e) with hp | hp
   ·exact Int.mul_le_mul (by omega) (by omega) (by omega) (by omega)
   ·have := Int.mul_nonneg (show 0 ≤ -(h * (d.store.full + 1) + e) by omega) (show 0 ≤ d.most + 1 by omega)
    rw [Int.neg_mul] at this; omega
 refine Spec.intro (fn := Tryz.f147) (N := 29) Tryz.func147 rfl Tryz.ntmps147 rfl fun B => ?_
 refine XK.seq (XK.region rfl (XO.q (Q.assign rfl) (XO.done (XK.seq ?_))))
 refine XK.drawn [0, 1, 2, 3, 4, 5, 6, 7, 8, 9, 10, 11, 12, 13, 14, 15, 16, 17, 18, 19, 20] [] [] (.q 0 (.q 1 (.q 2 (.q 3 (.q 4 (.q 5 (.q 6 (.q 7 (.q 8 (.q 9 (.q 10 (.q 11 (.q 12 (.q 13 (.q 14 (.q 15 (.q 16 (.q 17 (.q 18 (.q 19 (.q 20 .done))))))))))))))))))))) Tryz.mixed rfl (by kernel_rfl) ?_
 refine XT.q rfl rfl (Q.move rfl) ?_
 refine XT.q rfl rfl (Q.move rfl) ?_
 refine XT.q rfl rfl (Q.nilCheck rfl) ?_
 refine XT.q rfl rfl (Q.fieldAddr rfl) ?_
 refine XT.q rfl rfl (Q.fieldAddr rfl) ?_
 refine XT.q rfl rfl (Q.fieldAddr rfl) ?_
 refine XT.q rfl rfl (Q.ld rfl rfl) ?_
 refine XT.q rfl rfl (Q.add rfl rfl ⟨by omega, by omega⟩) ?_
 refine XT.q rfl rfl (Q.mul rfl rfl ⟨by omega, by omega⟩) ?_
 refine XT.q rfl rfl (Q.move rfl) ?_
 refine XT.q rfl rfl (Q.add rfl rfl ⟨by omega, by omega⟩) ?_
 refine XT.q rfl rfl (Q.move rfl) ?_
 refine XT.q rfl rfl (Q.nilCheck rfl) ?_
 refine XT.q rfl rfl (Q.fieldAddr rfl) ?_
 refine XT.q rfl rfl (Q.fieldAddr rfl) ?_
 refine XT.q rfl rfl (Q.ld rfl rfl) ?_
 refine XT.q rfl rfl (Q.add rfl rfl ⟨by omega, by omega⟩) ?_
 refine XT.q rfl rfl (Q.mul rfl rfl ⟨by omega, by omega⟩) ?_
 refine XT.q rfl rfl (Q.move rfl) ?_
 refine XT.q rfl rfl (Q.add rfl rfl ⟨by omega, by omega⟩) ?_
 refine XT.q rfl rfl (Q.assign rfl) ?_
 refine XT.done ?_
 refine XK.rt [] Tryz.func147 Tryz.results147 (.t rfl .n) ?_
 exact ⟨rfl, rfl⟩
def nextC (d : KDay) (base : List Int) (hour : Nat) (e m c : Int) : Int := atK d ((hour : Int) + 1) (e + c) (max m (base.getD hour default + c))
def chItem (d : KDay) (base : List Int) (hour : Nat) (e m c : Int) : List Value := [.int .i64 c, .agg #[.int .i64 (nextC d base hour e m c), .int .i64 (priceH (d.hours.getD hour default) (base.getD hour default + c))]]
def chItems (d : KDay) (base : List Int) (hour : Nat) (e m : Int) : List (List Value) := (List.range (cntC d (base.getD hour default) e)).map fun (k : Nat) => chItem d base hour e m (lowC d e + (k : Int))
theorem chItems_len (d : KDay) (base : List Int) (hour : Nat) (e m : Int) : (chItems d base hour e m).length = cntC d (base.getD hour default) e := by simp [chItems]
theorem chItems_at {d : KDay} {base : List Int} {hour : Nat} {e m : Int} {k : Nat} (h : k < cntC d (base.getD hour default) e) : (chItems d base hour e m).getD k [] = chItem d base hour e m (lowC d e + (k : Int)) := by
 rw [List.getD_eq_getElem?_getD, chItems, List.getElem?_map, List.getElem?_range h]; rfl
theorem chItems_two {d : KDay} {base : List Int} {hour : Nat} {e m : Int} : ∀ i, i < (chItems d base hour e m).length → ((chItems d base hour e m).getD i []).length = 2 := fun i hi => by
 rw [chItems_len] at hi
 rw [chItems_at hi]; rfl
theorem charges1 (d : KDay) (vh vj : Value) (hh hj : PHeap) [ih : Arr vh encHour 6 hh d.hours] [ij : Arr vj encJob 4 hj d.jobs] (vb vv : Value) (hb : PHeap) (base : List Int) [jb : Arr vb encI 1 hb base] (ok : DayOk d) (bo : BaseOk d base) (b b1 b2 b3 b4 hour : Nat) (hh1 : hour < d.hours.length) (e m : Int) (so : StateOk d e m) :
  It Tryz.prog (.func (.func 205) #[] #[ptr b1 0, ptr b2 0, ptr b3 0, ptr b4 0]) (chItems d base hour e m) [blk b1 [ptr b 0] 295, blk b2 [.int .i64 e] 3, blk b3 [.int .i64 ((hour : Nat) : Int)] 3, blk b4 [.int .i64 m] 3, blk b [vh, .int .i64 d.store.energy, .int .i64 d.store.full, .int .i64 d.store.power, .int .i64 d.store.fin, vj, .int .i64 d.most, .int .i64 d.peak, vb, vv] 298, hb, hh] := by
 intro f Hr QQ XX hy q hq
 refine VSpec.fn (P := Tryz.prog) (g := 205) (fst := []) (vs := [f]) (cap := [ptr b1 0, ptr b2 0, ptr b3 0, ptr b4 0]) (A := [f, ptr b1 0, ptr b2 0, ptr b3 0, ptr b4 0]) (Hm := [q]) Tryz.call205 rfl ?_
 dsimp only [lcA, lnA]
 rw [chItems_len] at *
 have lh := ih.le
 have f0 := ok.store.f0
 have f1 := ok.store.f1
 have p0 := ok.store.p0
 have p1 := ok.store.p1
 have q0 := ok.m0
 have q1 := ok.m1
 have e0 := so.e0
 have e1 := so.e1
 have m0 := so.m0
 have m1 := so.m1
 have h24 := ok.h2
 have bl := bo.len
 have br := bo.rng hour hh1
 have hk := ok.hour hour hh1
 have hcall : ∀ k : Nat, k < cntC d (base.getD hour default) e → ∀ q, QQ k q →
   VSpec Tryz.prog f (chItem d base hour e m (lowC d e + (k : Int))) [q] Hr (fun v hs => ∃ bb q', v = .bool bb ∧ hs = [q'] ∧ (bb = true → QQ (k + 1) q') ∧ (bb = false → XX q')) := by
  intro k hk q hq
  have := hy k hk q hq
  rwa [chItems_at hk] at this
 refine Spec.intro (fn := Tryz.f205) (N := 78) Tryz.func205 rfl Tryz.ntmps205 rfl fun B => ?_
 refine XK.seq (XK.region rfl ?_)
 refine XO.q (Q.ld rfl rfl) ?_
 refine XO.q (Q.nilCheck rfl) ?_
 refine XO.q (Q.fieldAddr rfl) ?_
 refine XO.q (Q.fieldAddr rfl) ?_
 refine XO.q (Q.ldA [_, _, _, _] rfl rfl rfl) ?_
 refine XO.alloc fun b6 => ?_
 refine XO.st rfl rfl rfl ?_
 refine XO.done (XK.seq (XK.region rfl ?_))
 refine XO.q (Q.fieldAddr rfl) ?_
 refine XO.q (Q.ld rfl rfl) ?_
 refine XO.q (Q.neg rfl ⟨by omega, by omega⟩) ?_
 refine XO.q (Q.ld rfl rfl) ?_
 refine XO.q (Q.neg rfl ⟨by omega, by omega⟩) ?_
 refine XO.q (Q.max rfl rfl) ?_
 refine XO.q (Q.assign rfl) (XO.done (XK.block ?_))
 refine XK.while (X := Nat × Int × PHeap) [7, 8, 20, 21, 22, 23, 24, 25, 26, 27, 28, 29, 30, 31, 32, 33, 34, 35, 36, 37, 38, 39, 40, 41, 42, 43, 44, 45, 46, 47, 48, 49, 50, 51, 52, 53, 54, 55, 56, 57, 58, 59, 60, 61, 62, 63, 64, 65, 66, 67, 68, 69, 70, 71, 72, 73, 74, 75, 76, 77] (fun ⟨k, c, q1⟩ => [(7, some (.int .i64 c))]) (fun ⟨k, c, q1⟩ => [q1]) (fun ⟨k, c, q1⟩ => k ≤ cntC d (base.getD hour default) e ∧ c = lowC d e + (k : Int) ∧ QQ k q1) (fun ⟨k, c, q1⟩ => cntC d (base.getD hour default) e - k) (0, _, q) [q] rfl ⟨by omega, by unfold lowC; omega, hq⟩ (.c rfl (.base 0 rfl rfl)) ?_
 rintro ⟨k, c, q1⟩ ⟨hk2, hc, hQ⟩ ih0
 dsimp only [lcA, lnA] at ih0 ⊢
 refine XK.seq (XK.seq ?_)
 refine XK.drawn [0, 1, 2, 3, 4, 5, 6, 7, 8, 9, 10, 11, 12, 13, 14, 15, 16, 17, 18, 19, 20, 21] [b6, b2, b1, b3] [] (.q 0 (.q 1 (.q 2 (.q 3 (.q 4 (.q 5 (.q 6 (.q 7 (.q 8 (.q 9 (.q 10 (.q 11 (.q 12 (.q 13 (.q 14 (.q 15 (.q 16 (.q 17 (.q 18 (.q 19 (.q 20 (.q 21 .done)))))))))))))))))))))) Tryz.mixed rfl (by kernel_rfl) ?_
 refine XT.q rfl rfl (Q.move rfl) ?_
 refine XT.q rfl rfl (Q.fieldAddr rfl) ?_
 refine XT.q rfl rfl (Q.ld rfl rfl) ?_
 refine XT.q rfl rfl (Q.fieldAddr rfl) ?_
 refine XT.q rfl rfl (Q.ld rfl rfl) ?_
 refine XT.q rfl rfl (Q.ld rfl rfl) ?_
 refine XT.q rfl rfl (Q.sub rfl rfl ⟨by omega, by omega⟩) ?_
 refine XT.q rfl rfl (Q.ld rfl rfl) ?_
 refine XT.q rfl rfl (Q.nilCheck rfl) ?_
 refine XT.q rfl rfl (Q.fieldAddr rfl) ?_
 refine XT.q rfl rfl (Q.fieldAddr rfl) ?_
 refine XT.q rfl rfl (Q.ld rfl rfl) ?_
 refine XT.q rfl rfl (Q.ld rfl rfl) ?_
 refine XT.q rfl rfl (Q.nilCheck rfl) ?_
 refine XT.q rfl rfl (Q.fieldAddr rfl) ?_
 refine XT.q rfl rfl (Q.ld rfl rfl) ?_
 refine XT.q rfl rfl (Q.ld rfl rfl) ?_
 refine XT.ix rfl rfl rfl rfl (by omega) (by omega) fun i37 => ?_
 refine XT.q rfl rfl (Q.ldE rfl (by first | assumption | omega) rfl) ?_
 refine XT.q rfl rfl (Q.sub rfl rfl ⟨by omega, by omega⟩) ?_
 refine XT.q rfl rfl (Q.min3 rfl rfl rfl) ?_
 refine XT.q rfl rfl (Q.leq rfl rfl) ?_
 refine XT.done ?_
 refine XK.if rfl (fun c0 => ?_) (fun c0 => ?_)
 ·skip
  have hkc : k < cntC d (base.getD hour default) e := by unfold cntC highC; omega
  have cr : -10 ≤ c ∧ c ≤ 10 ∧ 0 ≤ e + c ∧ e + c ≤ 10 := by unfold lowC at hc; omega
  refine XK.skip (XK.seq (XK.block (XK.seq ?_)))
  refine XK.drawn [0, 1, 2, 3, 4, 5, 6, 7, 8, 9] [b1, b3] [] (.q 0 (.q 1 (.q 2 (.q 3 (.q 4 (.q 5 (.q 6 (.q 7 (.q 8 (.q 9 .done)))))))))) Tryz.mixed rfl (by kernel_rfl) ?_
  refine XT.q rfl rfl (Q.ld rfl rfl) ?_
  refine XT.q rfl rfl (Q.nilCheck rfl) ?_
  refine XT.q rfl rfl (Q.fieldAddr rfl) ?_
  refine XT.q rfl rfl (Q.ld rfl rfl) ?_
  refine XT.q rfl rfl (Q.ld rfl rfl) ?_
  refine XT.ix rfl rfl rfl rfl (by omega) (by omega) fun i49 => ?_
  refine XT.q rfl rfl (Q.ldE rfl (by first | assumption | omega) rfl) ?_
  refine XT.q rfl rfl (Q.move rfl) ?_
  refine XT.q rfl rfl (Q.add rfl rfl ⟨by omega, by omega⟩) ?_
  refine XT.q rfl rfl (Q.assign rfl) ?_
  refine XT.done ?_
  refine XK.seq ?_
  refine XK.drawn [0, 1, 2, 3, 4, 5, 6, 7, 8, 9, 10, 12, 13, 14, 15, 16, 17, 18, 19, 20, 22, 24] [b1, b3, b2, b4] [] (.q 0 (.q 1 (.q 2 (.q 3 (.q 4 (.q 5 (.q 6 (.q 7 (.q 8 (.q 9 (.q 10 (.q 12 (.q 13 (.q 14 (.q 15 (.q 16 (.q 17 (.q 18 (.q 19 (.q 20 (.br 11 true (.br 21 true (.q 22 (.br 23 true (.q 24 .done) .stop)) .stop) .stop))))))))))))))))))))) Tryz.mixed rfl (by kernel_rfl) ?_
  refine XT.q rfl rfl (Q.move rfl) ?_
  refine XT.q rfl rfl (Q.move rfl) ?_
  refine XT.q rfl rfl (Q.ld rfl rfl) ?_
  refine XT.q rfl rfl (Q.ld rfl rfl) ?_
  refine XT.q rfl rfl (Q.add rfl rfl ⟨by omega, by omega⟩) ?_
  refine XT.q rfl rfl (Q.ld rfl rfl) ?_
  refine XT.q rfl rfl (Q.move rfl) ?_
  refine XT.q rfl rfl (Q.add rfl rfl ⟨by omega, by omega⟩) ?_
  refine XT.q rfl rfl (Q.ld rfl rfl) ?_
  refine XT.q rfl rfl (Q.move rfl) ?_
  refine XT.q rfl rfl (Q.max rfl rfl) ?_
  refine XT.q rfl rfl (Q.ld rfl rfl) ?_
  refine XT.q rfl rfl (Q.nilCheck rfl) ?_
  refine XT.q rfl rfl (Q.fieldAddr rfl) ?_
  refine XT.q rfl rfl (Q.fieldAddr rfl) ?_
  refine XT.q rfl rfl (Q.ld rfl rfl) ?_
  refine XT.q rfl rfl (Q.ld rfl rfl) ?_
  refine XT.ix rfl rfl rfl rfl (by omega) (by omega) fun i71 => ?_
  refine XT.q rfl rfl (Q.ldEA [_, _, _, _, _, _] rfl (by first | assumption | omega) rfl rfl) ?_
  refine XT.q rfl rfl (Q.move rfl) ?_
  refine XT.call rfl rfl Tryz.call147 rfl rfl rfl (at_spec d vh vj vb vv ok b ((hour : Int) + 1) (e + c) (max m (base.getD hour default + c)) (by omega) (by omega) (by omega)) (fun v64 s64 R64 => ?_) XT.stop
  obtain ⟨rfl, rfl⟩ := R64
  dsimp only [lcA, lnA]
  refine ⟨inferInstance, ?_⟩
  refine XT.call rfl rfl Tryz.call162 rfl rfl rfl (price_spec (d.hours.getD hour default) hk (base.getD hour default + c) (by omega) (by omega)) (fun v74 s74 R74 => ?_) XT.stop
  obtain ⟨rfl, rfl⟩ := R74
  dsimp only [lcA, lnA]
  refine ⟨inferInstance, ?_⟩
  refine XT.q rfl rfl (Q.build [_, _] (.c 0 1 rfl rfl rfl (.c 1 1 rfl rfl rfl (.n _)))) ?_
  subst hc
  refine XT.vcall rfl rfl rfl rfl (hcall k hkc q1 hQ) (fun v76 s76 R76 => ?_) XT.stop
  obtain ⟨bb, q2, rfl, rfl, hT, hF⟩ := R76
  dsimp only [lcA, lnA]
  refine ⟨inferInstance, ?_⟩
  refine XT.q rfl rfl (Q.not rfl) ?_
  refine XT.done ?_
  refine XK.if rfl (fun c1 => ?_) (fun c1 => ?_)
  ·skip
   refine XK.rt [q2] Tryz.func205 Tryz.results205 (.n) ?_
   exact ⟨q2, rfl, .inr (hF (by cases bb <;> simp_all))⟩
  ·skip
   refine XK.skip ?_
   refine XK.inBlock ?_
   refine XK.region rfl (XO.q (Q.move rfl) ?_)
   refine XO.q (Q.add rfl rfl ⟨by omega, by omega⟩) ?_
   refine XO.q (Q.assign rfl) (XO.done ?_)
   exact ih0 (k + 1, _, q2) _ _ ⟨by dsimp only; omega, by dsimp only; omega, hT (by cases bb <;> simp_all)⟩ (by first | omega | (dsimp only; omega)) (.c rfl (.base 121 rfl rfl)) inferInstance
 ·skip
  refine XK.exit rfl ?_
  refine XK.fn [q1] Tryz.func205 Tryz.results205 (.n) ?_
  have hke : k = cntC d (base.getD hour default) e := by unfold cntC highC at hk2 ⊢; omega
  rw [hke] at hQ
  exact ⟨q1, rfl, .inl hQ⟩
end Go.X.Ma

set_option linter.unusedSimpArgs false
set_option linter.unusedVariables false
set_option maxRecDepth 20000
namespace Go.X.Ma
open Go.Proofs
theorem charges_spec (b : Nat) (hour : Nat) (e m : Int) : Spec Tryz.prog 195 #[ptr b 0, .int .i64 (hour : Nat), .int .i64 e, .int .i64 m] [] [] (fun v hs => ∃ b1 b2 b3 b4, v = .func (.func 205) #[] #[ptr b1 0, ptr b2 0, ptr b3 0, ptr b4 0] ∧ hs = [blk b1 [ptr b 0] 295, blk b2 [.int .i64 e] 3, blk b3 [.int .i64 ((hour : Nat) : Int)] 3, blk b4 [.int .i64 m] 3]) := by
 refine Spec.intro (fn := Tryz.f195) (N := 10) Tryz.func195 rfl Tryz.ntmps195 rfl fun B => ?_
 refine XK.seq (XK.region rfl ?_)
 refine XO.box rfl fun b4 => ?_
 refine XO.box rfl fun b5 => ?_
 refine XO.box rfl fun b6 => ?_
 refine XO.box rfl fun b7 => ?_
 refine XO.q (Q.assign rfl) (XO.done (XK.seq (XK.region rfl ?_)))
 refine XO.q (Q.func (fun _ he => rfl) (fun _ he => evs_rel he rfl)) ?_
 refine XO.q (Q.assign rfl) (XO.done ?_)
 refine XK.rt [blk b4 [ptr b 0] 295, blk b6 [.int .i64 e] 3, blk b5 [.int .i64 ((hour : Nat) : Int)] 3, blk b7 [.int .i64 m] 3] Tryz.func195 Tryz.results195 (.t rfl .n) ?_
 exact ⟨_, _, _, _, rfl, rfl⟩
set_option maxHeartbeats 1000000 in
theorem follows_spec (d : KDay) (vh vj : Value) (hh hj : PHeap) [ih : Arr vh encHour 6 hh d.hours] [ij : Arr vj encJob 4 hj d.jobs] (vb vv : Value) (hb hv : PHeap) (base vals : List Int) [jb : Arr vb encI 1 hb base] [jv : Arr vv encI 1 hv vals] (ok : DayOk d) (bo : BaseOk d base) (hvl : (vals.length : Int) = sizeK d) (b hour : Nat) (hh1 : hour ≤ d.hours.length) (e m : Int) (so : StateOk d e m)
  (fl : ∀ e' m', hour < d.hours.length → StateOk d e' m' → vals.getD (atK d ((hour : Int) + 1) e' m').toNat default = valH d base (hour + 1) e' m') :
  Spec Tryz.prog 192 #[ptr b 0, .int .i64 (hour : Nat), .int .i64 e, .int .i64 m] [] [blk b [vh, .int .i64 d.store.energy, .int .i64 d.store.full, .int .i64 d.store.power, .int .i64 d.store.fin, vj, .int .i64 d.most, .int .i64 d.peak, vb, vv] 298, hb, hv, hh] (fun v hs => v = .int .i64 (valH d base hour e m) ∧ hs = []) := by
 have lh := ih.le
 have h24 := ok.h2
 have p0 := ok.p0
 have p1 := ok.p1
 have m0 := so.m0
 have m1 := so.m1
 have q1 := ok.m1
 have pm := price_mul (a := d.peak) (b := m) p0 (by omega) m0 (by omega)
 refine Spec.intro (fn := Tryz.f192) (N := 60) Tryz.func192 rfl Tryz.ntmps192 rfl fun B => ?_
 refine XK.seq (XK.region rfl ?_)
 refine XO.box rfl fun b4 => ?_
 refine XO.q (Q.assign rfl) (XO.done (XK.seq (XK.seq (XK.region rfl (XO.q (Q.move rfl) ?_)))))
 refine XO.q (Q.ld rfl rfl) ?_
 refine XO.q (Q.nilCheck rfl) ?_
 refine XO.q (Q.fieldAddr rfl) ?_
 refine XO.q (Q.fieldAddr rfl) ?_
 refine XO.q (Q.ld rfl rfl) ?_
 refine XO.len rfl fun l19 => ?_
 refine XO.q (Q.eql rfl rfl) ?_
 refine XO.done ?_
 refine XK.if rfl (fun c0 => ?_) (fun c0 => ?_)
 ·skip
  have hn : hour = d.hours.length := by omega
  subst hn
  refine XK.seq (XK.seq (XK.region rfl (XO.q (Q.move rfl) ?_)))
  refine XO.q (Q.ld rfl rfl) ?_
  refine XO.q (Q.nilCheck rfl) ?_
  refine XO.q (Q.fieldAddr rfl) ?_
  refine XO.q (Q.fieldAddr rfl) ?_
  refine XO.q (Q.fieldAddr rfl) ?_
  refine XO.q (Q.ld rfl rfl) ?_
  refine XO.q (Q.lss rfl rfl) ?_
  refine XO.done ?_
  refine XK.if rfl (fun c1 => ?_) (fun c1 => ?_)
  ·skip
   refine XK.seq (XK.region rfl (XO.q (Q.assign rfl) (XO.done ?_)))
   refine XK.rt [] Tryz.func192 Tryz.results192 (.t rfl .n) ?_
   exact ⟨by rw [valH_end, if_pos c1]; rfl, rfl⟩
  ·skip
   refine XK.skip (XK.seq (XK.region rfl ?_))
   refine XO.q (Q.ld rfl rfl) ?_
   refine XO.q (Q.nilCheck rfl) ?_
   refine XO.q (Q.fieldAddr rfl) ?_
   refine XO.q (Q.fieldAddr rfl) ?_
   refine XO.q (Q.ld rfl rfl) ?_
   refine XO.q (Q.move rfl) ?_
   refine XO.q (Q.mul rfl rfl ⟨by omega, by omega⟩) ?_
   refine XO.q (Q.assign rfl) (XO.done ?_)
   refine XK.rt [] Tryz.func192 Tryz.results192 (.t rfl .n) ?_
   exact ⟨by rw [valH_end, if_neg c1], rfl⟩
 ·skip
  have hlt : hour < d.hours.length := by omega
  have br := bo.rng hour hlt
  refine XK.skip (XK.seq (XK.region rfl ?_))
  refine XO.alloc fun b9 => ?_
  refine XO.st rfl rfl rfl ?_
  refine XO.done (XK.seq (XK.seq (XK.region rfl ?_)))
  refine XO.q (Q.ld rfl rfl) ?_
  refine XO.q (Q.move rfl) (XO.q (Q.move rfl) (XO.q (Q.move rfl) ?_))
  refine XO.call Tryz.call195 rfl rfl rfl (charges_spec b hour e m) fun v40 s40 R40 => ?_
  obtain ⟨b1, b2, b3, b4, rfl, rfl⟩ := R40
  dsimp only [lcA, lnA]
  refine XO.done (XK.block ?_)
  refine XK.range (X := Nat) (ps := [41, 42]) (chItems d base hour e m) (fun k => [blk b9 [.int .i64 (leastN (d.hours.getD hour default) (base.getD hour default) e m (valH d base (hour + 1)) (lowC d e) (k))] 3]) (fun i k => k = i) (fun _ _ => False) (0) [blk b9 [.int .i64 1000000000000000] 3] rfl rfl rfl (charges1 d vh vj hh hj vb vv hb base ok bo b b1 b2 b3 b4 hour hlt e m so) rfl (chItems_two) ?_ ?_ (fun _ _ hJ => hJ.elim)
  ·rintro lq rec B' i k hi hki
   dsimp only [lcA, lnA]
   rw [chItems_len] at hi
   subst hki
   obtain ⟨sn, n1, n2, n3⟩ := next_ok ok so hi
   have ar := at_rng sn (show (0 : Int) ≤ ((hour : Int) + 1) by omega) (by omega)
   have ev : vals.getD (nextC d base hour e m (lowC d e + ((k : Nat) : Int))).toNat default = (valH d base (hour + 1) (e + (lowC d e + ((k : Nat) : Int))) (max m (base.getD hour default + (lowC d e + ((k : Nat) : Int))))) := fl _ _ hlt sn
   have arn : 0 ≤ nextC d base hour e m (lowC d e + ((k : Nat) : Int)) ∧ nextC d base hour e m (lowC d e + ((k : Nat) : Int)) < sizeK d := ar
   have vr := val_rng ok bo (show hour + 1 ≤ d.hours.length by omega) sn
   have pr := price_rng (h := d.hours.getD hour default) (ok.hour hour hlt) (n := base.getD hour default + (lowC d e + ((k : Nat) : Int))) (by omega) (by omega)
   have lr := least_rng ok bo hlt so (Nat.le_of_lt hi)
   rw [chItems_at hi]
   dsimp only [pars, chItem]
   unfold never at vr
   refine XK.region rfl ?_
   refine XO.alloc fun b11 => ?_
   refine XO.st rfl rfl rfl ?_
   refine XO.done ?_
   refine XK.beginRound ?_
   refine XK.block (XK.seq ?_)
   refine XK.drawn [0, 1, 2, 3, 4, 5, 6, 7, 8] [b4, b11] [] (.q 0 (.q 1 (.q 2 (.q 3 (.q 4 (.q 5 (.q 6 (.q 7 (.q 8 .done))))))))) Tryz.mixed rfl (by kernel_rfl) ?_
   refine XT.q rfl rfl (Q.ld rfl rfl) ?_
   refine XT.q rfl rfl (Q.nilCheck rfl) ?_
   refine XT.q rfl rfl (Q.fieldAddr rfl) ?_
   refine XT.q rfl rfl (Q.ld rfl rfl) ?_
   refine XT.q rfl rfl (Q.ixA rfl rfl (by omega) (by omega)) ?_
   refine XT.q rfl rfl (Q.ld rfl rfl) ?_
   refine XT.ix rfl rfl rfl rfl (by omega) (by omega) fun i49 => ?_
   refine XT.q rfl rfl (Q.ldE rfl (by first | assumption | omega) rfl) ?_
   rw [ev]
   refine XT.q rfl rfl (Q.assign rfl) ?_
   refine XT.done ?_
   refine XK.seq (XK.region rfl (XO.q (Q.move rfl) ?_))
   refine XO.q (Q.lss rfl rfl) ?_
   refine XO.done ?_
   refine XK.if rfl (fun c2 => ?_) (fun c2 => ?_)
   ·skip
    refine XK.region rfl ?_
    refine XO.q (Q.ld rfl rfl) ?_
    refine XO.q (Q.ixA rfl rfl (by omega) (by omega)) ?_
    refine XO.q (Q.ld rfl rfl) ?_
    refine XO.q (Q.move rfl) ?_
    refine XO.q (Q.add rfl rfl ⟨by omega, by omega⟩) ?_
    refine XO.q (Q.min rfl rfl) ?_
    refine XO.st rfl rfl rfl ?_
    refine XO.done ?_
    refine XK.inBlock ?_
    rw [show min (leastN (d.hours.getD hour default) (base.getD hour default) e m (valH d base (hour + 1)) (lowC d e) (k)) ((priceH (d.hours.getD hour default) (base.getD hour default + (lowC d e + ((k : Nat) : Int)))) + (valH d base (hour + 1) (e + (lowC d e + ((k : Nat) : Int))) (max m (base.getD hour default + (lowC d e + ((k : Nat) : Int)))))) = (leastN (d.hours.getD hour default) (base.getD hour default) e m (valH d base (hour + 1)) (lowC d e) (k + 1)) by rw [leastN, seeC, if_pos (show (valH d base (hour + 1) (e + (lowC d e + ((k : Nat) : Int))) (max m (base.getD hour default + (lowC d e + ((k : Nat) : Int))))) < never from c2)]]
    exact XK.leave (j := none) [blk b9 [.int .i64 (leastN (d.hours.getD hour default) (base.getD hour default) e m (valH d base (hour + 1)) (lowC d e) (k + 1))] 3] trivial ⟨(k + 1), rfl, rfl⟩
   ·skip
    refine XK.skip ?_
    refine XK.inBlock ?_
    rw [show (leastN (d.hours.getD hour default) (base.getD hour default) e m (valH d base (hour + 1)) (lowC d e) (k)) = (leastN (d.hours.getD hour default) (base.getD hour default) e m (valH d base (hour + 1)) (lowC d e) (k + 1)) by rw [leastN, seeC, if_neg (show ¬ (valH d base (hour + 1) (e + (lowC d e + ((k : Nat) : Int))) (max m (base.getD hour default + (lowC d e + ((k : Nat) : Int))))) < never from c2)]]
    exact XK.leave (j := none) [blk b9 [.int .i64 (leastN (d.hours.getD hour default) (base.getD hour default) e m (valH d base (hour + 1)) (lowC d e) (k + 1))] 3] trivial ⟨(k + 1), rfl, rfl⟩
  ·rintro k hki
   dsimp only [lcA, lnA]
   rw [chItems_len] at hki
   subst hki
   refine XK.inBlock ?_
   refine XK.seq (XK.region rfl ?_)
   refine XO.q (Q.ld rfl rfl) ?_
   refine XO.q (Q.assign rfl) (XO.done ?_)
   refine XK.rt [] Tryz.func192 Tryz.results192 (.t rfl .n) ?_
   exact ⟨by rw [valH_step hlt], rfl⟩
end Go.X.Ma

set_option linter.unusedSimpArgs false
set_option linter.unusedVariables false
set_option maxRecDepth 20000
namespace Go.X.Ma
open Go.Proofs
theorem states_spec (d : KDay) (vh vj vb : Value) (vv : Value) (ok : DayOk d) (b : Nat) [ov : One vh] (hlen : (d.hours.length : Int) ≤ 24) (hh : PHeap) [ih : Arr vh encHour 6 hh d.hours] (f : Value) (Hr : List PHeap) (QQ : Int → Int → Int → PHeap → Prop) (XX : PHeap → Prop)
  (hcall : ∀ (h : Nat) (e m : Int) (q : PHeap), h ≤ d.hours.length → StateOk d e m → QQ h e m q → VSpec Tryz.prog f [.int .i64 (h : Nat), .int .i64 e, .int .i64 m] [q] Hr (fun v hs => ∃ bb q', v = .bool bb ∧ hs = [q'] ∧ (bb = true → QQ h e (m + 1) q') ∧ (bb = false → XX q')))
  (hE : ∀ h e q, QQ h e (d.most + 1) q → QQ h (e + 1) 0 q) (hH : ∀ h q, QQ h (d.store.full + 1) 0 q → QQ (h - 1) 0 0 q) (q : PHeap) (hq : QQ d.hours.length 0 0 q) :
  Spec Tryz.prog 193 #[ptr b 0, f] [q] (blk b [vh, .int .i64 d.store.energy, .int .i64 d.store.full, .int .i64 d.store.power, .int .i64 d.store.fin, vj, .int .i64 d.most, .int .i64 d.peak, vb, vv] 298 :: Hr) (fun v hs => ∃ bb q', v = .bool bb ∧ hs = [q'] ∧ (bb = true → QQ (-1) 0 0 q') ∧ (bb = false → XX q')) := by
 have f0 := ok.store.f0
 have f1 := ok.store.f1
 have m0 := ok.m0
 have m1 := ok.m1
 refine Spec.intro (fn := Tryz.f193) (N := 45) Tryz.func193 rfl Tryz.ntmps193 rfl fun B => ?_
 refine XK.seq (XK.region rfl (XO.q (Q.assign rfl) (XO.done (XK.seq (XK.seq ?_)))))
 refine XK.region rfl (XO.q (Q.move rfl) ?_)
 refine XO.q (Q.nilCheck rfl) ?_
 refine XO.q (Q.fieldAddr rfl) ?_
 refine XO.q (Q.fieldAddr rfl) ?_
 refine XO.q (Q.ld rfl rfl) ?_
 refine XO.len rfl fun l13 => ?_
 refine XO.q (Q.assign rfl) (XO.done (XK.block ?_))
 refine XK.while (X := Int × PHeap) [4, 5, 6, 7, 14, 15, 16, 17, 18, 19, 20, 21, 22, 23, 24, 25, 26, 27, 28, 29, 30, 31, 32, 33, 34, 35, 36, 37, 38, 39, 40, 41, 42, 43, 44] (fun ⟨hr, q1⟩ => [(5, some (.int .i64 hr))]) (fun ⟨hr, q1⟩ => [q1]) (fun ⟨hr, q1⟩ => -1 ≤ hr ∧ hr ≤ d.hours.length ∧ QQ hr 0 0 q1) (fun ⟨hr, q1⟩ => (hr + 1).toNat) ((d.hours.length : Int), q) [q] rfl ⟨by (try dsimp only); omega, by (try dsimp only); omega, hq⟩ (.c rfl (.base 0 rfl rfl)) ?_
 rintro ⟨hr, q1⟩ ⟨hr0, hr1, h1⟩ ih0
 dsimp only [lcA, lnA] at ih0 ⊢
 refine XK.seq (XK.seq (XK.region rfl (XO.q (Q.move rfl) ?_)))
 refine XO.q (Q.geq rfl rfl) ?_
 refine XO.done ?_
 refine XK.if rfl (fun c0 => ?_) (fun c0 => ?_)
 ·skip
  obtain ⟨hn, ehn⟩ := Int.eq_ofNat_of_zero_le (show 0 ≤ hr by omega)
  subst ehn
  refine XK.skip (XK.seq (XK.block (XK.seq (XK.region rfl (XO.q (Q.move rfl) ?_)))))
  refine XO.q (Q.nilCheck rfl) ?_
  refine XO.q (Q.fieldAddr rfl) ?_
  refine XO.q (Q.fieldAddr rfl) ?_
  refine XO.q (Q.fieldAddr rfl) ?_
  refine XO.q (Q.ld rfl rfl) ?_
  refine XO.q (Q.add rfl rfl ⟨by omega, by omega⟩) ?_
  refine XO.q (Q.move rfl) (XO.done (XK.block ?_))
  refine XK.while (X := Nat × PHeap) [4, 6, 7, 25, 26, 27, 28, 29, 30, 31, 32, 33, 34, 35, 36, 37, 38, 39, 40, 41, 42, 43, 44] (fun ⟨i, q2⟩ => [(25, some (.int .i64 (i : Nat)))]) (fun ⟨i, q2⟩ => [q2]) (fun ⟨i, q2⟩ => (i : Int) ≤ d.store.full + 1 ∧ QQ (hn : Int) (i : Int) 0 q2) (fun ⟨i, q2⟩ => (d.store.full + 1).toNat - i) (0, q1) [q1] rfl ⟨by (try dsimp only); omega, h1⟩ (.c rfl (.base 0 rfl rfl)) ?_
  rintro ⟨i, q2⟩ ⟨hi, h2⟩ ih1
  dsimp only [lcA, lnA] at ih1 ⊢
  refine XK.seq (XK.region rfl ?_)
  refine XO.q (Q.lss rfl rfl) ?_
  refine XO.done (XK.seq ?_)
  refine XK.if rfl (fun c1 => ?_) (fun c1 => ?_)
  ·skip
   refine XK.skip (XK.seq (XK.block (XK.seq (XK.region rfl (XO.q (Q.move rfl) ?_)))))
   refine XO.q (Q.assign rfl) (XO.done (XK.seq (XK.region rfl (XO.q (Q.move rfl) ?_))))
   refine XO.q (Q.nilCheck rfl) ?_
   refine XO.q (Q.fieldAddr rfl) ?_
   refine XO.q (Q.fieldAddr rfl) ?_
   refine XO.q (Q.ld rfl rfl) ?_
   refine XO.q (Q.add rfl rfl ⟨by omega, by omega⟩) ?_
   refine XO.q (Q.move rfl) (XO.done (XK.block ?_))
   refine XK.while (X := Nat × PHeap) [4, 7, 34, 35, 36, 37, 38, 39, 40, 41, 42, 43] (fun ⟨j, q3⟩ => [(34, some (.int .i64 (j : Nat)))]) (fun ⟨j, q3⟩ => [q3]) (fun ⟨j, q3⟩ => (j : Int) ≤ d.most + 1 ∧ QQ (hn : Int) (i : Int) (j : Int) q3) (fun ⟨j, q3⟩ => (d.most + 1).toNat - j) (0, q2) [q2] rfl ⟨by (try dsimp only); omega, h2⟩ (.c rfl (.base 0 rfl rfl)) ?_
   rintro ⟨j, q3⟩ ⟨hj, h3⟩ ih2
   dsimp only [lcA, lnA] at ih2 ⊢
   refine XK.seq (XK.region rfl ?_)
   refine XO.q (Q.lss rfl rfl) ?_
   refine XO.done (XK.seq ?_)
   refine XK.if rfl (fun c2 => ?_) (fun c2 => ?_)
   ·skip
    refine XK.skip (XK.seq (XK.block (XK.seq (XK.region rfl (XO.q (Q.move rfl) ?_)))))
    refine XO.q (Q.assign rfl) (XO.done (XK.seq (XK.region rfl (XO.q (Q.move rfl) (XO.q (Q.move rfl) ?_)))))
    refine XO.q (Q.move rfl) (XO.q (Q.move rfl) ?_)
    refine XO.vcall rfl rfl (hcall hn ((i : Nat) : Int) ((j : Nat) : Int) q3 (by omega) ⟨by omega, by omega, by omega, by omega⟩ h3) fun v41 s41 R41 => ?_
    obtain ⟨bb, q4, rfl, rfl, hT, hF⟩ := R41
    dsimp only [lcA, lnA]
    refine XO.q (Q.not rfl) ?_
    refine XO.done ?_
    refine XK.if rfl (fun c3 => ?_) (fun c3 => ?_)
    ·skip
     refine XK.seq (XK.region rfl (XO.q (Q.assign rfl) (XO.done ?_)))
     refine XK.rt [q4] Tryz.func193 Tryz.results193 (.t rfl .n) ?_
     exact ⟨false, q4, rfl, rfl, (fun h => by cases h), fun _ => hF (by cases bb <;> simp_all)⟩
    ·skip
     refine XK.skip ?_
     refine XK.inBlock ?_
     refine XK.region rfl ?_
     refine XO.q (Q.add rfl rfl ⟨by omega, by omega⟩) ?_
     refine XO.q (Q.move rfl) (XO.done ?_)
     exact ih2 (j + 1, q4) _ _ ⟨by (try dsimp only); omega, hT (by cases bb <;> simp_all)⟩ (by first | omega | (dsimp only; omega)) (.c rfl (.base 24 rfl rfl)) inferInstance
   ·skip
    have hjm : ((j : Nat) : Int) = d.most + 1 := by omega
    rw [hjm] at h3
    refine XK.exit rfl ?_
    refine XK.inBlock ?_
    refine XK.region rfl ?_
    refine XO.q (Q.add rfl rfl ⟨by omega, by omega⟩) ?_
    refine XO.q (Q.move rfl) (XO.done ?_)
    exact ih1 (i + 1, q3) _ _ ⟨by (try dsimp only); omega, hE _ _ _ h3⟩ (by first | omega | (dsimp only; omega)) (.c rfl (.base 50 rfl rfl)) inferInstance
  ·skip
   have hif : ((i : Nat) : Int) = d.store.full + 1 := by omega
   rw [hif] at h2
   refine XK.exit rfl ?_
   refine XK.inBlock ?_
   refine XK.region rfl (XO.q (Q.move rfl) ?_)
   refine XO.q (Q.sub rfl rfl ⟨by omega, by omega⟩) ?_
   refine XO.q (Q.assign rfl) (XO.done ?_)
   exact ih0 (((hn : Int) - 1), q2) _ _ ⟨by (try dsimp only); omega, by (try dsimp only); omega, hH _ _ h2⟩ (by first | omega | (dsimp only; omega)) (.c rfl (.base 74 rfl rfl)) inferInstance
 ·skip
  have hm1 : hr = -1 := by omega
  subst hm1
  refine XK.exit rfl ?_
  refine XK.seq (XK.region rfl (XO.q (Q.assign rfl) (XO.done ?_)))
  refine XK.rt [q1] Tryz.func193 Tryz.results193 (.t rfl .n) ?_
  exact ⟨true, q1, rfl, rfl, fun _ => h1, (fun h => by cases h)⟩
theorem tables1 (d : KDay) (vh vj : Value) (hh hj : PHeap) [ih : Arr vh encHour 6 hh d.hours] [ij : Arr vj encJob 4 hj d.jobs] (vb vv : Value) (hb : PHeap) (base : List Int) [jb : Arr vb encI 1 hb base] (ok : DayOk d) (bo : BaseOk d base) (b bf bt : Nat) (h : Nat) (e m : Int) (q : PHeap) (hh1 : h ≤ d.hours.length) (so : StateOk d e m) (vals : List Int) [jv : OArr vv encI 1 3 q vals] (fl : Filled d base vals h e m) :
  Spec Tryz.prog 194 #[.int .i64 (h : Nat), .int .i64 e, .int .i64 m, ptr bf 0, ptr bt 0] [q] [blk b [vh, .int .i64 d.store.energy, .int .i64 d.store.full, .int .i64 d.store.power, .int .i64 d.store.fin, vj, .int .i64 d.most, .int .i64 d.peak, vb, vv] 298, blk bf [.func (.func 192) #[ptr b 0] #[]] 299, blk bt [ptr b 0] 295, hb, hh]
   (fun v hs => ∃ q', v = .bool true ∧ hs = [q'] ∧ ∃ vals', OArr vv encI 1 3 q' vals' ∧ Filled d base vals' h e (m + 1)) := by
 have e0 := so.e0
 have e1 := so.e1
 have m0 := so.m0
 have m1 := so.m1
 have f1 := ok.store.f1
 have q1 := ok.m1
 have h24 := ok.h2
 have ar := at_rng so (show (0 : Int) ≤ h by omega) (by omega)
 have hl := fl.len
 have nx : ∀ e' m', h < d.hours.length → StateOk d e' m' → vals.getD (atK d ((h : Int) + 1) e' m').toNat default = valH d base (h + 1) e' m' := fun e' m' hlt s' => by
  have := fl.val (h + 1) e' m' (by omega) s' (.inl (by omega))
  rw [← this]; rfl
 refine Spec.intro (fn := Tryz.f194) (N := 24) Tryz.func194 rfl Tryz.ntmps194 rfl fun B => ?_
 refine XK.seq (XK.region rfl (XO.q (Q.assign rfl) (XO.done (XK.seq ?_))))
 refine XK.drawn [0, 1, 2, 3, 4, 5, 6, 7, 9, 10, 11, 12, 14] [bt, bf] [] (.q 0 (.q 1 (.q 2 (.q 3 (.q 4 (.q 5 (.q 6 (.q 7 (.q 9 (.q 10 (.q 11 (.q 12 (.br 8 true (.br 13 true (.q 14 (.br 15 false .done .stop)) .stop) .stop))))))))))))) Tryz.mixed rfl (by kernel_rfl) ?_
 refine XT.q rfl rfl (Q.ld rfl rfl) ?_
 refine XT.q rfl rfl (Q.nilCheck rfl) ?_
 refine XT.q rfl rfl (Q.fieldAddr rfl) ?_
 refine XT.q rfl rfl (Q.ld rfl rfl) ?_
 refine XT.q rfl rfl (Q.ld rfl rfl) ?_
 refine XT.q rfl rfl (Q.move rfl) ?_
 refine XT.q rfl rfl (Q.move rfl) ?_
 refine XT.q rfl rfl (Q.move rfl) ?_
 refine XT.q rfl rfl (Q.ld rfl rfl) ?_
 refine XT.q rfl rfl (Q.move rfl) ?_
 refine XT.q rfl rfl (Q.move rfl) ?_
 refine XT.q rfl rfl (Q.move rfl) ?_
 refine XT.call rfl rfl Tryz.call147 rfl rfl rfl (at_spec d vh vj vb vv ok b (h : Int) e m (by omega) (by omega) (by omega)) (fun v17 s17 R17 => ?_) XT.stop
 obtain ⟨rfl, rfl⟩ := R17
 dsimp only [lcA, lnA]
 refine ⟨inferInstance, ?_⟩
 refine XT.vcall rfl rfl rfl rfl (VSpec.fn (fst := [ptr b 0]) (cap := []) Tryz.call192 rfl (follows_spec d vh vj hh hj vb vv hb q base vals ok bo hl b h hh1 e m so nx)) (fun v22 s22 R22 => ?_) XT.stop
 obtain ⟨rfl, rfl⟩ := R22
 dsimp only [lcA, lnA]
 refine ⟨inferInstance, ?_⟩
 refine XT.ix rfl rfl rfl rfl (by omega) (by omega) fun i23 => ?_
 refine XT.stE _ rfl rfl rfl rfl rfl (by assumption) rfl rfl (fun h1_15 O1_15 => ⟨inferInstance, ?_⟩) XT.stop
 refine XT.done ?_
 refine XK.seq (XK.region rfl (XO.q (Q.assign rfl) (XO.done ?_)))
 refine XK.rt [h1_15] Tryz.func194 Tryz.results194 (.t rfl .n) ?_
 exact ⟨h1_15, rfl, rfl, _, O1_15, fl.put hh1 so⟩
end Go.X.Ma

set_option linter.unusedSimpArgs false
set_option linter.unusedVariables false
set_option maxRecDepth 20000
namespace Go.X.Ma
open Go.Proofs
set_option maxHeartbeats 1000000 in
theorem tables_spec (d : KDay) (vh vj : Value) (hh hj : PHeap) [ih : Arr vh encHour 6 hh d.hours] [ij : Arr vj encJob 4 hj d.jobs] (s : List Int) (vs : Value) (hs_ : PHeap) [js : Arr vs encI 1 hs_ s] (ok : DayOk d) (so : SOk d s) : Spec Tryz.prog 146 #[.agg #[vh, .int .i64 d.store.energy, .int .i64 d.store.full, .int .i64 d.store.power, .int .i64 d.store.fin, vj, .int .i64 d.most, .int .i64 d.peak], vs] [] [hh, hj, hs_] (fun v hs => ∃ b vb vv hb hv vals, v = ptr b 0 ∧ hs = [blk b [vh, .int .i64 d.store.energy, .int .i64 d.store.full, .int .i64 d.store.power, .int .i64 d.store.fin, vj, .int .i64 d.most, .int .i64 d.peak, vb, vv] 298, hb, hv] ∧ OArr vb encI 1 3 hb (needsL d s) ∧ OArr vv encI 1 3 hv vals ∧ TabOk d (needsL d s) vals) := by
 have lh := ih.le
 have h24 := ok.h2
 have bo := needs_base ok s
 have sz := size_rng ok
 refine Spec.intro (fn := Tryz.f146) (N := 29) Tryz.func146 rfl Tryz.ntmps146 rfl fun B => ?_
 refine XK.seq (XK.region rfl ?_)
 refine XO.box rfl fun b2 => ?_
 refine XO.q (Q.assign rfl) (XO.done (XK.seq ?_))
 refine XK.meet (X := Nat × Nat × Value × PHeap) [5, 7, 8, 9, 10, 11, 12] (fun ⟨b5, b12, v10, k10⟩ => [(5, some (ptr b5 0))]) (fun ⟨b5, b12, v10, k10⟩ => [blk b5 [ptr b12 0] 295, blk b12 [vh, .int .i64 d.store.energy, .int .i64 d.store.full, .int .i64 d.store.power, .int .i64 d.store.fin, vj, .int .i64 d.most, .int .i64 d.peak, v10, .slice none 0 0] 298, k10]) (fun ⟨b5, b12, v10, k10⟩ => OArr v10 encI 1 3 k10 (needsL d s)) [] ?_ ?_
 ·rintro ⟨b5, b12, v10, k10⟩ O10
  dsimp only [lcA, lnA]
  refine XK.seq ?_
  refine XK.drawn [0, 1, 2, 3, 4, 5, 8, 9] [b5, b2] [] (.q 0 (.q 1 (.q 2 (.q 3 (.q 4 (.q 5 (.br 6 true (.br 7 true (.q 8 (.q 9 (.br 10 true .done .stop))) .stop) .stop))))))) Tryz.mixed rfl (by kernel_rfl) ?_
  refine XT.q rfl rfl (Q.ld rfl rfl) ?_
  refine XT.q rfl rfl (Q.ld rfl rfl) ?_
  refine XT.q rfl rfl (Q.fieldAddr rfl) ?_
  refine XT.q rfl rfl (Q.ld rfl rfl) ?_
  refine XT.q rfl rfl (Q.len rfl) ?_
  refine XT.q rfl rfl (Q.add rfl rfl ⟨by omega, by omega⟩) ?_
  refine XT.call rfl rfl Tryz.call147 rfl rfl rfl (at_spec d vh vj v10 (.slice none 0 0) ok b12 ((d.hours.length : Int) + 1) 0 0 (by omega) (by omega) (by omega)) (fun v19 s19 R19 => ?_) XT.stop
  obtain ⟨rfl, rfl⟩ := R19
  dsimp only [lcA, lnA]
  refine ⟨inferInstance, ?_⟩
  rw [show atK d ((d.hours.length : Int) + 1) 0 0 = (((sizeK d).toNat : Nat) : Int) from (Int.toNat_of_nonneg sz.1).symm]
  refine XT.make encI (0) rfl rfl rfl rfl rfl (by omega) (by omega) (fun _ => rfl) rfl rfl rfl (by dsimp only [encI]; infer_instance) (fun v20 h20 O20 => ⟨inferInstance, ?_⟩) XT.stop
  refine XT.q rfl rfl (Q.nilCheck rfl) ?_
  refine XT.q rfl rfl (Q.fieldAddr rfl) ?_
  refine XT.st rfl rfl rfl rfl rfl ⟨inferInstance, ?_⟩ XT.stop
  refine XT.done ?_
  refine XK.seq (XK.region rfl ?_)
  refine XO.q (Q.ld rfl rfl) ?_
  refine XO.q (Q.func (fun _ he => evs_rel he rfl) (fun _ he => rfl)) ?_
  refine XO.alloc fun b6 => ?_
  refine XO.st rfl rfl rfl ?_
  refine XO.done (XK.seq (XK.region rfl ?_))
  refine XO.q (Q.ld rfl rfl) ?_
  refine XO.q (Q.func (fun _ he => rfl) (fun _ he => evs_rel he rfl)) ?_
  refine XO.call Tryz.call193 rfl rfl rfl (states_spec d vh vj v10 v20 ok b12 (by omega) hh (.func (.func 194) #[] #[ptr b6 0, ptr b5 0]) [blk b12 [vh, .int .i64 d.store.energy, .int .i64 d.store.full, .int .i64 d.store.power, .int .i64 d.store.fin, vj, .int .i64 d.most, .int .i64 d.peak, v10, v20] 298, blk b6 [.func (.func 192) #[ptr b12 0] #[]] 299, blk b5 [ptr b12 0] 295, k10, hh] (fun (h e m : Int) (q : PHeap) => ∃ vals, OArr v20 encI 1 3 q vals ∧ Filled d (needsL d s) vals h e m) (fun _ => False) (fun h e m q hh1 so2 hQ => by obtain ⟨vals, hO, fl⟩ := hQ; exact VSpec.fn (fst := []) (cap := [ptr b6 0, ptr b5 0]) Tryz.call194 rfl ((tables1 d vh vj hh hj v10 v20 k10 (needsL d s) ok bo b12 b6 b5 h e m q hh1 so2 vals fl).mono (fun v hs hx => by obtain ⟨q2, hv, hhs, hx2⟩ := hx; exact ⟨true, q2, hv, hhs, fun _ => hx2, fun h => by cases h⟩))) (fun h e q hQ => by obtain ⟨vals, hO, fl⟩ := hQ; exact ⟨vals, hO, fl.nextE⟩) (fun h q hQ => by obtain ⟨vals, hO, fl⟩ := hQ; exact ⟨vals, hO, fl.nextH⟩) h20 ⟨_, O20, Filled.start ok⟩) fun v27 s27 R27 => ?_
  obtain ⟨bb, q4, rfl, rfl, hT, hF⟩ := R27
  dsimp only [lcA, lnA]
  have hbt : bb = true := by
   cases bb with
   | false => exact (hF rfl).elim
   | true => rfl
  subst hbt
  obtain ⟨vals, OV, fl⟩ := hT rfl
  have tk := fl.all
  refine XO.done (XK.seq (XK.region rfl ?_))
  refine XO.q (Q.ld rfl rfl) ?_
  refine XO.q (Q.assign rfl) (XO.done ?_)
  refine XK.rt [blk b12 [vh, .int .i64 d.store.energy, .int .i64 d.store.full, .int .i64 d.store.power, .int .i64 d.store.fin, vj, .int .i64 d.most, .int .i64 d.peak, v10, v20] 298, k10, q4] Tryz.func146 Tryz.results146 (.t rfl .n) ?_
  exact ⟨b12, v10, v20, k10, q4, vals, rfl, rfl, O10, OV, tk⟩
 ·intro mtr1
  dsimp only [lcA, lnA] at mtr1
  refine XK.drawn [0, 1, 2, 4] [b2] [] (.q 0 (.q 1 (.q 2 (.br 3 true (.q 4 (.br 5 true (.br 6 true (.br 7 false .done .stop) .stop) (.br 6 true (.br 5 true (.br 7 false .done .stop) .stop) .stop))) (.br 6 true (.br 3 true (.q 4 (.br 5 true (.br 7 false .done .stop) .stop)) .stop) .stop))))) Tryz.mixed rfl (by kernel_rfl) ?_
  refine XT.q rfl rfl (Q.ldA [_, _, _, _, _, _, _, _] rfl rfl rfl) ?_
  refine XT.q rfl rfl (Q.ldA [_, _, _, _, _, _, _, _] rfl rfl rfl) ?_
  refine XT.q rfl rfl (Q.move rfl) ?_
  refine XT.call rfl rfl Tryz.call150 rfl rfl rfl (needs_spec d vh vj hh hj s vs hs_ ok so) (fun v10 s10 R10 => ?_) ?_
  ·skip
   obtain ⟨k10, rfl, O10⟩ := R10
   dsimp only [lcA, lnA]
   refine ⟨inferInstance, ?_⟩
   refine XT.q rfl rfl (Q.build [_, _, _, _, _, _, _, _, _, _] (.c 0 8 rfl rfl rfl (.c 8 1 rfl rfl rfl (.n _)))) ?_
   refine XT.box rfl rfl rfl (fun b12 => ⟨inferInstance, ?_⟩) ?_
   ·skip
    refine XT.alloc rfl rfl (fun b5 => ⟨inferInstance, ?_⟩) XT.stop
    refine XT.st rfl rfl rfl rfl rfl ⟨inferInstance, ?_⟩ XT.stop
    refine XT.done ?_
    exact mtr1 ((b5, b12, v10, k10)) _ _ O10 (.c rfl (.base 7 rfl rfl)) inferInstance
   ·skip
    refine XT.alloc rfl rfl (fun b5 => ⟨inferInstance, ?_⟩) XT.stop
    refine XT.box rfl rfl rfl (fun b12 => ⟨inferInstance, ?_⟩) XT.stop
    refine XT.st rfl rfl rfl rfl rfl ⟨inferInstance, ?_⟩ XT.stop
    refine XT.done ?_
    exact mtr1 ((b5, b12, v10, k10)) _ _ O10 (.c rfl (.base 7 rfl rfl)) inferInstance
  ·skip
   refine XT.alloc rfl rfl (fun b5 => ⟨inferInstance, ?_⟩) XT.stop
   refine XT.call rfl rfl Tryz.call150 rfl rfl rfl (needs_spec d vh vj hh hj s vs hs_ ok so) (fun v10 s10 R10 => ?_) XT.stop
   obtain ⟨k10, rfl, O10⟩ := R10
   dsimp only [lcA, lnA]
   refine ⟨inferInstance, ?_⟩
   refine XT.q rfl rfl (Q.build [_, _, _, _, _, _, _, _, _, _] (.c 0 8 rfl rfl rfl (.c 8 1 rfl rfl rfl (.n _)))) ?_
   refine XT.box rfl rfl rfl (fun b12 => ⟨inferInstance, ?_⟩) XT.stop
   refine XT.st rfl rfl rfl rfl rfl ⟨inferInstance, ?_⟩ XT.stop
   refine XT.done ?_
   exact mtr1 ((b5, b12, v10, k10)) _ _ O10 (.c rfl (.base 7 rfl rfl)) inferInstance
end Go.X.Ma
