/- A part of the proof: a small program logic, plain laws and contracts of functions, each proved by a walk through its operations. No condition but those that stand in each theorem. -/
import Derived.Test.YtkoojoljdpbnoaaGreatA5
set_option linter.unusedSimpArgs false
set_option linter.unusedVariables false
set_option maxRecDepth 20000
namespace Go.X.Ma
open Go.Proofs
def encHour (x : KHour) : List Value := [.int .i64 x.buy, .int .i64 x.sell, .int .i64 x.sun, .int .i64 x.load, .int .i64 x.carbon, .int .i64 x.water]
def encJob (x : KJob) : List Value := [.int .i64 x.beg, .int .i64 x.fin, .int .i64 x.hours, .int .i64 x.power]
theorem cloneI (v : Value) (h : PHeap) (xs : List Int) [s : Arr v encI 1 h xs] (hl : xs.length ≤ 68719476736) :
  Spec Tryz.prog 59 #[v] [] [h] (fun v' hs => ∃ h', hs = [h'] ∧ OArr v' encI 1 3 h' xs) := by apply Go.X.Bk.cloneI <;> assumption
theorem equalI (v1 v2 : Value) (h1 h2 : PHeap) (xs ys : List Int) [s1 : Arr v1 encI 1 h1 xs] [s2 : Arr v2 encI 1 h2 ys] :
  Spec Tryz.prog 35 #[v1, v2] [] [h1, h2] (fun v hs => v = .bool (decide (xs = ys)) ∧ hs = []) := by apply Go.X.Bk.equalI <;> assumption
theorem indexFuncI (v : Value) (h : PHeap) (xs : List Int) [s : Arr v encI 1 h xs] (gid : FuncId) (cap : List Value) (Hr : List PHeap) (p : Int → Bool)
  (hc : ∀ args w, (callFunc gid args).run Tryz.prog w = .ok (.enter gid args) w) (hS : ∀ x ∈ xs, Spec Tryz.prog gid (.int .i64 x :: cap).toArray [] Hr (fun v hs => v = .bool (p x) ∧ hs = [])) :
  Spec Tryz.prog 159 #[v, .func (.func gid) #[] cap.toArray] [] (h :: Hr) (fun v hs => v = .int .i64 (findFirst p xs) ∧ hs = []) := by apply Go.X.Bk.indexFuncI <;> assumption
theorem containsFuncI (v : Value) (h : PHeap) (xs : List Int) [s : Arr v encI 1 h xs] (gid : FuncId) (cap : List Value) (Hr : List PHeap) (p : Int → Bool)
  (hc : ∀ args w, (callFunc gid args).run Tryz.prog w = .ok (.enter gid args) w) (hS : ∀ x ∈ xs, Spec Tryz.prog gid (.int .i64 x :: cap).toArray [] Hr (fun v hs => v = .bool (p x) ∧ hs = [])) :
  Spec Tryz.prog 97 #[v, .func (.func gid) #[] cap.toArray] [] (h :: Hr) (fun v hs => v = .bool (xs.any p) ∧ hs = []) := by apply Go.X.Bk.containsFuncI <;> assumption
theorem indexFuncH (v : Value) (h : PHeap) (xs : List KHour) [s : Arr v encHour 6 h xs] (gid : FuncId) (cap : List Value) (Hr : List PHeap) (p : KHour → Bool)
  (hc : ∀ args w, (callFunc gid args).run Tryz.prog w = .ok (.enter gid args) w) (hS : ∀ x ∈ xs, Spec Tryz.prog gid (.agg #[.int .i64 x.buy, .int .i64 x.sell, .int .i64 x.sun, .int .i64 x.load, .int .i64 x.carbon, .int .i64 x.water] :: cap).toArray [] Hr (fun v hs => v = .bool (p x) ∧ hs = [])) :
  Spec Tryz.prog 203 #[v, .func (.func gid) #[] cap.toArray] [] (h :: Hr) (fun v hs => v = .int .i64 (findFirst p xs) ∧ hs = []) := by
 refine Spec.intro (fn := Tryz.f203) (N := 19) Tryz.func203 rfl Tryz.ntmps203 rfl fun B => ?_
 refine XK.seq (XK.region rfl (XO.q (Q.assign rfl) (XO.done (XK.seq (XK.seq ?_)))))
 refine XK.region rfl (XO.q (Q.move rfl) ?_)
 refine XO.len rfl fun l7 => ?_
 refine XO.q (Q.move rfl) (XO.done (XK.block ?_))
 refine XK.while (X := Nat) [4, 5, 8, 9, 10, 11, 12, 13, 14, 15, 16, 17, 18] (fun i => [(8, some (.int .i64 (i : Nat)))]) (fun i => []) (fun i => i ≤ xs.length ∧ (xs.take i).any p = false) (fun i => xs.length - i) (0) [] rfl ⟨by omega, rfl⟩ (.c rfl (.base 0 rfl rfl)) ?_
 rintro i ⟨hi, ht⟩ ih0
 dsimp only [lcA, lnA] at ih0 ⊢
 refine XK.seq (XK.region rfl ?_)
 refine XO.q (Q.lss rfl rfl) ?_
 refine XO.done (XK.seq ?_)
 refine XK.if rfl (fun c0 => ?_) (fun c0 => ?_)
 ·skip
  refine XK.skip (XK.seq (XK.block (XK.seq (XK.region rfl (XO.q (Q.move rfl) ?_)))))
  refine XO.q (Q.assign rfl) (XO.done (XK.seq (XK.region rfl (XO.q (Q.move rfl) (XO.q (Q.move rfl) ?_)))))
  refine XO.q (Q.move rfl) ?_
  refine XO.ix rfl rfl (by omega) (by omega) fun i14 => ?_
  refine XO.q (Q.ldEA [_, _, _, _, _, _] rfl (by first | assumption | omega) rfl rfl) ?_
  refine XO.call hc rfl rfl rfl (hS _ (getD_mem (by omega))) fun v16 s16 R16 => ?_
  obtain ⟨rfl, rfl⟩ := R16
  dsimp only [lcA, lnA]
  refine XO.done ?_
  refine XK.if rfl (fun c1 => ?_) (fun c1 => ?_)
  ·skip
   refine XK.seq (XK.region rfl (XO.q (Q.move rfl) (XO.q (Q.assign rfl) (XO.done ?_))))
   refine XK.rt [] Tryz.func203 Tryz.results203 (.t rfl .n) ?_
   exact ⟨by rw [findFirst_here ht (by omega) c1], rfl⟩
  ·skip
   refine XK.skip ?_
   refine XK.inBlock ?_
   refine XK.region rfl ?_
   refine XO.q (Q.add rfl rfl ⟨by omega, by omega⟩) ?_
   refine XO.q (Q.move rfl) (XO.done ?_)
   exact ih0 (i + 1) _ _ ⟨by omega, any_step ht (by omega) (Bool.eq_false_iff.2 c1)⟩ (by first | omega | (dsimp only; omega)) (.c rfl (.base 25 rfl rfl)) inferInstance
 ·skip
  refine XK.exit rfl ?_
  refine XK.seq (XK.region rfl (XO.q (Q.assign rfl) (XO.done ?_)))
  refine XK.rt [] Tryz.func203 Tryz.results203 (.t rfl .n) ?_
  exact ⟨by rw [findFirst_none ht c0], rfl⟩
theorem containsFuncH (v : Value) (h : PHeap) (xs : List KHour) [s : Arr v encHour 6 h xs] (gid : FuncId) (cap : List Value) (Hr : List PHeap) (p : KHour → Bool)
  (hc : ∀ args w, (callFunc gid args).run Tryz.prog w = .ok (.enter gid args) w) (hS : ∀ x ∈ xs, Spec Tryz.prog gid (.agg #[.int .i64 x.buy, .int .i64 x.sell, .int .i64 x.sun, .int .i64 x.load, .int .i64 x.carbon, .int .i64 x.water] :: cap).toArray [] Hr (fun v hs => v = .bool (p x) ∧ hs = [])) :
  Spec Tryz.prog 185 #[v, .func (.func gid) #[] cap.toArray] [] (h :: Hr) (fun v hs => v = .bool (xs.any p) ∧ hs = []) := by
 refine Spec.intro (fn := Tryz.f185) (N := 9) Tryz.func185 rfl Tryz.ntmps185 rfl fun B => ?_
 refine XK.seq (XK.region rfl (XO.q (Q.assign rfl) (XO.done (XK.seq (XK.region rfl ?_)))))
 refine XO.q (Q.move rfl) (XO.q (Q.move rfl) ?_)
 refine XO.call Tryz.call203 rfl rfl rfl (indexFuncH v h xs gid cap Hr p hc hS) fun v7 s7 R7 => ?_
 obtain ⟨rfl, rfl⟩ := R7
 dsimp only [lcA, lnA]
 refine XO.q (Q.geq rfl rfl) ?_
 refine XO.q (Q.assign rfl) (XO.done ?_)
 refine XK.rt [] Tryz.func185 Tryz.results185 (.t rfl .n) ?_
 exact ⟨by rw [← findFirst_any], rfl⟩
theorem indexFuncJ (v : Value) (h : PHeap) (xs : List KJob) [s : Arr v encJob 4 h xs] (gid : FuncId) (cap : List Value) (Hr : List PHeap) (p : KJob → Bool)
  (hc : ∀ args w, (callFunc gid args).run Tryz.prog w = .ok (.enter gid args) w) (hS : ∀ x ∈ xs, Spec Tryz.prog gid (.agg #[.int .i64 x.beg, .int .i64 x.fin, .int .i64 x.hours, .int .i64 x.power] :: cap).toArray [] Hr (fun v hs => v = .bool (p x) ∧ hs = [])) :
  Spec Tryz.prog 204 #[v, .func (.func gid) #[] cap.toArray] [] (h :: Hr) (fun v hs => v = .int .i64 (findFirst p xs) ∧ hs = []) := by
 refine Spec.intro (fn := Tryz.f204) (N := 19) Tryz.func204 rfl Tryz.ntmps204 rfl fun B => ?_
 refine XK.seq (XK.region rfl (XO.q (Q.assign rfl) (XO.done (XK.seq (XK.seq ?_)))))
 refine XK.region rfl (XO.q (Q.move rfl) ?_)
 refine XO.len rfl fun l7 => ?_
 refine XO.q (Q.move rfl) (XO.done (XK.block ?_))
 refine XK.while (X := Nat) [4, 5, 8, 9, 10, 11, 12, 13, 14, 15, 16, 17, 18] (fun i => [(8, some (.int .i64 (i : Nat)))]) (fun i => []) (fun i => i ≤ xs.length ∧ (xs.take i).any p = false) (fun i => xs.length - i) (0) [] rfl ⟨by omega, rfl⟩ (.c rfl (.base 0 rfl rfl)) ?_
 rintro i ⟨hi, ht⟩ ih0
 dsimp only [lcA, lnA] at ih0 ⊢
 refine XK.seq (XK.region rfl ?_)
 refine XO.q (Q.lss rfl rfl) ?_
 refine XO.done (XK.seq ?_)
 refine XK.if rfl (fun c0 => ?_) (fun c0 => ?_)
 ·skip
  refine XK.skip (XK.seq (XK.block (XK.seq (XK.region rfl (XO.q (Q.move rfl) ?_)))))
  refine XO.q (Q.assign rfl) (XO.done (XK.seq (XK.region rfl (XO.q (Q.move rfl) (XO.q (Q.move rfl) ?_)))))
  refine XO.q (Q.move rfl) ?_
  refine XO.ix rfl rfl (by omega) (by omega) fun i14 => ?_
  refine XO.q (Q.ldEA [_, _, _, _] rfl (by first | assumption | omega) rfl rfl) ?_
  refine XO.call hc rfl rfl rfl (hS _ (getD_mem (by omega))) fun v16 s16 R16 => ?_
  obtain ⟨rfl, rfl⟩ := R16
  dsimp only [lcA, lnA]
  refine XO.done ?_
  refine XK.if rfl (fun c1 => ?_) (fun c1 => ?_)
  ·skip
   refine XK.seq (XK.region rfl (XO.q (Q.move rfl) (XO.q (Q.assign rfl) (XO.done ?_))))
   refine XK.rt [] Tryz.func204 Tryz.results204 (.t rfl .n) ?_
   exact ⟨by rw [findFirst_here ht (by omega) c1], rfl⟩
  ·skip
   refine XK.skip ?_
   refine XK.inBlock ?_
   refine XK.region rfl ?_
   refine XO.q (Q.add rfl rfl ⟨by omega, by omega⟩) ?_
   refine XO.q (Q.move rfl) (XO.done ?_)
   exact ih0 (i + 1) _ _ ⟨by omega, any_step ht (by omega) (Bool.eq_false_iff.2 c1)⟩ (by first | omega | (dsimp only; omega)) (.c rfl (.base 25 rfl rfl)) inferInstance
 ·skip
  refine XK.exit rfl ?_
  refine XK.seq (XK.region rfl (XO.q (Q.assign rfl) (XO.done ?_)))
  refine XK.rt [] Tryz.func204 Tryz.results204 (.t rfl .n) ?_
  exact ⟨by rw [findFirst_none ht c0], rfl⟩
theorem containsFuncJ (v : Value) (h : PHeap) (xs : List KJob) [s : Arr v encJob 4 h xs] (gid : FuncId) (cap : List Value) (Hr : List PHeap) (p : KJob → Bool)
  (hc : ∀ args w, (callFunc gid args).run Tryz.prog w = .ok (.enter gid args) w) (hS : ∀ x ∈ xs, Spec Tryz.prog gid (.agg #[.int .i64 x.beg, .int .i64 x.fin, .int .i64 x.hours, .int .i64 x.power] :: cap).toArray [] Hr (fun v hs => v = .bool (p x) ∧ hs = [])) :
  Spec Tryz.prog 189 #[v, .func (.func gid) #[] cap.toArray] [] (h :: Hr) (fun v hs => v = .bool (xs.any p) ∧ hs = []) := by
 refine Spec.intro (fn := Tryz.f189) (N := 9) Tryz.func189 rfl Tryz.ntmps189 rfl fun B => ?_
 refine XK.seq (XK.region rfl (XO.q (Q.assign rfl) (XO.done (XK.seq (XK.region rfl ?_)))))
 refine XO.q (Q.move rfl) (XO.q (Q.move rfl) ?_)
 refine XO.call Tryz.call204 rfl rfl rfl (indexFuncJ v h xs gid cap Hr p hc hS) fun v7 s7 R7 => ?_
 obtain ⟨rfl, rfl⟩ := R7
 dsimp only [lcA, lnA]
 refine XO.q (Q.geq rfl rfl) ?_
 refine XO.q (Q.assign rfl) (XO.done ?_)
 refine XK.rt [] Tryz.func189 Tryz.results189 (.t rfl .n) ?_
 exact ⟨by rw [← findFirst_any], rfl⟩
theorem in1 (b : Nat) (m x : Int) : Spec Tryz.prog 196 #[.int .i64 x, ptr b 0] [] [blk b [.int .i64 m] 3] (fun v hs => v = .bool (kout m x) ∧ hs = []) := by
 refine Spec.intro (fn := Tryz.f196) (N := 11) Tryz.func196 rfl Tryz.ntmps196 rfl fun B => ?_
 refine XK.seq (XK.region rfl (XO.q (Q.assign rfl) (XO.done (XK.seq (XK.region rfl ?_)))))
 refine XO.q (Q.move rfl) ?_
 refine XO.q (Q.lss rfl rfl) ?_
 refine XO.q (Q.move rfl) ?_
 refine XO.q (Quiet.guardF rfl rfl fun g7 p7 => Q.move rfl) ?_
 refine XO.q (Quiet.guardF rfl rfl fun g8 p8 => Q.ld rfl rfl) ?_
 refine XO.q (Quiet.guardF rfl rfl fun g9 p9 => Q.gtr (lzv g9 rfl) (lzv g9 rfl)) ?_
 refine XO.q (Q.or rfl (fun hp => lzv hp rfl)) ?_
 refine XO.q (Q.assign rfl) (XO.done ?_)
 refine XK.rt [] Tryz.func196 Tryz.results196 (.t rfl .n) ?_
 exact ⟨rfl, rfl⟩
theorem kin_spec (m : Int) (v : Value) (h : PHeap) (xs : List Int) [s : Arr v encI 1 h xs] : Spec Tryz.prog 151 #[.int .i64 m, v] [] [h] (fun v hs => v = .bool (kin m xs) ∧ hs = []) := by
 refine Spec.intro (fn := Tryz.f151) (N := 9) Tryz.func151 rfl Tryz.ntmps151 rfl fun B => ?_
 refine XK.seq (XK.region rfl ?_)
 refine XO.box rfl fun b2 => ?_
 refine XO.q (Q.assign rfl) (XO.done (XK.seq (XK.region rfl (XO.q (Q.move rfl) ?_))))
 refine XO.q (Q.func (fun _ he => rfl) (fun _ he => evs_rel he rfl)) ?_
 refine XO.call Tryz.call97 rfl rfl rfl (containsFuncI v h xs 196 [ptr b2 0] [blk b2 [.int .i64 m] 3] (kout m) Tryz.call196 (fun x hx => in1 b2 m x)) fun v7 s7 R7 => ?_
 obtain ⟨rfl, rfl⟩ := R7
 dsimp only [lcA, lnA]
 refine XO.q (Q.not rfl) ?_
 refine XO.q (Q.assign rfl) (XO.done ?_)
 refine XK.rt [] Tryz.func151 Tryz.results151 (.t rfl .n) ?_
 exact ⟨rfl, rfl⟩
theorem hourR_spec (h : KHour) : Spec Tryz.prog 187 #[.agg #[.int .i64 h.buy, .int .i64 h.sell, .int .i64 h.sun, .int .i64 h.load, .int .i64 h.carbon, .int .i64 h.water]] [] [] (fun v hs => v = .bool (hourR h) ∧ hs = []) := by
 refine Spec.intro (fn := Tryz.f187) (N := 32) Tryz.func187 rfl Tryz.ntmps187 rfl fun B => ?_
 refine XK.seq (XK.region rfl ?_)
 refine XO.box rfl fun b1 => ?_
 refine XO.q (Q.assign rfl) (XO.done (XK.seq (XK.region rfl ?_)))
 refine XO.q (Q.fieldAddr rfl) ?_
 refine XO.q (Q.ld rfl rfl) ?_
 refine XO.q (Q.fieldAddr rfl) ?_
 refine XO.q (Q.ld rfl rfl) ?_
 refine XO.lit [_, _] [_, _] [h.buy, h.sell] encI (by rfl) (by rfl) rfl (by rfl) (by exact .c 0 1 rfl rfl rfl (.c 1 1 rfl rfl rfl (.n _))) (fun _ => rfl) (by rfl) rfl (by infer_instance) rfl fun v7 h7 O7 => ?_
 refine XO.call Tryz.call151 rfl rfl rfl (kin_spec 1000 v7 h7 [h.buy, h.sell]) fun v8 s8 R8 => ?_
 obtain ⟨rfl, rfl⟩ := R8
 dsimp only [lcA, lnA]
 refine XO.q (Q.move rfl) ?_
 refine XO.q (Quiet.guardT rfl rfl fun g10 p10 => Q.fieldAddr rfl) ?_
 refine XO.q (Quiet.guardT rfl rfl fun g11 p11 => Q.ld (lzv g11 rfl) rfl) ?_
 refine XO.q (Quiet.guardT rfl rfl fun g12 p12 => Q.fieldAddr rfl) ?_
 refine XO.q (Quiet.guardT rfl rfl fun g13 p13 => Q.ld (lzv g13 rfl) rfl) ?_
 refine XO.q (Quiet.guardT rfl rfl fun g14 p14 => Q.leq (lzv g14 rfl) (lzv g14 rfl)) ?_
 refine XO.q (Q.and rfl (fun hp => lzv hp rfl)) ?_
 refine XO.q (Q.move rfl) ?_
 refine XO.q (Quiet.guardT rfl rfl fun g17 p17 => Q.fieldAddr rfl) ?_
 refine XO.q (Quiet.guardT rfl rfl fun g18 p18 => Q.ld (lzv g18 rfl) rfl) ?_
 refine XO.q (Quiet.guardT rfl rfl fun g19 p19 => Q.fieldAddr rfl) ?_
 refine XO.q (Quiet.guardT rfl rfl fun g20 p20 => Q.ld (lzv g20 rfl) rfl) ?_
 refine XO.lit1 [_, _] [_, _] [h.sun, h.load] encI rfl rfl (by rfl) (by rfl) rfl (by rfl) (fun g21 => by exact .c 0 1 (lzv g21 rfl) rfl rfl (.c 1 1 (lzv g21 rfl) rfl rfl (.n _))) (fun _ => rfl) (by rfl) rfl (fun _ => by infer_instance) rfl (fun v21 h21 O21 => ?_)
 refine XO.gcallT rfl rfl Tryz.call151 rfl (fun g22 => .c rfl (.c (lzv g22 rfl) .n)) rfl (fun g22 p22 => by haveI := O21 g22; exact kin_spec 40 v21 h21 [h.sun, h.load]) ?_
 refine XO.q (Q.and rfl (fun hp => lzv hp rfl)) ?_
 refine XO.q (Q.move rfl) ?_
 refine XO.q (Quiet.guardT rfl rfl fun g25 p25 => Q.fieldAddr rfl) ?_
 refine XO.q (Quiet.guardT rfl rfl fun g26 p26 => Q.ld (lzv g26 rfl) rfl) ?_
 refine XO.q (Quiet.guardT rfl rfl fun g27 p27 => Q.fieldAddr rfl) ?_
 refine XO.q (Quiet.guardT rfl rfl fun g28 p28 => Q.ld (lzv g28 rfl) rfl) ?_
 refine XO.lit1 [_, _] [_, _] [h.carbon, h.water] encI rfl rfl (by rfl) (by rfl) rfl (by rfl) (fun g29 => by exact .c 0 1 (lzv g29 rfl) rfl rfl (.c 1 1 (lzv g29 rfl) rfl rfl (.n _))) (fun _ => rfl) (by rfl) rfl (fun _ => by infer_instance) rfl (fun v29 h29 O29 => ?_)
 refine XO.gcallT rfl rfl Tryz.call151 rfl (fun g30 => .c rfl (.c (lzv g30 rfl) .n)) rfl (fun g30 p30 => by haveI := O29 g30; exact kin_spec 10000 v29 h29 [h.carbon, h.water]) ?_
 refine XO.q (Q.and rfl (fun hp => lzv hp rfl)) ?_
 refine XO.q (Q.assign rfl) (XO.done ?_)
 refine XK.rt [] Tryz.func187 Tryz.results187 (.t rfl .n) ?_
 exact ⟨rfl, rfl⟩
theorem storeR_spec (s : KStore) : Spec Tryz.prog 188 #[.agg #[.int .i64 s.energy, .int .i64 s.full, .int .i64 s.power, .int .i64 s.fin]] [] [] (fun v hs => v = .bool (storeR s) ∧ hs = []) := by
 refine Spec.intro (fn := Tryz.f188) (N := 19) Tryz.func188 rfl Tryz.ntmps188 rfl fun B => ?_
 refine XK.seq (XK.region rfl ?_)
 refine XO.box rfl fun b1 => ?_
 refine XO.q (Q.assign rfl) (XO.done (XK.seq (XK.region rfl ?_)))
 refine XO.q (Q.fieldAddr rfl) ?_
 refine XO.q (Q.ld rfl rfl) ?_
 refine XO.q (Q.fieldAddr rfl) ?_
 refine XO.q (Q.ld rfl rfl) ?_
 refine XO.lit [_, _] [_, _] [s.full, s.power] encI (by rfl) (by rfl) rfl (by rfl) (by exact .c 0 1 rfl rfl rfl (.c 1 1 rfl rfl rfl (.n _))) (fun _ => rfl) (by rfl) rfl (by infer_instance) rfl fun v7 h7 O7 => ?_
 refine XO.call Tryz.call151 rfl rfl rfl (kin_spec 10 v7 h7 [s.full, s.power]) fun v8 s8 R8 => ?_
 obtain ⟨rfl, rfl⟩ := R8
 dsimp only [lcA, lnA]
 refine XO.q (Q.move rfl) ?_
 refine XO.q (Quiet.guardT rfl rfl fun g10 p10 => Q.fieldAddr rfl) ?_
 refine XO.q (Quiet.guardT rfl rfl fun g11 p11 => Q.ld (lzv g11 rfl) rfl) ?_
 refine XO.q (Quiet.guardT rfl rfl fun g12 p12 => Q.fieldAddr rfl) ?_
 refine XO.q (Quiet.guardT rfl rfl fun g13 p13 => Q.ld (lzv g13 rfl) rfl) ?_
 refine XO.q (Quiet.guardT rfl rfl fun g14 p14 => Q.fieldAddr rfl) ?_
 refine XO.q (Quiet.guardT rfl rfl fun g15 p15 => Q.ld (lzv g15 rfl) rfl) ?_
 refine XO.lit1 [_, _] [_, _] [s.energy, s.fin] encI rfl rfl (by rfl) (by rfl) rfl (by rfl) (fun g16 => by exact .c 0 1 (lzv g16 rfl) rfl rfl (.c 1 1 (lzv g16 rfl) rfl rfl (.n _))) (fun _ => rfl) (by rfl) rfl (fun _ => by infer_instance) rfl (fun v16 h16 O16 => ?_)
 refine XO.gcallT rfl rfl Tryz.call151 rfl (fun g17 => .c (lzv g17 rfl) (.c (lzv g17 rfl) .n)) rfl (fun g17 p17 => by haveI := O16 g17; exact kin_spec s.full v16 h16 [s.energy, s.fin]) ?_
 refine XO.q (Q.and rfl (fun hp => lzv hp rfl)) ?_
 refine XO.q (Q.assign rfl) (XO.done ?_)
 refine XK.rt [] Tryz.func188 Tryz.results188 (.t rfl .n) ?_
 exact ⟨rfl, rfl⟩
theorem jobR_spec (j : KJob) (n : Nat) (hn : (n : Int) ≤ 140737488355328) : Spec Tryz.prog 191 #[.agg #[.int .i64 j.beg, .int .i64 j.fin, .int .i64 j.hours, .int .i64 j.power], .int .i64 (n : Nat)] [] [] (fun v hs => v = .bool (jobR n j) ∧ hs = []) := by
 refine Spec.intro (fn := Tryz.f191) (N := 33) Tryz.func191 rfl Tryz.ntmps191 rfl fun B => ?_
 refine XK.seq (XK.region rfl ?_)
 refine XO.box rfl fun b2 => ?_
 refine XO.q (Q.assign rfl) (XO.done (XK.seq (XK.region rfl (XO.q (Q.move rfl) ?_))))
 refine XO.q (Q.fieldAddr rfl) ?_
 refine XO.q (Q.ld rfl rfl) ?_
 refine XO.q (Q.fieldAddr rfl) ?_
 refine XO.q (Q.ld rfl rfl) ?_
 refine XO.lit [_, _] [_, _] [j.beg, j.fin] encI (by rfl) (by rfl) rfl (by rfl) (by exact .c 0 1 rfl rfl rfl (.c 1 1 rfl rfl rfl (.n _))) (fun _ => rfl) (by rfl) rfl (by infer_instance) rfl fun v10 h10 O10 => ?_
 refine XO.call Tryz.call151 rfl rfl rfl (kin_spec (n : Int) v10 h10 [j.beg, j.fin]) fun v11 s11 R11 => ?_
 obtain ⟨rfl, rfl⟩ := R11
 dsimp only [lcA, lnA]
 refine XO.q (Q.move rfl) ?_
 refine XO.q (Quiet.guardT rfl rfl fun g13 p13 => Q.fieldAddr rfl) ?_
 refine XO.q (Quiet.guardT rfl rfl fun g14 p14 => Q.ld (lzv g14 rfl) rfl) ?_
 refine XO.q (Quiet.guardT rfl rfl fun g15 p15 => Q.geq (lzv g15 rfl) rfl) ?_
 refine XO.q (Q.and rfl (fun hp => lzv hp rfl)) ?_
 refine XO.q (Q.move rfl) ?_
 refine XO.q (Quiet.guardT rfl rfl fun g18 p18 => Q.fieldAddr rfl) ?_
 refine XO.q (Quiet.guardT rfl rfl fun g19 p19 => Q.ld (lzv g19 rfl) rfl) ?_
 refine XO.q (Quiet.guardT rfl rfl fun g20 p20 => Q.fieldAddr rfl) ?_
 refine XO.q (Quiet.guardT rfl rfl fun g21 p21 => Q.ld (lzv g21 rfl) rfl) ?_
 refine XO.q (Quiet.guardT rfl rfl fun g22 p22 => Q.fieldAddr rfl) ?_
 refine XO.q (Quiet.guardT rfl rfl fun g23 p23 => Q.ld (lzv g23 rfl) rfl) ?_
 refine XO.q (Quiet.guardT rfl rfl fun g24 p24 => Q.sub (lzv g24 rfl) (lzv g24 rfl) (by have q := kin_two.1 p24.1; exact ⟨by omega, by omega⟩)) ?_
 refine XO.q (Quiet.guardT rfl rfl fun g25 p25 => Q.leq (lzv g25 rfl) (lzv g25 rfl)) ?_
 refine XO.q (Q.and rfl (fun hp => lzv hp rfl)) ?_
 refine XO.q (Q.move rfl) ?_
 refine XO.q (Quiet.guardT rfl rfl fun g28 p28 => Q.fieldAddr rfl) ?_
 refine XO.q (Quiet.guardT rfl rfl fun g29 p29 => Q.ld (lzv g29 rfl) rfl) ?_
 refine XO.lit1 [_] [_] [j.power] encI rfl rfl (by rfl) (by rfl) rfl (by rfl) (fun g30 => by exact .c 0 1 (lzv g30 rfl) rfl rfl (.n _)) (fun _ => rfl) (by rfl) rfl (fun _ => by infer_instance) rfl (fun v30 h30 O30 => ?_)
 refine XO.gcallT rfl rfl Tryz.call151 rfl (fun g31 => .c rfl (.c (lzv g31 rfl) .n)) rfl (fun g31 p31 => by haveI := O30 g31; exact kin_spec 20 v30 h30 [j.power]) ?_
 refine XO.q (Q.and rfl (fun hp => lzv hp rfl)) ?_
 refine XO.q (Q.assign rfl) (XO.done ?_)
 refine XK.rt [] Tryz.func191 Tryz.results191 (.t rfl .n) ?_
 exact ⟨rfl, rfl⟩
theorem check1 (h : KHour) : Spec Tryz.prog 186 #[.agg #[.int .i64 h.buy, .int .i64 h.sell, .int .i64 h.sun, .int .i64 h.load, .int .i64 h.carbon, .int .i64 h.water]] [] [] (fun v hs => v = .bool (!hourR h) ∧ hs = []) := by
 refine Spec.intro (fn := Tryz.f186) (N := 6) Tryz.func186 rfl Tryz.ntmps186 rfl fun B => ?_
 refine XK.seq (XK.region rfl ?_)
 refine XO.box rfl fun b1 => ?_
 refine XO.q (Q.assign rfl) (XO.done (XK.seq (XK.region rfl ?_)))
 refine XO.q (Q.ldA [_, _, _, _, _, _] rfl rfl rfl) ?_
 refine XO.call Tryz.call187 rfl rfl rfl (hourR_spec h) fun v4 s4 R4 => ?_
 obtain ⟨rfl, rfl⟩ := R4
 dsimp only [lcA, lnA]
 refine XO.q (Q.not rfl) ?_
 refine XO.q (Q.assign rfl) (XO.done ?_)
 refine XK.rt [] Tryz.func186 Tryz.results186 (.t rfl .n) ?_
 exact ⟨rfl, rfl⟩
theorem check2 (d : KDay) (vh vj : Value) (hh hj : PHeap) [ih : Arr vh encHour 6 hh d.hours] [ij : Arr vj encJob 4 hj d.jobs] (j : KJob) (b : Nat) : Spec Tryz.prog 190 #[.agg #[.int .i64 j.beg, .int .i64 j.fin, .int .i64 j.hours, .int .i64 j.power], ptr b 0] [] [blk b [vh, .int .i64 d.store.energy, .int .i64 d.store.full, .int .i64 d.store.power, .int .i64 d.store.fin, vj, .int .i64 d.most, .int .i64 d.peak] 116] (fun v hs => v = .bool (!jobR d.hours.length j) ∧ hs = []) := by
 have lh := ih.le
 refine Spec.intro (fn := Tryz.f190) (N := 10) Tryz.func190 rfl Tryz.ntmps190 rfl fun B => ?_
 refine XK.seq (XK.region rfl ?_)
 refine XO.box rfl fun b2 => ?_
 refine XO.q (Q.assign rfl) (XO.done (XK.seq (XK.region rfl ?_)))
 refine XO.q (Q.ldA [_, _, _, _] rfl rfl rfl) ?_
 refine XO.q (Q.fieldAddr rfl) ?_
 refine XO.q (Q.ld rfl rfl) ?_
 refine XO.len rfl fun l7 => ?_
 refine XO.call Tryz.call191 rfl rfl rfl (jobR_spec j d.hours.length (by omega)) fun v8 s8 R8 => ?_
 obtain ⟨rfl, rfl⟩ := R8
 dsimp only [lcA, lnA]
 refine XO.q (Q.not rfl) ?_
 refine XO.q (Q.assign rfl) (XO.done ?_)
 refine XK.rt [] Tryz.func190 Tryz.results190 (.t rfl .n) ?_
 exact ⟨rfl, rfl⟩
theorem prod_rng {js : List KJob} {n : Nat} (hn : n ≤ 24) (h2 : js.length ≤ 2) (h : ∀ i, i < js.length → JobOk n (js.getD i default)) : ∀ i, i ≤ js.length → 1 ≤ prodS js i ∧ prodS js i ≤ (if i = 0 then 1 else if i = 1 then 24 else 576) := fun i hi => by
 have sp : ∀ k, k < js.length → 1 ≤ spanS (js.getD k default) ∧ spanS (js.getD k default) ≤ 24 := fun k hk => by
  have := h k hk
  have := this.b0; have := (h k hk).b1; have := (h k hk).t1; have := (h k hk).h0
  unfold spanS; omega
 match i, hi with
 | 0, _ => exact ⟨Int.le_refl _, Int.le_refl _⟩
 | 1, hi => have := sp 0 (by omega); simp only [prodS]; omega
 | 2, hi =>
  have h0 := sp 0 (by omega)
  have h1 := sp 1 (by omega)
  simp only [prodS, Int.one_mul]
  have a : 1 * 1 ≤ spanS (js.getD 0 default) * spanS (js.getD 1 default) := Int.mul_le_mul h0.1 h1.1 (by omega) (by omega)
  have b : spanS (js.getD 0 default) * spanS (js.getD 1 default) ≤ 24 * 24 := Int.mul_le_mul h0.2 h1.2 (by omega) (by omega)
  omega
 | n + 3, hi => omega
theorem Check_spec (d : KDay) (vh vj : Value) (hh hj : PHeap) [ih : Arr vh encHour 6 hh d.hours] [ij : Arr vj encJob 4 hj d.jobs] : Spec Tryz.prog 144 #[.agg #[vh, .int .i64 d.store.energy, .int .i64 d.store.full, .int .i64 d.store.power, .int .i64 d.store.fin, vj, .int .i64 d.most, .int .i64 d.peak]] [] [hh, hj] (fun v hs => v = .int .i64 (kcheck d) ∧ hs = []) := by
 have lh := ih.le
 have lj := ij.le
 refine Spec.intro (fn := Tryz.f144) (N := 66) Tryz.func144 rfl Tryz.ntmps144 rfl fun B => ?_
 refine XK.seq (XK.region rfl ?_)
 refine XO.box rfl fun b1 => ?_
 refine XO.q (Q.assign rfl) (XO.done (XK.seq (XK.block (XK.seq (XK.region rfl ?_)))))
 refine XO.q (Q.fieldAddr rfl) ?_
 refine XO.q (Q.ld rfl rfl) ?_
 refine XO.len rfl fun l9 => ?_
 refine XO.q (Q.lss rfl rfl) ?_
 refine XO.q (Q.move rfl) ?_
 refine XO.q (Quiet.guardF rfl rfl fun g12 p12 => Q.fieldAddr rfl) ?_
 refine XO.q (Quiet.guardF rfl rfl fun g13 p13 => Q.ld (lzv g13 rfl) rfl) ?_
 refine XO.q (Quiet.guardF rfl rfl fun g14 p14 => Q.len (lzv g14 rfl)) ?_
 refine XO.q (Quiet.guardF rfl rfl fun g15 p15 => Q.gtr (lzv g15 rfl) rfl) ?_
 refine XO.q (Q.or rfl (fun hp => lzv hp rfl)) ?_
 refine XO.q (Q.move rfl) ?_
 refine XO.q (Quiet.guardF rfl rfl fun g18 p18 => Q.fieldAddr rfl) ?_
 refine XO.q (Quiet.guardF rfl rfl fun g19 p19 => Q.ld (lzv g19 rfl) rfl) ?_
 refine XO.q (Quiet.guardF rfl rfl fun g20 p20 => Q.len (lzv g20 rfl)) ?_
 refine XO.q (Quiet.guardF rfl rfl fun g21 p21 => Q.gtr (lzv g21 rfl) rfl) ?_
 refine XO.q (Q.or rfl (fun hp => lzv hp rfl)) ?_
 refine XO.q (Q.assign rfl) (XO.done ?_)
 refine XK.if rfl (fun c0 => ?_) (fun c0 => ?_)
 ·skip
  refine XK.seq (XK.region rfl (XO.q (Q.assign rfl) (XO.done ?_)))
  refine XK.rt [] Tryz.func144 Tryz.results144 (.t rfl .n) ?_
  exact ⟨by rw [kcheck, if_pos c0], rfl⟩
 ·skip
  refine XK.seq (XK.seq (XK.region rfl ?_))
  refine XO.q (Q.fieldAddr rfl) ?_
  refine XO.q (Q.ld rfl rfl) ?_
  refine XO.call Tryz.call185 rfl rfl rfl (containsFuncH vh hh d.hours 186 [] [] (fun h => !hourR h) Tryz.call186 (fun x hx => check1 x)) fun v26 s26 R26 => ?_
  obtain ⟨rfl, rfl⟩ := R26
  dsimp only [lcA, lnA]
  refine XO.q (Q.assign rfl) (XO.done ?_)
  refine XK.meet (X := Bool) [23, 27, 28, 29, 30, 31, 32, 33, 34, 35, 36, 37, 38, 39, 40, 41, 42, 43, 44] (fun q => [(23, some (.bool q))]) (fun q => []) (fun q => q = kbad d) [] ?_ ?_
  ·rintro q hq
   dsimp only [lcA, lnA]
   subst hq
   refine XK.if rfl (fun c2 => ?_) (fun c2 => ?_)
   ·skip
    refine XK.seq (XK.region rfl (XO.q (Q.assign rfl) (XO.done ?_)))
    refine XK.rt [] Tryz.func144 Tryz.results144 (.t rfl .n) ?_
    exact ⟨by rw [kcheck, if_neg c0, if_pos c2], rfl⟩
   ·skip
    have kf := kbad_false.1 (Bool.eq_false_iff.2 c2)
    have pr := prod_rng (by omega) (by omega) kf.2.2.1
    refine XK.skip ?_
    refine XK.inBlock ?_
    refine XK.seq (XK.region rfl (XO.q (Q.assign rfl) (XO.done (XK.seq (XK.seq ?_)))))
    refine XK.region rfl ?_
    refine XO.q (Q.fieldAddr rfl) ?_
    refine XO.q (Q.ld rfl rfl) ?_
    refine XO.len rfl fun l47 => ?_
    refine XO.q (Q.move rfl) (XO.done (XK.block ?_))
    refine XK.while (X := Nat) [3, 5, 48, 49, 50, 51, 52, 53, 54, 55, 56, 57, 58, 59, 60, 61, 62, 63] (fun i => [(3, some (.int .i64 (prodS d.jobs i))), (48, some (.int .i64 (i : Nat)))]) (fun i => []) (fun i => i ≤ d.jobs.length) (fun i => d.jobs.length - i) (0) [] rfl (by omega) (.c rfl (.c rfl (.base 0 rfl rfl))) ?_
    rintro i hi ih0
    dsimp only [lcA, lnA] at ih0 ⊢
    refine XK.seq (XK.region rfl ?_)
    refine XO.q (Q.lss rfl rfl) ?_
    refine XO.done (XK.seq ?_)
    refine XK.if rfl (fun c3 => ?_) (fun c3 => ?_)
    ·skip
     have pi := pr i (by omega)
     have pi1 := pr (i + 1) (by omega)
     have ji := kf.2.2.1 i (by omega)
     have j1 := ji.b0
     have j2 := ji.b1
     have j3 := ji.t1
     have j4 := ji.h0
     have e1 : prodS d.jobs (i + 1) = prodS d.jobs i * spanS (d.jobs.getD i default) := rfl
     unfold spanS at e1
     have hi2 : i = 0 ∨ i = 1 := by omega
     rw [e1] at pi1
     refine XK.skip (XK.seq (XK.block (XK.seq (XK.region rfl ?_))))
     refine XO.ix rfl rfl (by omega) (by omega) fun i50 => ?_
     refine XO.q (Q.ldEA [_, _, _, _] rfl (by first | assumption | omega) rfl rfl) ?_
     refine XO.alloc fun b5 => ?_
     refine XO.st rfl rfl rfl ?_
     refine XO.done (XK.region rfl (XO.q (Q.move rfl) ?_))
     refine XO.q (Q.fieldAddr rfl) ?_
     refine XO.q (Q.ld rfl rfl) ?_
     refine XO.q (Q.fieldAddr rfl) ?_
     refine XO.q (Q.ld rfl rfl) ?_
     refine XO.q (Q.sub rfl rfl ⟨by omega, by omega⟩) ?_
     refine XO.q (Q.fieldAddr rfl) ?_
     refine XO.q (Q.ld rfl rfl) ?_
     refine XO.q (Q.sub rfl rfl ⟨by omega, by omega⟩) ?_
     refine XO.q (Q.add rfl rfl ⟨by omega, by omega⟩) ?_
     refine XO.q (Q.mul rfl rfl ⟨by omega, by omega⟩) ?_
     refine XO.q (Q.assign rfl) (XO.done ?_)
     refine XK.inBlock ?_
     refine XK.region rfl ?_
     refine XO.q (Q.add rfl rfl ⟨by omega, by omega⟩) ?_
     refine XO.q (Q.move rfl) (XO.done ?_)
     exact ih0 (i + 1) _ _ (by omega) (by first | omega | (dsimp only; omega)) (.c rfl (.c rfl (.base 38 rfl rfl))) inferInstance
    ·skip
     have hil : i = d.jobs.length := by omega
     subst hil
     refine XK.exit rfl ?_
     refine XK.seq (XK.seq (XK.region rfl (XO.q (Q.move rfl) ?_)))
     refine XO.q (Q.gtr rfl rfl) ?_
     refine XO.done ?_
     refine XK.if rfl (fun c4 => ?_) (fun c4 => ?_)
     ·skip
      refine XK.seq (XK.region rfl (XO.q (Q.assign rfl) (XO.done ?_)))
      refine XK.rt [] Tryz.func144 Tryz.results144 (.t rfl .n) ?_
      exact ⟨by rw [kcheck, if_neg c0, if_neg c2, if_pos c4], rfl⟩
     ·skip
      refine XK.skip (XK.seq (XK.region rfl (XO.q (Q.assign rfl) (XO.done ?_))))
      refine XK.rt [] Tryz.func144 Tryz.results144 (.t rfl .n) ?_
      exact ⟨by rw [kcheck, if_neg c0, if_neg c2, if_neg c4], rfl⟩
  ·intro mt1
   dsimp only [lcA, lnA] at mt1
   refine XK.if rfl (fun c1 => ?_) (fun c1 => ?_)
   ·skip
    refine XK.skip ?_
    exact mt1 (d.hours.any fun h => !hourR h) _ _ (by unfold kbad; rw [c1]; rfl) (.c rfl (.base 0 rfl rfl)) inferInstance
   ·skip
    refine XK.seq (XK.region rfl ?_)
    refine XO.q (Q.fieldAddr rfl) ?_
    refine XO.q (Q.ldA [_, _, _, _] rfl rfl rfl) ?_
    refine XO.call Tryz.call188 rfl rfl rfl (storeR_spec d.store) fun v29 s29 R29 => ?_
    obtain ⟨rfl, rfl⟩ := R29
    dsimp only [lcA, lnA]
    refine XO.q (Q.not rfl) ?_
    refine XO.q (Q.assign rfl) (XO.done ?_)
    refine XK.if rfl (fun c5 => ?_) (fun c5 => ?_)
    ·skip
     refine XK.skip ?_
     exact mt1 (!storeR d.store) _ _ (by unfold kbad; rw [Bool.eq_false_iff.2 c1, Bool.eq_false_iff.2 c5]; rfl) (.c rfl (.base 5 rfl rfl)) inferInstance
    ·skip
     refine XK.seq (XK.region rfl ?_)
     refine XO.q (Q.fieldAddr rfl) ?_
     refine XO.q (Q.ld rfl rfl) ?_
     refine XO.q (Q.func (fun _ he => rfl) (fun _ he => evs_rel he rfl)) ?_
     refine XO.call Tryz.call189 rfl rfl rfl (containsFuncJ vj hj d.jobs 190 [ptr b1 0] [blk b1 [vh, .int .i64 d.store.energy, .int .i64 d.store.full, .int .i64 d.store.power, .int .i64 d.store.fin, vj, .int .i64 d.most, .int .i64 d.peak] 116] (fun j => !jobR d.hours.length j) Tryz.call190 (fun x hx => check2 d vh vj hh hj x b1)) fun v34 s34 R34 => ?_
     obtain ⟨rfl, rfl⟩ := R34
     dsimp only [lcA, lnA]
     refine XO.q (Q.assign rfl) (XO.done ?_)
     refine XK.if rfl (fun c6 => ?_) (fun c6 => ?_)
     ·skip
      refine XK.skip ?_
      exact mt1 (d.jobs.any fun j => !jobR d.hours.length j) _ _ (by unfold kbad; rw [Bool.eq_false_iff.2 c1, Decidable.of_not_not c5, c6]; rfl) (.c rfl (.base 10 rfl rfl)) inferInstance
     ·skip
      refine XK.seq (XK.region rfl ?_)
      refine XO.q (Q.fieldAddr rfl) ?_
      refine XO.q (Q.ld rfl rfl) ?_
      refine XO.lit [_] [_] [d.most] encI (by rfl) (by rfl) rfl (by rfl) (by exact .c 0 1 rfl rfl rfl (.n _)) (fun _ => rfl) (by rfl) rfl (by infer_instance) rfl fun v37 h37 O37 => ?_
      refine XO.call Tryz.call151 rfl rfl rfl (kin_spec 40 v37 h37 [d.most]) fun v38 s38 R38 => ?_
      obtain ⟨rfl, rfl⟩ := R38
      dsimp only [lcA, lnA]
      refine XO.q (Q.not rfl) ?_
      refine XO.q (Q.assign rfl) (XO.done ?_)
      refine XK.if rfl (fun c7 => ?_) (fun c7 => ?_)
      ·skip
       refine XK.skip ?_
       exact mt1 (!kin 40 [d.most]) _ _ (by unfold kbad; rw [Bool.eq_false_iff.2 c1, Decidable.of_not_not c5, Bool.eq_false_iff.2 c6, Bool.eq_false_iff.2 c7]; rfl) (.c rfl (.base 16 rfl rfl)) inferInstance
      ·skip
       refine XK.region rfl ?_
       refine XO.q (Q.fieldAddr rfl) ?_
       refine XO.q (Q.ld rfl rfl) ?_
       refine XO.lit [_] [_] [d.peak] encI (by rfl) (by rfl) rfl (by rfl) (by exact .c 0 1 rfl rfl rfl (.n _)) (fun _ => rfl) (by rfl) rfl (by infer_instance) rfl fun v42 h42 O42 => ?_
       refine XO.call Tryz.call151 rfl rfl rfl (kin_spec 1000 v42 h42 [d.peak]) fun v43 s43 R43 => ?_
       obtain ⟨rfl, rfl⟩ := R43
       dsimp only [lcA, lnA]
       refine XO.q (Q.not rfl) ?_
       refine XO.q (Q.assign rfl) (XO.done ?_)
       exact mt1 (!kin 1000 [d.peak]) _ _ (by unfold kbad; rw [Bool.eq_false_iff.2 c1, Decidable.of_not_not c5, Bool.eq_false_iff.2 c6, Decidable.of_not_not c7]; rfl) (.c rfl (.base 22 rfl rfl)) inferInstance
end Go.X.Ma

set_option linter.unusedSimpArgs false
set_option linter.unusedVariables false
set_option maxRecDepth 20000
namespace Go.X.Ma
open Go.Proofs
theorem span_rng {d : KDay} (ok : DayOk d) {i : Nat} (hi : i < d.jobs.length) : 1 ≤ (spanS (d.jobs.getD i default)).toNat ∧ (spanS (d.jobs.getD i default)).toNat ≤ 24 := by
 have j := ok.job i hi
 have := j.b0; have := j.b1; have := j.t1; have := j.h0; have := ok.h2
 unfold spanS; omega
theorem addJob_take {out : List (List Int)} (j : KJob) : addJob (out.take out.length) j = addJob out j := by rw [List.take_length]
set_option maxHeartbeats 1000000 in
theorem starts_spec (d : KDay) (vh vj : Value) (hh hj : PHeap) [ih : Arr vh encHour 6 hh d.hours] [ij : Arr vj encJob 4 hj d.jobs] (ok : DayOk d) : Spec Tryz.prog 145 #[.agg #[vh, .int .i64 d.store.energy, .int .i64 d.store.full, .int .i64 d.store.power, .int .i64 d.store.fin, vj, .int .i64 d.most, .int .i64 d.peak]] [] [hh, hj] (fun v hs => ∃ ho us K, hs = [ho, K] ∧ OArr v encV 1 29 ho us ∧ RowsK us K (startsL d)) := by
 have lj := ij.le
 have j2 := ok.j2
 have h24 := ok.h2
 have pr := prod_rng ok.h2 ok.j2 ok.job
 have sl := starts_len ok.job
 have nV : OArr (.slice none 0 0) encV 1 29 emp ([] : List Value) := OArr.nil (fun _ => rfl)
 refine Spec.intro (fn := Tryz.f145) (N := 47) Tryz.func145 rfl Tryz.ntmps145 rfl fun B => ?_
 refine XK.seq (XK.region rfl ?_)
 refine XO.box rfl fun b1 => ?_
 refine XO.q (Q.assign rfl) (XO.done (XK.seq (XK.region rfl ?_)))
 refine XO.lit [_] [_] [.slice none 0 0] encV (by rfl) (by rfl) rfl (by rfl) (by exact .c 0 1 rfl rfl rfl (.n _)) (fun _ => rfl) (by rfl) rfl (by infer_instance) rfl fun v10 h10 O10 => ?_
 refine XO.q (Q.assign rfl) (XO.done (XK.seq (XK.seq (XK.region rfl ?_))))
 refine XO.q (Q.fieldAddr rfl) ?_
 refine XO.q (Q.ld rfl rfl) ?_
 refine XO.len rfl fun l13 => ?_
 refine XO.q (Q.move rfl) (XO.done (XK.block ?_))
 refine XK.while (X := Nat × Value × PHeap × List Value × PHeap) [3, 5, 6, 8, 9, 14, 15, 16, 17, 18, 19, 20, 21, 22, 23, 24, 25, 26, 27, 28, 29, 30, 31, 32, 33, 34, 35, 36, 37, 38, 39, 40, 41, 42, 43, 44, 45] (fun ⟨i, vo, ko, us, K⟩ => [(3, some (vo)), (14, some (.int .i64 (i : Nat)))]) (fun ⟨i, vo, ko, us, K⟩ => [ko, K]) (fun ⟨i, vo, ko, us, K⟩ => i ≤ d.jobs.length ∧ OArr vo encV 1 29 ko us ∧ RowsK us K (startsTo d.jobs (i))) (fun ⟨i, vo, ko, us, K⟩ => d.jobs.length - i) (0, v10, h10, [.slice none 0 0], emp) [h10, emp] rfl ⟨by omega, O10, ⟨rfl, fun i hi => (by have h0 : i = 0 := (by simpa using hi); subst h0; exact Arr.nil (fun _ => rfl))⟩⟩ (.c rfl (.c rfl (.base 0 rfl rfl))) ?_
 rintro ⟨i, vo, ko, us, K⟩ ⟨hi, OO, RO⟩ ih0
 dsimp only [lcA, lnA] at ih0 ⊢
 refine XK.seq (XK.region rfl ?_)
 refine XO.q (Q.lss rfl rfl) ?_
 refine XO.done (XK.seq ?_)
 refine XK.if rfl (fun c0 => ?_) (fun c0 => ?_)
 ·skip
  have ji := ok.job i (by omega)
  have jb := ji.b0
  have jc := ji.b1
  have jt := ji.t1
  have jh := ji.h0
  have sp := span_rng ok (i := i) (by omega)
  have pi := pr i (by omega)
  have pi1 := pr (i + 1) (by omega)
  have si := sl i (by omega)
  have rl := RO.1
  have hi2 : i = 0 ∨ i = 1 := by omega
  have sl3 : (startsTo d.jobs (i)).length ≤ 24 := by rcases hi2 with h | h <;> (subst h; simp at pi; omega)
  refine XK.skip (XK.seq (XK.block (XK.seq (XK.region rfl ?_))))
  refine XO.ix rfl rfl (by omega) (by omega) fun i16 => ?_
  refine XO.q (Q.ldEA [_, _, _, _] rfl (by first | assumption | omega) rfl rfl) ?_
  refine XO.alloc fun b5 => ?_
  refine XO.st rfl rfl rfl ?_
  refine XO.done (XK.seq (XK.region rfl (XO.q (Q.assign rfl) (XO.done (XK.seq ?_)))))
  refine XK.seq (XK.region rfl (XO.q (Q.move rfl) ?_))
  refine XO.len rfl fun l19 => ?_
  refine XO.q (Q.move rfl) (XO.done (XK.block ?_))
  refine XK.while (X := Nat × Value × PHeap × List Value × PHeap) [6, 8, 9, 20, 21, 22, 23, 24, 25, 26, 27, 28, 29, 30, 31, 32, 33, 34, 35, 36, 37, 38, 39, 40, 41, 42, 43] (fun ⟨k, vn, kn, un, K2⟩ => [(6, some (vn)), (20, some (.int .i64 (k : Nat)))]) (fun ⟨k, vn, kn, un, K2⟩ => [kn, K2]) (fun ⟨k, vn, kn, un, K2⟩ => k ≤ us.length ∧ OArr vn encV 1 29 kn un ∧ RowsK us K2 (startsTo d.jobs (i)) ∧ RowsK un K2 (addPart (startsTo d.jobs (i)) (d.jobs.getD i default) (k) (0))) (fun ⟨k, vn, kn, un, K2⟩ => us.length - k) (0, .slice none 0 0, emp, [], K) [emp, K] rfl ⟨by omega, nV, RO, by rw [addPart_zero, List.take_zero]; exact RowsK.nil⟩ (.c rfl (.c rfl (.base 0 rfl rfl))) ?_
  rintro ⟨k, vn, kn, un, K2⟩ ⟨hk, ON, RS, RP⟩ ih1
  dsimp only [lcA, lnA] at ih1 ⊢
  refine XK.seq (XK.region rfl ?_)
  refine XO.q (Q.lss rfl rfl) ?_
  refine XO.done (XK.seq ?_)
  refine XK.if rfl (fun c1 => ?_) (fun c1 => ?_)
  ·skip
   have ak := RS.2 k (by omega)
   have lk := starts_each d.jobs i ((startsTo d.jobs (i)).getD k default) (getD_mem (by omega))
   refine XK.skip (XK.seq (XK.block (XK.seq (XK.region rfl ?_))))
   refine XO.ix rfl rfl (by omega) (by omega) fun i22 => ?_
   refine XO.q (Q.ldE rfl (by first | assumption | omega) rfl) ?_
   refine XO.q (Q.assign rfl) (XO.done (XK.seq (XK.region rfl ?_)))
   refine XO.q (Q.fieldAddr rfl) ?_
   refine XO.q (Q.ld rfl rfl) ?_
   refine XO.q (Q.assign rfl) (XO.done (XK.block ?_))
   refine XK.while (X := Nat × Int × Value × PHeap × List Value × PHeap) [6, 9, 26, 27, 28, 29, 30, 31, 32, 33, 34, 35, 36, 37, 38, 39, 40, 41, 42] (fun ⟨q, tt, vn3, kn3, un3, K3⟩ => [(6, some (vn3)), (9, some (.int .i64 tt))]) (fun ⟨q, tt, vn3, kn3, un3, K3⟩ => [kn3, K3]) (fun ⟨q, tt, vn3, kn3, un3, K3⟩ => q ≤ (spanS (d.jobs.getD i default)).toNat ∧ tt = (d.jobs.getD i default).beg + ((q : Nat) : Int) ∧ OArr vn3 encV 1 29 kn3 un3 ∧ RowsK us K3 (startsTo d.jobs (i)) ∧ RowsK un3 K3 (addPart (startsTo d.jobs (i)) (d.jobs.getD i default) (k) (q))) (fun ⟨q, tt, vn3, kn3, un3, K3⟩ => (spanS (d.jobs.getD i default)).toNat - q) (0, (d.jobs.getD i default).beg, vn, kn, un, K2) [kn, K2] rfl ⟨by omega, by omega, ON, RS, RP⟩ (.c rfl (.c rfl (.base 0 rfl rfl))) ?_
   rintro ⟨q, tt, vn3, kn3, un3, K3⟩ ⟨hq, htt, ON3, RS3, RP3⟩ ih2
   dsimp only [lcA, lnA] at ih2 ⊢
   subst htt
   refine XK.seq (XK.seq (XK.region rfl (XO.q (Q.move rfl) ?_)))
   refine XO.q (Q.fieldAddr rfl) ?_
   refine XO.q (Q.ld rfl rfl) ?_
   refine XO.q (Q.fieldAddr rfl) ?_
   refine XO.q (Q.ld rfl rfl) ?_
   refine XO.q (Q.sub rfl rfl ⟨by omega, by omega⟩) ?_
   refine XO.q (Q.leq rfl rfl) ?_
   refine XO.done ?_
   refine XK.if rfl (fun c2 => ?_) (fun c2 => ?_)
   ·skip
    have hq2 : q < (spanS (d.jobs.getD i default)).toNat := by unfold spanS; omega
    have ak3 := RS3.2 k (by omega)
    have al := addPart_len (out := (startsTo d.jobs (i))) (j := (d.jobs.getD i default)) (k := k) (q := q) (by omega) (by omega)
    have rl3 := RP3.1
    rw [al] at rl3
    have mq : k * (spanS (d.jobs.getD i default)).toNat ≤ 24 * 24 := Nat.mul_le_mul (by omega) (by omega)
    refine XK.skip (XK.seq (XK.block (XK.region rfl (XO.q (Q.move rfl) (XO.q (Q.move rfl) ?_)))))
    refine XO.call Tryz.call59 rfl rfl rfl (cloneI (us.getD k default) K3 ((startsTo d.jobs (i)).getD k default) (by omega)) fun v37 s37 R37 => ?_
    obtain ⟨k37, rfl, O37⟩ := R37
    dsimp only [lcA, lnA]
    refine XO.q (Q.move rfl) ?_
    refine XO.lit [_] [_] [(d.jobs.getD i default).beg + ((q : Nat) : Int)] encI (by rfl) (by rfl) rfl (by rfl) (by exact .c 0 1 rfl rfl rfl (.n _)) (fun _ => rfl) (by rfl) rfl (by infer_instance) rfl fun v39 h39 O39 => ?_
    have AK : True := trivial
    refine XO.append rfl rfl rfl rfl (by simp only [List.length_cons, List.length_nil]; omega) fun v40 h40 O40 => ?_
    refine XO.lit [_] [_] [v40] encV (by rfl) (by rfl) rfl (by rfl) (by exact .c 0 1 rfl rfl rfl (.n _)) (fun _ => rfl) (by rfl) rfl (by infer_instance) rfl fun v41 h41 O41 => ?_
    refine XO.append rfl rfl rfl rfl (by simp only [List.length_cons, List.length_nil]; omega) fun v42 h42 O42 => ?_
    refine XO.q (Q.assign rfl) (XO.done ?_)
    refine XK.inBlock ?_
    refine XK.region rfl (XO.q (Q.move rfl) ?_)
    refine XO.q (Q.add rfl rfl ⟨by omega, by omega⟩) ?_
    refine XO.q (Q.assign rfl) (XO.done ?_)
    refine XK.cat K3 h40 fun l1 l2 => ?_
    exact ih2 (q + 1, (d.jobs.getD i default).beg + ((q : Nat) : Int) + 1, v42, h42, un3 ++ [v40], cat K3 h40) _ _ ⟨by dsimp only; omega, by dsimp only; omega, O42, RS3.mono l1, by dsimp only; rw [addPart_succ hq2]; exact (RP3.mono l1).snoc (Arr.le_heap (OArr.arr (s := O40)) l2)⟩ (by first | omega | (dsimp only; omega)) (.c rfl (.c rfl (.base 40 rfl rfl))) inferInstance
   ·skip
    have hqe : q = (spanS (d.jobs.getD i default)).toNat := by unfold spanS at hq ⊢; omega
    refine XK.exit rfl ?_
    refine XK.inBlock ?_
    refine XK.region rfl ?_
    refine XO.q (Q.add rfl rfl ⟨by omega, by omega⟩) ?_
    refine XO.q (Q.move rfl) (XO.done ?_)
    exact ih1 (k + 1, vn3, kn3, un3, K3) _ _ ⟨by dsimp only; omega, ON3, RS3, by dsimp only; rw [hqe, addPart_all (by omega)] at RP3; rw [addPart_zero]; exact RP3⟩ (by first | omega | (dsimp only; omega)) (.c rfl (.c rfl (.base 66 rfl rfl))) inferInstance
  ·skip
   have hkl : k = us.length := by omega
   subst hkl
   refine XK.exit rfl ?_
   refine XK.region rfl (XO.q (Q.move rfl) (XO.q (Q.assign rfl) (XO.done ?_)))
   refine XK.inBlock ?_
   refine XK.region rfl ?_
   refine XO.q (Q.add rfl rfl ⟨by omega, by omega⟩) ?_
   refine XO.q (Q.move rfl) (XO.done ?_)
   exact ih0 (i + 1, vn, kn, un, K2) _ _ ⟨by dsimp only; omega, ON, by dsimp only; rw [rl, addPart_zero, addJob_take] at RP; exact RP⟩ (by first | omega | (dsimp only; omega)) (.c rfl (.c rfl (.base 81 rfl rfl))) inferInstance
 ·skip
  have hil : i = d.jobs.length := by omega
  subst hil
  refine XK.exit rfl ?_
  refine XK.seq (XK.region rfl (XO.q (Q.move rfl) (XO.q (Q.assign rfl) (XO.done ?_))))
  refine XK.rt [ko, K] Tryz.func145 Tryz.results145 (.t rfl .n) ?_
  exact ⟨ko, us, K, rfl, OO, RO⟩
end Go.X.Ma

set_option linter.unusedSimpArgs false
set_option linter.unusedVariables false
set_option maxRecDepth 20000
namespace Go.X.Ma
open Go.Proofs
theorem range_snocI (f : Nat → Int) (n : Nat) : (List.range (n + 1)).map f = (List.range n).map f ++ [f n] := by rw [List.range_succ, List.map_append]; rfl
theorem used_spec (d : KDay) (vh vj : Value) (hh hj : PHeap) [ih : Arr vh encHour 6 hh d.hours] [ij : Arr vj encJob 4 hj d.jobs] (s : List Int) (vs : Value) (hs_ : PHeap) [js : Arr vs encI 1 hs_ s] (ok : DayOk d) (so : SOk d s) : Spec Tryz.prog 84 #[.agg #[vh, .int .i64 d.store.energy, .int .i64 d.store.full, .int .i64 d.store.power, .int .i64 d.store.fin, vj, .int .i64 d.most, .int .i64 d.peak], vs] [] [hh, hj, hs_] (fun v hs => ∃ k, hs = [k] ∧ OArr v encI 1 3 k (usedL d s)) := by
 have lh := ih.le
 have lj := ij.le
 have h24 := ok.h2
 have j2 := ok.j2
 have sl := so.len
 have nI : OArr (.slice none 0 0) encI 1 3 emp ([] : List Int) := OArr.nil (fun _ => rfl)
 refine Spec.intro (fn := Tryz.f84) (N := 53) Tryz.func84 rfl Tryz.ntmps84 rfl fun B => ?_
 refine XK.seq (XK.region rfl ?_)
 refine XO.box rfl fun b2 => ?_
 refine XO.q (Q.assign rfl) (XO.done (XK.seq (XK.region rfl (XO.q (Q.assign rfl) (XO.done ?_)))))
 refine XK.seq (XK.seq (XK.region rfl ?_))
 refine XO.q (Q.fieldAddr rfl) ?_
 refine XO.q (Q.ld rfl rfl) ?_
 refine XO.len rfl fun l13 => ?_
 refine XO.q (Q.move rfl) (XO.done (XK.block ?_))
 refine XK.while (X := Nat × Value × PHeap) [5, 7, 14, 15, 16, 17, 18, 19, 20, 21, 22, 23] (fun ⟨i, vo, ko⟩ => [(5, some (vo)), (14, some (.int .i64 (i : Nat)))]) (fun ⟨i, vo, ko⟩ => [ko]) (fun ⟨i, vo, ko⟩ => i ≤ d.hours.length ∧ OArr vo encI 1 3 ko ((List.range i).map (fun i => (d.hours.getD i default).load))) (fun ⟨i, vo, ko⟩ => d.hours.length - i) (0, .slice none 0 0, emp) [emp] rfl ⟨by omega, nI⟩ (.c rfl (.c rfl (.base 0 rfl rfl))) ?_
 rintro ⟨i, vo, ko⟩ ⟨hi, OL⟩ ih0
 dsimp only [lcA, lnA] at ih0 ⊢
 have ll : ((List.range i).map (fun i => (d.hours.getD i default).load)).length = i := range_len
 refine XK.seq (XK.region rfl ?_)
 refine XO.q (Q.lss rfl rfl) ?_
 refine XO.done (XK.seq ?_)
 refine XK.if rfl (fun c0 => ?_) (fun c0 => ?_)
 ·skip
  refine XK.skip (XK.seq (XK.block (XK.seq (XK.region rfl ?_))))
  refine XO.ix rfl rfl (by omega) (by omega) fun i16 => ?_
  refine XO.q (Q.ldEA [_, _, _, _, _, _] rfl (by first | assumption | omega) rfl rfl) ?_
  refine XO.alloc fun b7 => ?_
  refine XO.st rfl rfl rfl ?_
  refine XO.done (XK.region rfl (XO.q (Q.move rfl) ?_))
  refine XO.q (Q.fieldAddr rfl) ?_
  refine XO.q (Q.ld rfl rfl) ?_
  refine XO.lit [_] [_] [(d.hours.getD i default).load] encI (by rfl) (by rfl) rfl (by rfl) (by exact .c 0 1 rfl rfl rfl (.n _)) (fun _ => rfl) (by rfl) rfl (by infer_instance) rfl fun v21 h21 O21 => ?_
  refine XO.append rfl rfl rfl rfl (by first | omega | (simp; omega)) fun v22 h22 O22 => ?_
  refine XO.q (Q.assign rfl) (XO.done ?_)
  refine XK.inBlock ?_
  refine XK.region rfl ?_
  refine XO.q (Q.add rfl rfl ⟨by omega, by omega⟩) ?_
  refine XO.q (Q.move rfl) (XO.done ?_)
  exact ih0 (i + 1, v22, h22) _ _ ⟨by dsimp only; omega, by dsimp only; rw [range_snocI]; exact O22⟩ (by first | omega | (dsimp only; omega)) (.c rfl (.c rfl (.base 26 rfl rfl))) inferInstance
 ·skip
  have hin : i = d.hours.length := by omega
  rw [hin, ← usedT_start d s] at OL
  clear ih0
  refine XK.exit rfl ?_
  refine XK.seq (XK.seq (XK.region rfl ?_))
  refine XO.q (Q.fieldAddr rfl) ?_
  refine XO.q (Q.ld rfl rfl) ?_
  refine XO.len rfl fun l26 => ?_
  refine XO.q (Q.move rfl) (XO.done (XK.block ?_))
  refine XK.while (X := Nat × PHeap) [8, 9, 10, 27, 28, 29, 30, 31, 32, 33, 34, 35, 36, 37, 38, 39, 40, 41, 42, 43, 44, 45, 46, 47, 48, 49, 50, 51] (fun ⟨k, kq⟩ => [(27, some (.int .i64 (k : Nat)))]) (fun ⟨k, kq⟩ => [kq]) (fun ⟨k, kq⟩ => k ≤ d.jobs.length ∧ OArr vo encI 1 3 kq (usedT d s k 0)) (fun ⟨k, kq⟩ => d.jobs.length - k) (0, ko) [ko] rfl ⟨by omega, OL⟩ (.c rfl (.base 0 rfl rfl)) ?_
  rintro ⟨k, kq⟩ ⟨hk, OU⟩ ih1
  dsimp only [lcA, lnA] at ih1 ⊢
  refine XK.seq (XK.region rfl ?_)
  refine XO.q (Q.lss rfl rfl) ?_
  refine XO.done (XK.seq ?_)
  refine XK.if rfl (fun c1 => ?_) (fun c1 => ?_)
  ·skip
   have ji := ok.job k (by omega)
   have jb := ji.b0
   have jc := ji.b1
   have jt := ji.t1
   have jh := ji.h0
   have jp := ji.p0
   have jq := ji.p1
   have sk := so.at' k (by omega)
   refine XK.skip (XK.seq (XK.block (XK.seq (XK.region rfl (XO.q (Q.move rfl) ?_)))))
   refine XO.ix rfl rfl (by omega) (by omega) fun i30 => ?_
   refine XO.q (Q.ldEA [_, _, _, _] rfl (by first | assumption | omega) rfl rfl) ?_
   refine XO.alloc fun b9 => ?_
   refine XO.q (Q.assign rfl) ?_
   refine XO.st rfl rfl rfl ?_
   refine XO.done (XK.seq (XK.region rfl ?_))
   refine XO.q (Q.fieldAddr rfl) ?_
   refine XO.q (Q.ld rfl rfl) ?_
   refine XO.q (Q.move rfl) (XO.done (XK.block ?_))
   refine XK.while (X := Nat × PHeap) [10, 34, 35, 36, 37, 38, 39, 40, 41, 42, 43, 44, 45, 46, 47, 48, 49, 50] (fun ⟨t, kr⟩ => [(34, some (.int .i64 (t : Nat)))]) (fun ⟨t, kr⟩ => [kr]) (fun ⟨t, kr⟩ => (t : Int) ≤ (d.jobs.getD k default).hours ∧ OArr vo encI 1 3 kr (usedT d s k t)) (fun ⟨t, kr⟩ => (d.jobs.getD k default).hours.toNat - t) (0, kq) [kq] rfl ⟨by (try dsimp only); omega, OU⟩ (.c rfl (.base 0 rfl rfl)) ?_
   rintro ⟨t, kr⟩ ⟨ht, OT⟩ ih2
   dsimp only [lcA, lnA] at ih2 ⊢
   refine XK.seq (XK.region rfl ?_)
   refine XO.q (Q.lss rfl rfl) ?_
   refine XO.done (XK.seq ?_)
   refine XK.if rfl (fun c2 => ?_) (fun c2 => ?_)
   ·skip
    have ul := usedT_len d s k t
    have ha : (s.getD k default + ((t : Nat) : Int)).toNat < d.hours.length := by omega
    have ur := used_rng ok s ha k (by omega)
    have ue : (usedT d s k t).getD (s.getD k default + ((t : Nat) : Int)).toNat default = usedAt d s (s.getD k default + ((t : Nat) : Int)).toNat k + partS (d.jobs.getD k default) (s.getD k default) t (s.getD k default + ((t : Nat) : Int)).toNat := by rw [usedT, range_at ha]
    unfold partS at ue
    rw [if_neg (by omega), Int.add_zero] at ue
    refine XK.skip (XK.seq (XK.block (XK.seq (XK.region rfl (XO.q (Q.move rfl) ?_)))))
    refine XO.q (Q.assign rfl) (XO.done ?_)
    refine XK.drawn [0, 1, 2, 3, 4, 5, 6, 7, 8, 9, 10, 11, 12] [b9] [kr] (.q 0 (.q 1 (.q 2 (.q 3 (.q 4 (.q 5 (.q 6 (.q 7 (.q 8 (.q 9 (.q 10 (.q 11 (.q 12 (.br 13 false .done .stop)))))))))))))) Tryz.mixed rfl (by kernel_rfl) ?_
    refine XT.q rfl rfl (Q.move rfl) ?_
    refine XT.q rfl rfl (Q.move rfl) ?_
    refine XT.q rfl rfl (Q.move rfl) ?_
    refine XT.ix rfl rfl rfl rfl (by omega) (by omega) fun i40 => ?_
    refine XT.q rfl rfl (Q.ldE rfl (by first | assumption | omega) rfl) ?_
    refine XT.q rfl rfl (Q.move rfl) ?_
    refine XT.q rfl rfl (Q.add rfl rfl ⟨by omega, by omega⟩) ?_
    refine XT.ix rfl rfl rfl rfl (by omega) (by omega) fun i44 => ?_
    refine XT.q rfl rfl (Q.ldE rfl (by first | assumption | omega) rfl) ?_
    refine XT.q rfl rfl (Q.fieldAddr rfl) ?_
    refine XT.q rfl rfl (Q.ld rfl rfl) ?_
    refine XT.q rfl rfl (Q.add rfl rfl ⟨by omega, by omega⟩) ?_
    refine XT.ix rfl rfl rfl rfl (by omega) (by omega) fun i49 => ?_
    refine XT.stE _ rfl rfl rfl rfl rfl (by assumption) rfl rfl (fun h13_13 O13_13 => ⟨inferInstance, ?_⟩) XT.stop
    rw [usedT_step ha (by omega) (by omega)] at O13_13
    refine XT.done ?_
    refine XK.inBlock ?_
    refine XK.region rfl ?_
    refine XO.q (Q.add rfl rfl ⟨by omega, by omega⟩) ?_
    refine XO.q (Q.move rfl) (XO.done ?_)
    exact ih2 (t + 1, h13_13) _ _ ⟨by dsimp only; omega, O13_13⟩ (by first | omega | (dsimp only; omega)) (.c rfl (.base 37 rfl rfl)) inferInstance
   ·skip
    have hte : ((t : Nat) : Int) = (d.jobs.getD k default).hours := by omega
    refine XK.exit rfl ?_
    refine XK.inBlock ?_
    refine XK.region rfl ?_
    refine XO.q (Q.add rfl rfl ⟨by omega, by omega⟩) ?_
    refine XO.q (Q.move rfl) (XO.done ?_)
    exact ih1 (k + 1, kr) _ _ ⟨by dsimp only; omega, by dsimp only; rw [← usedT_all hte]; exact OT⟩ (by first | omega | (dsimp only; omega)) (.c rfl (.base 60 rfl rfl)) inferInstance
  ·skip
   have hkl : k = d.jobs.length := by omega
   rw [hkl, usedT_end] at OU
   refine XK.exit rfl ?_
   refine XK.seq (XK.region rfl (XO.q (Q.move rfl) (XO.q (Q.assign rfl) (XO.done ?_))))
   refine XK.rt [kq] Tryz.func84 Tryz.results84 (.t rfl .n) ?_
   exact ⟨kq, rfl, OU⟩
theorem needs_spec (d : KDay) (vh vj : Value) (hh hj : PHeap) [ih : Arr vh encHour 6 hh d.hours] [ij : Arr vj encJob 4 hj d.jobs] (s : List Int) (vs : Value) (hs_ : PHeap) [js : Arr vs encI 1 hs_ s] (ok : DayOk d) (so : SOk d s) : Spec Tryz.prog 150 #[.agg #[vh, .int .i64 d.store.energy, .int .i64 d.store.full, .int .i64 d.store.power, .int .i64 d.store.fin, vj, .int .i64 d.most, .int .i64 d.peak], vs] [] [hh, hj, hs_] (fun v hs => ∃ k, hs = [k] ∧ OArr v encI 1 3 k (needsL d s)) := by
 have lh := ih.le
 refine Spec.intro (fn := Tryz.f150) (N := 29) Tryz.func150 rfl Tryz.ntmps150 rfl fun B => ?_
 refine XK.seq (XK.region rfl ?_)
 refine XO.box rfl fun b2 => ?_
 refine XO.q (Q.assign rfl) (XO.done (XK.seq (XK.region rfl ?_)))
 refine XO.q (Q.ldA [_, _, _, _, _, _, _, _] rfl rfl rfl) ?_
 refine XO.q (Q.move rfl) ?_
 refine XO.call Tryz.call84 rfl rfl rfl (used_spec d vh vj hh hj s vs hs_ ok so) fun v10 s10 R10 => ?_
 obtain ⟨ku, rfl, OU0⟩ := R10
 dsimp only [lcA, lnA]
 refine XO.q (Q.assign rfl) (XO.done (XK.seq (XK.seq (XK.region rfl ?_))))
 refine XO.q (Q.fieldAddr rfl) ?_
 refine XO.q (Q.ld rfl rfl) ?_
 refine XO.len rfl fun l13 => ?_
 refine XO.q (Q.move rfl) (XO.done (XK.block ?_))
 refine XK.while (X := Nat × PHeap) [6, 7, 14, 15, 16, 17, 18, 19, 20, 21, 22, 23, 24, 25, 26, 27] (fun ⟨i, kq⟩ => [(14, some (.int .i64 (i : Nat)))]) (fun ⟨i, kq⟩ => [kq]) (fun ⟨i, kq⟩ => i ≤ d.hours.length ∧ OArr v10 encI 1 3 kq (needT d s i)) (fun ⟨i, kq⟩ => d.hours.length - i) (0, ku) [ku] rfl ⟨by omega, by rw [needT_zero]; exact OU0⟩ (.c rfl (.base 0 rfl rfl)) ?_
 rintro ⟨i, kq⟩ ⟨hi, OU⟩ ih0
 dsimp only [lcA, lnA] at ih0 ⊢
 refine XK.seq (XK.region rfl ?_)
 refine XO.q (Q.lss rfl rfl) ?_
 refine XO.done (XK.seq ?_)
 refine XK.if rfl (fun c0 => ?_) (fun c0 => ?_)
 ·skip
  have nl := needT_len d s i
  have ur := used_rng ok s (show i < d.hours.length by omega) d.jobs.length (Nat.le_refl _)
  have j2 := ok.j2
  have hk := ok.hour i (by omega)
  have u0 := hk.u0
  have u1 := hk.u1
  have na := needT_at (s := s) (show i < d.hours.length by omega)
  refine XK.skip (XK.seq (XK.block (XK.seq (XK.region rfl (XO.q (Q.move rfl) ?_)))))
  refine XO.ix rfl rfl (by omega) (by omega) fun i17 => ?_
  refine XO.q (Q.ldEA [_, _, _, _, _, _] rfl (by first | assumption | omega) rfl rfl) ?_
  refine XO.alloc fun b7 => ?_
  refine XO.q (Q.assign rfl) ?_
  refine XO.st rfl rfl rfl ?_
  refine XO.done ?_
  refine XK.drawn [0, 1, 2, 3, 4, 5, 6, 7] [b7] [kq] (.q 0 (.q 1 (.q 2 (.q 3 (.q 4 (.q 5 (.q 6 (.q 7 (.br 8 false .done .stop))))))))) Tryz.mixed rfl (by kernel_rfl) ?_
  refine XT.q rfl rfl (Q.move rfl) ?_
  refine XT.q rfl rfl (Q.move rfl) ?_
  refine XT.ix rfl rfl rfl rfl (by omega) (by omega) fun i21 => ?_
  refine XT.q rfl rfl (Q.ldE rfl (by first | assumption | omega) rfl) ?_
  refine XT.q rfl rfl (Q.fieldAddr rfl) ?_
  refine XT.q rfl rfl (Q.ld rfl rfl) ?_
  refine XT.q rfl rfl (Q.sub rfl rfl ⟨by omega, by omega⟩) ?_
  refine XT.ix rfl rfl rfl rfl (by omega) (by omega) fun i26 => ?_
  refine XT.stE _ rfl rfl rfl rfl rfl (by assumption) rfl rfl (fun h5_8 O5_8 => ⟨inferInstance, ?_⟩) XT.stop
  rw [needT_step (by omega)] at O5_8
  refine XT.done ?_
  refine XK.inBlock ?_
  refine XK.region rfl ?_
  refine XO.q (Q.add rfl rfl ⟨by omega, by omega⟩) ?_
  refine XO.q (Q.move rfl) (XO.done ?_)
  exact ih0 (i + 1, h5_8) _ _ ⟨by dsimp only; omega, O5_8⟩ (by first | omega | (dsimp only; omega)) (.c rfl (.base 33 rfl rfl)) inferInstance
 ·skip
  have hin : i = d.hours.length := by omega
  rw [hin, needT_all] at OU
  refine XK.exit rfl ?_
  refine XK.seq (XK.region rfl (XO.q (Q.move rfl) (XO.q (Q.assign rfl) (XO.done ?_))))
  refine XK.rt [kq] Tryz.func150 Tryz.results150 (.t rfl .n) ?_
  exact ⟨kq, rfl, OU⟩
theorem price_mul {a b : Int} (a0 : 0 ≤ a) (a1 : a ≤ 1000) (b0 : 0 ≤ b) (b1 : b ≤ 1000) : 0 ≤ a * b ∧ a * b ≤ 1000000 := ⟨Int.mul_nonneg a0 b0, Int.le_trans (Int.mul_le_mul a1 b1 b0 (by omega)) (by decide)⟩
theorem price_rng {h : KHour} (k : HourOk h) {n : Int} (h0 : -1000 ≤ n) (h1 : n ≤ 1000) : -1000000 ≤ priceH h n ∧ priceH h n ≤ 1000000 := by
 have := k.b0; have := k.b1; have := k.s0; have := k.s1
 have p1 := price_mul (a := max n 0) (b := h.buy) (by omega) (by omega) (by omega) (by omega)
 have p2 := price_mul (a := max (-n) 0) (b := h.sell) (by omega) (by omega) (by omega) (by omega)
 unfold priceH; omega
theorem price_spec (h : KHour) (k : HourOk h) (n : Int) (h0 : -1000 ≤ n) (h1 : n ≤ 1000) : Spec Tryz.prog 162 #[.agg #[.int .i64 h.buy, .int .i64 h.sell, .int .i64 h.sun, .int .i64 h.load, .int .i64 h.carbon, .int .i64 h.water], .int .i64 n] [] [] (fun v hs => v = .int .i64 (priceH h n) ∧ hs = []) := by
 have := k.b0
 have := k.b1
 have := k.s0
 have := k.s1
 have p1 := price_mul (a := max n 0) (b := h.buy) (by omega) (by omega) (by omega) (by omega)
 have p2 := price_mul (a := max (-n) 0) (b := h.sell) (by omega) (by omega) (by omega) (by omega)
 refine Spec.intro (fn := Tryz.f162) (N := 17) Tryz.func162 rfl Tryz.ntmps162 rfl fun B => ?_
 refine XK.seq (XK.region rfl ?_)
 refine XO.box rfl fun b2 => ?_
 refine XO.q (Q.assign rfl) (XO.done (XK.seq (XK.region rfl (XO.q (Q.move rfl) ?_))))
 refine XO.q (Q.max rfl rfl) ?_
 refine XO.q (Q.fieldAddr rfl) ?_
 refine XO.q (Q.ld rfl rfl) ?_
 refine XO.q (Q.mul rfl rfl ⟨by omega, by omega⟩) ?_
 refine XO.q (Q.move rfl) ?_
 refine XO.q (Q.neg rfl ⟨by omega, by omega⟩) ?_
 rw [show (0 : Int) - n = -n by omega]
 refine XO.q (Q.max rfl rfl) ?_
 refine XO.q (Q.fieldAddr rfl) ?_
 refine XO.q (Q.ld rfl rfl) ?_
 refine XO.q (Q.mul rfl rfl ⟨by omega, by omega⟩) ?_
 refine XO.q (Q.sub rfl rfl ⟨by omega, by omega⟩) ?_
 refine XO.q (Q.assign rfl) (XO.done ?_)
 refine XK.rt [] Tryz.func162 Tryz.results162 (.t rfl .n) ?_
 exact ⟨rfl, rfl⟩
end Go.X.Ma

set_option linter.unusedSimpArgs false
set_option linter.unusedVariables false
set_option maxRecDepth 20000
namespace Go.X.Ma
open Go.Proofs
theorem indexRows (v : Value) (h : PHeap) (us : List Value) [s : Arr v encV 1 h us] (K : PHeap) (rows : List (List Int)) (rk : RowsK us K rows) (gid : FuncId) (cap : List Value) (Hr : List PHeap) (p : List Int → Bool)
  (hc : ∀ args w, (callFunc gid args).run Tryz.prog w = .ok (.enter gid args) w) (hS : ∀ i, i < us.length → Spec Tryz.prog gid (us.getD i default :: cap).toArray [] (K :: Hr) (fun v hs => v = .bool (p (rows.getD i default)) ∧ hs = [])) :
  Spec Tryz.prog 90 #[v, .func (.func gid) #[] cap.toArray] [] (h :: K :: Hr) (fun v hs => v = .int .i64 (findFirst p rows) ∧ hs = []) := by
 have rl := rk.1
 refine Spec.intro (fn := Tryz.f90) (N := 19) Tryz.func90 rfl Tryz.ntmps90 rfl fun B => ?_
 refine XK.seq (XK.region rfl (XO.q (Q.assign rfl) (XO.done (XK.seq (XK.seq ?_)))))
 refine XK.region rfl (XO.q (Q.move rfl) ?_)
 refine XO.len rfl fun l7 => ?_
 refine XO.q (Q.move rfl) (XO.done (XK.block ?_))
 refine XK.while (X := Nat) [4, 5, 8, 9, 10, 11, 12, 13, 14, 15, 16, 17, 18] (fun i => [(8, some (.int .i64 (i : Nat)))]) (fun i => []) (fun i => i ≤ us.length ∧ (rows.take i).any p = false) (fun i => us.length - i) (0) [] rfl ⟨by omega, rfl⟩ (.c rfl (.base 0 rfl rfl)) ?_
 rintro i ⟨hi, ht⟩ ih0
 dsimp only [lcA, lnA] at ih0 ⊢
 refine XK.seq (XK.region rfl ?_)
 refine XO.q (Q.lss rfl rfl) ?_
 refine XO.done (XK.seq ?_)
 refine XK.if rfl (fun c0 => ?_) (fun c0 => ?_)
 ·skip
  refine XK.skip (XK.seq (XK.block (XK.seq (XK.region rfl (XO.q (Q.move rfl) ?_)))))
  refine XO.q (Q.assign rfl) (XO.done (XK.seq (XK.region rfl (XO.q (Q.move rfl) (XO.q (Q.move rfl) ?_)))))
  refine XO.q (Q.move rfl) ?_
  refine XO.ix rfl rfl (by omega) (by omega) fun i14 => ?_
  refine XO.q (Q.ldE rfl (by first | assumption | omega) rfl) ?_
  refine XO.call hc rfl rfl rfl (hS i (by omega)) fun v16 s16 R16 => ?_
  obtain ⟨rfl, rfl⟩ := R16
  dsimp only [lcA, lnA]
  refine XO.done ?_
  refine XK.if rfl (fun c1 => ?_) (fun c1 => ?_)
  ·skip
   refine XK.seq (XK.region rfl (XO.q (Q.move rfl) (XO.q (Q.assign rfl) (XO.done ?_))))
   refine XK.rt [] Tryz.func90 Tryz.results90 (.t rfl .n) ?_
   exact ⟨by rw [findFirst_here ht (by omega) c1], rfl⟩
  ·skip
   refine XK.skip ?_
   refine XK.inBlock ?_
   refine XK.region rfl ?_
   refine XO.q (Q.add rfl rfl ⟨by omega, by omega⟩) ?_
   refine XO.q (Q.move rfl) (XO.done ?_)
   exact ih0 (i + 1) _ _ ⟨by omega, any_step ht (by omega) (Bool.eq_false_iff.2 c1)⟩ (by first | omega | (dsimp only; omega)) (.c rfl (.base 25 rfl rfl)) inferInstance
 ·skip
  refine XK.exit rfl ?_
  refine XK.seq (XK.region rfl (XO.q (Q.assign rfl) (XO.done ?_)))
  refine XK.rt [] Tryz.func90 Tryz.results90 (.t rfl .n) ?_
  exact ⟨by rw [findFirst_none ht (by omega)], rfl⟩
theorem containsRows (v : Value) (h : PHeap) (us : List Value) [s : Arr v encV 1 h us] (K : PHeap) (rows : List (List Int)) (rk : RowsK us K rows) (gid : FuncId) (cap : List Value) (Hr : List PHeap) (p : List Int → Bool)
  (hc : ∀ args w, (callFunc gid args).run Tryz.prog w = .ok (.enter gid args) w) (hS : ∀ i, i < us.length → Spec Tryz.prog gid (us.getD i default :: cap).toArray [] (K :: Hr) (fun v hs => v = .bool (p (rows.getD i default)) ∧ hs = [])) :
  Spec Tryz.prog 36 #[v, .func (.func gid) #[] cap.toArray] [] (h :: K :: Hr) (fun v hs => v = .bool (rows.any p) ∧ hs = []) := by
 refine Spec.intro (fn := Tryz.f36) (N := 9) Tryz.func36 rfl Tryz.ntmps36 rfl fun B => ?_
 refine XK.seq (XK.region rfl (XO.q (Q.assign rfl) (XO.done (XK.seq (XK.region rfl ?_)))))
 refine XO.q (Q.move rfl) (XO.q (Q.move rfl) ?_)
 refine XO.call Tryz.call90 rfl rfl rfl (indexRows v h us K rows rk gid cap Hr p hc hS) fun v7 s7 R7 => ?_
 obtain ⟨rfl, rfl⟩ := R7
 dsimp only [lcA, lnA]
 refine XO.q (Q.geq rfl rfl) ?_
 refine XO.q (Q.assign rfl) (XO.done ?_)
 refine XK.rt [] Tryz.func36 Tryz.results36 (.t rfl .n) ?_
 exact ⟨by rw [← findFirst_any], rfl⟩
theorem form1 (p : KPlan) (vs vc : Value) (hs_ hc : PHeap) [js : Arr vs encI 1 hs_ p.starts] [jc : Arr vc encI 1 hc p.charge] (b : Nat) (x : Value) (K : PHeap) (xs : List Int) [ix : Arr x encI 1 K xs] : Spec Tryz.prog 149 #[x, ptr b 0] [] [K, blk b [vs, vc, .int .i64 p.cost] 118, hs_] (fun v hs => v = .bool (decide (xs = p.starts)) ∧ hs = []) := by
 refine Spec.intro (fn := Tryz.f149) (N := 8) Tryz.func149 rfl Tryz.ntmps149 rfl fun B => ?_
 refine XK.seq (XK.region rfl (XO.q (Q.assign rfl) (XO.done (XK.seq (XK.region rfl ?_)))))
 refine XO.q (Q.move rfl) ?_
 refine XO.q (Q.fieldAddr rfl) ?_
 refine XO.q (Q.ld rfl rfl) ?_
 refine XO.call Tryz.call35 rfl rfl rfl (equalI x vs K hs_ xs p.starts) fun v7 s7 R7 => ?_
 obtain ⟨rfl, rfl⟩ := R7
 dsimp only [lcA, lnA]
 refine XO.q (Q.assign rfl) (XO.done ?_)
 refine XK.rt [] Tryz.func149 Tryz.results149 (.t rfl .n) ?_
 exact ⟨rfl, rfl⟩
theorem okAt_bad {d : KDay} {p : KPlan} {i : Nat} (h : (((p.charge.getD i default < -d.store.power ∨ d.store.power < p.charge.getD i default) ∨ ¬ kin d.store.full [energyTo d p.charge i + p.charge.getD i default] = true) ∨ d.most < (needsL d p.starts).getD i default + p.charge.getD i default)) : okAt d (needsL d p.starts) p.charge i = false := by
 unfold okAt
 simp only [Bool.and_eq_false_iff, Bool.not_eq_false', decide_eq_true_eq]
 rcases h with ((h | h) | h) | h
 ·exact .inl (.inl (.inl h))
 ·exact .inl (.inl (.inr h))
 ·exact .inl (.inr (Bool.eq_false_iff.2 h))
 ·exact .inr h
theorem okAt_good {d : KDay} {p : KPlan} {i : Nat} (h : ¬ (((p.charge.getD i default < -d.store.power ∨ d.store.power < p.charge.getD i default) ∨ ¬ kin d.store.full [energyTo d p.charge i + p.charge.getD i default] = true) ∨ d.most < (needsL d p.starts).getD i default + p.charge.getD i default)) : okAt d (needsL d p.starts) p.charge i = true := by
 unfold okAt
 simp only [not_or, Classical.not_not] at h
 simp only [Bool.and_eq_true, Bool.not_eq_true', decide_eq_false_iff_not]
 exact ⟨⟨⟨h.1.1.1, h.1.1.2⟩, h.1.2⟩, h.2⟩
set_option maxHeartbeats 1000000 in
theorem form_spec (d : KDay) (vh vj : Value) (hh hj : PHeap) [ih : Arr vh encHour 6 hh d.hours] [ij : Arr vj encJob 4 hj d.jobs] (p : KPlan) (vs vc : Value) (hs_ hc : PHeap) [js : Arr vs encI 1 hs_ p.starts] [jc : Arr vc encI 1 hc p.charge] : Spec Tryz.prog 83 #[.agg #[vh, .int .i64 d.store.energy, .int .i64 d.store.full, .int .i64 d.store.power, .int .i64 d.store.fin, vj, .int .i64 d.most, .int .i64 d.peak], .agg #[vs, vc, .int .i64 p.cost]] [] [hh, hj, hs_, hc] (fun v hs => ∃ v1 k1, v = .tuple #[v1, .int .i64 (formG d p).2] ∧ hs = [k1] ∧ OArr v1 encI 1 3 k1 (formG d p).1) := by
 have lh := ih.le
 have lc := jc.le
 have nI : OArr (.slice none 0 0) encI 1 3 emp ([] : List Int) := OArr.nil (fun _ => rfl)
 refine Spec.intro (fn := Tryz.f83) (N := 90) Tryz.func83 rfl Tryz.ntmps83 rfl fun B => ?_
 refine XK.seq (XK.region rfl ?_)
 refine XO.box rfl fun b2 => ?_
 refine XO.box rfl fun b3 => ?_
 refine XO.q (Q.assign rfl) (XO.q (Q.assign rfl) (XO.done (XK.seq (XK.seq (XK.region rfl ?_)))))
 refine XO.q (Q.ldA [_, _, _, _, _, _, _, _] rfl rfl rfl) ?_
 refine XO.call Tryz.call144 rfl rfl rfl (Check_spec d vh vj hh hj) fun v12 s12 R12 => ?_
 obtain ⟨rfl, rfl⟩ := R12
 dsimp only [lcA, lnA]
 refine XO.q (Q.assign rfl) (XO.done (XK.seq (XK.region rfl (XO.q (Q.move rfl) ?_))))
 refine XO.q (Q.neq rfl rfl) ?_
 refine XO.done ?_
 refine XK.if rfl (fun c0 => ?_) (fun c0 => ?_)
 ·skip
  refine XK.seq (XK.region rfl (XO.q (Q.move rfl) (XO.q (Q.assign rfl) (XO.q (Q.assign rfl) (XO.done ?_)))))
  refine XK.rt [emp] Tryz.func83 Tryz.results83 (.t rfl (.t rfl .n)) ?_
  have e : formG d p = ([], kcheck d) := by rw [formG, if_pos c0]
  rw [e]
  exact ⟨.slice none 0 0, emp, rfl, rfl, nI⟩
 ·skip
  have ok := kcheck_iff.1 (Decidable.of_not_not c0)
  have st := ok.store
  have s1 := st.f0
  have s2 := st.f1
  have s3 := st.p0
  have s4 := st.p1
  have s5 := st.e0
  have s6 := st.e1
  refine XK.skip (XK.seq (XK.seq (XK.region rfl ?_)))
  refine XO.q (Q.ldA [_, _, _, _, _, _, _, _] rfl rfl rfl) ?_
  refine XO.call Tryz.call145 rfl rfl rfl (starts_spec d vh vj hh hj ok) fun v17 s17 R17 => ?_
  obtain ⟨ho, us, K, rfl, OO, RO⟩ := R17
  dsimp only [lcA, lnA]
  refine XO.q (Q.func (fun _ he => rfl) (fun _ he => evs_rel he rfl)) ?_
  refine XO.call Tryz.call36 rfl rfl rfl (containsRows v17 ho us K (startsL d) RO 149 [ptr b3 0] [blk b3 [vs, vc, .int .i64 p.cost] 118, hs_] (fun l => decide (l = p.starts)) Tryz.call149 (fun i hi => by haveI := RO.2 i hi; exact form1 p vs vc hs_ hc b3 (us.getD i default) K ((startsL d).getD i default))) fun v19 s19 R19 => ?_
  obtain ⟨rfl, rfl⟩ := R19
  dsimp only [lcA, lnA]
  refine XO.q (Q.not rfl) ?_
  refine XO.q (Q.move rfl) ?_
  refine XO.q (Quiet.guardF rfl rfl fun g22 p22 => Q.fieldAddr rfl) ?_
  refine XO.q (Quiet.guardF rfl rfl fun g23 p23 => Q.ld (lzv g23 rfl) rfl) ?_
  refine XO.q (Quiet.guardF rfl rfl fun g24 p24 => Q.len (lzv g24 rfl)) ?_
  refine XO.q (Quiet.guardF rfl rfl fun g25 p25 => Q.fieldAddr rfl) ?_
  refine XO.q (Quiet.guardF rfl rfl fun g26 p26 => Q.ld (lzv g26 rfl) rfl) ?_
  refine XO.q (Quiet.guardF rfl rfl fun g27 p27 => Q.len (lzv g27 rfl)) ?_
  refine XO.q (Quiet.guardF rfl rfl fun g28 p28 => Q.neq (lzv g28 rfl) (lzv g28 rfl)) ?_
  refine XO.q (Q.or rfl (fun hp => lzv hp rfl)) ?_
  refine XO.done ?_
  refine XK.if rfl (fun c1 => ?_) (fun c1 => ?_)
  ·skip
   refine XK.seq (XK.region rfl (XO.q (Q.assign rfl) (XO.q (Q.assign rfl) (XO.done ?_))))
   refine XK.rt [emp] Tryz.func83 Tryz.results83 (.t rfl (.t rfl .n)) ?_
   have e : formG d p = ([], 1) := by rw [formG, if_neg c0, if_pos c1]
   rw [e]
   exact ⟨.slice none 0 0, emp, rfl, rfl, nI⟩
  ·skip
   have c1a : (startsL d).any (fun l => decide (l = p.starts)) = true := Decidable.of_not_not fun h => c1 (.inl h)
   have so := starts_any c1a
   have cl : p.charge.length = d.hours.length := by have := fun h => c1 (.inr h); omega
   refine XK.skip (XK.seq (XK.region rfl ?_))
   refine XO.q (Q.ldA [_, _, _, _, _, _, _, _] rfl rfl rfl) ?_
   refine XO.q (Q.fieldAddr rfl) ?_
   refine XO.q (Q.ld rfl rfl) ?_
   refine XO.call Tryz.call150 rfl rfl rfl (needs_spec d vh vj hh hj p.starts vs hs_ ok so) fun v33 s33 R33 => ?_
   obtain ⟨kb, rfl, OB⟩ := R33
   dsimp only [lcA, lnA]
   refine XO.q (Q.assign rfl) (XO.done (XK.seq (XK.region rfl ?_)))
   refine XO.q (Q.fieldAddr rfl) ?_
   refine XO.q (Q.fieldAddr rfl) ?_
   refine XO.q (Q.ld rfl rfl) ?_
   refine XO.q (Q.assign rfl) (XO.done (XK.seq (XK.seq (XK.region rfl ?_))))
   refine XO.q (Q.fieldAddr rfl) ?_
   refine XO.q (Q.ld rfl rfl) ?_
   refine XO.len rfl fun l39 => ?_
   refine XO.q (Q.move rfl) (XO.done (XK.block ?_))
   refine XK.while (X := Nat) [4, 5, 8, 9, 10, 40, 41, 42, 43, 44, 45, 46, 47, 48, 49, 50, 51, 52, 53, 54, 55, 56, 57, 58, 59, 60, 61, 62, 63, 64, 65, 66, 67, 68, 69, 70, 71, 72, 73, 74, 75, 76, 77, 78, 79, 80, 81, 82, 83] (fun i => [(8, some (.int .i64 (energyTo d p.charge i))), (40, some (.int .i64 (i : Nat)))]) (fun i => []) (fun i => i ≤ p.charge.length ∧ allTo (okAt d (needsL d p.starts) p.charge) i = true ∧ 0 ≤ energyTo d p.charge i ∧ energyTo d p.charge i ≤ d.store.full) (fun i => p.charge.length - i) (0) [] rfl ⟨by omega, rfl, s5, s6⟩ (.c rfl (.c rfl (.base 0 rfl rfl))) ?_
   rintro i ⟨hi, ha, e0, e1⟩ ih0
   dsimp only [lcA, lnA] at ih0 ⊢
   refine XK.seq (XK.region rfl ?_)
   refine XO.q (Q.lss rfl rfl) ?_
   refine XO.done (XK.seq ?_)
   refine XK.if rfl (fun c2 => ?_) (fun c2 => ?_)
   ·skip
    have nr := needs_rng ok p.starts (show i < d.hours.length by omega)
    have nl := needsL_len d p.starts
    refine XK.skip (XK.seq (XK.block (XK.seq (XK.region rfl (XO.q (Q.move rfl) ?_)))))
    refine XO.ix rfl rfl (by omega) (by omega) fun i43 => ?_
    refine XO.q (Q.ldE rfl (by first | assumption | omega) rfl) ?_
    refine XO.q (Q.assign rfl) (XO.q (Q.assign rfl) (XO.done (XK.seq (XK.seq ?_))))
    refine XK.drawn [0, 1, 2, 3, 4, 5, 6, 7, 8, 9, 10, 11, 12, 13, 14, 15, 16, 17, 18, 19, 22, 23, 24, 25, 26, 27, 28, 29, 30, 31, 32, 33, 34] [b2] [kb] (.q 0 (.q 1 (.q 2 (.q 3 (.q 4 (.q 5 (.q 6 (.q 7 (.q 8 (.q 9 (.q 10 (.q 11 (.q 12 (.q 13 (.q 14 (.q 15 (.q 16 (.q 17 (.q 18 (.q 19 (.br 20 true (.br 21 true (.q 22 (.q 23 (.q 24 (.q 25 (.q 26 (.q 27 (.q 28 (.q 29 (.q 30 (.q 31 (.q 32 (.q 33 (.q 34 .done))))))))))))) .stop) .stop))))))))))))))))))))) Tryz.mixed rfl (by kernel_rfl) ?_
    refine XT.q rfl rfl (Q.move rfl) ?_
    refine XT.q rfl rfl (Q.fieldAddr rfl) ?_
    refine XT.q rfl rfl (Q.fieldAddr rfl) ?_
    refine XT.q rfl rfl (Q.ld rfl rfl) ?_
    refine XT.q rfl rfl (Q.neg rfl ⟨by omega, by omega⟩) ?_
    rw [show (0 : Int) - d.store.power = -d.store.power by omega]
    refine XT.q rfl rfl (Q.lss rfl rfl) ?_
    refine XT.q rfl rfl (Q.move rfl) ?_
    refine XT.q rfl rfl (Quiet.guardF rfl rfl fun g52 p52 => Q.move rfl) ?_
    refine XT.q rfl rfl (Quiet.guardF rfl rfl fun g53 p53 => Q.fieldAddr rfl) ?_
    refine XT.q rfl rfl (Quiet.guardF rfl rfl fun g54 p54 => Q.fieldAddr (lzv g54 rfl)) ?_
    refine XT.q rfl rfl (Quiet.guardF rfl rfl fun g55 p55 => Q.ld (lzv g55 rfl) rfl) ?_
    refine XT.q rfl rfl (Quiet.guardF rfl rfl fun g56 p56 => Q.gtr (lzv g56 rfl) (lzv g56 rfl)) ?_
    refine XT.q rfl rfl (Q.or rfl (fun hp => lzv hp rfl)) ?_
    refine XT.q rfl rfl (Q.move rfl) ?_
    refine XT.q rfl rfl (Quiet.guardF rfl rfl fun g59 p59 => Q.fieldAddr rfl) ?_
    refine XT.q rfl rfl (Quiet.guardF rfl rfl fun g60 p60 => Q.fieldAddr (lzv g60 rfl)) ?_
    refine XT.q rfl rfl (Quiet.guardF rfl rfl fun g61 p61 => Q.ld (lzv g61 rfl) rfl) ?_
    refine XT.q rfl rfl (Quiet.guardF rfl rfl fun g62 p62 => Q.move rfl) ?_
    refine XT.q rfl rfl (Quiet.guardF rfl rfl fun g63 p63 => Q.move rfl) ?_
    refine XT.q rfl rfl (Quiet.guardF rfl rfl fun g64 p64 => Q.add (lzv g64 rfl) (lzv g64 rfl) (by have q := p64; exact ⟨by omega, by omega⟩)) ?_
    refine XT.lit1 [_] [_] [energyTo d p.charge i + (p.charge.getD i default)] encI rfl rfl rfl rfl (by rfl) (by rfl) rfl (by rfl) (fun g65 => by exact .c 0 1 (lzv g65 rfl) rfl rfl (.n _)) (fun _ => rfl) (by rfl) rfl (fun _ => by infer_instance) rfl (fun v65 h65 O65 => ⟨inferInstance, ?_⟩) XT.stop
    refine XT.gcallF rfl rfl rfl rfl Tryz.call151 rfl (fun g66 => .c (lzv g66 rfl) (.c (lzv g66 rfl) .n)) rfl (fun g66 p66 => by haveI := O65 g66; exact kin_spec d.store.full v65 h65 [energyTo d p.charge i + (p.charge.getD i default)]) ⟨inferInstance, ?_⟩ XT.stop
    refine XT.q rfl rfl (Quiet.guardF rfl rfl fun g67 p67 => Q.not (lzv g67 rfl)) ?_
    refine XT.q rfl rfl (Q.or rfl (fun hp => lzv hp rfl)) ?_
    refine XT.q rfl rfl (Q.move rfl) ?_
    refine XT.q rfl rfl (Quiet.guardF rfl rfl fun g70 p70 => Q.move rfl) ?_
    refine XT.q rfl rfl (Quiet.guardF rfl rfl fun g71 p71 => Q.move rfl) ?_
    refine XT.q rfl rfl (Quiet.guardF rfl rfl fun g72 p72 => Q.ix (lzv g72 rfl) (lzv g72 rfl) (by omega) (by omega)) ?_
    refine XT.q rfl rfl (Quiet.guardF rfl rfl fun g73 p73 => Q.ldE (lzv g73 rfl) (by first | assumption | omega) rfl) ?_
    refine XT.q rfl rfl (Quiet.guardF rfl rfl fun g74 p74 => Q.move rfl) ?_
    refine XT.q rfl rfl (Quiet.guardF rfl rfl fun g75 p75 => Q.add (lzv g75 rfl) (lzv g75 rfl) (by have q := p75; exact ⟨by omega, by omega⟩)) ?_
    refine XT.q rfl rfl (Quiet.guardF rfl rfl fun g76 p76 => Q.fieldAddr rfl) ?_
    refine XT.q rfl rfl (Quiet.guardF rfl rfl fun g77 p77 => Q.ld (lzv g77 rfl) rfl) ?_
    refine XT.q rfl rfl (Quiet.guardF rfl rfl fun g78 p78 => Q.gtr (lzv g78 rfl) (lzv g78 rfl)) ?_
    refine XT.q rfl rfl (Q.or rfl (fun hp => lzv hp rfl)) ?_
    refine XT.done ?_
    refine XK.if rfl (fun c3 => ?_) (fun c3 => ?_)
    ·skip
     refine XK.seq (XK.region rfl (XO.q (Q.assign rfl) (XO.q (Q.assign rfl) (XO.done ?_))))
     refine XK.rt [emp] Tryz.func83 Tryz.results83 (.t rfl (.t rfl .n)) ?_
     have e : formG d p = ([], 120) := by rw [formG, if_neg c0, if_neg c1, if_pos (by rw [allTo_false (s := i) (by omega) (okAt_bad c3)]; decide)]
     rw [e]
     exact ⟨.slice none 0 0, emp, rfl, rfl, nI⟩
    ·skip
     have good := okAt_good c3
     have c3b := c3
     simp only [not_or, Classical.not_not] at c3b
     have k1 := kin_one.1 c3b.1.2
     refine XK.skip (XK.region rfl (XO.q (Q.move rfl) (XO.q (Q.move rfl) ?_)))
     refine XO.q (Q.add rfl rfl ⟨by omega, by omega⟩) ?_
     refine XO.q (Q.assign rfl) (XO.done ?_)
     refine XK.inBlock ?_
     refine XK.region rfl ?_
     refine XO.q (Q.add rfl rfl ⟨by omega, by omega⟩) ?_
     refine XO.q (Q.move rfl) (XO.done ?_)
     exact ih0 (i + 1) _ _ ⟨by omega, by rw [allTo_succ, ha, good]; rfl, by rw [energyTo]; omega, by rw [energyTo]; omega⟩ (by first | omega | (dsimp only; omega)) (.c rfl (.c rfl (.base 98 rfl rfl))) inferInstance
   ·skip
    have hin : i = p.charge.length := by omega
    subst hin
    refine XK.exit rfl ?_
    refine XK.seq (XK.seq (XK.region rfl (XO.q (Q.move rfl) ?_)))
    refine XO.q (Q.fieldAddr rfl) ?_
    refine XO.q (Q.fieldAddr rfl) ?_
    refine XO.q (Q.ld rfl rfl) ?_
    refine XO.q (Q.lss rfl rfl) ?_
    refine XO.done ?_
    refine XK.if rfl (fun c4 => ?_) (fun c4 => ?_)
    ·skip
     refine XK.seq (XK.region rfl (XO.q (Q.assign rfl) (XO.q (Q.assign rfl) (XO.done ?_))))
     refine XK.rt [emp] Tryz.func83 Tryz.results83 (.t rfl (.t rfl .n)) ?_
     have e : formG d p = ([], 120) := by rw [formG, if_neg c0, if_neg c1, if_neg (fun h => h ha), if_pos c4]
     rw [e]
     exact ⟨.slice none 0 0, emp, rfl, rfl, nI⟩
    ·skip
     refine XK.skip (XK.seq (XK.region rfl (XO.q (Q.move rfl) (XO.q (Q.assign rfl) (XO.q (Q.assign rfl) ?_)))))
     refine XO.done ?_
     refine XK.rt [kb] Tryz.func83 Tryz.results83 (.t rfl (.t rfl .n)) ?_
     have e : formG d p = (needsL d p.starts, 0) := by rw [formG, if_neg c0, if_neg c1, if_neg (fun h => h ha), if_neg c4]
     rw [e]
     exact ⟨v33, kb, rfl, rfl, OB⟩
theorem cost_rng {d : KDay} {base ch : List Int} (hok : ∀ i, i < d.hours.length → HourOk (d.hours.getD i default)) (hl : ch.length ≤ d.hours.length) (hr : ∀ i, i < ch.length → -1000 ≤ base.getD i default + ch.getD i default ∧ base.getD i default + ch.getD i default ≤ 1000) : ∀ i, i ≤ ch.length → (-(1000000 * (i : Int)) ≤ costTo d base ch i ∧ costTo d base ch i ≤ 1000000 * i) ∧ 0 ≤ peakTo base ch i ∧ peakTo base ch i ≤ 1000
 | 0, _ => by simp [costTo, peakTo]
 | i + 1, hi => by
  have h := cost_rng hok hl hr i (by omega)
  have r := hr i (by omega)
  have p := price_rng (hok i (by omega)) r.1 r.2
  rw [costTo, peakTo]
  omega
theorem cost_spec (d : KDay) (vh vj : Value) (hh hj : PHeap) [ih : Arr vh encHour 6 hh d.hours] [ij : Arr vj encJob 4 hj d.jobs] (base : List Int) (vb : Value) (hb : PHeap) [jb : Arr vb encI 1 hb base] (ch : List Int) (vc : Value) (hc : PHeap) [jc : Arr vc encI 1 hc ch] (ok : DayOk d) (hl : ch.length = d.hours.length) (hbl : base.length = d.hours.length) (hr : ∀ i, i < ch.length → (-1000 ≤ base.getD i default ∧ base.getD i default ≤ 1000) ∧ (-1000 ≤ ch.getD i default ∧ ch.getD i default ≤ 1000) ∧ -1000 ≤ base.getD i default + ch.getD i default ∧ base.getD i default + ch.getD i default ≤ 1000) :
  Spec Tryz.prog 105 #[.agg #[vh, .int .i64 d.store.energy, .int .i64 d.store.full, .int .i64 d.store.power, .int .i64 d.store.fin, vj, .int .i64 d.most, .int .i64 d.peak], vb, vc] [] [hh, hj, hb, hc] (fun v hs => v = .int .i64 (costL d base ch) ∧ hs = []) := by
 have lh := ih.le
 have h24 := ok.h2
 have cr := cost_rng ok.hour (by omega) (fun i hi => (hr i hi).2.2)
 have pk0 := ok.p0
 have pk1 := ok.p1
 refine Spec.intro (fn := Tryz.f105) (N := 47) Tryz.func105 rfl Tryz.ntmps105 rfl fun B => ?_
 refine XK.seq (XK.region rfl ?_)
 refine XO.box rfl fun b3 => ?_
 refine XO.q (Q.assign rfl) (XO.done (XK.seq (XK.region rfl (XO.q (Q.assign rfl) (XO.q (Q.assign rfl) ?_)))))
 refine XO.done (XK.seq (XK.seq (XK.region rfl (XO.q (Q.move rfl) ?_))))
 refine XO.len rfl fun l12 => ?_
 refine XO.q (Q.move rfl) (XO.done (XK.block ?_))
 refine XK.while (X := Nat) [7, 8, 9, 10, 13, 14, 15, 16, 17, 18, 19, 20, 21, 22, 23, 24, 25, 26, 27, 28, 29, 30, 31, 32, 33, 34, 35, 36, 37, 38, 39, 40] (fun i => [(7, some (.int .i64 (costTo d base ch i))), (8, some (.int .i64 (peakTo base ch i))), (13, some (.int .i64 (i : Nat)))]) (fun i => []) (fun i => i ≤ ch.length) (fun i => ch.length - i) (0) [] rfl (by omega) (.c rfl (.c rfl (.c rfl (.base 0 rfl rfl)))) ?_
 rintro i hi ih0
 dsimp only [lcA, lnA] at ih0 ⊢
 refine XK.seq (XK.region rfl ?_)
 refine XO.q (Q.lss rfl rfl) ?_
 refine XO.done (XK.seq ?_)
 refine XK.if rfl (fun c0 => ?_) (fun c0 => ?_)
 ·skip
  have ri := hr i (by omega)
  have ci := cr i (by omega)
  have pi := price_rng (ok.hour i (by omega)) ri.2.2.1 ri.2.2.2
  refine XK.skip (XK.seq (XK.block (XK.seq (XK.region rfl (XO.q (Q.move rfl) ?_)))))
  refine XO.ix rfl rfl (by omega) (by omega) fun i16 => ?_
  refine XO.q (Q.ldE rfl (by first | assumption | omega) rfl) ?_
  refine XO.q (Q.assign rfl) (XO.q (Q.assign rfl) (XO.done (XK.seq ?_)))
  refine XK.drawn [0, 1, 2, 3, 4, 5, 6, 7, 8, 9, 10, 11, 13, 14] [b3] [] (.q 0 (.q 1 (.q 2 (.q 3 (.q 4 (.q 5 (.q 6 (.q 7 (.q 8 (.q 9 (.q 10 (.q 11 (.br 12 true (.q 13 (.q 14 .done)) .stop))))))))))))) Tryz.mixed rfl (by kernel_rfl) ?_
  refine XT.q rfl rfl (Q.move rfl) ?_
  refine XT.q rfl rfl (Q.fieldAddr rfl) ?_
  refine XT.q rfl rfl (Q.ld rfl rfl) ?_
  refine XT.q rfl rfl (Q.move rfl) ?_
  refine XT.ix rfl rfl rfl rfl (by omega) (by omega) fun i22 => ?_
  refine XT.q rfl rfl (Q.ldEA [_, _, _, _, _, _] rfl (by first | assumption | omega) rfl rfl) ?_
  refine XT.q rfl rfl (Q.move rfl) ?_
  refine XT.q rfl rfl (Q.move rfl) ?_
  refine XT.ix rfl rfl rfl rfl (by omega) (by omega) fun i26 => ?_
  refine XT.q rfl rfl (Q.ldE rfl (by first | assumption | omega) rfl) ?_
  refine XT.q rfl rfl (Q.move rfl) ?_
  refine XT.q rfl rfl (Q.add rfl rfl ⟨by omega, by omega⟩) ?_
  refine XT.call rfl rfl Tryz.call162 rfl rfl rfl (price_spec (d.hours.getD i default) (ok.hour i (by omega)) (base.getD i default + ch.getD i default) (by omega) (by omega)) (fun v30 s30 R30 => ?_) XT.stop
  obtain ⟨rfl, rfl⟩ := R30
  dsimp only [lcA, lnA]
  refine ⟨inferInstance, ?_⟩
  refine XT.q rfl rfl (Q.add rfl rfl ⟨by omega, by omega⟩) ?_
  refine XT.q rfl rfl (Q.assign rfl) ?_
  refine XT.done ?_
  refine XK.region rfl (XO.q (Q.move rfl) (XO.q (Q.move rfl) (XO.q (Q.move rfl) ?_)))
  refine XO.ix rfl rfl (by omega) (by omega) fun i35 => ?_
  refine XO.q (Q.ldE rfl (by first | assumption | omega) rfl) ?_
  refine XO.q (Q.move rfl) ?_
  refine XO.q (Q.add rfl rfl ⟨by omega, by omega⟩) ?_
  refine XO.q (Q.max rfl rfl) ?_
  refine XO.q (Q.assign rfl) (XO.done ?_)
  refine XK.inBlock ?_
  refine XK.region rfl ?_
  refine XO.q (Q.add rfl rfl ⟨by omega, by omega⟩) ?_
  refine XO.q (Q.move rfl) (XO.done ?_)
  exact ih0 (i + 1) _ _ (by omega) (by first | omega | (dsimp only; omega)) (.c rfl (.c rfl (.c rfl (.base 67 rfl rfl)))) inferInstance
 ·skip
  have hin : i = ch.length := by omega
  subst hin
  have ci := cr ch.length (Nat.le_refl _)
  have pm := price_mul (a := d.peak) (b := peakTo base ch ch.length) pk0 pk1 ci.2.1 ci.2.2
  refine XK.exit rfl ?_
  refine XK.seq (XK.region rfl (XO.q (Q.move rfl) ?_))
  refine XO.q (Q.fieldAddr rfl) ?_
  refine XO.q (Q.ld rfl rfl) ?_
  refine XO.q (Q.move rfl) ?_
  refine XO.q (Q.mul rfl rfl ⟨by omega, by omega⟩) ?_
  refine XO.q (Q.add rfl rfl ⟨by omega, by omega⟩) ?_
  refine XO.q (Q.assign rfl) (XO.done ?_)
  refine XK.rt [] Tryz.func105 Tryz.results105 (.t rfl .n) ?_
  exact ⟨rfl, rfl⟩
theorem form_fine {d : KDay} {p : KPlan} (h : (formG d p).2 = 0) : DayOk d ∧ SOk d p.starts ∧ (startsL d).any (fun l => decide (l = p.starts)) = true ∧ p.charge.length = d.hours.length ∧ allTo (okAt d (needsL d p.starts) p.charge) p.charge.length = true ∧ d.store.fin ≤ energyTo d p.charge p.charge.length ∧ (formG d p).1 = needsL d p.starts := by
 unfold formG at h ⊢
 split at h
 ·rename_i h0; exact absurd h h0
 ·rename_i h0
  rw [if_neg h0]
  split at h
  ·cases h
  ·rename_i h1
   rw [if_neg h1]
   split at h
   ·cases h
   ·rename_i h2
    rw [if_neg h2]
    split at h
    ·cases h
    ·rename_i h3
     rw [if_neg h3]
     have c1a : (startsL d).any (fun l => decide (l = p.starts)) = true := Decidable.of_not_not fun h => h1 (.inl h)
     exact ⟨kcheck_iff.1 (Decidable.of_not_not h0), starts_any c1a, c1a, (by have := fun h => h1 (.inr h); omega), Decidable.of_not_not h2, by omega, rfl⟩
theorem okAt_iff {d : KDay} {base ch : List Int} {i : Nat} : okAt d base ch i = true ↔ (-d.store.power ≤ ch.getD i default ∧ ch.getD i default ≤ d.store.power) ∧ (0 ≤ energyTo d ch i + ch.getD i default ∧ energyTo d ch i + ch.getD i default ≤ d.store.full) ∧ base.getD i default + ch.getD i default ≤ d.most := by
 unfold okAt
 simp only [Bool.and_eq_true, Bool.not_eq_true', decide_eq_false_iff_not]
 rw [kin_one]
 omega
theorem form_rng {d : KDay} {p : KPlan} (h : (formG d p).2 = 0) : ∀ i, i < p.charge.length → ((formG d p).1.length = d.hours.length) ∧ (-1000 ≤ (formG d p).1.getD i default ∧ (formG d p).1.getD i default ≤ 1000) ∧ (-1000 ≤ p.charge.getD i default ∧ p.charge.getD i default ≤ 1000) ∧ -1000 ≤ (formG d p).1.getD i default + p.charge.getD i default ∧ (formG d p).1.getD i default + p.charge.getD i default ≤ 1000 := fun i hi => by
 obtain ⟨ok, so, _, hl, ha, _, e⟩ := form_fine h
 have nr := needs_rng ok p.starts (show i < d.hours.length by omega)
 have oi := okAt_iff.1 (allTo_at ha hi)
 have s3 := ok.store.p0; have s4 := ok.store.p1
 rw [e]
 exact ⟨needsL_len d _, by omega, by omega, by omega, by omega⟩
theorem Cost_spec (d : KDay) (vh vj : Value) (hh hj : PHeap) [ih : Arr vh encHour 6 hh d.hours] [ij : Arr vj encJob 4 hj d.jobs] (p : KPlan) (vs vc : Value) (hs_ hc : PHeap) [js : Arr vs encI 1 hs_ p.starts] [jc : Arr vc encI 1 hc p.charge] : Spec Tryz.prog 48 #[.agg #[vh, .int .i64 d.store.energy, .int .i64 d.store.full, .int .i64 d.store.power, .int .i64 d.store.fin, vj, .int .i64 d.most, .int .i64 d.peak], .agg #[vs, vc, .int .i64 p.cost]] [] [hh, hj, hs_, hc] (fun v hs => v = .tuple #[.int .i64 (costG d p).1, .int .i64 (costG d p).2] ∧ hs = []) := by
 refine Spec.intro (fn := Tryz.f48) (N := 22) Tryz.func48 rfl Tryz.ntmps48 rfl fun B => ?_
 refine XK.seq (XK.region rfl ?_)
 refine XO.box rfl fun b2 => ?_
 refine XO.box rfl fun b3 => ?_
 refine XO.q (Q.assign rfl) (XO.q (Q.assign rfl) (XO.done (XK.seq (XK.region rfl ?_))))
 refine XO.q (Q.ldA [_, _, _, _, _, _, _, _] rfl rfl rfl) ?_
 refine XO.q (Q.ldA [_, _, _] rfl rfl rfl) ?_
 refine XO.call Tryz.call83 rfl rfl rfl (form_spec d vh vj hh hj p vs vc hs_ hc) fun v11 s11 R11 => ?_
 obtain ⟨v1, k1, rfl, rfl, O1⟩ := R11
 dsimp only [lcA, lnA]
 refine XO.q (Q.move rfl) ?_
 refine XO.q (Q.extract rfl rfl) ?_
 refine XO.q (Q.extract rfl rfl) ?_
 refine XO.q (Q.assign rfl) (XO.q (Q.assign rfl) (XO.done (XK.seq (XK.seq (XK.region rfl ?_)))))
 refine XO.q (Q.move rfl) ?_
 refine XO.q (Q.neq rfl rfl) ?_
 refine XO.done ?_
 refine XK.if rfl (fun c0 => ?_) (fun c0 => ?_)
 ·skip
  refine XK.seq (XK.region rfl (XO.q (Q.move rfl) (XO.q (Q.assign rfl) (XO.q (Q.assign rfl) (XO.done ?_)))))
  refine XK.rt [] Tryz.func48 Tryz.results48 (.t rfl (.t rfl .n)) ?_
  exact ⟨by rw [costG, if_pos c0], rfl⟩
 ·skip
  have e0 := Decidable.of_not_not c0
  have ff := form_fine e0
  refine XK.skip (XK.seq (XK.region rfl ?_))
  refine XO.q (Q.ldA [_, _, _, _, _, _, _, _] rfl rfl rfl) ?_
  refine XO.q (Q.move rfl) ?_
  refine XO.q (Q.fieldAddr rfl) ?_
  refine XO.q (Q.ld rfl rfl) ?_
  refine XO.call Tryz.call105 rfl rfl rfl (cost_spec d vh vj hh hj (formG d p).1 v1 k1 p.charge vc hc ff.1 ff.2.2.2.1 (by rw [ff.2.2.2.2.2.2]; exact needsL_len d _) (fun i hi => (form_rng e0 i hi).2)) fun v21 s21 R21 => ?_
  obtain ⟨rfl, rfl⟩ := R21
  dsimp only [lcA, lnA]
  refine XO.q (Q.assign rfl) (XO.q (Q.assign rfl) (XO.done ?_))
  refine XK.rt [] Tryz.func48 Tryz.results48 (.t rfl (.t rfl .n)) ?_
  exact ⟨by rw [costG, if_neg c0], rfl⟩
end Go.X.Ma

set_option linter.unusedSimpArgs false
set_option linter.unusedVariables false
set_option maxRecDepth 20000
namespace Go.X.Me
open Go.Proofs
def encNode (x : MNode) : List Value := [.int .i64 x.up, .int .i64 x.low, .int .i64 x.high]
theorem cloneI (v : Value) (h : PHeap) (xs : List Int) [s : Arr v encI 1 h xs] (hl : xs.length ≤ 68719476736) :
  Spec Tryz.prog 59 #[v] [] [h] (fun v' hs => ∃ h', hs = [h'] ∧ OArr v' encI 1 3 h' xs) := by apply Go.X.Bk.cloneI <;> assumption
theorem equalI (v1 v2 : Value) (h1 h2 : PHeap) (xs ys : List Int) [s1 : Arr v1 encI 1 h1 xs] [s2 : Arr v2 encI 1 h2 ys] :
  Spec Tryz.prog 35 #[v1, v2] [] [h1, h2] (fun v hs => v = .bool (decide (xs = ys)) ∧ hs = []) := by apply Go.X.Bk.equalI <;> assumption
theorem indexFuncI (v : Value) (h : PHeap) (xs : List Int) [s : Arr v encI 1 h xs] (gid : FuncId) (cap : List Value) (Hr : List PHeap) (p : Int → Bool)
  (hc : ∀ args w, (callFunc gid args).run Tryz.prog w = .ok (.enter gid args) w) (hS : ∀ x ∈ xs, Spec Tryz.prog gid (.int .i64 x :: cap).toArray [] Hr (fun v hs => v = .bool (p x) ∧ hs = [])) :
  Spec Tryz.prog 159 #[v, .func (.func gid) #[] cap.toArray] [] (h :: Hr) (fun v hs => v = .int .i64 (findFirst p xs) ∧ hs = []) := by apply Go.X.Bk.indexFuncI <;> assumption
theorem containsFuncI (v : Value) (h : PHeap) (xs : List Int) [s : Arr v encI 1 h xs] (gid : FuncId) (cap : List Value) (Hr : List PHeap) (p : Int → Bool)
  (hc : ∀ args w, (callFunc gid args).run Tryz.prog w = .ok (.enter gid args) w) (hS : ∀ x ∈ xs, Spec Tryz.prog gid (.int .i64 x :: cap).toArray [] Hr (fun v hs => v = .bool (p x) ∧ hs = [])) :
  Spec Tryz.prog 97 #[v, .func (.func gid) #[] cap.toArray] [] (h :: Hr) (fun v hs => v = .bool (xs.any p) ∧ hs = []) := by apply Go.X.Bk.containsFuncI <;> assumption
theorem in1 (b : Nat) (m x : Int) : Spec Tryz.prog 158 #[.int .i64 x, ptr b 0] [] [blk b [.int .i64 m] 3] (fun v hs => v = .bool (outP m x) ∧ hs = []) := by
 refine Spec.intro (fn := Tryz.f158) (N := 11) Tryz.func158 rfl Tryz.ntmps158 rfl fun B => ?_
 refine XK.seq (XK.region rfl (XO.q (Q.assign rfl) (XO.done (XK.seq (XK.region rfl ?_)))))
 refine XO.q (Q.move rfl) ?_
 refine XO.q (Q.lss rfl rfl) ?_
 refine XO.q (Q.move rfl) ?_
 refine XO.q (Quiet.guardF rfl rfl fun g7 p7 => Q.move rfl) ?_
 refine XO.q (Quiet.guardF rfl rfl fun g8 p8 => Q.ld rfl rfl) ?_
 refine XO.q (Quiet.guardF rfl rfl fun g9 p9 => Q.gtr (lzv g9 rfl) (lzv g9 rfl)) ?_
 refine XO.q (Q.or rfl (fun hp => lzv hp rfl)) ?_
 refine XO.q (Q.assign rfl) (XO.done ?_)
 refine XK.rt [] Tryz.func158 Tryz.results158 (.t rfl .n) ?_
 exact ⟨rfl, rfl⟩
theorem in_spec11 (m : Int) (v : Value) (h : PHeap) (xs : List Int) [s : Arr v encI 1 h xs] : Spec Tryz.prog 95 #[.int .i64 m, v] [] [h] (fun v hs => v = .bool (inA m xs) ∧ hs = []) := by
 refine Spec.intro (fn := Tryz.f95) (N := 9) Tryz.func95 rfl Tryz.ntmps95 rfl fun B => ?_
 refine XK.seq (XK.region rfl ?_)
 refine XO.box rfl fun b2 => ?_
 refine XO.q (Q.assign rfl) (XO.done (XK.seq (XK.region rfl (XO.q (Q.move rfl) ?_))))
 refine XO.q (Q.func (fun _ he => rfl) (fun _ he => evs_rel he rfl)) ?_
 refine XO.call Tryz.call97 rfl rfl rfl (containsFuncI v h xs 158 [ptr b2 0] [blk b2 [.int .i64 m] 3] (outP m) Tryz.call158 (fun x hx => in1 b2 m x)) fun v7 s7 R7 => ?_
 obtain ⟨rfl, rfl⟩ := R7
 dsimp only [lcA, lnA]
 refine XO.q (Q.not rfl) ?_
 refine XO.q (Q.assign rfl) (XO.done ?_)
 refine XK.rt [] Tryz.func95 Tryz.results95 (.t rfl .n) ?_
 exact ⟨rfl, rfl⟩
theorem Check_spec11 (c : MCase) (vn vv : Value) (hn hv : PHeap) [jn : Arr vn encNode 3 hn c.nodes] [jv : Arr vv encI 1 hv c.vals] : Spec Tryz.prog 86 #[.agg #[vn, vv]] [] [hn, hv] (fun v hs => v = .int .i64 (mcheck c) ∧ hs = []) := by
 have ln := jn.le
 have lv := jv.le
 refine Spec.intro (fn := Tryz.f86) (N := 72) Tryz.func86 rfl Tryz.ntmps86 rfl fun B => ?_
 refine XK.seq (XK.region rfl ?_)
 refine XO.box rfl fun b1 => ?_
 refine XO.q (Q.assign rfl) (XO.done (XK.seq (XK.seq (XK.region rfl ?_))))
 refine XO.q (Q.fieldAddr rfl) ?_
 refine XO.q (Q.ld rfl rfl) ?_
 refine XO.len rfl fun l7 => ?_
 refine XO.q (Q.lss rfl rfl) ?_
 refine XO.q (Q.move rfl) ?_
 refine XO.q (Quiet.guardF rfl rfl fun g10 p10 => Q.fieldAddr rfl) ?_
 refine XO.q (Quiet.guardF rfl rfl fun g11 p11 => Q.ld (lzv g11 rfl) rfl) ?_
 refine XO.q (Quiet.guardF rfl rfl fun g12 p12 => Q.len (lzv g12 rfl)) ?_
 refine XO.q (Quiet.guardF rfl rfl fun g13 p13 => Q.gtr (lzv g13 rfl) rfl) ?_
 refine XO.q (Q.or rfl (fun hp => lzv hp rfl)) ?_
 refine XO.done ?_
 refine XK.if rfl (fun c0 => ?_) (fun c0 => ?_)
 ·skip
  refine XK.seq (XK.region rfl (XO.q (Q.assign rfl) (XO.done ?_)))
  refine XK.rt [] Tryz.func86 Tryz.results86 (.t rfl .n) ?_
  exact ⟨by rw [mcheck, if_pos c0], rfl⟩
 ·skip
  refine XK.skip (XK.seq (XK.seq (XK.region rfl ?_)))
  refine XO.q (Q.fieldAddr rfl) ?_
  refine XO.q (Q.ld rfl rfl) ?_
  refine XO.len rfl fun l17 => ?_
  refine XO.q (Q.fieldAddr rfl) ?_
  refine XO.q (Q.ld rfl rfl) ?_
  refine XO.len rfl fun l20 => ?_
  refine XO.q (Q.neq rfl rfl) ?_
  refine XO.done ?_
  refine XK.if rfl (fun c1 => ?_) (fun c1 => ?_)
  ·skip
   refine XK.seq (XK.region rfl (XO.q (Q.assign rfl) (XO.done ?_)))
   refine XK.rt [] Tryz.func86 Tryz.results86 (.t rfl .n) ?_
   exact ⟨by rw [mcheck, if_neg c0, if_pos c1], rfl⟩
  ·skip
   refine XK.skip (XK.seq (XK.seq (XK.region rfl ?_)))
   refine XO.q (Q.fieldAddr rfl) ?_
   refine XO.q (Q.ld rfl rfl) ?_
   refine XO.len rfl fun l24 => ?_
   refine XO.q (Q.move rfl) (XO.done (XK.block ?_))
   refine XK.while (X := Nat) [2, 3, 4, 25, 26, 27, 28, 29, 30, 31, 32, 33, 34, 35, 36, 37, 38, 39, 40, 41, 42, 43, 44, 45, 46, 47, 48, 49, 50, 51, 52, 53, 54, 55, 56, 57, 58, 59, 60, 61, 62, 63, 64, 65, 66, 67, 68, 69, 70, 71] (fun i => [(25, some (.int .i64 (i : Nat)))]) (fun i => []) (fun i => i ≤ c.nodes.length ∧ nodesOk c i = true) (fun i => c.nodes.length - i) (0) [] rfl ⟨by omega, rfl⟩ (.c rfl (.base 0 rfl rfl)) ?_
   rintro i ⟨hi, hall⟩ ih0
   dsimp only [lcA, lnA] at ih0 ⊢
   refine XK.seq (XK.region rfl ?_)
   refine XO.q (Q.lss rfl rfl) ?_
   refine XO.done (XK.seq ?_)
   refine XK.if rfl (fun c2 => ?_) (fun c2 => ?_)
   ·skip
    refine XK.skip (XK.seq (XK.block (XK.seq (XK.region rfl (XO.q (Q.move rfl) ?_)))))
    refine XO.ix rfl rfl (by omega) (by omega) fun i28 => ?_
    refine XO.q (Q.ldEA [_, _, _] rfl (by first | assumption | omega) rfl rfl) ?_
    refine XO.alloc fun b4 => ?_
    refine XO.q (Q.assign rfl) ?_
    refine XO.st rfl rfl rfl ?_
    refine XO.done (XK.seq ?_)
    refine XK.drawn [0, 1, 2, 3, 4, 5, 6, 9, 10, 11, 12, 13, 14, 17, 18, 19, 20, 21, 22, 23, 24, 25, 26, 27, 28, 29, 30, 31, 32, 33, 34, 35, 38, 39, 40] [b4, b1] [] (.q 0 (.q 1 (.q 2 (.q 3 (.q 4 (.q 5 (.q 6 (.br 7 true (.br 8 true (.q 9 (.q 10 (.q 11 (.q 12 (.q 13 (.q 14 (.br 15 true (.br 16 true (.q 17 (.q 18 (.q 19 (.q 20 (.q 21 (.q 22 (.q 23 (.q 24 (.q 25 (.q 26 (.q 27 (.q 28 (.q 29 (.q 30 (.q 31 (.q 32 (.q 33 (.q 34 (.q 35 (.br 36 true (.br 37 true (.q 38 (.q 39 (.q 40 .done))) .stop) .stop)))))))))))))))))))) .stop) .stop))))))) .stop) .stop)))))))) Tryz.mixed rfl (by kernel_rfl) ?_
    refine XT.q rfl rfl (Q.fieldAddr rfl) ?_
    refine XT.q rfl rfl (Q.ld rfl rfl) ?_
    refine XT.q rfl rfl (Q.fieldAddr rfl) ?_
    refine XT.q rfl rfl (Q.ld rfl rfl) ?_
    refine XT.q rfl rfl (Q.move rfl) ?_
    refine XT.ix rfl rfl rfl rfl (by omega) (by omega) fun i35 => ?_
    refine XT.q rfl rfl (Q.ldE rfl (by first | assumption | omega) rfl) ?_
    refine XT.lit [_, _] [_, _] [(c.nodes.getD i default).high, c.vals.getD i default] encI rfl rfl (by rfl) (by rfl) rfl (by rfl) (by exact .c 0 1 rfl rfl rfl (.c 1 1 rfl rfl rfl (.n _))) (fun _ => rfl) (by rfl) rfl (by infer_instance) rfl (fun v37 h37 O37 => ⟨inferInstance, ?_⟩) XT.stop
    refine XT.call rfl rfl Tryz.call95 rfl rfl rfl (in_spec11 1000000000 v37 h37 [(c.nodes.getD i default).high, c.vals.getD i default]) (fun v38 s38 R38 => ?_) XT.stop
    obtain ⟨rfl, rfl⟩ := R38
    dsimp only [lcA, lnA]
    refine ⟨inferInstance, ?_⟩
    refine XT.q rfl rfl (Q.not rfl) ?_
    refine XT.q rfl rfl (Q.move rfl) ?_
    refine XT.q rfl rfl (Quiet.guardF rfl rfl fun g41 p41 => Q.fieldAddr rfl) ?_
    refine XT.q rfl rfl (Quiet.guardF rfl rfl fun g42 p42 => Q.ld (lzv g42 rfl) rfl) ?_
    refine XT.q rfl rfl (Quiet.guardF rfl rfl fun g43 p43 => Q.fieldAddr rfl) ?_
    refine XT.q rfl rfl (Quiet.guardF rfl rfl fun g44 p44 => Q.ld (lzv g44 rfl) rfl) ?_
    refine XT.lit1 [_] [_] [(c.nodes.getD i default).low] encI rfl rfl rfl rfl (by rfl) (by rfl) rfl (by rfl) (fun g45 => by exact .c 0 1 (lzv g45 rfl) rfl rfl (.n _)) (fun _ => rfl) (by rfl) rfl (fun _ => by infer_instance) rfl (fun v45 h45 O45 => ⟨inferInstance, ?_⟩) XT.stop
    refine XT.gcallF rfl rfl rfl rfl Tryz.call95 rfl (fun g46 => .c (lzv g46 rfl) (.c (lzv g46 rfl) .n)) rfl (fun g46 p46 => by haveI := O45 g46; exact in_spec11 (c.nodes.getD i default).high v45 h45 [(c.nodes.getD i default).low]) ⟨inferInstance, ?_⟩ XT.stop
    refine XT.q rfl rfl (Quiet.guardF rfl rfl fun g47 p47 => Q.not (lzv g47 rfl)) ?_
    refine XT.q rfl rfl (Q.or rfl (fun hp => lzv hp rfl)) ?_
    refine XT.q rfl rfl (Q.move rfl) ?_
    refine XT.q rfl rfl (Quiet.guardF rfl rfl fun g50 p50 => Q.move rfl) ?_
    refine XT.q rfl rfl (Quiet.guardF rfl rfl fun g51 p51 => Q.eql (lzv g51 rfl) rfl) ?_
    refine XT.q rfl rfl (Quiet.guardF rfl rfl fun g52 p52 => Q.move (lzv g52 rfl)) ?_
    refine XT.q rfl rfl (Quiet.guard2 rfl rfl fun g53a g53b => have p53a := bpF g53a; have p53b := bpT g53b; Q.fieldAddr rfl) ?_
    refine XT.q rfl rfl (Quiet.guard2 rfl rfl fun g54a g54b => have p54a := bpF g54a; have p54b := bpT g54b; Q.ld (lzv g54b (lzv g54a rfl)) rfl) ?_
    refine XT.q rfl rfl (Quiet.guard2 rfl rfl fun g55a g55b => have p55a := bpF g55a; have p55b := bpT g55b; Q.neq (lzv g55b (lzv g55a rfl)) rfl) ?_
    refine XT.q rfl rfl (Quiet.guardF rfl rfl fun g56 p56 => Q.and (lzv g56 rfl) (fun hp => (lzv hp (lzv g56 rfl)))) ?_
    refine XT.q rfl rfl (Q.or rfl (fun hp => lzv hp rfl)) ?_
    refine XT.q rfl rfl (Q.move rfl) ?_
    refine XT.q rfl rfl (Quiet.guardF rfl rfl fun g59 p59 => Q.move rfl) ?_
    refine XT.q rfl rfl (Quiet.guardF rfl rfl fun g60 p60 => Q.gtr (lzv g60 rfl) rfl) ?_
    refine XT.q rfl rfl (Quiet.guardF rfl rfl fun g61 p61 => Q.move (lzv g61 rfl)) ?_
    refine XT.q rfl rfl (Quiet.guard2 rfl rfl fun g62a g62b => have p62a := bpF g62a; have p62b := bpT g62b; Q.move rfl) ?_
    refine XT.q rfl rfl (Quiet.guard2 rfl rfl fun g63a g63b => have p63a := bpF g63a; have p63b := bpT g63b; Q.sub (lzv g63b (lzv g63a rfl)) rfl ⟨by omega, by omega⟩) ?_
    refine XT.q rfl rfl (Quiet.guard2 rfl rfl fun g64a g64b => have p64a := bpF g64a; have p64b := bpT g64b; Q.fieldAddr rfl) ?_
    refine XT.q rfl rfl (Quiet.guard2 rfl rfl fun g65a g65b => have p65a := bpF g65a; have p65b := bpT g65b; Q.ld (lzv g65b (lzv g65a rfl)) rfl) ?_
    refine XT.lit2 [_] [_] [(c.nodes.getD i default).up] encI rfl rfl rfl rfl (by rfl) (by rfl) rfl (by rfl) (fun g66a g66b => by exact .c 0 1 (lzv g66b (lzv g66a rfl)) rfl rfl (.n _)) (fun _ => rfl) (by rfl) rfl (fun _ _ => by infer_instance) rfl (fun v66 h66 O66 => ⟨inferInstance, ?_⟩) XT.stop
    refine XT.vg2 rfl rfl rfl rfl (fun g67a g67b => rfl) (fun g67a g67b => .c (lzv g67b (lzv g67a rfl)) (.c (lzv g67b (lzv g67a rfl)) .n)) (fun g67a g67b => have p67a := bpF g67a; have p67b := bpT g67b; VSpec.fn (P := Tryz.prog) Tryz.call95 rfl (by haveI := O66 g67a g67b; exact in_spec11 ((i : Int) - 1) v66 h66 [(c.nodes.getD i default).up])) ⟨inferInstance, ?_⟩ XT.stop
    refine XT.q rfl rfl (Quiet.guard2 rfl rfl fun g68a g68b => have p68a := bpF g68a; have p68b := bpT g68b; Q.not (lzv g68b (lzv g68a rfl))) ?_
    refine XT.q rfl rfl (Quiet.guardF rfl rfl fun g69 p69 => Q.and (lzv g69 rfl) (fun hp => (lzv hp (lzv g69 rfl)))) ?_
    refine XT.q rfl rfl (Q.or rfl (fun hp => lzv hp rfl)) ?_
    refine XT.done ?_
    refine XK.if rfl (fun c3 => ?_) (fun c3 => ?_)
    ·skip
     refine XK.seq (XK.region rfl (XO.q (Q.assign rfl) (XO.done ?_)))
     refine XK.rt [] Tryz.func86 Tryz.results86 (.t rfl .n) ?_
     exact ⟨by rw [mcheck, if_neg c0, if_neg c1, if_neg (by rw [nodesOk, allTo_false (s := i) (by omega) (by rw [Bool.not_eq_false', decide_eq_true_eq]; exact c3)]; decide)], rfl⟩
    ·skip
     refine XK.skip ?_
     refine XK.inBlock ?_
     refine XK.region rfl ?_
     refine XO.q (Q.add rfl rfl ⟨by omega, by omega⟩) ?_
     refine XO.q (Q.move rfl) (XO.done ?_)
     exact ih0 (i + 1) _ _ ⟨by omega, by rw [nodesOk, allTo_succ]; rw [nodesOk] at hall; rw [hall, Bool.true_and, Bool.not_eq_true', decide_eq_false_iff_not]; exact c3⟩ (by first | omega | (dsimp only; omega)) (.c rfl (.base 100 rfl rfl)) inferInstance
   ·skip
    refine XK.exit rfl ?_
    refine XK.seq (XK.region rfl (XO.q (Q.assign rfl) (XO.done ?_)))
    refine XK.rt [] Tryz.func86 Tryz.results86 (.t rfl .n) ?_
    have hin : i = c.nodes.length := by omega
    rw [hin] at hall
    exact ⟨by rw [mcheck, if_neg c0, if_neg c1, if_pos hall], rfl⟩
end Go.X.Me

set_option linter.unusedSimpArgs false
set_option linter.unusedVariables false
set_option maxRecDepth 20000
namespace Go.X.Me
open Go.Proofs
theorem sons_spec (c : MCase) (vn vv : Value) (hn : PHeap) [jn : Arr vn encNode 3 hn c.nodes] [ov : One vv] (hl : c.nodes.length ≤ 14) (i : Int) : Spec Tryz.prog 87 #[.agg #[vn, vv], .int .i64 i] [] [hn] (fun v hs => ∃ k, hs = [k] ∧ OArr v encI 1 3 k (ints (sonsTo c i c.nodes.length))) := by
 have hnil : OArr (.slice none 0 0) encI 1 3 emp ([] : List Int) := OArr.nil (fun _ => rfl)
 refine Spec.intro (fn := Tryz.f87) (N := 26) Tryz.func87 rfl Tryz.ntmps87 rfl fun B => ?_
 refine XK.seq (XK.region rfl ?_)
 refine XO.box rfl fun b2 => ?_
 refine XO.q (Q.assign rfl) (XO.done (XK.seq (XK.region rfl (XO.q (Q.assign rfl) (XO.done ?_)))))
 refine XK.seq (XK.seq (XK.region rfl ?_))
 refine XO.q (Q.fieldAddr rfl) ?_
 refine XO.q (Q.ld rfl rfl) ?_
 refine XO.len rfl fun l10 => ?_
 refine XO.q (Q.move rfl) (XO.done (XK.block ?_))
 refine XK.while (X := Nat × Value × PHeap) [5, 6, 7, 11, 12, 13, 14, 15, 16, 17, 18, 19, 20, 21, 22, 23, 24] (fun ⟨j, v5, k5⟩ => [(11, some (.int .i64 (j : Nat))), (5, some (v5))]) (fun ⟨j, v5, k5⟩ => [k5]) (fun ⟨j, v5, k5⟩ => j ≤ c.nodes.length ∧ OArr v5 encI 1 3 k5 (ints (sonsTo c i j))) (fun ⟨j, v5, k5⟩ => c.nodes.length - j) (0, .slice none 0 0, emp) [emp] rfl ⟨by omega, hnil⟩ (.c rfl (.c rfl (.base 0 rfl rfl))) ?_
 rintro ⟨j, v5, k5⟩ ⟨hj, O5⟩ ih0
 dsimp only [lcA, lnA] at ih0 ⊢
 refine XK.seq (XK.region rfl ?_)
 refine XO.q (Q.lss rfl rfl) ?_
 refine XO.done (XK.seq ?_)
 refine XK.if rfl (fun c0 => ?_) (fun c0 => ?_)
 ·skip
  have hsl := sonsTo_len (c := c) (i := i) (n := j)
  refine XK.skip (XK.seq (XK.block (XK.seq (XK.region rfl (XO.q (Q.move rfl) ?_)))))
  refine XO.ix rfl rfl (by omega) (by omega) fun i14 => ?_
  refine XO.q (Q.ldEA [_, _, _] rfl (by first | assumption | omega) rfl rfl) ?_
  refine XO.alloc fun b7 => ?_
  refine XO.q (Q.assign rfl) ?_
  refine XO.st rfl rfl rfl ?_
  refine XO.done (XK.seq (XK.region rfl ?_))
  refine XO.q (Q.fieldAddr rfl) ?_
  refine XO.q (Q.ld rfl rfl) ?_
  refine XO.q (Q.move rfl) ?_
  refine XO.q (Q.eql rfl rfl) ?_
  refine XO.done ?_
  refine XK.if rfl (fun c1 => ?_) (fun c1 => ?_)
  ·skip
   refine XK.region rfl (XO.q (Q.move rfl) (XO.q (Q.move rfl) ?_))
   refine XO.lit [_] [_] [((j : Nat) : Int)] encI (by rfl) (by rfl) rfl (by rfl) (by exact .c 0 1 rfl rfl rfl (.n _)) (fun _ => rfl) (by rfl) rfl (by infer_instance) rfl fun v22 h22 O22 => ?_
   refine XO.append rfl rfl rfl rfl (by simp only [ints_len, List.length_cons, List.length_nil]; omega) fun v23 h23 O23 => ?_
   refine XO.q (Q.assign rfl) (XO.done ?_)
   refine XK.inBlock ?_
   refine XK.region rfl ?_
   refine XO.q (Q.add rfl rfl ⟨by omega, by omega⟩) ?_
   refine XO.q (Q.move rfl) (XO.done ?_)
   exact ih0 (j + 1, v23, h23) _ _ ⟨by dsimp only; omega, by dsimp only; rw [sonsTo, if_pos c1, ints_snoc]; exact O23⟩ (by first | omega | (dsimp only; omega)) (.c rfl (.c rfl (.base 36 rfl rfl))) inferInstance
  ·skip
   refine XK.skip ?_
   refine XK.inBlock ?_
   refine XK.region rfl ?_
   refine XO.q (Q.add rfl rfl ⟨by omega, by omega⟩) ?_
   refine XO.q (Q.move rfl) (XO.done ?_)
   exact ih0 (j + 1, v5, k5) _ _ ⟨by dsimp only; omega, by dsimp only; rw [sonsTo, if_neg c1]; exact O5⟩ (by first | omega | (dsimp only; omega)) (.c rfl (.c rfl (.base 31 rfl rfl))) inferInstance
 ·skip
  refine XK.exit rfl ?_
  refine XK.seq (XK.region rfl (XO.q (Q.move rfl) (XO.q (Q.assign rfl) (XO.done ?_))))
  refine XK.rt [k5] Tryz.func87 Tryz.results87 (.t rfl .n) ?_
  have hin : j = c.nodes.length := by omega
  rw [hin] at O5
  exact ⟨k5, rfl, O5⟩
end Go.X.Me

set_option linter.unusedSimpArgs false
set_option linter.unusedVariables false
set_option maxRecDepth 20000
namespace Go.X.Me
open Go.Proofs
end Go.X.Me

set_option linter.unusedSimpArgs false
set_option linter.unusedVariables false
set_option maxRecDepth 20000
namespace Go.X.Me
open Go.Proofs
end Go.X.Me

set_option linter.unusedSimpArgs false
set_option linter.unusedVariables false
set_option maxRecDepth 20000
namespace Go.X.Me
open Go.Proofs
end Go.X.Me

set_option linter.unusedSimpArgs false
set_option linter.unusedVariables false
set_option maxRecDepth 20000
namespace Go.X.Me
open Go.Proofs
instance : Inhabited (Value × MUse) := ⟨(.slice none 0 0, default)⟩
end Go.X.Me

set_option linter.unusedSimpArgs false
set_option linter.unusedVariables false
set_option maxRecDepth 20000
namespace Go.X.Me
open Go.Proofs
theorem mul64_one (n : Nat) (h : n ≤ 4294967295) : Spec Tryz.prog 199 #[.int .u64 1, .int .u64 (n : Nat)] [] [] (fun v hs => v = .tuple #[.int .u64 0, .int .u64 (n : Nat)] ∧ hs = []) := by apply Go.X.Ke.mul64_one <;> assumption
theorem mul_one' (n : Nat) (h : n ≤ 4294967295) : Spec Tryz.prog 160 #[.int .u64 1, .int .u64 (n : Nat)] [] [] (fun v hs => v = .tuple #[.int .u64 0, .int .u64 (n : Nat)] ∧ hs = []) := by apply Go.X.Ke.mul_one' <;> assumption
theorem repeatI (v : Value) (h : PHeap) (x : Int) [s : Arr v encI 1 h [x]] (n : Nat) (hn : n ≤ 4294967295) : Spec Tryz.prog 100 #[v, .int .i64 (n : Nat)] [] [h] (fun v' hs => ∃ h', hs = [h'] ∧ OArr v' encI 1 3 h' (List.replicate n x)) := by apply Go.X.Ke.repeatI <;> assumption
end Go.X.Me

set_option linter.unusedSimpArgs false
set_option linter.unusedVariables false
set_option maxRecDepth 20000
namespace Go.X.Me
open Go.Proofs
end Go.X.Me

set_option linter.unusedSimpArgs false
set_option linter.unusedVariables false
set_option maxRecDepth 20000
namespace Go.X.Me
open Go.Proofs
theorem lost_rng {c : MCase} (ok : MOk c) {i : Nat} (hi : i < c.nodes.length) {n : Nat} (hn : n ≤ (sonsN c i).length) : -14000000000 ≤ lostAt c i n ∧ lostAt c i n ≤ 1000000000 := by
 have hs : ∀ q, q < n → 0 ≤ c.vals.getD ((sonsN c i).getD q 0) 0 ∧ c.vals.getD ((sonsN c i).getD q 0) 0 ≤ 1000000000 := fun q hq => by
  obtain ⟨a, _, _⟩ := ok.son (getD_mem0 (l := sonsN c i) (j := q) (by omega))
  exact (ok.node _ a).2.1
 have h1 : 0 ≤ sumV c c.vals i n := sum_nonneg fun q hq => (hs q hq).1
 have h2 : sumV c c.vals i n ≤ n * 1000000000 := sum_le fun q hq => (hs q hq).2
 have h3 := (ok.node i hi).2.1
 have h4 : (sonsN c i).length ≤ c.nodes.length := sonsTo_len
 have h5 := ok.n2
 unfold lostAt; omega
theorem Broken_spec (c : MCase) (vn vv : Value) (hn hv : PHeap) [jn : Arr vn encNode 3 hn c.nodes] [jv : Arr vv encI 1 hv c.vals] : Spec Tryz.prog 33 #[.agg #[vn, vv]] [] [hn, hv] (fun v hs => ∃ v1 k1, v = .tuple #[v1, .int .i64 (brokenG c).2] ∧ hs = [k1] ∧ OArr v1 encI 1 3 k1 (brokenG c).1) := by
 have nI : OArr (.slice none 0 0) encI 1 3 emp ([] : List Int) := OArr.nil (fun _ => rfl)
 refine Spec.intro (fn := Tryz.f33) (N := 68) Tryz.func33 rfl Tryz.ntmps33 rfl fun B => ?_
 refine XK.seq (XK.region rfl ?_)
 refine XO.box rfl fun b1 => ?_
 refine XO.q (Q.assign rfl) (XO.q (Q.assign rfl) (XO.done (XK.seq (XK.seq (XK.region rfl ?_)))))
 refine XO.q (Q.ldA [_, _] rfl rfl rfl) ?_
 refine XO.call Tryz.call86 rfl rfl rfl (Check_spec11 c vn vv hn hv) fun v13 s13 R13 => ?_
 obtain ⟨rfl, rfl⟩ := R13
 dsimp only [lcA, lnA]
 refine XO.q (Q.assign rfl) (XO.done (XK.seq (XK.region rfl (XO.q (Q.move rfl) ?_))))
 refine XO.q (Q.neq rfl rfl) ?_
 refine XO.done ?_
 refine XK.if rfl (fun c0 => ?_) (fun c0 => ?_)
 ·skip
  refine XK.seq (XK.region rfl (XO.q (Q.move rfl) (XO.q (Q.assign rfl) (XO.q (Q.assign rfl) (XO.done ?_)))))
  refine XK.rt [emp] Tryz.func33 Tryz.results33 (.t rfl (.t rfl .n)) ?_
  have hw0 : brokenG c = ([], mcheck c) := by rw [brokenG, if_pos c0]
  rw [hw0]
  exact ⟨.slice none 0 0, emp, rfl, rfl, OArr.nil (fun _ => rfl)⟩
 ·skip
  have ok := mcheck_ok (Decidable.of_not_not c0)
  have vl := ok.vl
  refine XK.skip (XK.seq (XK.region rfl (XO.q (Q.assign rfl) (XO.done (XK.seq ?_)))))
  refine XK.seq (XK.region rfl ?_)
  refine XO.q (Q.fieldAddr rfl) ?_
  refine XO.q (Q.ld rfl rfl) ?_
  refine XO.len rfl fun l19 => ?_
  refine XO.q (Q.move rfl) (XO.done (XK.block ?_))
  refine XK.while (X := Nat × Value × PHeap) [5, 6, 7, 8, 9, 11, 20, 21, 22, 23, 24, 25, 26, 27, 28, 29, 30, 31, 32, 33, 34, 35, 36, 37, 38, 39, 40, 41, 42, 43, 44, 45, 46, 47, 48, 49, 50, 51, 52, 53, 54, 55, 56, 57, 58, 59, 60, 61, 62, 63, 64, 65, 66] (fun ⟨i, vo, ko⟩ => [(20, some (.int .i64 (i : Nat))), (5, some (vo))]) (fun ⟨i, vo, ko⟩ => [ko]) (fun ⟨i, vo, ko⟩ => i ≤ c.nodes.length ∧ OArr vo encI 1 3 ko (ints (brokenTo c i))) (fun ⟨i, vo, ko⟩ => c.nodes.length - i) (0, .slice none 0 0, emp) [emp] rfl ⟨by omega, nI⟩ (.c rfl (.c rfl (.base 0 rfl rfl))) ?_
  rintro ⟨i, vo, ko⟩ ⟨hi, OO⟩ ih0
  dsimp only [lcA, lnA] at ih0 ⊢
  refine XK.seq (XK.region rfl ?_)
  refine XO.q (Q.lss rfl rfl) ?_
  refine XO.done (XK.seq ?_)
  refine XK.if rfl (fun c1 => ?_) (fun c1 => ?_)
  ·skip
   have il := ints_len (l := (sonsN c i))
   have nd := (ok.node i (by omega)).2.1
   have bl := brokenTo_len c i
   have n2 := ok.n2
   refine XK.skip (XK.seq (XK.block (XK.seq (XK.region rfl (XO.q (Q.move rfl) ?_)))))
   refine XO.ix rfl rfl (by omega) (by omega) fun i23 => ?_
   refine XO.q (Q.ldEA [_, _, _] rfl (by first | assumption | omega) rfl rfl) ?_
   refine XO.alloc fun b7 => ?_
   refine XO.q (Q.assign rfl) ?_
   refine XO.st rfl rfl rfl ?_
   refine XO.done (XK.seq (XK.region rfl ?_))
   refine XO.q (Q.ldA [_, _] rfl rfl rfl) ?_
   refine XO.q (Q.move rfl) ?_
   refine XO.call Tryz.call87 rfl rfl rfl (sons_spec c vn vv hn ok.n2 (i : Nat)) fun v27 s27 R27 => ?_
   obtain ⟨k27, rfl, O27⟩ := R27
   dsimp only [lcA, lnA]
   change OArr v27 encI 1 3 k27 (ints (sonsN c i)) at O27
   refine XO.q (Q.assign rfl) (XO.done (XK.seq (XK.region rfl ?_)))
   refine XO.q (Q.fieldAddr rfl) ?_
   refine XO.q (Q.ld rfl rfl) ?_
   refine XO.q (Q.move rfl) ?_
   refine XO.ix rfl rfl (by omega) (by omega) fun i31 => ?_
   refine XO.q (Q.ldE rfl (by first | assumption | omega) rfl) ?_
   rw [show c.vals.getD i default = lostAt c i 0 by rw [lostAt, sumV, sumTo, Int.sub_zero]; rfl]
   refine XO.q (Q.assign rfl) (XO.done (XK.seq (XK.seq (XK.region rfl (XO.q (Q.move rfl) ?_)))))
   refine XO.len rfl fun l34 => ?_
   rw [il]
   refine XO.q (Q.move rfl) (XO.done (XK.block ?_))
   refine XK.while (X := Nat) [9, 11, 35, 36, 37, 38, 39, 40, 41, 42, 43, 44, 45, 46] (fun j => [(35, some (.int .i64 (j : Nat))), (9, some (.int .i64 (lostAt c i j)))]) (fun j => []) (fun j => j ≤ (sonsN c i).length) (fun j => (sonsN c i).length - j) (0) [] rfl (by omega) (.c rfl (.c rfl (.base 0 rfl rfl))) ?_
   rintro j hj ih1
   dsimp only [lcA, lnA] at ih1 ⊢
   refine XK.seq (XK.region rfl ?_)
   refine XO.q (Q.lss rfl rfl) ?_
   refine XO.done (XK.seq ?_)
   refine XK.if rfl (fun c2 => ?_) (fun c2 => ?_)
   ·skip
    have lr := lost_rng ok (i := i) (by omega) (n := j) (by omega)
    have lr2 := lost_rng ok (i := i) (by omega) (n := j + 1) (by omega)
    have lr3 : -14000000000 ≤ c.vals.getD i 0 := by omega
    refine XK.skip (XK.seq (XK.block (XK.seq (XK.region rfl ?_))))
    refine XO.ix rfl rfl (by omega) (by omega) fun i37 => ?_
    refine XO.q (Q.ldE rfl (by first | assumption | omega) rfl) ?_
    rw [ints_at (by omega)]
    obtain ⟨k, ek⟩ : ∃ k, k = (sonsN c i).getD j 0 := ⟨_, rfl⟩
    rw [← ek]
    obtain ⟨k1, k2, k3⟩ := ok.son (i := i) (k := k) (by rw [ek]; exact getD_mem0 (by omega))
    have vk : 0 ≤ c.vals.getD k default ∧ c.vals.getD k default ≤ 1000000000 := (ok.node k k1).2.1
    refine XO.q (Q.assign rfl) (XO.done (XK.region rfl (XO.q (Q.move rfl) ?_)))
    refine XO.q (Q.fieldAddr rfl) ?_
    refine XO.q (Q.ld rfl rfl) ?_
    refine XO.q (Q.move rfl) ?_
    refine XO.ix rfl rfl (by omega) (by omega) fun i43 => ?_
    refine XO.q (Q.ldE rfl (by first | assumption | omega) rfl) ?_
    refine XO.q (Q.sub rfl rfl ⟨by omega, by omega⟩) ?_
    rw [show (lostAt c i j) - c.vals.getD k default = (lostAt c i (j + 1)) by rw [lostAt, lostAt, sumV, sumV, sumTo, ← ek, ← Int.sub_sub]; rfl]
    refine XO.q (Q.assign rfl) (XO.done ?_)
    refine XK.inBlock ?_
    refine XK.region rfl ?_
    refine XO.q (Q.add rfl rfl ⟨by omega, by omega⟩) ?_
    refine XO.q (Q.move rfl) (XO.done ?_)
    exact ih1 (j + 1) _ _ (by omega) (by first | omega | (dsimp only; omega)) (.c rfl (.c rfl (.base 30 rfl rfl))) inferInstance
   ·skip
    have hjn : j = (sonsN c i).length := by omega
    subst hjn
    refine XK.exit rfl ?_
    refine XK.seq (XK.region rfl (XO.q (Q.move rfl) ?_))
    refine XO.len rfl fun l48 => ?_
    rw [il]
    refine XO.q (Q.gtr rfl rfl) ?_
    refine XO.q (Q.move rfl) ?_
    refine XO.q (Quiet.guardT rfl rfl fun g51 p51 => Q.move rfl) ?_
    refine XO.q (Quiet.guardT rfl rfl fun g52 p52 => Q.fieldAddr rfl) ?_
    refine XO.q (Quiet.guardT rfl rfl fun g53 p53 => Q.ld (lzv g53 rfl) rfl) ?_
    refine XO.q (Quiet.guardT rfl rfl fun g54 p54 => Q.lss (lzv g54 rfl) (lzv g54 rfl)) ?_
    refine XO.q (Quiet.guardT rfl rfl fun g55 p55 => Q.move (lzv g55 rfl)) ?_
    refine XO.q (Quiet.guard2 rfl rfl fun g56a g56b => have p56a := bpT g56a; have p56b := bpF g56b; Q.move rfl) ?_
    refine XO.q (Quiet.guard2 rfl rfl fun g57a g57b => have p57a := bpT g57a; have p57b := bpF g57b; Q.fieldAddr rfl) ?_
    refine XO.q (Quiet.guard2 rfl rfl fun g58a g58b => have p58a := bpT g58a; have p58b := bpF g58b; Q.ld (lzv g58b (lzv g58a rfl)) rfl) ?_
    refine XO.q (Quiet.guard2 rfl rfl fun g59a g59b => have p59a := bpT g59a; have p59b := bpF g59b; Q.gtr (lzv g59b (lzv g59a rfl)) (lzv g59b (lzv g59a rfl))) ?_
    refine XO.q (Quiet.guardT rfl rfl fun g60 p60 => Q.or (lzv g60 rfl) (fun hp => (lzv hp (lzv g60 rfl)))) ?_
    refine XO.q (Q.and rfl (fun hp => lzv hp rfl)) ?_
    refine XO.done ?_
    refine XK.if rfl (fun c3 => ?_) (fun c3 => ?_)
    ·skip
     refine XK.region rfl (XO.q (Q.move rfl) (XO.q (Q.move rfl) ?_))
     refine XO.lit [_] [_] [((i : Nat) : Int)] encI (by rfl) (by rfl) rfl (by rfl) (by exact .c 0 1 rfl rfl rfl (.n _)) (fun _ => rfl) (by rfl) rfl (by infer_instance) rfl fun v64 h64 O64 => ?_
     refine XO.append rfl rfl rfl rfl (by simp only [ints_len, List.length_cons, List.length_nil]; omega) fun v65 h65 O65 => ?_
     refine XO.q (Q.assign rfl) (XO.done ?_)
     refine XK.inBlock ?_
     refine XK.region rfl ?_
     refine XO.q (Q.add rfl rfl ⟨by omega, by omega⟩) ?_
     refine XO.q (Q.move rfl) (XO.done ?_)
     exact ih0 (i + 1, v65, h65) _ _ ⟨by dsimp only; omega, by dsimp only; rw [brokenTo, if_pos (show isBroken c i from c3), ints_snoc]; exact O65⟩ (by first | omega | (dsimp only; omega)) (.c rfl (.c rfl (.base 113 rfl rfl))) inferInstance
    ·skip
     refine XK.skip ?_
     refine XK.inBlock ?_
     refine XK.region rfl ?_
     refine XO.q (Q.add rfl rfl ⟨by omega, by omega⟩) ?_
     refine XO.q (Q.move rfl) (XO.done ?_)
     exact ih0 (i + 1, vo, ko) _ _ ⟨by dsimp only; omega, by dsimp only; rw [brokenTo, if_neg (show ¬ isBroken c i from c3)]; exact OO⟩ (by first | omega | (dsimp only; omega)) (.c rfl (.c rfl (.base 108 rfl rfl))) inferInstance
  ·skip
   refine XK.exit rfl ?_
   refine XK.seq (XK.region rfl (XO.q (Q.move rfl) (XO.q (Q.assign rfl) (XO.q (Q.assign rfl) (XO.done ?_)))))
   refine XK.rt [ko] Tryz.func33 Tryz.results33 (.t rfl (.t rfl .n)) ?_
   have hin : i = c.nodes.length := by omega
   subst hin
   have hw0 : brokenG c = (ints (brokenTo c c.nodes.length), 0) := by rw [brokenG, if_neg c0]
   rw [hw0]
   exact ⟨vo, ko, rfl, rfl, OO⟩
end Go.X.Me

set_option linter.unusedSimpArgs false
set_option linter.unusedVariables false
set_option maxRecDepth 20000
namespace Go.X
open Go.Proofs
theorem there_spec : Spec Tryz.prog 14 #[] [] [] (fun v hs => v = .bool true ∧ hs = []) := by
 have nG : ∀ h, Arr (.slice none 0 0) Bk.encGen 5 h ([] : List Bk.BGen) := fun h => Arr.nil (fun _ => rfl)
 have nI : ∀ h, Arr (.slice none 0 0) encI 1 h ([] : List Int) := fun h => Arr.nil (fun _ => rfl)
 have nW : ∀ h, Arr (.slice none 0 0) Ht.encWall 3 h ([] : List HWall) := fun h => Arr.nil (fun _ => rfl)
 have nB : ∀ h, Arr (.slice none 0 0) Ht.encBranch 3 h ([] : List HBranch) := fun h => Arr.nil (fun _ => rfl)
 have nC : ∀ h, Arr (.slice none 0 0) Ht.encCooler 5 h ([] : List HCooler) := fun h => Arr.nil (fun _ => rfl)
 have nJ : ∀ h, Arr (.slice none 0 0) Ma.encJob 4 h ([] : List Ma.KJob) := fun h => Arr.nil (fun _ => rfl)
 refine Spec.intro (fn := Tryz.f14) (N := 118) Tryz.func14 rfl Tryz.ntmps14 rfl fun B => ?_
 refine XK.seq (XK.region rfl (XO.q (Q.assign rfl) (XO.done (XK.seq (XK.region rfl ?_)))))
 refine XO.q (Q.build [_, _, _, _] (.c 0 1 rfl rfl rfl (.c 1 1 rfl rfl rfl (.c 2 1 rfl rfl rfl (.n _))))) ?_
 refine XO.lit [_, _, _, _] [_, _, _, _] [⟨30, 30, 10, 0⟩] Bk.encBat (by rfl) (by rfl) rfl (by rfl) (by exact .c 0 4 rfl rfl rfl (.n _)) (fun _ => rfl) (by rfl) rfl (by infer_instance) rfl fun v15 h15 O15 => ?_
 refine XO.q (Q.build [_, _] (.c 0 1 rfl rfl rfl (.n _))) ?_
 refine XO.q (Q.build [_, _] (.c 0 1 rfl rfl rfl (.c 1 1 rfl rfl rfl (.n _)))) ?_
 refine XO.lit [_, _] [_, _] [⟨5, 10⟩] Bk.encSpan (by rfl) (by rfl) rfl (by rfl) (by exact .c 0 2 rfl rfl rfl (.n _)) (fun _ => rfl) (by rfl) rfl (by infer_instance) rfl fun v18 h18 O18 => ?_
 refine XO.call Tryz.call29 rfl rfl rfl (Bk.Run_spec thB v15 (.slice none 0 0) h15 h15 (ib := O15.arr) (ig := nG _) thL v18 h18 (il := O18.arr) [] (.slice none 0 0) h15 (jf := nI _)) fun v19 s19 R19 => ?_
 obtain ⟨ve, vn, ke, kn, rfl, rfl, OE, OB⟩ := R19
 dsimp only [lcA, lnA]
 rw [if_pos th_ready] at OE OB
 rw [th_ready, if_pos rfl]
 dsimp only [Bk.resV]
 rw [th_dark]
 refine XO.q (Q.move rfl) ?_
 refine XO.q (Q.extract rfl rfl) ?_
 refine XO.q (Q.extract rfl rfl) ?_
 refine XO.alloc fun b1 => ?_
 refine XO.st rfl rfl rfl ?_
 refine XO.q (Q.assign rfl) (XO.done (XK.seq (XK.region rfl ?_)))
 refine XO.q (Q.build [_, _] (.c 0 1 rfl rfl rfl (.c 1 1 rfl rfl rfl (.n _)))) ?_
 refine XO.lit [_, _] [_, _] [⟨2, 9⟩] Ht.encRoom (by rfl) (by rfl) rfl (by rfl) (by exact .c 0 2 rfl rfl rfl (.n _)) (fun _ => rfl) (by rfl) rfl (by infer_instance) rfl fun v24 h24 O24 => ?_
 refine XO.q (Q.build [_, _, _, _] (.c 0 1 rfl rfl rfl (.n _))) ?_
 refine XO.lit [_] [_] [5] encI (by rfl) (by rfl) rfl (by rfl) (by exact .c 0 1 rfl rfl rfl (.n _)) (fun _ => rfl) (by rfl) rfl (by infer_instance) rfl fun v26 h26 O26 => ?_
 refine XO.lit [_] [_] [4] encI (by rfl) (by rfl) rfl (by rfl) (by exact .c 0 1 rfl rfl rfl (.n _)) (fun _ => rfl) (by rfl) rfl (by infer_instance) rfl fun v27 h27 O27 => ?_
 refine XO.q (Q.build [_, _, _] (.c 0 1 rfl rfl rfl (.n _))) ?_
 refine XO.call Tryz.call16 rfl rfl rfl (Ht.Next_spec thH v24 (.slice none 0 0) (.slice none 0 0) (.slice none 0 0) h24 h24 h24 h24 (ir := O24.arr) (iw := nW _) (ib := nB _) (ic := nC _) [5] v26 h26 ⟨[4], 0, 0⟩ v27 h27) fun v29 s29 R29 => ?_
 obtain ⟨w29, k29, rfl, rfl, O29⟩ := R29
 dsimp only [lcA, lnA]
 rw [th_next1] at O29
 rw [th_next2]
 refine XO.q (Q.move rfl) ?_
 refine XO.q (Q.extract rfl rfl) ?_
 refine XO.q (Q.extract rfl rfl) ?_
 refine XO.q (Q.assign rfl) (XO.q (Q.assign rfl) (XO.done (XK.seq (XK.region rfl ?_))))
 refine XO.lit [_] [_] [0] encI (by rfl) (by rfl) rfl (by rfl) (by exact .c 0 1 rfl rfl rfl (.n _)) (fun _ => rfl) (by rfl) rfl (by infer_instance) rfl fun v33 h33 O33 => ?_
 refine XO.lit [_] [_] [true] encB (by rfl) (by rfl) rfl (by rfl) (by exact .c 0 1 rfl rfl rfl (.n _)) (fun _ => rfl) (by rfl) rfl (by infer_instance) rfl fun v34 h34 O34 => ?_
 refine XO.q (Q.build [_, _, _, _, _] (.c 0 1 rfl rfl rfl (.c 1 1 rfl rfl rfl (.c 2 1 rfl rfl rfl (.c 3 1 rfl rfl rfl (.c 4 1 rfl rfl rfl (.n _))))))) ?_
 refine XO.call Tryz.call12 rfl rfl rfl (Ke.Solve_spec thG v33 v34 h33 h34 (sn := O33.arr) (sg := O34.arr)) fun v36 s36 R36 => ?_
 obtain ⟨p1, p2, p3, q1, q2, q3, rfl, rfl, OP1, OP2, OP3⟩ := R36
 dsimp only [lcA, lnA]
 rw [th_solve] at OP1
 have hl1 : (0 : Int).toNat < ([true] : List Bool).length := by decide
 rw [th_game]
 refine XO.q (Q.move rfl) ?_
 refine XO.q (Q.extract rfl rfl) ?_
 refine XO.q (Q.extract rfl rfl) ?_
 refine XO.alloc fun b5 => ?_
 refine XO.st rfl rfl rfl ?_
 refine XO.q (Q.assign rfl) (XO.done (XK.seq (XK.region rfl ?_)))
 refine XO.q (Q.build [_, _] (.c 0 1 rfl rfl rfl (.c 1 1 rfl rfl rfl (.n _)))) ?_
 refine XO.q (Q.build [_, _] (.c 0 1 rfl rfl rfl (.c 1 1 rfl rfl rfl (.n _)))) ?_
 refine XO.lit [_, _, _, _] [_, _, _, _] [⟨1, 1⟩, ⟨3, 3⟩] Pl.encDraw (by rfl) (by rfl) rfl (by rfl) (by exact .c 0 2 rfl rfl rfl (.c 2 2 rfl rfl rfl (.n _))) (fun _ => rfl) (by rfl) rfl (by infer_instance) rfl fun v42 h42 O42 => ?_
 refine XO.q (Q.build [_, _, _, _, _, _] (.c 3 1 rfl rfl rfl (.n _))) ?_
 refine XO.lit [_, _, _, _, _, _] [_, _, _, _, _, _] [(v42, ⟨0, 0, 0, [⟨1, 1⟩, ⟨3, 3⟩], 0, 0⟩)] Pl.encPJ (by rfl) (by rfl) rfl (by rfl) (by exact .c 0 6 rfl rfl rfl (.n _)) (fun _ => rfl) (by rfl) rfl (by infer_instance) rfl fun v44 h44 O44 => ?_
 refine XO.call Tryz.call26 rfl rfl rfl (Pl.Chance_spec [(v42, ⟨0, 0, 0, [⟨1, 1⟩, ⟨3, 3⟩], 0, 0⟩)] v44 h44 h42 (fun i hi => by have e : i = 0 := (by simp at hi; omega); subst e; exact O42.arr) 2) fun v45 s45 R45 => ?_
 obtain ⟨rfl, rfl⟩ := R45
 dsimp only [lcA, lnA]
 rw [show Pl.chanceG (List.map Prod.snd [(v42, (⟨0, 0, 0, [⟨1, 1⟩, ⟨3, 3⟩], 0, 0⟩ : Pl.PJob))]) 2 = (⟨3, 4⟩, 0) from th_chance]
 refine XO.q (Q.move rfl) ?_
 refine XO.q (Q.extract rfl rfl) ?_
 refine XO.q (Q.extract rfl rfl) ?_
 refine XO.alloc fun b7 => ?_
 refine XO.st rfl rfl rfl ?_
 refine XO.q (Q.assign rfl) (XO.done (XK.seq (XK.region rfl ?_)))
 refine XO.q (Q.build [_, _, _, _, _, _] (.c 0 1 rfl rfl rfl (.c 3 1 rfl rfl rfl (.n _)))) ?_
 refine XO.lit [_, _, _, _, _, _] [_, _, _, _, _, _] [⟨7, 0, 0, 3, 0, 0⟩] Ma.encHour (by rfl) (by rfl) rfl (by rfl) (by exact .c 0 6 rfl rfl rfl (.n _)) (fun _ => rfl) (by rfl) rfl (by infer_instance) rfl fun v50 h50 O50 => ?_
 refine XO.q (Q.build [_, _, _, _, _, _, _, _] (.c 0 1 rfl rfl rfl (.c 6 1 rfl rfl rfl (.n _)))) ?_
 refine XO.lit [_] [_] [0] encI (by rfl) (by rfl) rfl (by rfl) (by exact .c 0 1 rfl rfl rfl (.n _)) (fun _ => rfl) (by rfl) rfl (by infer_instance) rfl fun v52 h52 O52 => ?_
 refine XO.q (Q.build [_, _, _] (.c 1 1 rfl rfl rfl (.n _))) ?_
 refine XO.call Tryz.call48 rfl rfl rfl (Ma.Cost_spec thD v50 (.slice none 0 0) h50 h50 (ih := O50.arr) (ij := nJ _) ⟨[], [0], 0⟩ (.slice none 0 0) v52 h50 h52 (js := nI _) (jc := O52.arr)) fun v54 s54 R54 => ?_
 obtain ⟨rfl, rfl⟩ := R54
 dsimp only [lcA, lnA]
 rw [th_cost]
 refine XO.q (Q.move rfl) ?_
 refine XO.q (Q.extract rfl rfl) ?_
 refine XO.q (Q.extract rfl rfl) ?_
 refine XO.q (Q.assign rfl) (XO.q (Q.assign rfl) (XO.done (XK.seq (XK.region rfl ?_))))
 refine XO.q (Q.build [_, _, _] (.c 0 1 rfl rfl rfl (.n _))) ?_
 refine XO.q (Q.build [_, _, _] (.n _)) ?_
 refine XO.lit [_, _, _, _, _, _] [_, _, _, _, _, _] [⟨-1, 0, 0⟩, ⟨0, 0, 0⟩] Me.encNode (by rfl) (by rfl) rfl (by rfl) (by exact .c 0 3 rfl rfl rfl (.c 3 3 rfl rfl rfl (.n _))) (fun _ => rfl) (by rfl) rfl (by infer_instance) rfl fun v60 h60 O60 => ?_
 refine XO.lit [_, _] [_, _] [4, 5] encI (by rfl) (by rfl) rfl (by rfl) (by exact .c 0 1 rfl rfl rfl (.c 1 1 rfl rfl rfl (.n _))) (fun _ => rfl) (by rfl) rfl (by infer_instance) rfl fun v61 h61 O61 => ?_
 refine XO.q (Q.build [_, _] (.c 0 1 rfl rfl rfl (.c 1 1 rfl rfl rfl (.n _)))) ?_
 refine XO.call Tryz.call33 rfl rfl rfl (Me.Broken_spec thM v60 v61 h60 h61 (jn := O60.arr) (jv := O61.arr)) fun v63 s63 R63 => ?_
 obtain ⟨w63, k63, rfl, rfl, O63⟩ := R63
 dsimp only [lcA, lnA]
 rw [show (Me.brokenG thM).1 = [0] by rw [th_broken]] at O63
 rw [th_broken]
 refine XO.q (Q.move rfl) ?_
 refine XO.q (Q.extract rfl rfl) ?_
 refine XO.q (Q.extract rfl rfl) ?_
 refine XO.q (Q.assign rfl) (XO.q (Q.assign rfl) (XO.done (XK.seq (XK.region rfl (XO.q (Q.move rfl) ?_)))))
 refine XO.q (Q.eql rfl rfl) ?_
 refine XO.q (Q.move rfl) ?_
 refine XO.q (Quiet.guardT rfl rfl fun g69 p69 => Q.move rfl) ?_
 refine XO.q (Quiet.guardT rfl rfl fun g70 p70 => Q.eql (lzv rfl rfl) rfl) ?_
 refine XO.q (Q.and rfl (fun hp => lzv hp rfl)) ?_
 refine XO.q (Q.move rfl) ?_
 refine XO.q (Quiet.guardT rfl rfl fun g73 p73 => Q.move rfl) ?_
 refine XO.q (Quiet.guardT rfl rfl fun g74 p74 => Q.eql (lzv rfl rfl) rfl) ?_
 refine XO.q (Q.and rfl (fun hp => lzv hp rfl)) ?_
 refine XO.q (Q.move rfl) ?_
 refine XO.q (Quiet.guardT rfl rfl fun g77 p77 => Q.move rfl) ?_
 refine XO.q (Quiet.guardT rfl rfl fun g78 p78 => Q.eql (lzv rfl rfl) rfl) ?_
 refine XO.q (Q.and rfl (fun hp => lzv hp rfl)) ?_
 refine XO.q (Q.move rfl) ?_
 refine XO.q (Quiet.guardT rfl rfl fun g81 p81 => Q.move rfl) ?_
 refine XO.q (Quiet.guardT rfl rfl fun g82 p82 => Q.eql (lzv rfl rfl) rfl) ?_
 refine XO.q (Q.and rfl (fun hp => lzv hp rfl)) ?_
 refine XO.q (Q.move rfl) ?_
 refine XO.q (Quiet.guardT rfl rfl fun g85 p85 => Q.move rfl) ?_
 refine XO.q (Quiet.guardT rfl rfl fun g86 p86 => Q.eql (lzv rfl rfl) rfl) ?_
 refine XO.q (Q.and rfl (fun hp => lzv hp rfl)) ?_
 refine XO.q (Q.move rfl) ?_
 refine XO.q (Quiet.guardT rfl rfl fun g89 p89 => Q.fieldAddr rfl) ?_
 refine XO.q (Quiet.guardT rfl rfl fun g90 p90 => Q.ld (lzv rfl rfl) rfl) ?_
 refine XO.q (Quiet.guardT rfl rfl fun g91 p91 => Q.eql (lzv rfl rfl) rfl) ?_
 refine XO.q (Q.and rfl (fun hp => lzv hp rfl)) ?_
 refine XO.q (Q.move rfl) ?_
 refine XO.q (Quiet.guardT rfl rfl fun g94 p94 => Q.move rfl) ?_
 refine XO.litG [_] [_] [7] encI rfl rfl rfl (by rfl) (by rfl) rfl (by rfl) (by exact .c 0 1 rfl rfl rfl (.n _)) (fun _ => rfl) (by rfl) rfl (by infer_instance) rfl fun v95 h95 O95 => ?_
 refine XO.callS rfl rfl rfl Tryz.call35 rfl (.c (lzv rfl rfl) (.c rfl .n)) rfl (Bk.equalI w29 v95 k29 h95 [7] [7]) fun v96 s96 R96 => ?_
 obtain ⟨rfl, rfl⟩ := R96
 dsimp only [lcA, lnA]
 refine XO.q (Q.and rfl (fun _ => rfl)) ?_
 refine XO.q (Q.move rfl) ?_
 refine XO.q (Quiet.guardT rfl rfl fun g99 p99 => Q.fieldAddr rfl) ?_
 refine XO.q (Quiet.guardT rfl rfl fun g100 p100 => Q.ld (lzv rfl rfl) rfl) ?_
 refine XO.q (Quiet.guardT rfl rfl fun g101 p101 => Q.ix (lzv rfl rfl) rfl (by decide) (by decide)) ?_
 refine XO.q (Quiet.guardT rfl rfl fun g102 p102 => Q.ldE (lzv rfl rfl) (by first | assumption | omega) rfl) ?_
 refine XO.q (Q.and rfl (fun hp => lzv hp rfl)) ?_
 refine XO.q (Q.move rfl) ?_
 refine XO.q (Quiet.guardT rfl rfl fun g105 p105 => Q.ldA [_, _] rfl rfl rfl) ?_
 refine XO.q (Quiet.guardT rfl rfl fun g106 p106 => Q.build [_, _] (.c 0 1 rfl rfl rfl (.c 1 1 rfl rfl rfl (.n _)))) ?_
 refine XO.q (Quiet.guardT rfl rfl fun g107 p107 => Q.eqlS (us := [_, _]) (vs := [_, _]) rfl rfl inferInstance (by kernel_rfl) (by kernel_rfl) (.c rfl inferInstance inferInstance rfl rfl (.c rfl inferInstance inferInstance rfl rfl .n))) ?_
 refine XO.q (Q.and rfl (fun hp => lzv hp rfl)) ?_
 refine XO.q (Q.move rfl) ?_
 refine XO.q (Quiet.guardT rfl rfl fun g110 p110 => Q.move rfl) ?_
 refine XO.q (Quiet.guardT rfl rfl fun g111 p111 => Q.eql (lzv rfl rfl) rfl) ?_
 refine XO.q (Q.and rfl (fun hp => lzv hp rfl)) ?_
 refine XO.q (Q.move rfl) ?_
 refine XO.q (Quiet.guardT rfl rfl fun g114 p114 => Q.move rfl) ?_
 refine XO.litG [_] [_] [0] encI rfl rfl rfl (by rfl) (by rfl) rfl (by rfl) (by exact .c 0 1 rfl rfl rfl (.n _)) (fun _ => rfl) (by rfl) rfl (by infer_instance) rfl fun v115 h115 O115 => ?_
 refine XO.callS rfl rfl rfl Tryz.call35 rfl (.c (lzv rfl rfl) (.c rfl .n)) rfl (Bk.equalI w63 v115 k63 h115 [0] [0]) fun v116 s116 R116 => ?_
 obtain ⟨rfl, rfl⟩ := R116
 dsimp only [lcA, lnA]
 refine XO.q (Q.and rfl (fun _ => rfl)) ?_
 refine XO.q (Q.assign rfl) (XO.done ?_)
 refine XK.rt [] Tryz.func14 Tryz.results14 (.t rfl .n) ?_
 exact ⟨rfl, rfl⟩
end Go.X

set_option linter.unusedSimpArgs false
set_option linter.unusedVariables false
set_option maxRecDepth 20000
namespace Go.X.Ht
open Go.Proofs
theorem warm_made (vr vw vb vc : Value) (hr : PHeap) (rs : List HRoom) [ir : Arr vr encRoom 2 hr rs] [iw : One vw] [ib : One vb] [ic : One vc] (hn : rs.length ≤ 8) (vl : Value) (hl : PHeap) (l : List UInt8) [sl : Arr vl encU8 1 hl l] : Spec Tryz.prog 20 #[.agg #[vr, vw, vb, vc], vl] [] [hr, hl]
  (fun v hs => ∃ t k, hs = [k] ∧ OArr v encI 1 3 k t ∧ WarmOk rs.length t) := by
 have hnil : OArr (.slice none 0 0) encI 1 3 emp ([] : List Int) := OArr.nil (fun _ => rfl)
 refine Spec.intro (fn := Tryz.f20) (N := 24) Tryz.func20 rfl Tryz.ntmps20 rfl fun B => ?_
 refine XK.seq (XK.region rfl ?_)
 refine XO.box rfl fun b2 => ?_
 refine XO.q (Q.assign rfl) (XO.done (XK.seq (XK.region rfl (XO.q (Q.move rfl) ?_))))
 refine XO.q (Q.build [_, _] (.c 0 1 rfl rfl rfl (.n _))) ?_
 refine XO.box rfl fun b9 => ?_
 refine XO.q (Q.assign rfl) (XO.done (XK.seq (XK.region rfl (XO.q (Q.assign rfl) (XO.done ?_)))))
 refine XK.seq (XK.seq (XK.region rfl ?_))
 refine XO.q (Q.fieldAddr rfl) ?_
 refine XO.q (Q.ld rfl rfl) ?_
 refine XO.len rfl fun l12 => ?_
 refine XO.q (Q.move rfl) (XO.done (XK.block ?_))
 refine XK.while (X := Nat × Value × PHeap × List Int) [6, 13, 14, 15, 16, 17, 18, 19, 20, 21, 22] (fun ⟨i, v, k, t⟩ => [(13, some (.int .i64 (i : Nat))), (6, some (v))]) (fun ⟨i, v, k, t⟩ => [blk b9 [vl, .int .i64 ((i : Nat) : Int)] 186, k]) (fun ⟨i, v, k, t⟩ => i ≤ rs.length ∧ OArr v encI 1 3 k t ∧ WarmOk i t) (fun ⟨i, v, k, t⟩ => rs.length - i) (0, .slice none 0 0, emp, []) [blk b9 [vl, .int .i64 ((0 : Nat) : Int)] 186, emp] rfl ⟨by omega, hnil, rfl, fun j hj => by cases hj⟩ (.c rfl (.c rfl (.base 0 rfl rfl))) ?_
 rintro ⟨i, v, k, t⟩ ⟨hi, OT, htl, htr⟩ ih0
 dsimp only [lcA, lnA] at ih0 ⊢
 refine XK.seq (XK.region rfl ?_)
 refine XO.q (Q.lss rfl rfl) ?_
 refine XO.done (XK.seq ?_)
 refine XK.if rfl (fun c0 => ?_) (fun c0 => ?_)
 ·skip
  refine XK.skip (XK.seq (XK.block (XK.region rfl (XO.q (Q.move rfl) (XO.q (Q.move rfl) ?_)))))
  refine XO.callB b9 Tryz.call57 rfl rfl rfl (next7 b9 vl hl l (i) (256) (by omega) (by omega) (by omega)) fun v17 s17 R17 => ?_
  obtain ⟨rfl, n17, rfl, h17⟩ := R17
  dsimp only [lcA, lnA]
  refine XO.q (Q.mul rfl rfl ⟨by omega, by omega⟩) ?_
  refine XO.q (Q.add rfl rfl ⟨by omega, by omega⟩) ?_
  refine XO.lit [_] [_] [_] encI (by rfl) (by rfl) rfl (by rfl) (by exact .c 0 1 rfl rfl rfl (.n _)) (fun _ => rfl) (by rfl) rfl (by infer_instance) rfl fun v20 h20 O20 => ?_
  refine XO.append rfl rfl rfl rfl (by simp only [List.length_cons, List.length_nil]; omega) fun v21 h21 O21 => ?_
  refine XO.q (Q.assign rfl) (XO.done ?_)
  refine XK.inBlock ?_
  refine XK.region rfl ?_
  refine XO.q (Q.add rfl rfl ⟨by omega, by omega⟩) ?_
  refine XO.q (Q.move rfl) (XO.done ?_)
  exact ih0 (i + 1, v21, h21, _) _ _ ⟨by dsimp only; omega, O21, snoc_ok htl htr (by omega)⟩ (by first | omega | (dsimp only; omega)) (.c rfl (.c rfl (.base 24 rfl rfl))) inferInstance
 ·skip
  refine XK.exit rfl ?_
  refine XK.seq (XK.region rfl (XO.q (Q.move rfl) (XO.q (Q.assign rfl) (XO.done ?_))))
  refine XK.rt [k] Tryz.func20 Tryz.results20 (.t rfl .n) ?_
  have hin : i = rs.length := by omega
  rw [hin] at htl
  exact ⟨t, k, rfl, OT, htl, htr⟩
theorem cased_made (vr vw vb vc : Value) (hr : PHeap) (rs : List HRoom) [ir : Arr vr encRoom 2 hr rs] [iw : One vw] [ib : One vb] [ic : One vc] (hn : rs.length ≤ 8) (vl : Value) (hl : PHeap) (l : List UInt8) [sl : Arr vl encU8 1 hl l] : Spec Tryz.prog 56 #[.agg #[vr, vw, vb, vc], vl] [] [hr, hl]
  (fun v hs => ∃ (c : HCase) (v1 : Value) (k : PHeap), v = .agg #[v1, .int .i64 c.out, .int .i64 c.pump] ∧ hs = [k] ∧ OArr v1 encI 1 3 k c.load ∧ CasedOk rs.length c) := by
 have hnil : OArr (.slice none 0 0) encI 1 3 emp ([] : List Int) := OArr.nil (fun _ => rfl)
 refine Spec.intro (fn := Tryz.f56) (N := 33) Tryz.func56 rfl Tryz.ntmps56 rfl fun B => ?_
 refine XK.seq (XK.region rfl ?_)
 refine XO.box rfl fun b2 => ?_
 refine XO.alloc fun b4 => ?_
 refine XO.done (XK.seq (XK.region rfl (XO.q (Q.move rfl) ?_)))
 refine XO.q (Q.build [_, _] (.c 0 1 rfl rfl rfl (.n _))) ?_
 refine XO.box rfl fun b9 => ?_
 refine XO.q (Q.assign rfl) (XO.done (XK.seq (XK.region rfl (XO.q (Q.move rfl) ?_))))
 refine XO.callB b9 Tryz.call57 rfl rfl rfl (next7 b9 vl hl l (0) (256) (by omega) (by omega) (by omega)) fun v11 s11 R11 => ?_
 obtain ⟨rfl, n11, rfl, h11⟩ := R11
 dsimp only [lcA, lnA]
 refine XO.q (Q.mul rfl rfl ⟨by omega, by omega⟩) ?_
 refine XO.q (Q.add rfl rfl ⟨by omega, by omega⟩) ?_
 refine XO.q (Q.move rfl) ?_
 refine XO.callB b9 Tryz.call57 rfl rfl rfl (next7 b9 vl hl l (0 + 1) (256) (by omega) (by omega) (by omega)) fun v15 s15 R15 => ?_
 obtain ⟨rfl, n15, rfl, h15⟩ := R15
 dsimp only [lcA, lnA]
 refine XO.q (Q.mul rfl rfl ⟨by omega, by omega⟩) ?_
 refine XO.q (Q.build [_, _, _] (.c 1 1 rfl rfl rfl (.c 2 1 rfl rfl rfl (.n _)))) ?_
 refine XO.alloc fun b6 => ?_
 refine XO.st rfl rfl rfl ?_
 refine XO.done (XK.seq (XK.seq (XK.region rfl ?_)))
 refine XO.q (Q.fieldAddr rfl) ?_
 refine XO.q (Q.ld rfl rfl) ?_
 refine XO.len rfl fun l20 => ?_
 refine XO.q (Q.move rfl) (XO.done (XK.block ?_))
 refine XK.while (X := Nat × Value × PHeap × List Int) [21, 22, 23, 24, 25, 26, 27, 28, 29, 30, 31] (fun ⟨i, v, k, t⟩ => [(21, some (.int .i64 (i : Nat)))]) (fun ⟨i, v, k, t⟩ => [blk b6 [v, .int .i64 (10000 + 100 * (n11 : Int)), .int .i64 (10 * (n15 : Int))] 31, blk b9 [vl, .int .i64 ((i + 1 + 1 : Nat) : Int)] 186, k]) (fun ⟨i, v, k, t⟩ => i ≤ rs.length ∧ OArr v encI 1 3 k t ∧ LoadOk i t) (fun ⟨i, v, k, t⟩ => rs.length - i) (0, .slice none 0 0, emp, []) [blk b6 [.slice none 0 0, .int .i64 (10000 + 100 * (n11 : Int)), .int .i64 (10 * (n15 : Int))] 31, blk b9 [vl, .int .i64 ((0 + 1 + 1 : Nat) : Int)] 186, emp] rfl ⟨by omega, hnil, rfl, fun j hj => by cases hj⟩ (.c rfl (.base 0 rfl rfl)) ?_
 rintro ⟨i, v, k, t⟩ ⟨hi, OT, htl, htr⟩ ih0
 dsimp only [lcA, lnA] at ih0 ⊢
 refine XK.seq (XK.region rfl ?_)
 refine XO.q (Q.lss rfl rfl) ?_
 refine XO.done (XK.seq ?_)
 refine XK.if rfl (fun c0 => ?_) (fun c0 => ?_)
 ·skip
  refine XK.skip (XK.seq (XK.block ?_))
  refine XK.drawn [0, 1, 2, 4, 7] [b6] [] (.q 0 (.q 1 (.q 2 (.br 3 true (.q 4 (.br 5 true (.br 6 true (.q 7 (.br 8 false .done .stop)) .stop) .stop)) .stop)))) Tryz.mixed rfl (by kernel_rfl) ?_
  refine XT.q rfl rfl (Q.fieldAddr rfl) ?_
  refine XT.q rfl rfl (Q.ld rfl rfl) ?_
  refine XT.q rfl rfl (Q.move rfl) ?_
  refine XT.callB b9 rfl rfl Tryz.call57 rfl rfl rfl (next7 b9 vl hl l (i + 1 + 1) (256) (by omega) (by omega) (by omega)) (fun v26 s26 R26 => ?_) XT.stop
  obtain ⟨rfl, n26, rfl, h26⟩ := R26
  dsimp only [lcA, lnA]
  refine ⟨inferInstance, ?_⟩
  refine XT.q rfl rfl (Q.mul rfl rfl ⟨by omega, by omega⟩) ?_
  refine XT.lit [_] [_] [_] encI rfl rfl (by rfl) (by rfl) rfl (by rfl) (by exact .c 0 1 rfl rfl rfl (.n _)) (fun _ => rfl) (by rfl) rfl (by infer_instance) rfl (fun v28 h28 O28 => ⟨inferInstance, ?_⟩) XT.stop
  refine XT.append rfl rfl rfl rfl rfl rfl (by simp only [List.length_cons, List.length_nil]; omega) (fun v29 h29 O29 => ⟨inferInstance, ?_⟩) XT.stop
  refine XT.q rfl rfl (Q.fieldAddr rfl) ?_
  refine XT.st rfl rfl rfl rfl rfl ⟨inferInstance, ?_⟩ XT.stop
  refine XT.done ?_
  refine XK.inBlock ?_
  refine XK.region rfl ?_
  refine XO.q (Q.add rfl rfl ⟨by omega, by omega⟩) ?_
  refine XO.q (Q.move rfl) (XO.done ?_)
  exact ih0 (i + 1, v29, h29, _) _ _ ⟨by dsimp only; omega, O29, snoc_ok2 htl htr (by omega)⟩ (by first | omega | (dsimp only; omega)) (.c rfl (.base 23 rfl rfl)) inferInstance
 ·skip
  refine XK.exit rfl ?_
  refine XK.seq (XK.region rfl ?_)
  refine XO.q (Q.ldA [_, _, _] rfl rfl rfl) ?_
  refine XO.st rfl rfl rfl ?_
  refine XO.done ?_
  refine XK.rt [k] Tryz.func56 Tryz.results56 (.cell [_, _, _] rfl rfl rfl (.n)) ?_
  have hin : i = rs.length := by omega
  rw [hin] at htl
  exact ⟨⟨t, 10000 + 100 * (n11 : Int), 10 * (n15 : Int)⟩, v, k, rfl, rfl, OT, ⟨htl, htr⟩, by dsimp only; omega, by dsimp only; omega⟩
end Go.X.Ht

set_option linter.unusedSimpArgs false
set_option linter.unusedVariables false
set_option maxRecDepth 20000
namespace Go.X.Ht
open Go.Proofs
theorem made7 (vl : Value) (hl : PHeap) (l : List UInt8) [sl : Arr vl encU8 1 hl l] : Spec Tryz.prog 55 #[vl] [] [hl]
  (fun v hs => ∃ (h : Hall) (vr vw vb vc : Value) (kr kw kb kc : PHeap), v = .agg #[vr, vw, vb, vc] ∧ hs = [kr, kw, kb, kc] ∧ OArr vr encRoom 2 55 kr h.rooms ∧ OArr vw encWall 3 164 kw h.walls ∧ OArr vb encBranch 3 166 kb h.branches ∧ OArr vc encCooler 5 168 kc h.coolers ∧ MOk h) := by
 have nR : OArr (.slice none 0 0) encRoom 2 55 emp ([] : List HRoom) := OArr.nil (fun _ => rfl)
 have nW : OArr (.slice none 0 0) encWall 3 164 emp ([] : List HWall) := OArr.nil (fun _ => rfl)
 have nB : OArr (.slice none 0 0) encBranch 3 166 emp ([] : List HBranch) := OArr.nil (fun _ => rfl)
 have nC : OArr (.slice none 0 0) encCooler 5 168 emp ([] : List HCooler) := OArr.nil (fun _ => rfl)
 refine Spec.intro (fn := Tryz.f55) (N := 163) Tryz.func55 rfl Tryz.ntmps55 rfl fun B => ?_
 refine XK.seq (XK.region rfl ?_)
 refine XO.alloc fun b2 => ?_
 refine XO.done (XK.seq (XK.region rfl (XO.q (Q.move rfl) ?_)))
 refine XO.q (Q.build [_, _] (.c 0 1 rfl rfl rfl (.n _))) ?_
 refine XO.box rfl fun b14 => ?_
 refine XO.q (Q.assign rfl) (XO.done (XK.seq (XK.region rfl ?_)))
 refine XO.alloc fun b4 => ?_
 refine XO.done (XK.seq (XK.region rfl (XO.q (Q.move rfl) ?_)))
 refine XO.callB b14 Tryz.call57 rfl rfl rfl (next7 b14 vl hl l (0) (4) (by omega) (by omega) (by omega)) fun v16 s16 R16 => ?_
 obtain ⟨rfl, n16, rfl, h16⟩ := R16
 dsimp only [lcA, lnA]
 refine XO.q (Q.add rfl rfl ⟨by omega, by omega⟩) ?_
 rw [show ((1 : Int) + (n16 : Int)) = ((1 + n16 : Nat) : Int) from rfl]
 obtain ⟨n, en⟩ : ∃ n, n = 1 + n16 := ⟨_, rfl⟩
 rw [← en]
 refine XO.q (Q.assign rfl) (XO.done (XK.seq (XK.region rfl (XO.q (Q.move rfl) ?_))))
 refine XO.make encI (0) rfl rfl rfl (by omega) (by omega) (fun _ => rfl) rfl rfl rfl (by dsimp only [encI]; infer_instance) fun v19 h19 O19 => ?_
 refine XO.q (Q.assign rfl) (XO.done (XK.seq (XK.seq (XK.region rfl (XO.q (Q.move rfl) ?_)))))
 refine XO.callB b14 Tryz.call57 rfl rfl rfl (next7 b14 vl hl l (0 + 1) (7) (by omega) (by omega) (by omega)) fun v21 s21 R21 => ?_
 obtain ⟨rfl, n21, rfl, h21⟩ := R21
 dsimp only [lcA, lnA]
 refine XO.q (Q.move rfl) (XO.done (XK.block ?_))
 refine XK.while (X := Nat × Nat × List HWall × Value × PHeap × List Int × PHeap) [7, 22, 23, 24, 25, 26, 27, 28, 29, 30, 31, 32, 33, 34, 35, 36, 37, 38, 39, 40, 41, 42, 43, 44, 45, 46, 47, 48, 49, 50, 51, 52, 53, 54, 55, 56, 57, 58, 59, 60, 61, 62, 63, 64, 65, 66, 67, 68] (fun ⟨k, j, ws, vW, kW, sl, kS⟩ => [(22, some (.int .i64 (k : Nat)))]) (fun ⟨k, j, ws, vW, kW, sl, kS⟩ => [blk b14 [vl, .int .i64 ((j : Nat) : Int)] 186, blk b4 [.slice none 0 0, vW, .slice none 0 0, .slice none 0 0] 28, kW, kS]) (fun ⟨k, j, ws, vW, kW, sl, kS⟩ => k ≤ n21 ∧ j ≤ 2 + k * 3 ∧ ws.length = k ∧ Each (fun _ => WOk n) ws ∧ IsAt n sl (wS ws) ∧ OArr vW encWall 3 164 kW ws ∧ OArr v19 encI 1 3 kS sl) (fun ⟨k, j, ws, vW, kW, sl, kS⟩ => n21 - k) (0, 0 + 1 + 1, [], .slice none 0 0, emp, List.replicate n 0, h19) [blk b14 [vl, .int .i64 ((0 + 1 + 1 : Nat) : Int)] 186, blk b4 [.slice none 0 0, .slice none 0 0, .slice none 0 0, .slice none 0 0] 28, emp, h19] rfl ⟨by omega, by omega, rfl, Each.nil, IsAt.zero n, nW, O19⟩ (.c rfl (.base 0 rfl rfl)) ?_
 rintro ⟨k, j, ws, vW, kW, sl, kS⟩ ⟨hk, hj, hwl, hW, hS, OW, OS⟩ ih0
 dsimp only [lcA, lnA] at ih0 ⊢
 refine XK.seq (XK.region rfl ?_)
 refine XO.q (Q.lss rfl rfl) ?_
 refine XO.done (XK.seq ?_)
 refine XK.if rfl (fun c0 => ?_) (fun c0 => ?_)
 ·skip
  refine XK.skip (XK.seq (XK.block (XK.seq (XK.region rfl (XO.q (Q.move rfl) ?_)))))
  refine XO.q (Q.move rfl) ?_
  refine XO.callB b14 Tryz.call57 rfl rfl rfl (next7 b14 vl hl l (j) (n) (by omega) (by omega) (by omega)) fun v26 s26 R26 => ?_
  obtain ⟨rfl, n26, rfl, h26⟩ := R26
  dsimp only [lcA, lnA]
  refine XO.q (Q.move rfl) (XO.q (Q.move rfl) ?_)
  refine XO.q (Q.add rfl rfl ⟨by omega, by omega⟩) ?_
  rw [show ((n : Int) + 1) = ((n + 1 : Nat) : Int) from rfl]
  refine XO.callB b14 Tryz.call57 rfl rfl rfl (next7 b14 vl hl l (j + 1) (n + 1) (by omega) (by omega) (by omega)) fun v30 s30 R30 => ?_
  obtain ⟨rfl, n30, rfl, h30⟩ := R30
  dsimp only [lcA, lnA]
  refine XO.q (Q.sub rfl rfl ⟨by omega, by omega⟩) ?_
  refine XO.q (Q.move rfl) ?_
  refine XO.callB b14 Tryz.call57 rfl rfl rfl (next7 b14 vl hl l (j + 1 + 1) (40) (by omega) (by omega) (by omega)) fun v33 s33 R33 => ?_
  obtain ⟨rfl, n33, rfl, h33⟩ := R33
  dsimp only [lcA, lnA]
  refine XO.q (Q.build [_, _, _] (.c 0 1 rfl rfl rfl (.c 1 1 rfl rfl rfl (.c 2 1 rfl rfl rfl (.n _))))) ?_
  refine XO.alloc fun b7 => ?_
  refine XO.st rfl rfl rfl ?_
  refine XO.done (XK.seq (XK.seq (XK.region rfl ?_)))
  refine XO.q (Q.fieldAddr rfl) ?_
  refine XO.q (Q.ld rfl rfl) ?_
  refine XO.q (Q.fieldAddr rfl) ?_
  refine XO.q (Q.ld rfl rfl) ?_
  refine XO.q (Q.eql rfl rfl) ?_
  refine XO.done ?_
  refine XK.meet (X := Int) [40] (fun y => []) (fun y => [blk b7 [.int .i64 (n26 : Nat), .int .i64 (y), .int .i64 (n33 : Nat)] 164]) (fun y => -1 ≤ y ∧ y < (n : Int) ∧ y ≠ (n26 : Int)) [blk b7 [.int .i64 (n26 : Nat), .int .i64 ((n30 : Int) - 1), .int .i64 (n33 : Nat)] 164] ?_ ?_
  ·rintro y ⟨hy0, hy1, hy2⟩
   dsimp only [lcA, lnA]
   have hsl := hS.1
   have hs26 := hS.2 n26 (by omega)
   change sl.getD n26 default = _ at hs26
   have hwr := wS_rng hW n26
   refine XK.seq ?_
   refine XK.drawn [0, 1, 2, 3, 5, 6, 7, 8] [b7] [] (.q 0 (.q 1 (.q 2 (.q 3 (.q 5 (.q 6 (.br 4 true (.q 7 (.q 8 (.br 9 false .done .stop))) .stop))))))) Tryz.mixed rfl (by kernel_rfl) ?_
   refine XT.q rfl rfl (Q.move rfl) ?_
   refine XT.q rfl rfl (Q.fieldAddr rfl) ?_
   refine XT.q rfl rfl (Q.ld rfl rfl) ?_
   refine XT.ix rfl rfl rfl rfl (by omega) (by omega) fun i44 => ?_
   refine XT.q rfl rfl (Q.fieldAddr rfl) ?_
   refine XT.q rfl rfl (Q.ld rfl rfl) ?_
   refine XT.qs rfl rfl (Q.ldE rfl (by first | assumption | omega) rfl) ⟨inferInstance, ?_⟩ XT.stop
   refine XT.q rfl rfl (Q.add rfl rfl ⟨by omega, by omega⟩) ?_
   refine XT.ix rfl rfl rfl rfl (by omega) (by omega) fun i49 => ?_
   refine XT.stE _ rfl rfl rfl rfl rfl (by assumption) rfl rfl (fun h10_9 O10_9 => ⟨inferInstance, ?_⟩) XT.stop
   refine XT.done ?_
   refine XK.seq (XK.seq (XK.region rfl ?_))
   refine XO.q (Q.fieldAddr rfl) ?_
   refine XO.q (Q.ld rfl rfl) ?_
   refine XO.q (Q.geq rfl rfl) ?_
   refine XO.done ?_
   refine XK.if rfl (fun c2 => ?_) (fun c2 => ?_)
   ·skip
    have hA := hS.add (a := (n26 : Int)) (p := (n33 : Int)) (by omega) (by omega)
    have hAl := hA.1
    have hAy := hA.2 y.toNat (by omega)
    change (sl.set n26 (sl.getD n26 default + n33)).length = n at hAl
    change (sl.set n26 (sl.getD n26 default + n33)).getD y.toNat default = wS ws y.toNat + (if (n26 : Int) = (y.toNat : Nat) then (n33 : Int) else 0) at hAy
    rw [if_neg (by omega)] at hAy
    have hwy := wS_rng hW y.toNat
    refine XK.drawn [0, 1, 2, 3, 5, 6, 7, 8] [b7] [] (.q 0 (.q 1 (.q 2 (.q 3 (.q 5 (.q 6 (.br 4 true (.q 7 (.q 8 (.br 9 false .done .stop))) .stop))))))) Tryz.mixed rfl (by kernel_rfl) ?_
    refine XT.q rfl rfl (Q.move rfl) ?_
    refine XT.q rfl rfl (Q.fieldAddr rfl) ?_
    refine XT.q rfl rfl (Q.ld rfl rfl) ?_
    refine XT.ix rfl rfl rfl rfl (by omega) (by omega) fun i56 => ?_
    refine XT.q rfl rfl (Q.fieldAddr rfl) ?_
    refine XT.q rfl rfl (Q.ld rfl rfl) ?_
    refine XT.qs rfl rfl (Q.ldE rfl (by first | assumption | omega) rfl) ⟨inferInstance, ?_⟩ XT.stop
    refine XT.q rfl rfl (Q.add rfl rfl ⟨by omega, by omega⟩) ?_
    refine XT.ix rfl rfl rfl rfl (by omega) (by omega) fun i61 => ?_
    refine XT.stE _ rfl rfl rfl rfl rfl (by assumption) rfl rfl (fun h12_9 O12_9 => ⟨inferInstance, ?_⟩) XT.stop
    refine XT.done ?_
    refine XK.region rfl ?_
    refine XO.q (Q.fieldAddr rfl) ?_
    refine XO.q (Q.ld rfl rfl) ?_
    refine XO.q (Q.ldA [_, _, _] rfl rfl rfl) ?_
    refine XO.lit [_, _, _] [_, _, _] [⟨n26, y, n33⟩] encWall (by rfl) (by rfl) rfl (by rfl) (by exact .c 0 3 rfl rfl rfl (.n _)) (fun _ => rfl) (by rfl) rfl (by infer_instance) rfl fun v65 h65 O65 => ?_
    refine XO.append rfl rfl rfl rfl (by simp only [List.length_cons, List.length_nil]; omega) fun v66 h66 O66 => ?_
    refine XO.q (Q.fieldAddr rfl) ?_
    refine XO.st rfl rfl rfl ?_
    refine XO.done ?_
    refine XK.inBlock ?_
    refine XK.region rfl ?_
    refine XO.q (Q.add rfl rfl ⟨by omega, by omega⟩) ?_
    refine XO.q (Q.move rfl) (XO.done ?_)
    exact ih0 (k + 1, j + 1 + 1 + 1, ws ++ [⟨n26, y, n33⟩], v66, h66, _, h12_9) _ _ ⟨by dsimp only; omega, by dsimp only; omega, by dsimp only; rw [List.length_append, hwl]; rfl, hW.snoc ⟨by dsimp only; omega, by dsimp only; omega, by dsimp only; omega, by dsimp only; omega⟩, hS.wall (by omega) (by omega) c2 (by omega) (Ne.symm hy2), O66, O12_9⟩ (by first | omega | (dsimp only; omega)) (.c rfl (.base 97 rfl rfl)) inferInstance
   ·skip
    refine XK.skip (XK.region rfl ?_)
    refine XO.q (Q.fieldAddr rfl) ?_
    refine XO.q (Q.ld rfl rfl) ?_
    refine XO.q (Q.ldA [_, _, _] rfl rfl rfl) ?_
    refine XO.lit [_, _, _] [_, _, _] [⟨n26, y, n33⟩] encWall (by rfl) (by rfl) rfl (by rfl) (by exact .c 0 3 rfl rfl rfl (.n _)) (fun _ => rfl) (by rfl) rfl (by infer_instance) rfl fun v65 h65 O65 => ?_
    refine XO.append rfl rfl rfl rfl (by simp only [List.length_cons, List.length_nil]; omega) fun v66 h66 O66 => ?_
    refine XO.q (Q.fieldAddr rfl) ?_
    refine XO.st rfl rfl rfl ?_
    refine XO.done ?_
    refine XK.inBlock ?_
    refine XK.region rfl ?_
    refine XO.q (Q.add rfl rfl ⟨by omega, by omega⟩) ?_
    refine XO.q (Q.move rfl) (XO.done ?_)
    exact ih0 (k + 1, j + 1 + 1 + 1, ws ++ [⟨n26, y, n33⟩], v66, h66, _, h10_9) _ _ ⟨by dsimp only; omega, by dsimp only; omega, by dsimp only; rw [List.length_append, hwl]; rfl, hW.snoc ⟨by dsimp only; omega, by dsimp only; omega, by dsimp only; omega, by dsimp only; omega⟩, hS.wall1 (a := (n26 : Int)) (b := y) (p := (n33 : Int)) (by omega) (by omega) (by omega), O66, O10_9⟩ (by first | omega | (dsimp only; omega)) (.c rfl (.base 88 rfl rfl)) inferInstance
  ·intro mt1
   dsimp only [lcA, lnA] at mt1
   refine XK.if rfl (fun c1 => ?_) (fun c1 => ?_)
   ·skip
    refine XK.region rfl ?_
    refine XO.q (Q.fieldAddr rfl) ?_
    refine XO.st rfl rfl rfl ?_
    refine XO.done ?_
    exact mt1 (-1) _ _ ⟨by omega, by omega, by omega⟩ (.base 1 rfl rfl) inferInstance
   ·skip
    refine XK.skip ?_
    exact mt1 ((n30 : Int) - 1) _ _ ⟨by omega, by omega, by omega⟩ (.base 0 rfl rfl) inferInstance
 ·skip
  refine XK.exit rfl ?_
  refine XK.seq (XK.seq (XK.region rfl (XO.q (Q.move rfl) ?_)))
  refine XO.callB b14 Tryz.call57 rfl rfl rfl (next7 b14 vl hl l (j) (7) (by omega) (by omega) (by omega)) fun v70 s70 R70 => ?_
  obtain ⟨rfl, n70, rfl, h70⟩ := R70
  dsimp only [lcA, lnA]
  refine XO.q (Q.move rfl) (XO.done (XK.block ?_))
  refine XK.while (X := Nat × Nat × List HBranch × Value × PHeap) [8, 9, 71, 72, 73, 74, 75, 76, 77, 78, 79, 80, 81, 82, 83, 84, 85, 86, 87, 88, 89, 90, 91, 92, 93, 94] (fun ⟨i, q, bs, vB, kB⟩ => [(71, some (.int .i64 (i : Nat)))]) (fun ⟨i, q, bs, vB, kB⟩ => [blk b14 [vl, .int .i64 ((q : Nat) : Int)] 186, blk b4 [.slice none 0 0, vW, vB, .slice none 0 0] 28, kB]) (fun ⟨i, q, bs, vB, kB⟩ => i ≤ n70 ∧ q ≤ 30 + i * 4 ∧ bs.length = i ∧ Each BOk bs ∧ OArr vB encBranch 3 166 kB bs) (fun ⟨i, q, bs, vB, kB⟩ => n70 - i) (0, j + 1, [], .slice none 0 0, emp) [blk b14 [vl, .int .i64 ((j + 1 : Nat) : Int)] 186, blk b4 [.slice none 0 0, vW, .slice none 0 0, .slice none 0 0] 28, emp] rfl ⟨by omega, by omega, rfl, Each.nil, nB⟩ (.c rfl (.base 0 rfl rfl)) ?_
  rintro ⟨i, q, bs, vB, kB⟩ ⟨hi, hq, hbl, hB, OB⟩ ih1
  dsimp only [lcA, lnA] at ih1 ⊢
  refine XK.seq (XK.region rfl ?_)
  refine XO.q (Q.lss rfl rfl) ?_
  refine XO.done (XK.seq ?_)
  refine XK.if rfl (fun c3 => ?_) (fun c3 => ?_)
  ·skip
   refine XK.skip (XK.seq (XK.block (XK.seq (XK.region rfl (XO.q (Q.move rfl) ?_)))))
   refine XO.q (Q.assign rfl) (XO.done (XK.seq (XK.region rfl (XO.q (Q.move rfl) ?_))))
   refine XO.callB b14 Tryz.call57 rfl rfl rfl (next7 b14 vl hl l (q) (101) (by omega) (by omega) (by omega)) fun v75 s75 R75 => ?_
   obtain ⟨rfl, n75, rfl, h75⟩ := R75
   dsimp only [lcA, lnA]
   refine XO.q (Q.move rfl) ?_
   refine XO.callB b14 Tryz.call57 rfl rfl rfl (next7 b14 vl hl l (q + 1) (30) (by omega) (by omega) (by omega)) fun v77 s77 R77 => ?_
   obtain ⟨rfl, n77, rfl, h77⟩ := R77
   dsimp only [lcA, lnA]
   refine XO.q (Q.move rfl) ?_
   refine XO.callB b14 Tryz.call57 rfl rfl rfl (next7 b14 vl hl l (q + 1 + 1) (2) (by omega) (by omega) (by omega)) fun v79 s79 R79 => ?_
   obtain ⟨rfl, n79, rfl, h79⟩ := R79
   dsimp only [lcA, lnA]
   have hm77_79 : n77 * n79 ≤ 29 * 1 := Nat.mul_le_mul (by omega) (by omega)
   have em77_79 : (n77 : Int) * (n79 : Int) = ((n77 * n79 : Nat) : Int) := (Int.natCast_mul ..).symm
   refine XO.q (Q.mul rfl rfl ⟨by omega, by omega⟩) ?_
   refine XO.q (Q.build [_, _, _] (.c 0 1 rfl rfl rfl (.c 1 1 rfl rfl rfl (.c 2 1 rfl rfl rfl (.n _))))) ?_
   refine XO.alloc fun b9 => ?_
   refine XO.st rfl rfl rfl ?_
   refine XO.done (XK.seq (XK.seq (XK.region rfl (XO.q (Q.move rfl) ?_))))
   refine XO.q (Q.gtr rfl rfl) ?_
   refine XO.done ?_
   refine XK.meet (X := Int × Nat) [84, 85, 86, 87] (fun ⟨y, q2⟩ => []) (fun ⟨y, q2⟩ => [blk b14 [vl, .int .i64 ((q2 : Nat) : Int)] 186, blk b9 [.int .i64 (y), .int .i64 (n75 : Nat), .int .i64 ((n77 : Int) * (n79 : Int))] 166]) (fun ⟨y, q2⟩ => (if i = 0 then y = -1 else 0 ≤ y ∧ y < i) ∧ q2 ≤ q + 4) [blk b14 [vl, .int .i64 ((q + 1 + 1 + 1 : Nat) : Int)] 186, blk b9 [.int .i64 (-1), .int .i64 (n75 : Nat), .int .i64 ((n77 : Int) * (n79 : Int))] 166] ?_ ?_
   ·rintro ⟨y, q2⟩ ⟨hy, hq2⟩
    dsimp only [lcA, lnA]
    refine XK.region rfl ?_
    refine XO.q (Q.fieldAddr rfl) ?_
    refine XO.q (Q.ld rfl rfl) ?_
    refine XO.q (Q.ldA [_, _, _] rfl rfl rfl) ?_
    refine XO.lit [_, _, _] [_, _, _] [⟨y, n75, (n77 : Int) * (n79 : Int)⟩] encBranch (by rfl) (by rfl) rfl (by rfl) (by exact .c 0 3 rfl rfl rfl (.n _)) (fun _ => rfl) (by rfl) rfl (by infer_instance) rfl fun v91 h91 O91 => ?_
    refine XO.append rfl rfl rfl rfl (by simp only [List.length_cons, List.length_nil]; omega) fun v92 h92 O92 => ?_
    refine XO.q (Q.fieldAddr rfl) ?_
    refine XO.st rfl rfl rfl ?_
    refine XO.done ?_
    refine XK.inBlock ?_
    refine XK.region rfl ?_
    refine XO.q (Q.add rfl rfl ⟨by omega, by omega⟩) ?_
    refine XO.q (Q.move rfl) (XO.done ?_)
    exact ih1 (i + 1, q2, bs ++ [⟨y, n75, (n77 : Int) * (n79 : Int)⟩], v92, h92) _ _ ⟨by dsimp only; omega, by dsimp only; omega, by dsimp only; rw [List.length_append, hbl]; rfl, hB.snoc ⟨by dsimp only; rw [hbl]; exact hy, by dsimp only; omega, by dsimp only; omega⟩, O92⟩ (by first | omega | (dsimp only; omega)) (.c rfl (.base 53 rfl rfl)) inferInstance
   ·intro mt4
    dsimp only [lcA, lnA] at mt4
    refine XK.if rfl (fun c4 => ?_) (fun c4 => ?_)
    ·skip
     refine XK.region rfl (XO.q (Q.move rfl) (XO.q (Q.move rfl) ?_))
     refine XO.callB b14 Tryz.call57 rfl rfl rfl (next7 b14 vl hl l (q + 1 + 1 + 1) (i) (by omega) (by omega) (by omega)) fun v86 s86 R86 => ?_
     obtain ⟨rfl, n86, rfl, h86⟩ := R86
     dsimp only [lcA, lnA]
     refine XO.q (Q.fieldAddr rfl) ?_
     refine XO.st rfl rfl rfl ?_
     refine XO.done ?_
     exact mt4 ((n86 : Nat), q + 1 + 1 + 1 + 1) _ _ ⟨by dsimp only; rw [if_neg (by omega)]; omega, by dsimp only; omega⟩ (.base 4 rfl rfl) inferInstance
    ·skip
     refine XK.skip ?_
     exact mt4 (-1, q + 1 + 1 + 1) _ _ ⟨by dsimp only; rw [if_pos (by omega)], by dsimp only; omega⟩ (.base 0 rfl rfl) inferInstance
  ·skip
   refine XK.exit rfl ?_
   refine XK.seq (XK.seq (XK.region rfl ?_))
   refine XO.q (Q.fieldAddr rfl) ?_
   refine XO.q (Q.ld rfl rfl) ?_
   refine XO.len rfl fun l97 => ?_
   refine XO.q (Q.gtr rfl rfl) ?_
   refine XO.done ?_
   refine XK.meet (X := Nat × List HCooler × Value × PHeap × List Int × PHeap) [10, 99, 100, 101, 102, 103, 104, 105, 106, 107, 108, 109, 110, 111, 112, 113, 114, 115, 116, 117, 118, 119, 120, 121, 122, 123, 124, 125, 126, 127, 128, 129, 130, 131, 132, 133, 134, 135] (fun ⟨u, cs, vC, kC, sl2, kS2⟩ => []) (fun ⟨u, cs, vC, kC, sl2, kS2⟩ => [blk b14 [vl, .int .i64 ((u : Nat) : Int)] 186, blk b4 [.slice none 0 0, vW, vB, vC] 28, kC, kS2]) (fun ⟨u, cs, vC, kC, sl2, kS2⟩ => u ≤ 100 ∧ cs.length ≤ 6 ∧ Each (fun _ => KOk n bs.length) cs ∧ IsAt n sl2 (fun i => wS ws i + cS cs i) ∧ OArr vC encCooler 5 168 kC cs ∧ OArr v19 encI 1 3 kS2 sl2) [blk b14 [vl, .int .i64 ((q : Nat) : Int)] 186, blk b4 [.slice none 0 0, vW, vB, .slice none 0 0] 28, emp, kS] ?_ ?_
   ·rintro ⟨u, cs, vC, kC, sl2, kS2⟩ ⟨hu, hcl, hC, hS2, OC, OS2⟩
    dsimp only [lcA, lnA]
    refine XK.seq (XK.seq (XK.region rfl (XO.q (Q.move rfl) (XO.q (Q.move rfl) (XO.done ?_)))))
    refine XK.block ?_
    refine XK.while (X := Nat × Nat × List HRoom × Value × PHeap) [11, 137, 138, 139, 140, 141, 142, 143, 144, 145, 146, 147, 148, 149, 150, 151, 152, 153, 154, 155, 156, 157, 158, 159, 160, 161] (fun ⟨i, e, rs, vR, kR⟩ => [(137, some (.int .i64 (i : Nat)))]) (fun ⟨i, e, rs, vR, kR⟩ => [blk b14 [vl, .int .i64 ((e : Nat) : Int)] 186, blk b4 [vR, vW, vB, vC] 28, kR]) (fun ⟨i, e, rs, vR, kR⟩ => i ≤ n ∧ e ≤ 200 + i * 3 ∧ rs.length = i ∧ Each (ROk ws cs) rs ∧ OArr vR encRoom 2 55 kR rs) (fun ⟨i, e, rs, vR, kR⟩ => n - i) (0, u, [], .slice none 0 0, emp) [blk b14 [vl, .int .i64 ((u : Nat) : Int)] 186, blk b4 [.slice none 0 0, vW, vB, vC] 28, emp] rfl ⟨by omega, by omega, rfl, Each.nil, nR⟩ (.c rfl (.base 0 rfl rfl)) ?_
    rintro ⟨i, e, rs, vR, kR⟩ ⟨hi2, he, hrl, hR, OR⟩ ih2
    dsimp only [lcA, lnA] at ih2 ⊢
    refine XK.seq (XK.region rfl ?_)
    refine XO.q (Q.lss rfl rfl) ?_
    refine XO.done (XK.seq ?_)
    refine XK.if rfl (fun c6 => ?_) (fun c6 => ?_)
    ·skip
     have hs2l := hS2.1
     have hs2i := hS2.2 i (by omega)
     change sl2.getD i default = wS ws i + cS cs i at hs2i
     have hwi := wS_rng hW i
     have hci := cS_rng hC i
     refine XK.skip (XK.seq (XK.block (XK.seq (XK.region rfl (XO.q (Q.move rfl) ?_)))))
     refine XO.q (Q.assign rfl) (XO.done ?_)
     refine XK.drawn [0, 1, 2, 3, 4, 5, 6, 7, 9, 13, 11, 12, 15, 16, 17, 20] [b4] [kS2] (.q 0 (.q 1 (.q 2 (.q 3 (.q 4 (.q 5 (.q 6 (.q 7 (.q 9 (.q 13 (.br 8 true (.br 10 true (.q 11 (.q 12 (.br 14 true (.q 15 (.q 16 (.q 17 (.br 18 true (.br 19 true (.q 20 (.br 21 false .done .stop)) .stop) .stop)))) .stop))) .stop) .stop))))))))))) Tryz.mixed rfl (by kernel_rfl) ?_
     refine XT.q rfl rfl (Q.fieldAddr rfl) ?_
     refine XT.q rfl rfl (Q.ld rfl rfl) ?_
     refine XT.q rfl rfl (Q.move rfl) ?_
     refine XT.q rfl rfl (Q.move rfl) ?_
     refine XT.ix rfl rfl rfl rfl (by omega) (by omega) fun i144 => ?_
     refine XT.q rfl rfl (Q.ldE rfl (by first | assumption | omega) rfl) ?_
     refine XT.q rfl rfl (Q.add rfl rfl ⟨by omega, by omega⟩) ?_
     refine XT.q rfl rfl (Q.move rfl) ?_
     refine XT.q rfl rfl (Q.move rfl) ?_
     refine XT.q rfl rfl (Q.move rfl) ?_
     refine XT.callB b14 rfl rfl Tryz.call57 rfl rfl rfl (next7 b14 vl hl l (e) (256) (by omega) (by omega) (by omega)) (fun v148 s148 R148 => ?_) XT.stop
     obtain ⟨rfl, n148, rfl, h148⟩ := R148
     dsimp only [lcA, lnA]
     refine ⟨inferInstance, ?_⟩
     refine XT.callB b14 rfl rfl Tryz.call57 rfl rfl rfl (next7 b14 vl hl l (e + 1) (3) (by omega) (by omega) (by omega)) (fun v150 s150 R150 => ?_) XT.stop
     obtain ⟨rfl, n150, rfl, h150⟩ := R150
     dsimp only [lcA, lnA]
     refine ⟨inferInstance, ?_⟩
     have hm148_150 : n148 * n150 ≤ 255 * 2 := Nat.mul_le_mul (by omega) (by omega)
     have em148_150 : (n148 : Int) * (n150 : Int) = ((n148 * n150 : Nat) : Int) := (Int.natCast_mul ..).symm
     refine XT.q rfl rfl (Q.mul rfl rfl ⟨by omega, by omega⟩) ?_
     refine XT.q rfl rfl (Q.add rfl rfl ⟨by omega, by omega⟩) ?_
     refine XT.callB b14 rfl rfl Tryz.call57 rfl rfl rfl (next7 b14 vl hl l (e + 1 + 1) (256) (by omega) (by omega) (by omega)) (fun v154 s154 R154 => ?_) XT.stop
     obtain ⟨rfl, n154, rfl, h154⟩ := R154
     dsimp only [lcA, lnA]
     refine ⟨inferInstance, ?_⟩
     refine XT.q rfl rfl (Q.mul rfl rfl ⟨by omega, by omega⟩) ?_
     refine XT.q rfl rfl (Q.add rfl rfl ⟨by omega, by omega⟩) ?_
     refine XT.q rfl rfl (Q.build [_, _] (.c 0 1 rfl rfl rfl (.c 1 1 rfl rfl rfl (.n _)))) ?_
     refine XT.lit [_, _] [_, _] [⟨sl2.getD i default + 1 + (n148 : Int) * (n150 : Int), 20000 + 80 * (n154 : Int)⟩] encRoom rfl rfl (by rfl) (by rfl) rfl (by rfl) (by exact .c 0 2 rfl rfl rfl (.n _)) (fun _ => rfl) (by rfl) rfl (by infer_instance) rfl (fun v158 h158 O158 => ⟨inferInstance, ?_⟩) XT.stop
     refine XT.append rfl rfl rfl rfl rfl rfl (by simp only [List.length_cons, List.length_nil]; omega) (fun v159 h159 O159 => ⟨inferInstance, ?_⟩) XT.stop
     refine XT.q rfl rfl (Q.fieldAddr rfl) ?_
     refine XT.st rfl rfl rfl rfl rfl ⟨inferInstance, ?_⟩ XT.stop
     refine XT.done ?_
     refine XK.inBlock ?_
     refine XK.region rfl ?_
     refine XO.q (Q.add rfl rfl ⟨by omega, by omega⟩) ?_
     refine XO.q (Q.move rfl) (XO.done ?_)
     exact ih2 (i + 1, e + 1 + 1 + 1, rs ++ [⟨sl2.getD i default + 1 + (n148 : Int) * (n150 : Int), 20000 + 80 * (n154 : Int)⟩], v159, h159) _ _ ⟨by dsimp only; omega, by dsimp only; omega, by dsimp only; rw [List.length_append, hrl]; rfl, hR.snoc ⟨by dsimp only; rw [hrl]; omega, by dsimp only; omega, by dsimp only; omega, by dsimp only; omega, by dsimp only; omega⟩, O159⟩ (by first | omega | (dsimp only; omega)) (.c rfl (.base 53 rfl rfl)) inferInstance
    ·skip
     refine XK.exit rfl ?_
     refine XK.seq (XK.region rfl ?_)
     refine XO.q (Q.ldA [_, _, _, _] rfl rfl rfl) ?_
     refine XO.st rfl rfl rfl ?_
     refine XO.done ?_
     refine XK.rt [kR, kW, kB, kC] Tryz.func55 Tryz.results55 (.cell [_, _, _, _] rfl rfl rfl (.n)) ?_
     have hin : i = n := by omega
     subst hin
     exact ⟨⟨rs, ws, bs, cs⟩, vR, vW, vB, vC, kR, kW, kB, kC, rfl, rfl, OR, OW, OB, OC, made_ok (by omega) (by omega) (by omega) (by omega) (by omega) hR (by rw [hrl]; exact hW) hB (by rw [hrl]; exact hC)⟩
   ·intro mt5
    dsimp only [lcA, lnA] at mt5
    refine XK.if rfl (fun c5 => ?_) (fun c5 => ?_)
    ·skip
     refine XK.seq (XK.region rfl (XO.q (Q.move rfl) ?_))
     refine XO.callB b14 Tryz.call57 rfl rfl rfl (next7 b14 vl hl l (q) (7) (by omega) (by omega) (by omega)) fun v100 s100 R100 => ?_
     obtain ⟨rfl, n100, rfl, h100⟩ := R100
     dsimp only [lcA, lnA]
     refine XO.q (Q.move rfl) (XO.done (XK.block ?_))
     refine XK.while (X := Nat × Nat × List HCooler × Value × PHeap × List Int × PHeap) [10, 101, 102, 103, 104, 105, 106, 107, 108, 109, 110, 111, 112, 113, 114, 115, 116, 117, 118, 119, 120, 121, 122, 123, 124, 125, 126, 127, 128, 129, 130, 131, 132, 133, 134, 135] (fun ⟨m, u, cs, vC, kC, sl2, kS2⟩ => [(101, some (.int .i64 (m : Nat)))]) (fun ⟨m, u, cs, vC, kC, sl2, kS2⟩ => [blk b14 [vl, .int .i64 ((u : Nat) : Int)] 186, blk b4 [.slice none 0 0, vW, vB, vC] 28, kC, kS2]) (fun ⟨m, u, cs, vC, kC, sl2, kS2⟩ => m ≤ n100 ∧ u ≤ 60 + m * 5 ∧ cs.length = m ∧ Each (fun _ => KOk n bs.length) cs ∧ IsAt n sl2 (fun i => wS ws i + cS cs i) ∧ OArr vC encCooler 5 168 kC cs ∧ OArr v19 encI 1 3 kS2 sl2) (fun ⟨m, u, cs, vC, kC, sl2, kS2⟩ => n100 - m) (0, q + 1, [], .slice none 0 0, emp, sl, kS) [blk b14 [vl, .int .i64 ((q + 1 : Nat) : Int)] 186, blk b4 [.slice none 0 0, vW, vB, .slice none 0 0] 28, emp, kS] rfl ⟨by omega, by omega, rfl, Each.nil, hS.none, nC, OS⟩ (.c rfl (.base 0 rfl rfl)) ?_
     rintro ⟨m, u, cs, vC, kC, sl2, kS2⟩ ⟨hm, hu, hcl, hC, hS2, OC, OS2⟩ ih3
     dsimp only [lcA, lnA] at ih3 ⊢
     refine XK.seq (XK.region rfl ?_)
     refine XO.q (Q.lss rfl rfl) ?_
     refine XO.done (XK.seq ?_)
     refine XK.if rfl (fun c7 => ?_) (fun c7 => ?_)
     ·skip
      refine XK.skip (XK.seq (XK.block (XK.seq ?_)))
      refine XK.meet (X := Nat × Nat × Nat × Nat × Nat × Nat) [10, 103, 104, 105, 106, 107, 108, 109, 110, 111, 112, 113, 114, 115, 116, 117, 118, 119] (fun ⟨b10, x1, x2, x3, x4, x5⟩ => [(10, some (ptr b10 0))]) (fun ⟨b10, x1, x2, x3, x4, x5⟩ => [blk b10 [.int .i64 (x1 : Nat), .int .i64 (x2 : Nat), .int .i64 (x3 : Nat), .int .i64 (x4 : Nat), .int .i64 (10000 + 40 * (x5 : Int))] 168, blk b14 [vl, .int .i64 ((u + 1 + 1 + 1 + 1 + 1 : Nat) : Int)] 186]) (fun ⟨b10, x1, x2, x3, x4, x5⟩ => x1 < n ∧ x2 < bs.length ∧ x3 < 60 ∧ x4 < 200 ∧ x5 < 256) [blk b14 [vl, .int .i64 ((u : Nat) : Int)] 186] ?_ ?_
      ·rintro ⟨b10, x1, x2, x3, x4, x5⟩ ⟨hx1, hx2, hx3, hx4, hx5⟩
       dsimp only [lcA, lnA]
       have hs2l := hS2.1
       have hs2i := hS2.2 x1 (by omega)
       change sl2.getD x1 default = wS ws x1 + cS cs x1 at hs2i
       have hwi := wS_rng hW x1
       have hci := cS_rng hC x1
       refine XK.seq ?_
       refine XK.drawn [0, 1, 2, 3, 5, 6, 7, 8] [b10] [] (.q 0 (.q 1 (.q 2 (.q 3 (.q 5 (.q 6 (.br 4 true (.q 7 (.q 8 (.br 9 false .done .stop))) .stop))))))) Tryz.mixed rfl (by kernel_rfl) ?_
       refine XT.q rfl rfl (Q.move rfl) ?_
       refine XT.q rfl rfl (Q.fieldAddr rfl) ?_
       refine XT.q rfl rfl (Q.ld rfl rfl) ?_
       refine XT.ix rfl rfl rfl rfl (by omega) (by omega) fun i123 => ?_
       refine XT.q rfl rfl (Q.fieldAddr rfl) ?_
       refine XT.q rfl rfl (Q.ld rfl rfl) ?_
       refine XT.qs rfl rfl (Q.ldE rfl (by first | assumption | omega) rfl) ⟨inferInstance, ?_⟩ XT.stop
       refine XT.q rfl rfl (Q.add rfl rfl ⟨by omega, by omega⟩) ?_
       refine XT.ix rfl rfl rfl rfl (by omega) (by omega) fun i128 => ?_
       refine XT.stE _ rfl rfl rfl rfl rfl (by assumption) rfl rfl (fun h27_9 O27_9 => ⟨inferInstance, ?_⟩) XT.stop
       refine XT.done ?_
       refine XK.region rfl ?_
       refine XO.q (Q.fieldAddr rfl) ?_
       refine XO.q (Q.ld rfl rfl) ?_
       refine XO.q (Q.ldA [_, _, _, _, _] rfl rfl rfl) ?_
       refine XO.lit [_, _, _, _, _] [_, _, _, _, _] [⟨x1, x2, x3, x4, 10000 + 40 * (x5 : Int)⟩] encCooler (by rfl) (by rfl) rfl (by rfl) (by exact .c 0 5 rfl rfl rfl (.n _)) (fun _ => rfl) (by rfl) rfl (by infer_instance) rfl fun v132 h132 O132 => ?_
       refine XO.append rfl rfl rfl rfl (by simp only [List.length_cons, List.length_nil]; omega) fun v133 h133 O133 => ?_
       refine XO.q (Q.fieldAddr rfl) ?_
       refine XO.st rfl rfl rfl ?_
       refine XO.done ?_
       refine XK.inBlock ?_
       refine XK.region rfl ?_
       refine XO.q (Q.add rfl rfl ⟨by omega, by omega⟩) ?_
       refine XO.q (Q.move rfl) (XO.done ?_)
       exact ih3 (m + 1, u + 1 + 1 + 1 + 1 + 1, cs ++ [⟨x1, x2, x3, x4, 10000 + 40 * (x5 : Int)⟩], v133, h133, _, h27_9) _ _ ⟨by dsimp only; omega, by dsimp only; omega, by dsimp only; rw [List.length_append, hcl]; rfl, hC.snoc ⟨by dsimp only; omega, by dsimp only; omega, by dsimp only; omega, by dsimp only; omega, by dsimp only; omega⟩, hS2.cooler (c := ⟨x1, x2, x3, x4, 10000 + 40 * (x5 : Int)⟩) (by dsimp only; omega) (by dsimp only; omega), O133, O27_9⟩ (by first | omega | (dsimp only; omega)) (.c rfl (.base 74 rfl rfl)) inferInstance
      ·intro mtr26
       dsimp only [lcA, lnA] at mtr26
       refine XK.drawn [0, 1, 3, 4, 5, 6, 8, 10, 12, 14, 15, 16] [b4] [] (.q 0 (.q 1 (.q 3 (.q 4 (.q 5 (.q 6 (.q 8 (.q 10 (.q 12 (.br 2 true (.br 7 true (.br 9 true (.br 11 true (.br 13 true (.q 14 (.q 15 (.q 16 (.br 17 true (.br 18 false .done .stop) .stop)))) (.br 17 true (.br 13 true (.q 14 (.q 15 (.q 16 (.br 18 false .done .stop)))) .stop) .stop)) (.br 17 true (.br 11 true (.br 13 true (.q 14 (.q 15 (.q 16 (.br 18 false .done .stop)))) .stop) .stop) .stop)) (.br 17 true (.br 9 true (.br 11 true (.br 13 true (.q 14 (.q 15 (.q 16 (.br 18 false .done .stop)))) .stop) .stop) .stop) .stop)) (.br 17 true (.br 7 true (.br 9 true (.br 11 true (.br 13 true (.q 14 (.q 15 (.q 16 (.br 18 false .done .stop)))) .stop) .stop) .stop) .stop) .stop)) (.br 17 true (.br 2 true (.br 7 true (.br 9 true (.br 11 true (.br 13 true (.q 14 (.q 15 (.q 16 (.br 18 false .done .stop)))) .stop) .stop) .stop) .stop) .stop) .stop))))))))))) Tryz.mixed rfl (by kernel_rfl) ?_
       refine XT.q rfl rfl (Q.move rfl) ?_
       refine XT.q rfl rfl (Q.move rfl) ?_
       refine XT.q rfl rfl (Q.move rfl) ?_
       refine XT.q rfl rfl (Q.fieldAddr rfl) ?_
       refine XT.q rfl rfl (Q.ld rfl rfl) ?_
       refine XT.q rfl rfl (Q.len rfl) ?_
       refine XT.q rfl rfl (Q.move rfl) ?_
       refine XT.q rfl rfl (Q.move rfl) ?_
       refine XT.q rfl rfl (Q.move rfl) ?_
       refine XT.callB b14 rfl rfl Tryz.call57 rfl rfl rfl (next7 b14 vl hl l (u) (n) (by omega) (by omega) (by omega)) (fun v105 s105 R105 => ?_) ?_
       ·skip
        obtain ⟨rfl, n105, rfl, h105⟩ := R105
        dsimp only [lcA, lnA]
        refine ⟨inferInstance, ?_⟩
        refine XT.callB b14 rfl rfl Tryz.call57 rfl rfl rfl (next7 b14 vl hl l (u + 1) (bs.length) (by omega) (by omega) (by omega)) (fun v110 s110 R110 => ?_) ?_
        ·skip
         obtain ⟨rfl, n110, rfl, h110⟩ := R110
         dsimp only [lcA, lnA]
         refine ⟨inferInstance, ?_⟩
         refine XT.callB b14 rfl rfl Tryz.call57 rfl rfl rfl (next7 b14 vl hl l (u + 1 + 1) (60) (by omega) (by omega) (by omega)) (fun v112 s112 R112 => ?_) ?_
         ·skip
          obtain ⟨rfl, n112, rfl, h112⟩ := R112
          dsimp only [lcA, lnA]
          refine ⟨inferInstance, ?_⟩
          refine XT.callB b14 rfl rfl Tryz.call57 rfl rfl rfl (next7 b14 vl hl l (u + 1 + 1 + 1) (200) (by omega) (by omega) (by omega)) (fun v114 s114 R114 => ?_) ?_
          ·skip
           obtain ⟨rfl, n114, rfl, h114⟩ := R114
           dsimp only [lcA, lnA]
           refine ⟨inferInstance, ?_⟩
           refine XT.callB b14 rfl rfl Tryz.call57 rfl rfl rfl (next7 b14 vl hl l (u + 1 + 1 + 1 + 1) (256) (by omega) (by omega) (by omega)) (fun v116 s116 R116 => ?_) ?_
           ·skip
            obtain ⟨rfl, n116, rfl, h116⟩ := R116
            dsimp only [lcA, lnA]
            refine ⟨inferInstance, ?_⟩
            refine XT.q rfl rfl (Q.mul rfl rfl ⟨by omega, by omega⟩) ?_
            refine XT.q rfl rfl (Q.add rfl rfl ⟨by omega, by omega⟩) ?_
            refine XT.q rfl rfl (Q.build [_, _, _, _, _] (.c 0 1 rfl rfl rfl (.c 1 1 rfl rfl rfl (.c 2 1 rfl rfl rfl (.c 3 1 rfl rfl rfl (.c 4 1 rfl rfl rfl (.n _))))))) ?_
            refine XT.alloc rfl rfl (fun b10 => ⟨inferInstance, ?_⟩) XT.stop
            refine XT.st rfl rfl rfl rfl rfl ⟨inferInstance, ?_⟩ XT.stop
            refine XT.done ?_
            exact mtr26 ((b10, n105, n110, n112, n114, n116)) _ _ ⟨h105, h110, h112, h114, h116⟩ (.c rfl (.base 18 rfl rfl)) inferInstance
           ·skip
            refine XT.alloc rfl rfl (fun b10 => ⟨inferInstance, ?_⟩) XT.stop
            refine XT.callB b14 rfl rfl Tryz.call57 rfl rfl rfl (next7 b14 vl hl l (u + 1 + 1 + 1 + 1) (256) (by omega) (by omega) (by omega)) (fun v116 s116 R116 => ?_) XT.stop
            obtain ⟨rfl, n116, rfl, h116⟩ := R116
            dsimp only [lcA, lnA]
            refine ⟨inferInstance, ?_⟩
            refine XT.q rfl rfl (Q.mul rfl rfl ⟨by omega, by omega⟩) ?_
            refine XT.q rfl rfl (Q.add rfl rfl ⟨by omega, by omega⟩) ?_
            refine XT.q rfl rfl (Q.build [_, _, _, _, _] (.c 0 1 rfl rfl rfl (.c 1 1 rfl rfl rfl (.c 2 1 rfl rfl rfl (.c 3 1 rfl rfl rfl (.c 4 1 rfl rfl rfl (.n _))))))) ?_
            refine XT.st rfl rfl rfl rfl rfl ⟨inferInstance, ?_⟩ XT.stop
            refine XT.done ?_
            exact mtr26 ((b10, n105, n110, n112, n114, n116)) _ _ ⟨h105, h110, h112, h114, h116⟩ (.c rfl (.base 18 rfl rfl)) inferInstance
          ·skip
           refine XT.alloc rfl rfl (fun b10 => ⟨inferInstance, ?_⟩) XT.stop
           refine XT.callB b14 rfl rfl Tryz.call57 rfl rfl rfl (next7 b14 vl hl l (u + 1 + 1 + 1) (200) (by omega) (by omega) (by omega)) (fun v114 s114 R114 => ?_) XT.stop
           obtain ⟨rfl, n114, rfl, h114⟩ := R114
           dsimp only [lcA, lnA]
           refine ⟨inferInstance, ?_⟩
           refine XT.callB b14 rfl rfl Tryz.call57 rfl rfl rfl (next7 b14 vl hl l (u + 1 + 1 + 1 + 1) (256) (by omega) (by omega) (by omega)) (fun v116 s116 R116 => ?_) XT.stop
           obtain ⟨rfl, n116, rfl, h116⟩ := R116
           dsimp only [lcA, lnA]
           refine ⟨inferInstance, ?_⟩
           refine XT.q rfl rfl (Q.mul rfl rfl ⟨by omega, by omega⟩) ?_
           refine XT.q rfl rfl (Q.add rfl rfl ⟨by omega, by omega⟩) ?_
           refine XT.q rfl rfl (Q.build [_, _, _, _, _] (.c 0 1 rfl rfl rfl (.c 1 1 rfl rfl rfl (.c 2 1 rfl rfl rfl (.c 3 1 rfl rfl rfl (.c 4 1 rfl rfl rfl (.n _))))))) ?_
           refine XT.st rfl rfl rfl rfl rfl ⟨inferInstance, ?_⟩ XT.stop
           refine XT.done ?_
           exact mtr26 ((b10, n105, n110, n112, n114, n116)) _ _ ⟨h105, h110, h112, h114, h116⟩ (.c rfl (.base 18 rfl rfl)) inferInstance
         ·skip
          refine XT.alloc rfl rfl (fun b10 => ⟨inferInstance, ?_⟩) XT.stop
          refine XT.callB b14 rfl rfl Tryz.call57 rfl rfl rfl (next7 b14 vl hl l (u + 1 + 1) (60) (by omega) (by omega) (by omega)) (fun v112 s112 R112 => ?_) XT.stop
          obtain ⟨rfl, n112, rfl, h112⟩ := R112
          dsimp only [lcA, lnA]
          refine ⟨inferInstance, ?_⟩
          refine XT.callB b14 rfl rfl Tryz.call57 rfl rfl rfl (next7 b14 vl hl l (u + 1 + 1 + 1) (200) (by omega) (by omega) (by omega)) (fun v114 s114 R114 => ?_) XT.stop
          obtain ⟨rfl, n114, rfl, h114⟩ := R114
          dsimp only [lcA, lnA]
          refine ⟨inferInstance, ?_⟩
          refine XT.callB b14 rfl rfl Tryz.call57 rfl rfl rfl (next7 b14 vl hl l (u + 1 + 1 + 1 + 1) (256) (by omega) (by omega) (by omega)) (fun v116 s116 R116 => ?_) XT.stop
          obtain ⟨rfl, n116, rfl, h116⟩ := R116
          dsimp only [lcA, lnA]
          refine ⟨inferInstance, ?_⟩
          refine XT.q rfl rfl (Q.mul rfl rfl ⟨by omega, by omega⟩) ?_
          refine XT.q rfl rfl (Q.add rfl rfl ⟨by omega, by omega⟩) ?_
          refine XT.q rfl rfl (Q.build [_, _, _, _, _] (.c 0 1 rfl rfl rfl (.c 1 1 rfl rfl rfl (.c 2 1 rfl rfl rfl (.c 3 1 rfl rfl rfl (.c 4 1 rfl rfl rfl (.n _))))))) ?_
          refine XT.st rfl rfl rfl rfl rfl ⟨inferInstance, ?_⟩ XT.stop
          refine XT.done ?_
          exact mtr26 ((b10, n105, n110, n112, n114, n116)) _ _ ⟨h105, h110, h112, h114, h116⟩ (.c rfl (.base 18 rfl rfl)) inferInstance
        ·skip
         refine XT.alloc rfl rfl (fun b10 => ⟨inferInstance, ?_⟩) XT.stop
         refine XT.callB b14 rfl rfl Tryz.call57 rfl rfl rfl (next7 b14 vl hl l (u + 1) (bs.length) (by omega) (by omega) (by omega)) (fun v110 s110 R110 => ?_) XT.stop
         obtain ⟨rfl, n110, rfl, h110⟩ := R110
         dsimp only [lcA, lnA]
         refine ⟨inferInstance, ?_⟩
         refine XT.callB b14 rfl rfl Tryz.call57 rfl rfl rfl (next7 b14 vl hl l (u + 1 + 1) (60) (by omega) (by omega) (by omega)) (fun v112 s112 R112 => ?_) XT.stop
         obtain ⟨rfl, n112, rfl, h112⟩ := R112
         dsimp only [lcA, lnA]
         refine ⟨inferInstance, ?_⟩
         refine XT.callB b14 rfl rfl Tryz.call57 rfl rfl rfl (next7 b14 vl hl l (u + 1 + 1 + 1) (200) (by omega) (by omega) (by omega)) (fun v114 s114 R114 => ?_) XT.stop
         obtain ⟨rfl, n114, rfl, h114⟩ := R114
         dsimp only [lcA, lnA]
         refine ⟨inferInstance, ?_⟩
         refine XT.callB b14 rfl rfl Tryz.call57 rfl rfl rfl (next7 b14 vl hl l (u + 1 + 1 + 1 + 1) (256) (by omega) (by omega) (by omega)) (fun v116 s116 R116 => ?_) XT.stop
         obtain ⟨rfl, n116, rfl, h116⟩ := R116
         dsimp only [lcA, lnA]
         refine ⟨inferInstance, ?_⟩
         refine XT.q rfl rfl (Q.mul rfl rfl ⟨by omega, by omega⟩) ?_
         refine XT.q rfl rfl (Q.add rfl rfl ⟨by omega, by omega⟩) ?_
         refine XT.q rfl rfl (Q.build [_, _, _, _, _] (.c 0 1 rfl rfl rfl (.c 1 1 rfl rfl rfl (.c 2 1 rfl rfl rfl (.c 3 1 rfl rfl rfl (.c 4 1 rfl rfl rfl (.n _))))))) ?_
         refine XT.st rfl rfl rfl rfl rfl ⟨inferInstance, ?_⟩ XT.stop
         refine XT.done ?_
         exact mtr26 ((b10, n105, n110, n112, n114, n116)) _ _ ⟨h105, h110, h112, h114, h116⟩ (.c rfl (.base 18 rfl rfl)) inferInstance
       ·skip
        refine XT.alloc rfl rfl (fun b10 => ⟨inferInstance, ?_⟩) XT.stop
        refine XT.callB b14 rfl rfl Tryz.call57 rfl rfl rfl (next7 b14 vl hl l (u) (n) (by omega) (by omega) (by omega)) (fun v105 s105 R105 => ?_) XT.stop
        obtain ⟨rfl, n105, rfl, h105⟩ := R105
        dsimp only [lcA, lnA]
        refine ⟨inferInstance, ?_⟩
        refine XT.callB b14 rfl rfl Tryz.call57 rfl rfl rfl (next7 b14 vl hl l (u + 1) (bs.length) (by omega) (by omega) (by omega)) (fun v110 s110 R110 => ?_) XT.stop
        obtain ⟨rfl, n110, rfl, h110⟩ := R110
        dsimp only [lcA, lnA]
        refine ⟨inferInstance, ?_⟩
        refine XT.callB b14 rfl rfl Tryz.call57 rfl rfl rfl (next7 b14 vl hl l (u + 1 + 1) (60) (by omega) (by omega) (by omega)) (fun v112 s112 R112 => ?_) XT.stop
        obtain ⟨rfl, n112, rfl, h112⟩ := R112
        dsimp only [lcA, lnA]
        refine ⟨inferInstance, ?_⟩
        refine XT.callB b14 rfl rfl Tryz.call57 rfl rfl rfl (next7 b14 vl hl l (u + 1 + 1 + 1) (200) (by omega) (by omega) (by omega)) (fun v114 s114 R114 => ?_) XT.stop
        obtain ⟨rfl, n114, rfl, h114⟩ := R114
        dsimp only [lcA, lnA]
        refine ⟨inferInstance, ?_⟩
        refine XT.callB b14 rfl rfl Tryz.call57 rfl rfl rfl (next7 b14 vl hl l (u + 1 + 1 + 1 + 1) (256) (by omega) (by omega) (by omega)) (fun v116 s116 R116 => ?_) XT.stop
        obtain ⟨rfl, n116, rfl, h116⟩ := R116
        dsimp only [lcA, lnA]
        refine ⟨inferInstance, ?_⟩
        refine XT.q rfl rfl (Q.mul rfl rfl ⟨by omega, by omega⟩) ?_
        refine XT.q rfl rfl (Q.add rfl rfl ⟨by omega, by omega⟩) ?_
        refine XT.q rfl rfl (Q.build [_, _, _, _, _] (.c 0 1 rfl rfl rfl (.c 1 1 rfl rfl rfl (.c 2 1 rfl rfl rfl (.c 3 1 rfl rfl rfl (.c 4 1 rfl rfl rfl (.n _))))))) ?_
        refine XT.st rfl rfl rfl rfl rfl ⟨inferInstance, ?_⟩ XT.stop
        refine XT.done ?_
        exact mtr26 ((b10, n105, n110, n112, n114, n116)) _ _ ⟨h105, h110, h112, h114, h116⟩ (.c rfl (.base 18 rfl rfl)) inferInstance
     ·skip
      refine XK.exit rfl ?_
      exact mt5 (u, cs, vC, kC, sl2, kS2) _ _ ⟨by dsimp only; omega, by dsimp only; omega, hC, hS2, OC, OS2⟩ (.base 41 rfl rfl) inferInstance
    ·skip
     refine XK.skip ?_
     exact mt5 (q, [], .slice none 0 0, emp, sl, kS) _ _ ⟨by dsimp only; omega, by dsimp only; decide, Each.nil, hS.none, nC, OS⟩ (.base 0 rfl rfl) inferInstance
end Go.X.Ht

set_option linter.unusedSimpArgs false
set_option linter.unusedVariables false
set_option maxRecDepth 20000
namespace Go.X.Ht
open Go.Proofs
end Go.X.Ht

set_option linter.unusedSimpArgs false
set_option linter.unusedVariables false
set_option maxRecDepth 20000
namespace Go.X.Ht
open Go.Proofs
def encCV (x : Value × HCase) : List Value := [x.1, .int .i64 x.2.out, .int .i64 x.2.pump]
instance : Inhabited (Value × HCase) := ⟨(.slice none 0 0, default)⟩
theorem below_spec7 (va vb : Value) (ha hb : PHeap) (a b : List Int) [ia : Arr va encI 1 ha a] [ib : Arr vb encI 1 hb b] (hl : a.length ≤ b.length) : Spec Tryz.prog 115 #[va, vb] [] [ha, hb] (fun v hs => v = .bool (lbelow a b) ∧ hs = []) := by
 refine Spec.intro (fn := Tryz.f115) (N := 21) Tryz.func115 rfl Tryz.ntmps115 rfl fun B => ?_
 refine XK.seq (XK.region rfl (XO.q (Q.assign rfl) (XO.done (XK.seq (XK.seq ?_)))))
 refine XK.region rfl (XO.q (Q.move rfl) ?_)
 refine XO.len rfl fun l7 => ?_
 refine XO.q (Q.move rfl) (XO.done (XK.block ?_))
 refine XK.while (X := Nat) [4, 5, 8, 9, 10, 11, 12, 13, 14, 15, 16, 17, 18, 19, 20] (fun i => [(8, some (.int .i64 (i : Nat)))]) (fun i => []) (fun i => i ≤ a.length ∧ allTo (fun i => decide (a.getD i 0 ≤ b.getD i 0)) i = true) (fun i => a.length - i) (0) [] rfl ⟨by omega, rfl⟩ (.c rfl (.base 0 rfl rfl)) ?_
 rintro i ⟨hi, ht⟩ ih0
 dsimp only [lcA, lnA] at ih0 ⊢
 refine XK.seq (XK.region rfl ?_)
 refine XO.q (Q.lss rfl rfl) ?_
 refine XO.done (XK.seq ?_)
 refine XK.if rfl (fun c0 => ?_) (fun c0 => ?_)
 ·skip
  refine XK.skip (XK.seq (XK.block (XK.seq (XK.region rfl (XO.q (Q.move rfl) ?_)))))
  refine XO.q (Q.assign rfl) (XO.done (XK.seq ?_))
  refine XK.drawn [0, 1, 2, 3, 4, 5, 6, 7, 8] [] [] (.q 0 (.q 1 (.q 2 (.q 3 (.q 4 (.q 5 (.q 6 (.q 7 (.q 8 .done))))))))) Tryz.mixed rfl (by kernel_rfl) ?_
  refine XT.q rfl rfl (Q.move rfl) ?_
  refine XT.q rfl rfl (Q.move rfl) ?_
  refine XT.ix rfl rfl rfl rfl (by omega) (by omega) fun i13 => ?_
  refine XT.q rfl rfl (Q.ldE rfl (by first | assumption | omega) rfl) ?_
  refine XT.q rfl rfl (Q.move rfl) ?_
  refine XT.q rfl rfl (Q.move rfl) ?_
  refine XT.ix rfl rfl rfl rfl (by omega) (by omega) fun i17 => ?_
  refine XT.q rfl rfl (Q.ldE rfl (by first | assumption | omega) rfl) ?_
  refine XT.q rfl rfl (Q.gtr rfl rfl) ?_
  refine XT.done ?_
  refine XK.if rfl (fun c1 => ?_) (fun c1 => ?_)
  ·skip
   refine XK.seq (XK.region rfl (XO.q (Q.assign rfl) (XO.done ?_)))
   refine XK.rt [] Tryz.func115 Tryz.results115 (.t rfl .n) ?_
   exact ⟨by rw [lbelow, allTo_false (s := i) (by omega) (by rw [decide_eq_false_iff_not]; change b.getD i 0 < a.getD i 0 at c1; omega)], rfl⟩
  ·skip
   refine XK.skip ?_
   refine XK.inBlock ?_
   refine XK.region rfl ?_
   refine XO.q (Q.add rfl rfl ⟨by omega, by omega⟩) ?_
   refine XO.q (Q.move rfl) (XO.done ?_)
   exact ih0 (i + 1) _ _ ⟨by omega, by rw [allTo_succ, ht, Bool.true_and, decide_eq_true_eq]; change ¬ (b.getD i 0 < a.getD i 0) at c1; omega⟩ (by first | omega | (dsimp only; omega)) (.c rfl (.base 30 rfl rfl)) inferInstance
 ·skip
  refine XK.exit rfl ?_
  refine XK.seq (XK.region rfl (XO.q (Q.assign rfl) (XO.done ?_)))
  refine XK.rt [] Tryz.func115 Tryz.results115 (.t rfl .n) ?_
  have hn : i = a.length := by omega
  rw [hn] at ht
  exact ⟨by rw [lbelow, ht], rfl⟩
theorem between_spec (a c d : HCase) (va vc vd : Value) (ha hc hd : PHeap) [ia : Arr va encI 1 ha a.load] [ic : Arr vc encI 1 hc c.load] [id : Arr vd encI 1 hd d.load] (h1 : c.load.length ≤ a.load.length) (h2 : c.load.length ≤ d.load.length) :
  Spec Tryz.prog 118 #[.agg #[va, .int .i64 a.out, .int .i64 a.pump], .agg #[vc, .int .i64 c.out, .int .i64 c.pump], .agg #[vd, .int .i64 d.out, .int .i64 d.pump]] [] [ha, hc, hd] (fun v hs => v = .bool (betweenP a c d) ∧ hs = []) := by
 refine Spec.intro (fn := Tryz.f118) (N := 60) Tryz.func118 rfl Tryz.ntmps118 rfl fun B => ?_
 refine XK.seq (XK.region rfl ?_)
 refine XO.box rfl fun b3 => ?_
 refine XO.box rfl fun b4 => ?_
 refine XO.box rfl fun b5 => ?_
 refine XO.q (Q.assign rfl) (XO.done (XK.seq (XK.seq (XK.region rfl ?_))))
 refine XO.q (Q.fieldAddr rfl) ?_
 refine XO.q (Q.ld rfl rfl) ?_
 refine XO.len rfl fun l11 => ?_
 refine XO.q (Q.move rfl) (XO.done (XK.block ?_))
 refine XK.while (X := Nat) [6, 7, 8, 12, 13, 14, 15, 16, 17, 18, 19, 20, 21, 22, 23, 24, 25, 26, 27, 28, 29, 30, 31, 32, 33] (fun i => [(12, some (.int .i64 (i : Nat)))]) (fun i => []) (fun i => i ≤ c.load.length ∧ allTo (fun i => decide (a.load.getD i 0 ≤ c.load.getD i 0) && decide (c.load.getD i 0 ≤ d.load.getD i 0)) i = true) (fun i => c.load.length - i) (0) [] rfl ⟨by omega, rfl⟩ (.c rfl (.base 0 rfl rfl)) ?_
 rintro i ⟨hi, ht⟩ ih0
 dsimp only [lcA, lnA] at ih0 ⊢
 refine XK.seq (XK.region rfl ?_)
 refine XO.q (Q.lss rfl rfl) ?_
 refine XO.done (XK.seq ?_)
 refine XK.if rfl (fun c0 => ?_) (fun c0 => ?_)
 ·skip
  refine XK.skip (XK.seq (XK.block (XK.seq (XK.region rfl (XO.q (Q.move rfl) ?_)))))
  refine XO.ix rfl rfl (by omega) (by omega) fun i15 => ?_
  refine XO.q (Q.ldE rfl (by first | assumption | omega) rfl) ?_
  refine XO.q (Q.assign rfl) (XO.q (Q.assign rfl) (XO.done (XK.seq (XK.region rfl (XO.q (Q.move rfl) ?_)))))
  refine XO.q (Q.fieldAddr rfl) ?_
  refine XO.q (Q.ld rfl rfl) ?_
  refine XO.q (Q.move rfl) ?_
  refine XO.ix rfl rfl (by omega) (by omega) fun i21 => ?_
  refine XO.q (Q.ldE rfl (by first | assumption | omega) rfl) ?_
  refine XO.q (Q.lss rfl rfl) ?_
  refine XO.q (Q.move rfl) ?_
  refine XO.q (Quiet.guardF rfl rfl fun g25 p25 => Q.move rfl) ?_
  refine XO.q (Quiet.guardF rfl rfl fun g26 p26 => Q.fieldAddr rfl) ?_
  refine XO.q (Quiet.guardF rfl rfl fun g27 p27 => Q.ld (lzv g27 rfl) rfl) ?_
  refine XO.q (Quiet.guardF rfl rfl fun g28 p28 => Q.move rfl) ?_
  refine XO.q (Quiet.guardF rfl rfl fun g29 p29 => Q.ix (lzv g29 rfl) (lzv g29 rfl) (by omega) (by omega)) ?_
  refine XO.q (Quiet.guardF rfl rfl fun g30 p30 => Q.ldE (lzv g30 rfl) (by first | assumption | omega) rfl) ?_
  refine XO.q (Quiet.guardF rfl rfl fun g31 p31 => Q.gtr (lzv g31 rfl) (lzv g31 rfl)) ?_
  refine XO.q (Q.or rfl (fun hp => lzv hp rfl)) ?_
  refine XO.done ?_
  refine XK.if rfl (fun c1 => ?_) (fun c1 => ?_)
  ·skip
   refine XK.seq (XK.region rfl (XO.q (Q.assign rfl) (XO.done ?_)))
   refine XK.rt [] Tryz.func118 Tryz.results118 (.t rfl .n) ?_
   exact ⟨by rw [between_spec1 (i := i) (by omega) c1], rfl⟩
  ·skip
   refine XK.skip ?_
   refine XK.inBlock ?_
   refine XK.region rfl ?_
   refine XO.q (Q.add rfl rfl ⟨by omega, by omega⟩) ?_
   refine XO.q (Q.move rfl) (XO.done ?_)
   exact ih0 (i + 1) _ _ ⟨by omega, by rw [allTo_succ, ht, Bool.true_and, Bool.and_eq_true, decide_eq_true_eq, decide_eq_true_eq]; change ¬ (c.load.getD i 0 < a.load.getD i 0 ∨ d.load.getD i 0 < c.load.getD i 0) at c1; omega⟩ (by first | omega | (dsimp only; omega)) (.c rfl (.base 50 rfl rfl)) inferInstance
 ·skip
  refine XK.exit rfl ?_
  refine XK.seq (XK.region rfl ?_)
  refine XO.q (Q.fieldAddr rfl) ?_
  refine XO.q (Q.ld rfl rfl) ?_
  refine XO.q (Q.fieldAddr rfl) ?_
  refine XO.q (Q.ld rfl rfl) ?_
  refine XO.q (Q.geq rfl rfl) ?_
  refine XO.q (Q.move rfl) ?_
  refine XO.q (Quiet.guardT rfl rfl fun g40 p40 => Q.fieldAddr rfl) ?_
  refine XO.q (Quiet.guardT rfl rfl fun g41 p41 => Q.ld (lzv g41 rfl) rfl) ?_
  refine XO.q (Quiet.guardT rfl rfl fun g42 p42 => Q.fieldAddr rfl) ?_
  refine XO.q (Quiet.guardT rfl rfl fun g43 p43 => Q.ld (lzv g43 rfl) rfl) ?_
  refine XO.q (Quiet.guardT rfl rfl fun g44 p44 => Q.leq (lzv g44 rfl) (lzv g44 rfl)) ?_
  refine XO.q (Q.and rfl (fun hp => lzv hp rfl)) ?_
  refine XO.q (Q.move rfl) ?_
  refine XO.q (Quiet.guardT rfl rfl fun g47 p47 => Q.fieldAddr rfl) ?_
  refine XO.q (Quiet.guardT rfl rfl fun g48 p48 => Q.ld (lzv g48 rfl) rfl) ?_
  refine XO.q (Quiet.guardT rfl rfl fun g49 p49 => Q.fieldAddr rfl) ?_
  refine XO.q (Quiet.guardT rfl rfl fun g50 p50 => Q.ld (lzv g50 rfl) rfl) ?_
  refine XO.q (Quiet.guardT rfl rfl fun g51 p51 => Q.leq (lzv g51 rfl) (lzv g51 rfl)) ?_
  refine XO.q (Q.and rfl (fun hp => lzv hp rfl)) ?_
  refine XO.q (Q.move rfl) ?_
  refine XO.q (Quiet.guardT rfl rfl fun g54 p54 => Q.fieldAddr rfl) ?_
  refine XO.q (Quiet.guardT rfl rfl fun g55 p55 => Q.ld (lzv g55 rfl) rfl) ?_
  refine XO.q (Quiet.guardT rfl rfl fun g56 p56 => Q.fieldAddr rfl) ?_
  refine XO.q (Quiet.guardT rfl rfl fun g57 p57 => Q.ld (lzv g57 rfl) rfl) ?_
  refine XO.q (Quiet.guardT rfl rfl fun g58 p58 => Q.geq (lzv g58 rfl) (lzv g58 rfl)) ?_
  refine XO.q (Q.and rfl (fun hp => lzv hp rfl)) ?_
  refine XO.q (Q.assign rfl) (XO.done ?_)
  refine XK.rt [] Tryz.func118 Tryz.results118 (.t rfl .n) ?_
  have hn : i = c.load.length := by omega
  rw [hn] at ht
  exact ⟨by rw [betweenP, ht, Bool.true_and], rfl⟩
theorem Classed_spec (h : Hall) (vr vw vb vc : Value) (hr hw hb hc : PHeap) [ir : Arr vr encRoom 2 hr h.rooms] [iw : Arr vw encWall 3 hw h.walls] [ib : Arr vb encBranch 3 hb h.branches] [ic : Arr vc encCooler 5 hc h.coolers] (a d : HCase) (va vd : Value) (ha hd : PHeap) [ia : Arr va encI 1 ha a.load] [id : Arr vd encI 1 hd d.load] (l : List (Value × HCase)) (vl : Value) (hl hL : PHeap) [il : Arr vl encCV 3 hl l] (hll : l.length ≤ 20000) (aL : ∀ i, i < l.length → Arr (l.getD i default).1 encI 1 hL (l.getD i default).2.load) :
  Spec Tryz.prog 64 #[.agg #[vr, vw, vb, vc], .agg #[va, .int .i64 a.out, .int .i64 a.pump, vd, .int .i64 d.out, .int .i64 d.pump], vl] [] [hr, hw, hb, hc, ha, hd, hl, hL] (fun v hs => v = .int .i64 (classedG h a d (l.map Prod.snd)) ∧ hs = []) := by
 refine Spec.intro (fn := Tryz.f64) (N := 52) Tryz.func64 rfl Tryz.ntmps64 rfl fun B => ?_
 refine XK.seq (XK.region rfl ?_)
 refine XO.box rfl fun b3 => ?_
 refine XO.box rfl fun b4 => ?_
 refine XO.q (Q.assign rfl) (XO.done (XK.seq (XK.seq (XK.region rfl ?_))))
 refine XO.q (Q.ldA [_, _, _, _] rfl rfl rfl) ?_
 refine XO.call Tryz.call49 rfl rfl rfl (Check_spec h vr vw vb vc hr hw hb hc) fun v13 s13 R13 => ?_
 obtain ⟨rfl, rfl⟩ := R13
 dsimp only [lcA, lnA]
 refine XO.q (Q.assign rfl) (XO.done (XK.seq (XK.region rfl (XO.q (Q.move rfl) ?_))))
 refine XO.q (Q.neq rfl rfl) ?_
 refine XO.done ?_
 refine XK.if rfl (fun c0 => ?_) (fun c0 => ?_)
 ·skip
  refine XK.seq (XK.region rfl (XO.q (Q.move rfl) (XO.q (Q.assign rfl) (XO.done ?_))))
  refine XK.rt [] Tryz.func64 Tryz.results64 (.t rfl .n) ?_
  exact ⟨by rw [classedG_errs, if_pos c0], rfl⟩
 ·skip
  refine XK.skip (XK.seq ?_)
  refine XK.drawn [0, 1, 2, 4, 5, 6, 9] [b3, b4] [] (.q 0 (.q 1 (.q 2 (.q 4 (.q 5 (.q 6 (.br 3 true (.br 7 true (.br 8 true (.q 9 .done) .stop) .stop) .stop))))))) Tryz.mixed rfl (by kernel_rfl) ?_
  refine XT.q rfl rfl (Q.ldA [_, _, _, _] rfl rfl rfl) ?_
  refine XT.q rfl rfl (Q.fieldAddr rfl) ?_
  refine XT.q rfl rfl (Q.ldA [_, _, _] rfl rfl rfl) ?_
  refine XT.q rfl rfl (Q.ldA [_, _, _, _] rfl rfl rfl) ?_
  refine XT.q rfl rfl (Q.fieldAddr rfl) ?_
  refine XT.q rfl rfl (Q.ldA [_, _, _] rfl rfl rfl) ?_
  refine XT.call rfl rfl Tryz.call52 rfl rfl rfl (cased_spec h vr vw vb vc hr va ha a) (fun v20 s20 R20 => ?_) XT.stop
  obtain ⟨rfl, rfl⟩ := R20
  dsimp only [lcA, lnA]
  refine ⟨inferInstance, ?_⟩
  refine XT.call rfl rfl Tryz.call52 rfl rfl rfl (cased_spec h vr vw vb vc hr vd hd d) (fun v24 s24 R24 => ?_) XT.stop
  obtain ⟨rfl, rfl⟩ := R24
  dsimp only [lcA, lnA]
  refine ⟨inferInstance, ?_⟩
  refine XT.lit [_, _] [_, _] [casedP h a, casedP h d] encI rfl rfl (by rfl) (by rfl) rfl (by rfl) (by exact .c 0 1 rfl rfl rfl (.c 1 1 rfl rfl rfl (.n _))) (fun _ => rfl) (by rfl) rfl (by infer_instance) rfl (fun v25 h25 O25 => ⟨inferInstance, ?_⟩) XT.stop
  refine XT.q rfl rfl (Q.assign rfl) ?_
  refine XT.done ?_
  refine XK.seq (XK.seq (XK.region rfl (XO.q (Q.move rfl) ?_)))
  refine XO.len rfl fun l27 => ?_
  refine XO.q (Q.move rfl) (XO.done (XK.block ?_))
  refine XK.while (X := Nat × Value × PHeap) [8, 10, 28, 29, 30, 31, 32, 33, 34, 35, 36, 37, 38] (fun ⟨i, v8, k8⟩ => [(28, some (.int .i64 (i : Nat))), (8, some (v8))]) (fun ⟨i, v8, k8⟩ => [k8]) (fun ⟨i, v8, k8⟩ => i ≤ l.length ∧ OArr v8 encI 1 49 k8 (errsL h a d ((List.range i).map (fun j => (l.getD j default).2)))) (fun ⟨i, v8, k8⟩ => l.length - i) (0, v25, h25) [h25] rfl ⟨by omega, O25⟩ (.c rfl (.c rfl (.base 0 rfl rfl))) ?_
  rintro ⟨i, v8, k8⟩ ⟨hi, O8⟩ ih0
  dsimp only [lcA, lnA] at ih0 ⊢
  refine XK.seq (XK.region rfl ?_)
  refine XO.q (Q.lss rfl rfl) ?_
  refine XO.done (XK.seq ?_)
  refine XK.if rfl (fun c1 => ?_) (fun c1 => ?_)
  ·skip
   have il0 := aL i (by omega)
   refine XK.skip (XK.seq (XK.block (XK.seq (XK.region rfl ?_))))
   refine XO.ix rfl rfl (by omega) (by omega) fun i30 => ?_
   refine XO.q (Q.ldEA [_, _, _] rfl (by first | assumption | omega) rfl rfl) ?_
   refine XO.alloc fun b10 => ?_
   refine XO.st rfl rfl rfl ?_
   refine XO.done (XK.region rfl (XO.q (Q.move rfl) ?_))
   refine XO.q (Q.ldA [_, _, _, _] rfl rfl rfl) ?_
   refine XO.q (Q.ldA [_, _, _] rfl rfl rfl) ?_
   refine XO.call Tryz.call52 rfl rfl rfl (cased_spec h vr vw vb vc hr (l.getD i default).1 hL (l.getD i default).2) fun v35 s35 R35 => ?_
   obtain ⟨rfl, rfl⟩ := R35
   dsimp only [lcA, lnA]
   refine XO.lit [_] [_] [_] encI (by rfl) (by rfl) rfl (by rfl) (by exact .c 0 1 rfl rfl rfl (.n _)) (fun _ => rfl) (by rfl) rfl (by infer_instance) rfl fun v36 h36 O36 => ?_
   refine XO.append rfl rfl rfl rfl (by simp only [errsL_len, List.length_map, List.length_range, List.length_cons, List.length_nil]; omega) fun v37 h37 O37 => ?_
   refine XO.q (Q.assign rfl) (XO.done ?_)
   refine XK.inBlock ?_
   refine XK.region rfl ?_
   refine XO.q (Q.add rfl rfl ⟨by omega, by omega⟩) ?_
   refine XO.q (Q.move rfl) (XO.done ?_)
   exact ih0 (i + 1, v37, h37) _ _ ⟨by dsimp only; omega, by dsimp only; rw [range_snoc, errsL_snoc]; exact O37⟩ (by first | omega | (dsimp only; omega)) (.c rfl (.c rfl (.base 28 rfl rfl))) inferInstance
  ·skip
   have hn : i = l.length := by omega
   subst hn
   rw [range_getD l (fun x => x.2)] at O8
   refine XK.exit rfl ?_
   refine XK.seq (XK.seq (XK.region rfl (XO.q (Q.move rfl) ?_)))
   refine XO.call Tryz.call50 rfl rfl rfl (both_spec v8 k8 (errsL h a d (l.map Prod.snd))) fun v40 s40 R40 => ?_
   obtain ⟨rfl, rfl⟩ := R40
   dsimp only [lcA, lnA]
   refine XO.q (Q.assign rfl) (XO.done (XK.seq (XK.region rfl (XO.q (Q.move rfl) ?_))))
   refine XO.q (Q.neq rfl rfl) ?_
   refine XO.done ?_
   refine XK.if rfl (fun c2 => ?_) (fun c2 => ?_)
   ·skip
    refine XK.seq (XK.region rfl (XO.q (Q.move rfl) (XO.q (Q.assign rfl) (XO.done ?_))))
    refine XK.rt [] Tryz.func64 Tryz.results64 (.t rfl .n) ?_
    exact ⟨by rw [classedG_errs, if_neg c0, if_pos c2], rfl⟩
   ·skip
    have c2 := Decidable.of_not_not c2
    have oka : COk h a := both_cased c2 (by simp [errsL])
    have okd : COk h d := both_cased c2 (by simp [errsL])
    refine XK.skip (XK.seq (XK.seq (XK.region rfl ?_)))
    refine XO.q (Q.fieldAddr rfl) ?_
    refine XO.q (Q.ldA [_, _, _] rfl rfl rfl) ?_
    refine XO.q (Q.fieldAddr rfl) ?_
    refine XO.q (Q.ldA [_, _, _] rfl rfl rfl) ?_
    refine XO.q (Q.fieldAddr rfl) ?_
    refine XO.q (Q.ldA [_, _, _] rfl rfl rfl) ?_
    refine XO.call Tryz.call118 rfl rfl rfl (between_spec a a d va va vd ha ha hd (Nat.le_refl _) (by rw [oka.len, okd.len]; exact Nat.le_refl _)) fun v50 s50 R50 => ?_
    obtain ⟨rfl, rfl⟩ := R50
    dsimp only [lcA, lnA]
    refine XO.q (Q.not rfl) ?_
    refine XO.done ?_
    refine XK.if rfl (fun c3 => ?_) (fun c3 => ?_)
    ·skip
     refine XK.seq (XK.region rfl (XO.q (Q.assign rfl) (XO.done ?_)))
     refine XK.rt [] Tryz.func64 Tryz.results64 (.t rfl .n) ?_
     exact ⟨by rw [classedG_errs, if_neg c0, if_neg (by rw [c2]; decide), if_neg c3], rfl⟩
    ·skip
     refine XK.skip (XK.seq (XK.region rfl (XO.q (Q.assign rfl) (XO.done ?_))))
     refine XK.rt [] Tryz.func64 Tryz.results64 (.t rfl .n) ?_
     exact ⟨by rw [classedG_errs, if_neg c0, if_neg (by rw [c2]; decide), if_pos (Decidable.of_not_not c3)], rfl⟩
end Go.X.Ht

set_option linter.unusedSimpArgs false
set_option linter.unusedVariables false
set_option maxRecDepth 20000
namespace Go.X.Ht
open Go.Proofs
theorem boxed_spec (h : Hall) (vr vw vb vc : Value) (hr hw hb hc : PHeap) [ir : Arr vr encRoom 2 hr h.rooms] [iw : Arr vw encWall 3 hw h.walls] [ib : Arr vb encBranch 3 hb h.branches] [ic : Arr vc encCooler 5 hc h.coolers] (a d : HCase) (va vd : Value) (ha hd : PHeap) [ia : Arr va encI 1 ha a.load] [id : Arr vd encI 1 hd d.load] (lo hi : List Int) (vlo vhi : Value) (hlo hhi : PHeap) [ilo : Arr vlo encI 1 hlo lo] [ihi : Arr vhi encI 1 hhi hi] : Spec Tryz.prog 60 #[.agg #[vr, vw, vb, vc], vlo, vhi, .agg #[va, .int .i64 a.out, .int .i64 a.pump, vd, .int .i64 d.out, .int .i64 d.pump]] [] [hr, hw, hb, hc, ha, hd, hlo, hhi] (fun v hs => v = .int .i64 (boxedG h lo hi a d) ∧ hs = []) := by
 refine Spec.intro (fn := Tryz.f60) (N := 32) Tryz.func60 rfl Tryz.ntmps60 rfl fun B => ?_
 refine XK.seq (XK.region rfl ?_)
 refine XO.box rfl fun b4 => ?_
 refine XO.box rfl fun b7 => ?_
 refine XO.q (Q.assign rfl) (XO.done (XK.seq (XK.seq (XK.region rfl ?_))))
 refine XO.q (Q.ldA [_, _, _, _] rfl rfl rfl) ?_
 refine XO.q (Q.ldA [_, _, _, _, _, _] rfl rfl rfl) ?_
 refine XO.call Tryz.call64 rfl rfl rfl (Classed_spec h vr vw vb vc hr hw hb hc a d va vd ha hd [] (.slice none 0 0) hr hr (il := Arr.nil (fun _ => rfl)) (by simp) (fun i hi => absurd hi (Nat.not_lt_zero i))) fun v13 s13 R13 => ?_
 obtain ⟨rfl, rfl⟩ := R13
 dsimp only [lcA, lnA]
 rw [List.map_nil]
 refine XO.q (Q.assign rfl) (XO.done (XK.seq (XK.region rfl (XO.q (Q.move rfl) ?_))))
 refine XO.q (Q.neq rfl rfl) ?_
 refine XO.done ?_
 refine XK.if rfl (fun c0 => ?_) (fun c0 => ?_)
 ·skip
  refine XK.seq (XK.region rfl (XO.q (Q.move rfl) (XO.q (Q.assign rfl) (XO.done ?_))))
  refine XK.rt [] Tryz.func60 Tryz.results60 (.t rfl .n) ?_
  exact ⟨by rw [boxedG, if_pos c0], rfl⟩
 ·skip
  refine XK.skip (XK.seq (XK.seq ?_))
  refine XK.drawn [0, 1, 3, 4, 8] [b4] [] (.q 0 (.q 1 (.q 3 (.q 4 (.br 2 true (.br 5 true (.br 6 true (.br 7 true (.q 8 .done) .stop) .stop) .stop) .stop))))) Tryz.mixed rfl (by kernel_rfl) ?_
  refine XT.q rfl rfl (Q.ldA [_, _, _, _] rfl rfl rfl) ?_
  refine XT.q rfl rfl (Q.move rfl) ?_
  refine XT.q rfl rfl (Q.ldA [_, _, _, _] rfl rfl rfl) ?_
  refine XT.q rfl rfl (Q.move rfl) ?_
  refine XT.call rfl rfl Tryz.call51 rfl rfl rfl (warm_spec h vr vw vb vc hr vlo hlo lo) (fun v19 s19 R19 => ?_) XT.stop
  obtain ⟨rfl, rfl⟩ := R19
  dsimp only [lcA, lnA]
  refine ⟨inferInstance, ?_⟩
  refine XT.call rfl rfl Tryz.call51 rfl rfl rfl (warm_spec h vr vw vb vc hr vhi hhi hi) (fun v22 s22 R22 => ?_) XT.stop
  obtain ⟨rfl, rfl⟩ := R22
  dsimp only [lcA, lnA]
  refine ⟨inferInstance, ?_⟩
  refine XT.lit [_, _] [_, _] [warmP h lo, warmP h hi] encI rfl rfl (by rfl) (by rfl) rfl (by rfl) (by exact .c 0 1 rfl rfl rfl (.c 1 1 rfl rfl rfl (.n _))) (fun _ => rfl) (by rfl) rfl (by infer_instance) rfl (fun v23 h23 O23 => ⟨inferInstance, ?_⟩) XT.stop
  refine XT.call rfl rfl Tryz.call50 rfl rfl rfl (both_spec v23 h23 [warmP h lo, warmP h hi]) (fun v24 s24 R24 => ?_) XT.stop
  obtain ⟨rfl, rfl⟩ := R24
  dsimp only [lcA, lnA]
  refine ⟨inferInstance, ?_⟩
  refine XT.q rfl rfl (Q.assign rfl) ?_
  refine XT.done ?_
  refine XK.seq (XK.region rfl (XO.q (Q.move rfl) ?_))
  refine XO.q (Q.neq rfl rfl) ?_
  refine XO.done ?_
  refine XK.if rfl (fun c1 => ?_) (fun c1 => ?_)
  ·skip
   refine XK.seq (XK.region rfl (XO.q (Q.move rfl) (XO.q (Q.assign rfl) (XO.done ?_))))
   refine XK.rt [] Tryz.func60 Tryz.results60 (.t rfl .n) ?_
   exact ⟨by rw [boxedG, if_neg c0, if_pos c1], rfl⟩
  ·skip
   have oklo : TOk h lo := both_warm (Decidable.of_not_not c1) (by simp)
   have okhi : TOk h hi := both_warm (Decidable.of_not_not c1) (by simp)
   refine XK.skip (XK.seq (XK.seq (XK.region rfl (XO.q (Q.move rfl) (XO.q (Q.move rfl) ?_)))))
   refine XO.call Tryz.call115 rfl rfl rfl (below_spec7 vlo vhi hlo hhi lo hi (by rw [oklo.len, okhi.len]; exact Nat.le_refl _)) fun v30 s30 R30 => ?_
   obtain ⟨rfl, rfl⟩ := R30
   dsimp only [lcA, lnA]
   refine XO.q (Q.not rfl) ?_
   refine XO.done ?_
   refine XK.if rfl (fun c2 => ?_) (fun c2 => ?_)
   ·skip
    refine XK.seq (XK.region rfl (XO.q (Q.assign rfl) (XO.done ?_)))
    refine XK.rt [] Tryz.func60 Tryz.results60 (.t rfl .n) ?_
    exact ⟨by rw [boxedG, if_neg c0, if_neg c1, if_neg c2], rfl⟩
   ·skip
    refine XK.skip (XK.seq (XK.region rfl (XO.q (Q.assign rfl) (XO.done ?_))))
    refine XK.rt [] Tryz.func60 Tryz.results60 (.t rfl .n) ?_
    exact ⟨by rw [boxedG, if_neg c0, if_neg c1, if_pos (Decidable.of_not_not c2)], rfl⟩
theorem always1 (b : Nat) (c : HCase) (vl : Value) [il : One vl] (x : Value) : Spec Tryz.prog 117 #[x, ptr b 0] [] [blk b [vl, .int .i64 c.out, .int .i64 c.pump] 31] (fun v hs => v = .agg #[vl, .int .i64 c.out, .int .i64 c.pump] ∧ hs = []) := by
 refine Spec.intro (fn := Tryz.f117) (N := 5) Tryz.func117 rfl Tryz.ntmps117 rfl fun B => ?_
 refine XK.seq (XK.region rfl ?_)
 refine XO.alloc fun b3 => ?_
 refine XO.done (XK.seq (XK.region rfl ?_))
 refine XO.q (Q.ldA [_, _, _] rfl rfl rfl) ?_
 refine XO.st rfl rfl rfl ?_
 refine XO.done ?_
 refine XK.rt [] Tryz.func117 Tryz.results117 (.cell [_, _, _] rfl rfl rfl (.n)) ?_
 exact ⟨rfl, rfl⟩
/-- The function that gives a second's case. -/
def OfC (y : Value) (n : Nat) (c : Nat → HCase) (vl : Nat → Value) (Ho : List PHeap) : Prop := ∀ i, i < n → VSpec Tryz.prog y [.int .i64 (i : Nat)] [] Ho (fun v hs => v = .agg #[vl i, .int .i64 (c i).out, .int .i64 (c i).pump] ∧ hs = [])
theorem OfC.two {y : Value} {n : Nat} {c : Nat → HCase} {vl : Nat → Value} {a : PHeap} (h : OfC y n c vl [a]) : OfC y n c vl [a, a] := fun i hi o r w hs hr => h i hi o r w hs (fun x hx => hr x (by rcases List.mem_cons.1 hx with rfl | hx; exact List.mem_cons_self; cases hx))
theorem always_spec (c : HCase) (vl : Value) [il : One vl] : Spec Tryz.prog 63 #[.agg #[vl, .int .i64 c.out, .int .i64 c.pump]] [] [] (fun v hs => ∃ b, hs = [blk b [vl, .int .i64 c.out, .int .i64 c.pump] 31] ∧ One v ∧ ∀ n, OfC v n (fun _ => c) (fun _ => vl) [blk b [vl, .int .i64 c.out, .int .i64 c.pump] 31]) := by
 refine Spec.intro (fn := Tryz.f63) (N := 4) Tryz.func63 rfl Tryz.ntmps63 rfl fun B => ?_
 refine XK.seq (XK.region rfl ?_)
 refine XO.box rfl fun b1 => ?_
 refine XO.q (Q.assign rfl) (XO.done (XK.seq (XK.region rfl ?_)))
 refine XO.q (Q.func (fun _ he => rfl) (fun _ he => evs_rel he rfl)) ?_
 refine XO.q (Q.assign rfl) (XO.done ?_)
 refine XK.rt [blk b1 [vl, .int .i64 c.out, .int .i64 c.pump] 31] Tryz.func63 Tryz.results63 (.t rfl .n) ?_
 exact ⟨b1, rfl, inferInstance, fun n i hi => VSpec.fn (fst := []) (cap := [ptr b1 0]) Tryz.call117 rfl (always1 b1 c vl _)⟩
end Go.X.Ht

set_option linter.unusedSimpArgs false
set_option linter.unusedVariables false
set_option maxRecDepth 20000
namespace Go.X.Ht
open Go.Proofs
theorem iter_ok2 {h : Hall} (ok : HOk h) {c : Nat → HCase} {t : List Int} (tk : TOk h t) {n : Nat} (ck : ∀ i, i < n → COk h (c i)) : ∀ i, i ≤ n → TOk h (iterT h c t i)
 | 0, _ => tk
 | i + 1, hi => next_ok ok (iter_ok2 ok tk ck i (by omega)) (ck i (by omega))
/-- What seconds yields: the temperatures after each second. -/
def SecY (h : Hall) (c : Nat → HCase) (t : List Int) (i : Nat) (K : PHeap) (vs : List Value) : Prop := ∃ sl, vs = [.int .i64 ((i : Int) + 1), sl] ∧ Arr sl encI 1 K (iterT h c t (i + 1))
theorem seconds1 (h : Hall) (vr vw vb vc : Value) (hr hw hb hc : PHeap) [ir : Arr vr encRoom 2 hr h.rooms] [iw : Arr vw encWall 3 hw h.walls] [ib : Arr vb encBranch 3 hb h.branches] [ic : Arr vc encCooler 5 hc h.coolers] (ok : HOk h) (c : Nat → HCase) (n : Nat) (hn : n ≤ 20000) (t : List Int) (vt : Value) (ht : PHeap) [it : Arr vt encI 1 ht t] (tk : TOk h t) (ck : ∀ i, i < n → COk h (c i)) (vl : Nat → Value) (hL : PHeap) (aL : ∀ i, i < n → Arr (vl i) encI 1 hL (c i).load) (y : Value) [iy : One y] (hy hz : PHeap) (of : OfC y n c vl [hy, hz]) (bn bh bt bo : Nat) (f : Value) (Hr : List PHeap) (Qc : Nat → PHeap → PHeap → Prop) (Xc : PHeap → PHeap → Prop)
  (mono : ∀ i K K' q, leH K K' → Qc i K q → Qc i K' q)
  (round : ∀ i, i < n → ∀ K vs q, SecY h c t i K vs → Qc i K q → VSpec Tryz.prog f vs [q] (K :: Hr) (fun v hs => ∃ b q', v = .bool b ∧ hs = [q'] ∧ (b = true → Qc (i + 1) K q') ∧ (b = false → Xc K q')))
  (q : PHeap) (hQ : Qc 0 emp q) : Spec Tryz.prog 116 #[f, ptr bn 0, ptr bh 0, ptr bt 0, ptr bo 0] (q :: [blk bn [.int .i64 (n : Nat)] 3, blk bh [vr, vw, vb, vc] 28, blk bt [vt] 29, blk bo [y] 194]) ([hr, hw, hb, hc, ht, hy, hz, hL] ++ Hr) (fun _ hs => ∃ q' K, hs = [q', K] ∧ (Qc n K q' ∨ Xc K q')) := by
 refine Spec.intro (fn := Tryz.f116) (N := 24) Tryz.func116 rfl Tryz.ntmps116 rfl fun B => ?_
 dsimp only [lcA, lnA]
 refine XK.seq (XK.region rfl ?_)
 refine XO.q (Q.ld rfl rfl) ?_
 refine XO.q (Q.move rfl) (XO.done (XK.block ?_))
 refine XK.while (X := Nat × Value × PHeap × PHeap × PHeap) [6, 8, 9, 10, 11, 12, 13, 14, 15, 16, 17, 18, 19, 20, 21, 22, 23] (fun ⟨i, v, kt, K, q1⟩ => [(8, some (.int .i64 (i : Nat)))]) (fun ⟨i, v, kt, K, q1⟩ => [q1, blk bn [.int .i64 (n : Nat)] 3, blk bh [vr, vw, vb, vc] 28, blk bt [v] 29, blk bo [y] 194, K]) (fun ⟨i, v, kt, K, q1⟩ => i ≤ n ∧ Arr v encI 1 kt (iterT h c t i) ∧ Either kt ht K ∧ Qc i K q1) (fun ⟨i, v, kt, K, q1⟩ => n - i) (0, vt, ht, emp, q) [q, blk bn [.int .i64 (n : Nat)] 3, blk bh [vr, vw, vb, vc] 28, blk bt [vt] 29, blk bo [y] 194, emp] rfl ⟨by omega, it, ⟨.inl rfl⟩, hQ⟩ (.c rfl (.base 0 rfl rfl)) ?_
 rintro ⟨i, v, kt, K, q1⟩ ⟨hi, aT, eT, hq⟩ ih0
 dsimp only [lcA, lnA] at ih0 ⊢
 refine XK.seq (XK.region rfl ?_)
 refine XO.q (Q.lss rfl rfl) ?_
 refine XO.done (XK.seq ?_)
 refine XK.if rfl (fun c0 => ?_) (fun c0 => ?_)
 ·skip
  refine XK.skip (XK.seq (XK.block (XK.seq (XK.region rfl (XO.q (Q.move rfl) ?_)))))
  refine XO.q (Q.assign rfl) (XO.done (XK.seq ?_))
  refine XK.drawn [0, 1, 2, 3] [bh, bt, bo] [] (.q 0 (.q 1 (.q 2 (.q 3 (.br 4 true (.br 5 true (.br 6 false .done .stop) .stop) .stop))))) Tryz.mixed rfl (by kernel_rfl) ?_
  refine XT.q rfl rfl (Q.ldA [_, _, _, _] rfl rfl rfl) ?_
  refine XT.q rfl rfl (Q.ld rfl rfl) ?_
  refine XT.q rfl rfl (Q.ld rfl rfl) ?_
  refine XT.q rfl rfl (Q.move rfl) ?_
  haveI aLi := aL i (by omega)
  refine XT.vcall rfl rfl rfl rfl (of i (by omega)) (fun v15 s15 R15 => ?_) XT.stop
  obtain ⟨rfl, rfl⟩ := R15
  dsimp only [lcA, lnA]
  refine ⟨inferInstance, ?_⟩
  refine XT.call rfl rfl Tryz.call53 rfl rfl rfl (next_spec7 h vr vw vb vc hr hw hb hc ok (iterT h c t i) v kt (iter_ok2 ok tk ck i (by omega)) (c i) (ck i (by omega)) (vl i) hL) (fun v16 s16 R16 => ?_) XT.stop
  obtain ⟨k16, rfl, O16⟩ := R16
  dsimp only [lcA, lnA]
  refine ⟨inferInstance, ?_⟩
  refine XT.st rfl rfl rfl rfl rfl ⟨inferInstance, ?_⟩ XT.stop
  refine XT.done ?_
  refine XK.seq (XK.region rfl ?_)
  refine XO.cat K k16 fun leK le16 => ?_
  have A16 : Arr v16 encI 1 (cat K k16) (iterT h c t (i + 1)) := Arr.le_heap (OArr.arr (s := O16)) le16
  clear O16
  refine XO.q (Q.move rfl) (XO.q (Q.move rfl) ?_)
  refine XO.q (Q.add rfl rfl ⟨by omega, by omega⟩) ?_
  refine XO.q (Q.ld rfl rfl) ?_
  refine XO.vcall rfl rfl (round i (by omega) (cat K k16) _ q1 ⟨v16, rfl, A16⟩ (mono i K (cat K k16) q1 leK hq)) fun v21 s21 R21 => ?_
  obtain ⟨bb, q2, rfl, rfl, hT, hF⟩ := R21
  dsimp only [lcA, lnA]
  refine XO.q (Q.not rfl) ?_
  refine XO.done ?_
  refine XK.if rfl (fun c1 => ?_) (fun c1 => ?_)
  ·skip
   refine XK.rt [q2, cat K k16] Tryz.func116 Tryz.results116 (.n) ?_
   exact ⟨q2, cat K k16, rfl, .inr (hF (by simpa using c1))⟩
  ·skip
   refine XK.skip ?_
   refine XK.inBlock ?_
   refine XK.region rfl ?_
   refine XO.q (Q.add rfl rfl ⟨by omega, by omega⟩) ?_
   refine XO.q (Q.move rfl) (XO.done ?_)
   exact ih0 (i + 1, v16, cat K k16, cat K k16, q2) _ _ ⟨by dsimp only; omega, A16, ⟨.inr rfl⟩, hT (by simpa using c1)⟩ (by first | omega | (dsimp only; omega)) (.c rfl (.base 35 rfl rfl)) inferInstance
 ·skip
  refine XK.exit rfl ?_
  refine XK.fn [q1, K] Tryz.func116 Tryz.results116 (.n) ?_
  have hin : i = n := by omega
  subst hin
  exact ⟨q1, K, rfl, .inl hq⟩
theorem seconds_spec (h : Hall) (vr vw vb vc : Value) (hr hw hb hc : PHeap) [ir : Arr vr encRoom 2 hr h.rooms] [iw : Arr vw encWall 3 hw h.walls] [ib : Arr vb encBranch 3 hb h.branches] [ic : Arr vc encCooler 5 hc h.coolers] (ok : HOk h) (c : Nat → HCase) (n : Nat) (hn : n ≤ 20000) (t : List Int) (vt : Value) (ht : PHeap) [it : Arr vt encI 1 ht t] (tk : TOk h t) (ck : ∀ i, i < n → COk h (c i)) (vl : Nat → Value) (hL : PHeap) (aL : ∀ i, i < n → Arr (vl i) encI 1 hL (c i).load) (y : Value) [iy : One y] (hy hz : PHeap) (of : OfC y n c vl [hy, hz]) : Spec Tryz.prog 62 #[.agg #[vr, vw, vb, vc], vt, .int .i64 (n : Nat), y] [] [] (fun v hs => ∃ k1 k2 k3 k4, hs = [k1, k2, k3, k4] ∧ ItK Tryz.prog v n (SecY h c t) [k1, k2, k3, k4] [hr, hw, hb, hc, ht, hy, hz, hL]) := by
 refine Spec.intro (fn := Tryz.f62) (N := 10) Tryz.func62 rfl Tryz.ntmps62 rfl fun B => ?_
 refine XK.seq (XK.region rfl ?_)
 refine XO.box rfl fun b4 => ?_
 refine XO.box rfl fun b5 => ?_
 refine XO.box rfl fun b6 => ?_
 refine XO.box rfl fun b7 => ?_
 refine XO.q (Q.assign rfl) (XO.done (XK.seq (XK.region rfl ?_)))
 refine XO.q (Q.func (fun _ he => rfl) (fun _ he => evs_rel he rfl)) ?_
 refine XO.q (Q.assign rfl) (XO.done ?_)
 refine XK.rt [blk b6 [.int .i64 (n : Nat)] 3, blk b4 [vr, vw, vb, vc] 28, blk b5 [vt] 29, blk b7 [y] 194] Tryz.func62 Tryz.results62 (.t rfl .n) ?_
 exact ⟨_, _, _, _, rfl, fun f Hr Q X mono round q hQ => VSpec.fn (fst := []) (cap := [ptr b6 0, ptr b4 0, ptr b5 0, ptr b7 0]) Tryz.call116 rfl (seconds1 h vr vw vb vc hr hw hb hc ok c n hn t vt ht tk ck vl hL aL y hy hz of b6 b4 b5 b7 f Hr Q X mono round q hQ)⟩
end Go.X.Ht

set_option linter.unusedSimpArgs false
set_option linter.unusedVariables false
set_option maxRecDepth 20000
namespace Go.X.Ht
open Go.Proofs
/-- A slice that lies in one of two heaps. -/
def ArrE (v : Value) (xs : List Int) (a b : PHeap) : Prop := Arr v encI 1 a xs ∨ Arr v encI 1 b xs
theorem ArrE.open {v : Value} {xs : List Int} {a b : PHeap} (h : ArrE v xs a b) : ∃ k, Arr v encI 1 k xs ∧ Either k a b := h.elim (fun h => ⟨a, h, ⟨.inl rfl⟩⟩) (fun h => ⟨b, h, ⟨.inr rfl⟩⟩)
theorem ArrE.mono {v : Value} {xs : List Int} {a b b' : PHeap} (hl : leH b b') (h : ArrE v xs a b) : ArrE v xs a b' := orMap h id (fun h => Arr.le_heap h hl)
theorem inP_le {n m : Int} (h : inP n m = true) : 0 ≤ n ∧ n ≤ m := by unfold inP at h; simpa using h
end Go.X.Ht

set_option linter.unusedSimpArgs false
set_option linter.unusedVariables false
set_option maxRecDepth 20000
namespace Go.X.Ht
open Go.Proofs
end Go.X.Ht

set_option linter.unusedSimpArgs false
set_option linter.unusedVariables false
set_option maxRecDepth 20000
namespace Go.X.Ht
open Go.Proofs
theorem hot_spec (h : Hall) (vr vw vb vc : Value) (hr hw hb hc : PHeap) [ir : Arr vr encRoom 2 hr h.rooms] [iw : Arr vw encWall 3 hw h.walls] [ib : Arr vb encBranch 3 hb h.branches] [ic : Arr vc encCooler 5 hc h.coolers] (t : List Int) (vt : Value) (ht : PHeap) [it : Arr vt encI 1 ht t] (tl : h.rooms.length ≤ t.length) : Spec Tryz.prog 65 #[.agg #[vr, vw, vb, vc], vt] [] [hr, ht] (fun v hs => v = .int .i64 (hotP h t) ∧ hs = []) := by
 refine Spec.intro (fn := Tryz.f65) (N := 24) Tryz.func65 rfl Tryz.ntmps65 rfl fun B => ?_
 refine XK.seq (XK.region rfl ?_)
 refine XO.box rfl fun b2 => ?_
 refine XO.q (Q.assign rfl) (XO.done (XK.seq (XK.seq (XK.region rfl ?_))))
 refine XO.q (Q.fieldAddr rfl) ?_
 refine XO.q (Q.ld rfl rfl) ?_
 refine XO.len rfl fun l9 => ?_
 refine XO.q (Q.move rfl) (XO.done (XK.block ?_))
 refine XK.while (X := Nat) [4, 5, 6, 10, 11, 12, 13, 14, 15, 16, 17, 18, 19, 20, 21, 22, 23] (fun i => [(10, some (.int .i64 (i : Nat)))]) (fun i => []) (fun i => i ≤ h.rooms.length ∧ ∀ j, j < i → hotAt h t j = false) (fun i => h.rooms.length - i) (0) [] rfl ⟨by omega, fun j hj => by omega⟩ (.c rfl (.base 0 rfl rfl)) ?_
 rintro i ⟨hi, hc⟩ ih0
 dsimp only [lcA, lnA] at ih0 ⊢
 refine XK.seq (XK.region rfl ?_)
 refine XO.q (Q.lss rfl rfl) ?_
 refine XO.done (XK.seq ?_)
 refine XK.if rfl (fun c0 => ?_) (fun c0 => ?_)
 ·skip
  refine XK.skip (XK.seq (XK.block (XK.seq (XK.region rfl (XO.q (Q.move rfl) ?_)))))
  refine XO.ix rfl rfl (by omega) (by omega) fun i13 => ?_
  refine XO.q (Q.ldEA [_, _] rfl (by first | assumption | omega) rfl rfl) ?_
  refine XO.alloc fun b6 => ?_
  refine XO.q (Q.assign rfl) ?_
  refine XO.st rfl rfl rfl ?_
  refine XO.done (XK.seq ?_)
  refine XK.drawn [0, 1, 2, 3, 4, 5, 6] [b6] [] (.q 0 (.q 1 (.q 2 (.q 3 (.q 4 (.q 5 (.q 6 .done))))))) Tryz.mixed rfl (by kernel_rfl) ?_
  refine XT.q rfl rfl (Q.move rfl) ?_
  refine XT.q rfl rfl (Q.move rfl) ?_
  refine XT.ix rfl rfl rfl rfl (by omega) (by omega) fun i17 => ?_
  refine XT.q rfl rfl (Q.ldE rfl (by first | assumption | omega) rfl) ?_
  refine XT.q rfl rfl (Q.fieldAddr rfl) ?_
  refine XT.q rfl rfl (Q.ld rfl rfl) ?_
  refine XT.q rfl rfl (Q.gtr rfl rfl) ?_
  refine XT.done ?_
  refine XK.if rfl (fun c1 => ?_) (fun c1 => ?_)
  ·skip
   refine XK.seq (XK.region rfl (XO.q (Q.move rfl) (XO.q (Q.assign rfl) (XO.done ?_))))
   refine XK.rt [] Tryz.func65 Tryz.results65 (.t rfl .n) ?_
   exact ⟨by rw [hotP, firstTo_at (i := i) (by omega) (by rw [hotAt, decide_eq_true_eq]; exact c1) hc], rfl⟩
  ·skip
   refine XK.skip ?_
   refine XK.inBlock ?_
   refine XK.region rfl ?_
   refine XO.q (Q.add rfl rfl ⟨by omega, by omega⟩) ?_
   refine XO.q (Q.move rfl) (XO.done ?_)
   exact ih0 (i + 1) _ _ ⟨by omega, fun j hj => by
     by_cases hji : j < i
     ·exact hc j hji
     ·rw [show j = i by omega, hotAt, decide_eq_false_iff_not]; exact c1⟩ (by first | omega | (dsimp only; omega)) (.c rfl (.base 33 rfl rfl)) inferInstance
 ·skip
  refine XK.exit rfl ?_
  refine XK.seq (XK.region rfl (XO.q (Q.assign rfl) (XO.done ?_)))
  refine XK.rt [] Tryz.func65 Tryz.results65 (.t rfl .n) ?_
  have hin : i = h.rooms.length := by omega
  subst hin
  exact ⟨by rw [hotP, firstTo_none hc], rfl⟩
/-- Slices in one heap, a row each. -/
def Rows (us : List Value) (K : PHeap) (rows : List (List Int)) : Prop := us.length = rows.length ∧ ∀ i, i < us.length → Arr (us.getD i default) encI 1 K (rows.getD i default)
def RowsTo (us : List Value) (K : PHeap) (h : Hall) (c : Nat → HCase) (t : List Int) (n : Nat) : Prop := us.length = n ∧ ∀ i, i < n → Arr (us.getD i default) encI 1 K (iterT h c t (i + 1))
theorem RowsTo.rows {us : List Value} {K : PHeap} {h : Hall} {c : Nat → HCase} {t : List Int} {n : Nat} (r : RowsTo us K h c t n) : Rows us K (rowsL h c t n) := ⟨r.1.trans (rows_len ..).symm, fun i hi => by
 rw [rows_at (by have := r.1; omega)]
 exact r.2 i (by have := r.1; omega)⟩
theorem RowsTo.mono {us : List Value} {K K' : PHeap} {h : Hall} {c : Nat → HCase} {t : List Int} {n : Nat} (hl : leH K K') (r : RowsTo us K h c t n) : RowsTo us K' h c t n := ⟨r.1, fun i hi => Arr.le_heap (r.2 i hi) hl⟩
theorem getD_snoc {α : Type} [Inhabited α] (l : List α) (x : α) (i : Nat) : (l ++ [x]).getD i default = if i < l.length then l.getD i default else if i = l.length then x else default := by
 rw [List.getD_eq_getElem?_getD, List.getElem?_append]
 split
 ·rw [List.getD_eq_getElem?_getD]
 ·split
  ·rename_i h1 h2; subst h2; simp
  ·rename_i h1 h2
   rw [List.getElem?_eq_none (by simp; omega)]; rfl
theorem RowsTo.snoc {us : List Value} {K : PHeap} {h : Hall} {c : Nat → HCase} {t : List Int} {n : Nat} {u : Value} (r : RowsTo us K h c t n) (a : Arr u encI 1 K (iterT h c t (n + 1))) : RowsTo (us ++ [u]) K h c t (n + 1) := ⟨by rw [List.length_append, r.1]; rfl, fun i hi => by
 rw [getD_snoc]
 have := r.1
 by_cases hc : i < us.length
 ·rw [if_pos hc]; exact r.2 i (by omega)
 ·rw [if_neg hc, if_pos (by omega), show i = n by omega]; exact a⟩
theorem RowsTo.nil {K : PHeap} {h : Hall} {c : Nat → HCase} {t : List Int} : RowsTo [] K h c t 0 := ⟨rfl, fun i hi => by omega⟩
end Go.X.Ht
