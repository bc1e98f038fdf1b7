/- A part of the proof: a small program logic, plain laws and contracts of functions, each proved by a walk through its operations. No condition but those that stand in each theorem. -/
import Derived.Test.YtkoojoljdpbnoaaGreatA4
set_option linter.unusedSimpArgs false
set_option maxRecDepth 20000
set_option linter.unusedVariables false
namespace Go.X.Ke
open Go.Proofs
theorem mul64_one (n : Nat) (h : n ≤ 4294967295) : Spec Tryz.prog 199 #[.int .u64 1, .int .u64 (n : Nat)] [] [] (fun v hs => v = .tuple #[.int .u64 0, .int .u64 (n : Nat)] ∧ hs = []) := by
 have h1 : (1 : Int) % 4294967296 = 1 := by decide
 have h2 : (1 : Int) / 4294967296 = 0 := by decide
 have h3 : (n : Int) % 4294967296 = n := by omega
 have h4 : (n : Int) / 4294967296 = 0 := by omega
 have h5 : (0 : Int) % 4294967296 = 0 := by decide
 have h6 : (0 : Int) / 4294967296 = 0 := by decide
 refine Spec.intro (fn := Tryz.f199) (N := 51) Tryz.func199 rfl Tryz.ntmps199 rfl fun B => ?_
 refine XK.seq (XK.region rfl (XO.q (Q.assign rfl) (XO.q (Q.assign rfl) (XO.done (XK.seq ?_)))))
 refine XK.region rfl (XO.q (Q.move rfl) ?_)
 refine XO.q (Q.mask32 rfl rfl (by omega)) ?_
 rw [h1]
 refine XO.q (Q.assign rfl) (XO.done (XK.seq (XK.region rfl (XO.q (Q.move rfl) ?_))))
 refine XO.q (Q.shr32 rfl rfl) ?_
 rw [h2]
 refine XO.q (Q.assign rfl) (XO.done (XK.seq (XK.region rfl (XO.q (Q.move rfl) ?_))))
 refine XO.q (Q.mask32 rfl rfl (by omega)) ?_
 rw [h3]
 refine XO.q (Q.assign rfl) (XO.done (XK.seq (XK.region rfl (XO.q (Q.move rfl) ?_))))
 refine XO.q (Q.shr32 rfl rfl) ?_
 rw [h4]
 refine XO.q (Q.assign rfl) (XO.done (XK.seq (XK.region rfl (XO.q (Q.move rfl) (XO.q (Q.move rfl) ?_)))))
 refine XO.q (Q.mulU rfl rfl (by omega)) ?_
 rw [Int.one_mul]
 refine XO.q (Q.assign rfl) (XO.done (XK.seq (XK.region rfl (XO.q (Q.move rfl) (XO.q (Q.move rfl) ?_)))))
 refine XO.q (Q.mulU rfl rfl (by omega)) ?_
 rw [Int.zero_mul]
 refine XO.q (Q.move rfl) ?_
 refine XO.q (Q.shr32 rfl rfl) ?_
 rw [h4]
 refine XO.q (Q.addU rfl rfl (by omega)) ?_
 rw [Int.add_zero]
 refine XO.q (Q.assign rfl) (XO.done (XK.seq (XK.region rfl (XO.q (Q.move rfl) ?_))))
 refine XO.q (Q.mask32 rfl rfl (by omega)) ?_
 rw [h5]
 refine XO.q (Q.assign rfl) (XO.done (XK.seq (XK.region rfl (XO.q (Q.move rfl) ?_))))
 refine XO.q (Q.shr32 rfl rfl) ?_
 rw [h6]
 refine XO.q (Q.assign rfl) (XO.done (XK.seq (XK.region rfl (XO.q (Q.move rfl) (XO.q (Q.move rfl) ?_)))))
 refine XO.q (Q.move rfl) ?_
 refine XO.q (Q.mulU rfl rfl (by omega)) ?_
 rw [Int.mul_zero]
 refine XO.q (Q.addU rfl rfl (by omega)) ?_
 rw [Int.add_zero]
 refine XO.q (Q.assign rfl) (XO.done (XK.seq (XK.region rfl (XO.q (Q.move rfl) (XO.q (Q.move rfl) ?_)))))
 refine XO.q (Q.mulU rfl rfl (by omega)) ?_
 rw [Int.mul_zero]
 refine XO.q (Q.move rfl) ?_
 refine XO.q (Q.addU rfl rfl (by omega)) ?_
 rw [Int.add_zero]
 refine XO.q (Q.move rfl) ?_
 refine XO.q (Q.shr32 rfl rfl) ?_
 rw [h6]
 refine XO.q (Q.addU rfl rfl (by omega)) ?_
 rw [Int.add_zero]
 refine XO.q (Q.assign rfl) (XO.done (XK.seq (XK.region rfl (XO.q (Q.move rfl) (XO.q (Q.move rfl) ?_)))))
 refine XO.q (Q.mulU rfl rfl (by omega)) ?_
 rw [Int.one_mul]
 refine XO.q (Q.assign rfl) (XO.done ?_)
 refine XK.rt [] Tryz.func199 Tryz.results199 (.t rfl (.t rfl .n)) ?_
 exact ⟨rfl, rfl⟩
theorem mul_one' (n : Nat) (h : n ≤ 4294967295) : Spec Tryz.prog 160 #[.int .u64 1, .int .u64 (n : Nat)] [] [] (fun v hs => v = .tuple #[.int .u64 0, .int .u64 (n : Nat)] ∧ hs = []) := by
 refine Spec.intro (fn := Tryz.f160) (N := 30) Tryz.func160 rfl Tryz.ntmps160 rfl fun B => ?_
 refine XK.seq (XK.region rfl (XO.q (Q.assign rfl) (XO.q (Q.assign rfl) (XO.done (XK.seq ?_)))))
 refine XK.if rfl (fun c0 => ?_) (fun c0 => ?_)
 ·skip
  exact c0.elim
 ·skip
  refine XK.skip (XK.seq (XK.region rfl (XO.q (Q.move rfl) (XO.q (Q.move rfl) ?_))))
  refine XO.call Tryz.call199 rfl rfl rfl (mul64_one n h) fun v25 s25 R25 => ?_
  obtain ⟨rfl, rfl⟩ := R25
  dsimp only [lcA, lnA]
  refine XO.q (Q.move rfl) ?_
  refine XO.q (Q.extract rfl rfl) ?_
  refine XO.q (Q.extract rfl rfl) ?_
  refine XO.q (Q.assign rfl) (XO.q (Q.assign rfl) (XO.done (XK.seq (XK.region rfl (XO.q (Q.move rfl) ?_)))))
  refine XO.q (Q.move rfl) (XO.q (Q.assign rfl) (XO.q (Q.assign rfl) (XO.done ?_)))
  refine XK.rt [] Tryz.func160 Tryz.results160 (.t rfl (.t rfl .n)) ?_
  exact ⟨rfl, rfl⟩
theorem repeatI (v : Value) (h : PHeap) (x : Int) [s : Arr v encI 1 h [x]] (n : Nat) (hn : n ≤ 4294967295) : Spec Tryz.prog 100 #[v, .int .i64 (n : Nat)] [] [h] (fun v' hs => ∃ h', hs = [h'] ∧ OArr v' encI 1 3 h' (List.replicate n x)) := by
 have hw1 : IntKind.u64.wrap ((([x] : List Int).length : Nat) : Int) = 1 := rfl
 have hw2 : IntKind.u64.wrap ((n : Nat) : Int) = n := wrapu64 (by omega)
 have hw3 : IntKind.i64.wrap ((n : Nat) : Int) = n := wrap64_of ⟨by omega, by omega⟩
 have hl1 : ([x] : List Int).length = 1 := rfl
 refine Spec.intro (fn := Tryz.f100) (N := 48) Tryz.func100 rfl Tryz.ntmps100 rfl fun B => ?_
 refine XK.seq (XK.region rfl (XO.q (Q.assign rfl) (XO.done (XK.seq (XK.seq ?_)))))
 refine XK.region rfl (XO.q (Q.move rfl) ?_)
 refine XO.q (Q.lss rfl rfl) ?_
 refine XO.done ?_
 refine XK.if rfl (fun c0 => ?_) (fun c0 => ?_)
 ·skip
  exact absurd c0 (by omega)
 ·skip
  refine XK.skip (XK.seq (XK.region rfl (XO.q (Q.move rfl) ?_)))
  refine XO.len rfl fun l14 => ?_
  refine XO.q (Q.conv rfl) ?_
  rw [hw1]
  refine XO.q (Q.move rfl) ?_
  refine XO.q (Q.conv rfl) ?_
  rw [hw2]
  refine XO.call Tryz.call160 rfl rfl rfl (mul_one' n hn) fun v18 s18 R18 => ?_
  obtain ⟨rfl, rfl⟩ := R18
  dsimp only [lcA, lnA]
  refine XO.q (Q.move rfl) ?_
  refine XO.q (Q.extract rfl rfl) ?_
  refine XO.q (Q.extract rfl rfl) ?_
  refine XO.q (Q.assign rfl) (XO.q (Q.assign rfl) (XO.done (XK.seq (XK.seq (XK.region rfl ?_)))))
  refine XO.q (Q.move rfl) ?_
  refine XO.q (Q.gtr rfl rfl) ?_
  refine XO.q (Q.move rfl) ?_
  refine XO.q (Quiet.guardF rfl rfl fun g24 p24 => Q.move rfl) ?_
  refine XO.q (Quiet.guardF rfl rfl fun g25 p25 => Q.gtr (lzv g25 rfl) rfl) ?_
  refine XO.q (Q.or rfl (fun hp => lzv hp rfl)) ?_
  refine XO.done ?_
  refine XK.if rfl (fun c1 => ?_) (fun c1 => ?_)
  ·skip
   exact absurd c1 (by omega)
  ·skip
   refine XK.skip (XK.seq (XK.region rfl (XO.q (Q.move rfl) ?_)))
   refine XO.q (Q.conv rfl) ?_
   rw [hw3]
   refine XO.make encI (0) rfl rfl rfl (by omega) (by omega) (fun _ => rfl) rfl rfl rfl (by dsimp only [encI]; infer_instance) fun v30 h30 O30 => ?_
   refine XO.q (Q.assign rfl) (XO.done (XK.seq (XK.region rfl (XO.q (Q.move rfl) (XO.q (Q.move rfl) ?_)))))
   refine XO.copy rfl (tailv_zero (s := O30)).symm rfl (by omega) fun h33 O33 => ?_
   rw [show min ([x] : List Int).length ((List.replicate n (0 : Int)).length - 0) = min 1 n by simp]
   refine XO.q (Q.assign rfl) (XO.done (XK.seq (XK.block ?_)))
   refine XK.while (X := Nat × PHeap) [8, 34, 35, 36, 37, 38, 39, 40, 41, 42, 43, 44, 45, 46] (fun ⟨m, hM⟩ => [(8, some (.int .i64 (m : Nat)))]) (fun ⟨m, hM⟩ => [hM]) (fun ⟨m, hM⟩ => m ≤ n ∧ (0 < n → 0 < m) ∧ OArr v30 encI 1 3 hM (List.replicate m x ++ List.replicate (n - m) 0)) (fun ⟨m, hM⟩ => n - m) (min 1 n, h33) [h33] rfl ⟨by omega, by omega, by have := O33; rw [repeat_first] at this; exact this⟩ (.c rfl (.base 0 rfl rfl)) ?_
   rintro ⟨m, hM⟩ ⟨hm, hm0, OM⟩ ih0
   dsimp only [lcA, lnA] at ih0 ⊢
   have hlm : (List.replicate m x ++ List.replicate (n - m) 0).length = n := by rw [List.length_append, List.length_replicate, List.length_replicate]; omega
   have hmm : min (((List.replicate m x ++ List.replicate (n - m) (0 : Int)).drop 0).take (m - 0)).length ((List.replicate m x ++ List.replicate (n - m) (0 : Int)).length - m) = min m (n - m) := by
    rw [hlm, List.drop_zero, List.length_take, hlm]; omega
   refine XK.seq (XK.seq (XK.region rfl (XO.q (Q.move rfl) (XO.q (Q.move rfl) ?_))))
   refine XO.len rfl fun l36 => ?_
   refine XO.q (Q.lss rfl rfl) ?_
   refine XO.done ?_
   refine XK.if rfl (fun c2 => ?_) (fun c2 => ?_)
   ·skip
    refine XK.skip (XK.block ?_)
    refine XK.drawn [0, 1, 2, 3, 4, 5, 6, 8, 9] [] [] (.q 0 (.q 1 (.q 2 (.q 3 (.q 4 (.q 5 (.q 6 (.br 7 true (.q 8 (.q 9 .done)) .stop)))))))) Tryz.mixed rfl (by kernel_rfl) ?_
    refine XT.q rfl rfl (Q.move rfl) ?_
    refine XT.q rfl rfl (Q.move rfl) ?_
    refine XT.q rfl rfl (Q.move rfl) ?_
    refine XT.q rfl rfl (Q.tail (i := m) rfl (.s rfl (by omega)) (by omega)) ?_
    refine XT.q rfl rfl (Q.move rfl) ?_
    refine XT.q rfl rfl (Q.move rfl) ?_
    refine XT.q rfl rfl (Q.cut (i := 0) (j := m) rfl .n (.s rfl (by omega)) (by omega) (by omega)) ?_
    have A44 := Arr.cut (v := v30) (i := 0) (j := m) inferInstance (by omega) (by omega)
    refine XT.copy rfl rfl rfl rfl rfl (by omega) (fun h45 O45 => ⟨inferInstance, ?_⟩) XT.stop
    rw [hmm]
    refine XT.q rfl rfl (Q.add rfl rfl ⟨by omega, by omega⟩) ?_
    rw [show ((m : Int) + ((min m (n - m) : Nat) : Int)) = ((m + min m (n - m) : Nat) : Int) from rfl]
    refine XT.q rfl rfl (Q.assign rfl) ?_
    refine XT.done ?_
    refine XK.inBlock ?_
    exact ih0 (m + min m (n - m), h45) _ _ ⟨by omega, by omega, by have := O45; rw [repeat_step x 0 hm] at this; exact this⟩ (by first | omega | (dsimp only; omega)) (.c rfl (.base 29 rfl rfl)) inferInstance
   ·skip
    refine XK.exit rfl ?_
    refine XK.seq (XK.region rfl (XO.q (Q.move rfl) (XO.q (Q.assign rfl) (XO.done ?_))))
    refine XK.rt [hM] Tryz.func100 Tryz.results100 (.t rfl .n) ?_
    have hmn : m = n := by omega
    subst hmn
    exact ⟨hM, rfl, by simpa using OM⟩
end Go.X.Ke

set_option linter.unusedSimpArgs false
set_option maxRecDepth 20000
set_option linter.unusedVariables false
namespace Go.X.Ke
open Go.Proofs
theorem cloneB (v : Value) (h : PHeap) (xs : List Bool) [s : Arr v encB 1 h xs] (hl : xs.length ≤ 68719476736) :
  Spec Tryz.prog 99 #[v] [] [h] (fun v' hs => ∃ h', hs = [h'] ∧ OArr v' encB 1 4 h' xs) := by
 refine Spec.intro (fn := Tryz.f99) (N := 8) Tryz.func99 rfl Tryz.ntmps99 rfl fun B => ?_
 refine XK.seq (XK.region rfl (XO.q (Q.assign rfl) (XO.done (XK.seq (XK.seq ?_)))))
 refine XK.region rfl (XO.q (Q.move rfl) ?_)
 refine XO.eqNil rfl fun z4 hz4 => ?_
 refine XO.done ?_
 refine XK.if rfl (fun c0 => ?_) (fun c0 => ?_)
 ·skip
  refine XK.seq (XK.region rfl (XO.q (Q.assign rfl) (XO.done ?_)))
  refine XK.rt [emp] Tryz.func99 Tryz.results99 (.t rfl .n) ?_
  exact ⟨emp, rfl, by rw [(hz4 c0).1]; exact OArr.nil (fun _ => rfl)⟩
 ·skip
  refine XK.skip (XK.seq (XK.region rfl ?_))
  refine XO.lit [] [] [] encB (by rfl) (by rfl) rfl (by rfl) (by exact .n _) (fun _ => rfl) (by rfl) rfl (by infer_instance) rfl fun v5 h5 O5 => ?_
  refine XO.q (Q.move rfl) ?_
  refine XO.append rfl rfl rfl rfl (by first | omega | (simp; omega)) fun v7 h7 O7 => ?_
  refine XO.q (Q.assign rfl) (XO.done ?_)
  refine XK.rt [h7] Tryz.func99 Tryz.results99 (.t rfl .n) ?_
  exact ⟨h7, rfl, O7⟩
theorem cloneI (v : Value) (h : PHeap) (xs : List Int) [s : Arr v encI 1 h xs] (hl : xs.length ≤ 68719476736) :
  Spec Tryz.prog 59 #[v] [] [h] (fun v' hs => ∃ h', hs = [h'] ∧ OArr v' encI 1 3 h' xs) := by apply Go.X.Bk.cloneI <;> assumption
theorem equalI (v1 v2 : Value) (h1 h2 : PHeap) (xs ys : List Int) [s1 : Arr v1 encI 1 h1 xs] [s2 : Arr v2 encI 1 h2 ys] :
  Spec Tryz.prog 35 #[v1, v2] [] [h1, h2] (fun v hs => v = .bool (decide (xs = ys)) ∧ hs = []) := by apply Go.X.Bk.equalI <;> assumption
end Go.X.Ke

set_option linter.unusedSimpArgs false
set_option maxRecDepth 20000
set_option linter.unusedVariables false
namespace Go.X.Ke
open Go.Proofs
theorem indexFuncI (v : Value) (h : PHeap) (xs : List Int) [s : Arr v encI 1 h xs] (gid : FuncId) (cap : List Value) (Hr : List PHeap) (p : Int → Bool)
  (hc : ∀ args w, (callFunc gid args).run Tryz.prog w = .ok (.enter gid args) w) (hS : ∀ x ∈ xs, Spec Tryz.prog gid (.int .i64 x :: cap).toArray [] Hr (fun v hs => v = .bool (p x) ∧ hs = [])) :
  Spec Tryz.prog 159 #[v, .func (.func gid) #[] cap.toArray] [] (h :: Hr) (fun v hs => v = .int .i64 (findFirst p xs) ∧ hs = []) := by apply Go.X.Bk.indexFuncI <;> assumption
theorem containsFuncI (v : Value) (h : PHeap) (xs : List Int) [s : Arr v encI 1 h xs] (gid : FuncId) (cap : List Value) (Hr : List PHeap) (p : Int → Bool)
  (hc : ∀ args w, (callFunc gid args).run Tryz.prog w = .ok (.enter gid args) w) (hS : ∀ x ∈ xs, Spec Tryz.prog gid (.int .i64 x :: cap).toArray [] Hr (fun v hs => v = .bool (p x) ∧ hs = [])) :
  Spec Tryz.prog 97 #[v, .func (.func gid) #[] cap.toArray] [] (h :: Hr) (fun v hs => v = .bool (xs.any p) ∧ hs = []) := by apply Go.X.Bk.containsFuncI <;> assumption
end Go.X.Ke

set_option linter.unusedSimpArgs false
set_option maxRecDepth 20000
set_option linter.unusedVariables false
namespace Go.X.Ke
open Go.Proofs
theorem check1 (b T : Nat) (n x : Int) (cs : List Value) : Spec Tryz.prog 98 #[.int .i64 x, ptr b 0] [] [blk b (.int .i64 n :: cs) T] (fun v hs => v = .bool (decide (x < -1) || decide (n ≤ x)) ∧ hs = []) := by
 refine Spec.intro (fn := Tryz.f98) (N := 12) Tryz.func98 rfl Tryz.ntmps98 rfl fun B => ?_
 refine XK.seq (XK.region rfl (XO.q (Q.assign rfl) (XO.done (XK.seq (XK.region rfl ?_)))))
 refine XO.q (Q.move rfl) ?_
 refine XO.q (Q.lss rfl rfl) ?_
 refine XO.q (Q.move rfl) ?_
 refine XO.q (Quiet.guardF rfl rfl fun g7 p7 => Q.move rfl) ?_
 refine XO.q (Quiet.guardF rfl rfl fun g8 p8 => Q.fieldAddr rfl) ?_
 refine XO.q (Quiet.guardF rfl rfl fun g9 p9 => Q.ld (lzv g9 rfl) rfl) ?_
 refine XO.q (Quiet.guardF rfl rfl fun g10 p10 => Q.geq (lzv g10 rfl) (lzv g10 rfl)) ?_
 refine XO.q (Q.or rfl (fun hp => lzv hp rfl)) ?_
 refine XO.q (Q.assign rfl) (XO.done ?_)
 refine XK.rt [] Tryz.func98 Tryz.results98 (.t rfl .n) ?_
 exact ⟨rfl, rfl⟩
theorem check (g : G) (vn vg : Value) (hn hg : PHeap) [sn : Arr vn encI 1 hn g.next] [sg : Arr vg encB 1 hg g.good] : Spec Tryz.prog 44 #[.agg #[.int .i64 g.S, .int .i64 g.C, .int .i64 g.K, vn, vg]] [] [hn, hg] (fun v hs => v = .int .i64 (gcheck g) ∧ hs = []) := by
 refine Spec.intro (fn := Tryz.f44) (N := 58) Tryz.func44 rfl Tryz.ntmps44 rfl fun B => ?_
 refine XK.seq (XK.region rfl ?_)
 refine XO.box rfl fun b1 => ?_
 refine XO.q (Q.assign rfl) (XO.done (XK.seq (XK.block (XK.seq (XK.region rfl ?_)))))
 refine XO.q (Q.fieldAddr rfl) ?_
 refine XO.q (Q.ld rfl rfl) ?_
 refine XO.q (Q.lss rfl rfl) ?_
 refine XO.q (Q.move rfl) ?_
 refine XO.q (Quiet.guardF rfl rfl fun g8 p8 => Q.fieldAddr rfl) ?_
 refine XO.q (Quiet.guardF rfl rfl fun g9 p9 => Q.ld (lzv g9 rfl) rfl) ?_
 refine XO.q (Quiet.guardF rfl rfl fun g10 p10 => Q.gtr (lzv g10 rfl) rfl) ?_
 refine XO.q (Q.or rfl (fun hp => lzv hp rfl)) ?_
 refine XO.q (Q.move rfl) ?_
 refine XO.q (Quiet.guardF rfl rfl fun g13 p13 => Q.fieldAddr rfl) ?_
 refine XO.q (Quiet.guardF rfl rfl fun g14 p14 => Q.ld (lzv g14 rfl) rfl) ?_
 refine XO.q (Quiet.guardF rfl rfl fun g15 p15 => Q.lss (lzv g15 rfl) rfl) ?_
 refine XO.q (Q.or rfl (fun hp => lzv hp rfl)) ?_
 refine XO.q (Q.move rfl) ?_
 refine XO.q (Quiet.guardF rfl rfl fun g18 p18 => Q.fieldAddr rfl) ?_
 refine XO.q (Quiet.guardF rfl rfl fun g19 p19 => Q.ld (lzv g19 rfl) rfl) ?_
 refine XO.q (Quiet.guardF rfl rfl fun g20 p20 => Q.gtr (lzv g20 rfl) rfl) ?_
 refine XO.q (Q.or rfl (fun hp => lzv hp rfl)) ?_
 refine XO.q (Q.move rfl) ?_
 refine XO.q (Quiet.guardF rfl rfl fun g23 p23 => Q.fieldAddr rfl) ?_
 refine XO.q (Quiet.guardF rfl rfl fun g24 p24 => Q.ld (lzv g24 rfl) rfl) ?_
 refine XO.q (Quiet.guardF rfl rfl fun g25 p25 => Q.lss (lzv g25 rfl) rfl) ?_
 refine XO.q (Q.or rfl (fun hp => lzv hp rfl)) ?_
 refine XO.q (Q.move rfl) ?_
 refine XO.q (Quiet.guardF rfl rfl fun g28 p28 => Q.fieldAddr rfl) ?_
 refine XO.q (Quiet.guardF rfl rfl fun g29 p29 => Q.ld (lzv g29 rfl) rfl) ?_
 refine XO.q (Quiet.guardF rfl rfl fun g30 p30 => Q.gtr (lzv g30 rfl) rfl) ?_
 refine XO.q (Q.or rfl (fun hp => lzv hp rfl)) ?_
 refine XO.q (Q.assign rfl) (XO.done ?_)
 refine XK.if rfl (fun c0 => ?_) (fun c0 => ?_)
 ·skip
  refine XK.seq (XK.region rfl (XO.q (Q.assign rfl) (XO.done ?_)))
  refine XK.rt [] Tryz.func44 Tryz.results44 (.t rfl .n) ?_
  exact ⟨by rw [gcheck, if_pos (by omega)], rfl⟩
 ·skip
  have hb := g_bd c0
  refine XK.seq (XK.region rfl ?_)
  refine XO.q (Q.fieldAddr rfl) ?_
  refine XO.q (Q.ld rfl rfl) ?_
  refine XO.len rfl fun l35 => ?_
  refine XO.q (Q.fieldAddr rfl) ?_
  refine XO.q (Q.ld rfl rfl) ?_
  refine XO.q (Q.fieldAddr rfl) ?_
  refine XO.q (Q.ld rfl rfl) ?_
  refine XO.q (Q.mul rfl rfl ⟨by omega, by omega⟩) ?_
  refine XO.q (Q.fieldAddr rfl) ?_
  refine XO.q (Q.ld rfl rfl) ?_
  refine XO.q (Q.mul rfl rfl ⟨by omega, by omega⟩) ?_
  refine XO.q (Q.neq rfl rfl) ?_
  refine XO.q (Q.move rfl) ?_
  refine XO.q (Quiet.guardF rfl rfl fun g46 p46 => Q.fieldAddr rfl) ?_
  refine XO.q (Quiet.guardF rfl rfl fun g47 p47 => Q.ld (lzv g47 rfl) rfl) ?_
  refine XO.q (Quiet.guardF rfl rfl fun g48 p48 => Q.len (lzv g48 rfl)) ?_
  refine XO.q (Quiet.guardF rfl rfl fun g49 p49 => Q.fieldAddr rfl) ?_
  refine XO.q (Quiet.guardF rfl rfl fun g50 p50 => Q.ld (lzv g50 rfl) rfl) ?_
  refine XO.q (Quiet.guardF rfl rfl fun g51 p51 => Q.neq (lzv g51 rfl) (lzv g51 rfl)) ?_
  refine XO.q (Q.or rfl (fun hp => lzv hp rfl)) ?_
  refine XO.q (Q.assign rfl) (XO.done ?_)
  refine XK.if rfl (fun c1 => ?_) (fun c1 => ?_)
  ·skip
   refine XK.seq (XK.region rfl (XO.q (Q.assign rfl) (XO.done ?_)))
   refine XK.rt [] Tryz.func44 Tryz.results44 (.t rfl .n) ?_
   exact ⟨by rw [gcheck, if_neg (by omega), if_pos (by omega)], rfl⟩
  ·skip
   refine XK.seq (XK.region rfl ?_)
   refine XO.q (Q.fieldAddr rfl) ?_
   refine XO.q (Q.ld rfl rfl) ?_
   refine XO.q (Q.func (fun _ he => rfl) (fun _ he => evs_rel he rfl)) ?_
   refine XO.call Tryz.call97 rfl rfl rfl (containsFuncI vn hn g.next 98 [ptr b1 0] [blk b1 [.int .i64 g.S, .int .i64 g.C, .int .i64 g.K, vn, vg] 42] _ Tryz.call98 (fun x _ => check1 b1 42 g.S x _)) fun v57 s57 R57 => ?_
   obtain ⟨rfl, rfl⟩ := R57
   dsimp only [lcA, lnA]
   refine XO.q (Q.assign rfl) (XO.done ?_)
   refine XK.if rfl (fun c2 => ?_) (fun c2 => ?_)
   ·skip
    refine XK.seq (XK.region rfl (XO.q (Q.assign rfl) (XO.done ?_)))
    refine XK.rt [] Tryz.func44 Tryz.results44 (.t rfl .n) ?_
    exact ⟨by rw [gcheck, if_neg (by omega), if_neg (by omega), if_pos c2], rfl⟩
   ·skip
    refine XK.skip ?_
    refine XK.inBlock ?_
    refine XK.seq (XK.region rfl (XO.q (Q.assign rfl) (XO.done ?_)))
    refine XK.rt [] Tryz.func44 Tryz.results44 (.t rfl .n) ?_
    exact ⟨by rw [gcheck, if_neg (by omega), if_neg (by omega), if_neg c2], rfl⟩
theorem leads_spec (S C K : Nat) (next : List Int) (good : List Bool) (ok : Ok S C K next good) (vn vg : Value) (hn : PHeap) [sn : Arr vn encI 1 hn next] (s u : Nat) (hs : s < S) (hu : u < C) : Spec Tryz.prog 102 #[.agg #[.int .i64 (S : Nat), .int .i64 (C : Nat), .int .i64 (K : Nat), vn, vg], .int .i64 (s : Nat), .int .i64 (u : Nat)] [] [hn]
  (fun v hs => hs = [] ∧ Arr v encI 1 hn (leads next C K s u)) := by
 have hb := ok.sc
 have hl := lead_le (K := K) hs hu
 have hlen := ok.len
 have hz := lead_int s u C K
 refine Spec.intro (fn := Tryz.f102) (N := 25) Tryz.func102 rfl Tryz.ntmps102 rfl fun B => ?_
 refine XK.seq (XK.region rfl ?_)
 refine XO.box rfl fun b3 => ?_
 refine XO.q (Q.assign rfl) (XO.done (XK.seq (XK.region rfl (XO.q (Q.move rfl) ?_))))
 refine XO.q (Q.fieldAddr rfl) ?_
 refine XO.q (Q.ld rfl rfl) ?_
 refine XO.q (Q.mul rfl rfl ⟨by omega, by omega⟩) ?_
 refine XO.q (Q.move rfl) ?_
 refine XO.q (Q.add rfl rfl ⟨by omega, by omega⟩) ?_
 refine XO.q (Q.fieldAddr rfl) ?_
 refine XO.q (Q.ld rfl rfl) ?_
 refine XO.q (Q.mul rfl rfl ⟨by omega, by omega⟩) ?_
 refine XO.q (Q.assign rfl) (XO.done (XK.seq (XK.region rfl ?_)))
 refine XO.q (Q.fieldAddr rfl) ?_
 refine XO.q (Q.ld rfl rfl) ?_
 refine XO.q (Q.move rfl) (XO.q (Q.move rfl) ?_)
 refine XO.q (Q.fieldAddr rfl) ?_
 refine XO.q (Q.ld rfl rfl) ?_
 refine XO.q (Q.add rfl rfl ⟨by omega, by omega⟩) ?_
 refine XO.cut (i := (s * C + u) * K) (j := (s * C + u) * K + K) rfl (.s rfl (by omega)) (.s rfl (by omega)) (by omega) (by omega) fun v24 A24 => ?_
 refine XO.q (Q.assign rfl) (XO.done ?_)
 refine XK.rt [] Tryz.func102 Tryz.results102 (.t rfl .n) ?_
 exact ⟨rfl, by rw [Nat.add_sub_cancel_left] at A24; exact A24⟩
end Go.X.Ke

set_option linter.unusedSimpArgs false
set_option maxRecDepth 20000
set_option linter.unusedVariables false
set_option maxRecDepth 3000
namespace Go.X.Ke
open Go.Proofs
theorem keeps1 (b : Nat) (vi vc vr : Value) (hi : PHeap) (ins : List Bool) [si : Arr vi encB 1 hi ins] (x : Int) (hx : x < ins.length) : Spec Tryz.prog 103 #[.int .i64 x, ptr b 0] [] [blk b [vi, vc, vr] 48, hi]
  (fun v hs => v = .bool (bad ins x) ∧ hs = []) := by
 refine Spec.intro (fn := Tryz.f103) (N := 14) Tryz.func103 rfl Tryz.ntmps103 rfl fun B => ?_
 refine XK.seq (XK.region rfl (XO.q (Q.assign rfl) (XO.done (XK.seq (XK.region rfl ?_)))))
 refine XO.q (Q.move rfl) ?_
 refine XO.q (Q.lss rfl rfl) ?_
 refine XO.q (Q.move rfl) ?_
 refine XO.q (Quiet.guardF rfl rfl fun g7 p7 => Q.fieldAddr rfl) ?_
 refine XO.q (Quiet.guardF rfl rfl fun g8 p8 => Q.ld (lzv g8 rfl) rfl) ?_
 refine XO.q (Quiet.guardF rfl rfl fun g9 p9 => Q.move rfl) ?_
 refine XO.q (Quiet.guardF rfl rfl fun g10 p10 => Q.ix (lzv g10 rfl) (lzv g10 rfl) (by omega) (by omega)) ?_
 refine XO.q (Quiet.guardF rfl rfl fun g11 p11 => Q.ldE (lzv g11 rfl) (by first | assumption | omega) rfl) ?_
 refine XO.q (Quiet.guardF rfl rfl fun g12 p12 => Q.not (lzv g12 rfl)) ?_
 refine XO.q (Q.or rfl (fun hp => lzv hp rfl)) ?_
 refine XO.q (Q.assign rfl) (XO.done ?_)
 refine XK.rt [] Tryz.func103 Tryz.results103 (.t rfl .n) ?_
 exact ⟨rfl, rfl⟩
theorem keeps_spec (S C K : Nat) (next : List Int) (good : List Bool) (ok : Ok S C K next good) (vn vg : Value) (hn : PHeap) [sn : Arr vn encI 1 hn next] (vi vc vr : Value) (hi : PHeap) (ins : List Bool) [si : Arr vi encB 1 hi ins] [oc : One vc] [orr : One vr] (hlen : ins.length = S) (s u : Nat) (hs : s < S) (hu : u < C) :
  Spec Tryz.prog 46 #[.agg #[vi, vc, vr], .agg #[.int .i64 (S : Nat), .int .i64 (C : Nat), .int .i64 (K : Nat), vn, vg], .int .i64 (s : Nat), .int .i64 (u : Nat)] [] [hn, hi] (fun v hs => v = .bool (keepsP next C K ins s u) ∧ hs = []) := by
 have hmem : ∀ x ∈ leads next C K s u, x < ins.length := fun x hx => by
  have := ok.inr x (List.mem_of_mem_drop (List.mem_of_mem_take hx))
  omega
 refine Spec.intro (fn := Tryz.f46) (N := 16) Tryz.func46 rfl Tryz.ntmps46 rfl fun B => ?_
 refine XK.seq (XK.region rfl ?_)
 refine XO.box rfl fun b4 => ?_
 refine XO.box rfl fun b5 => ?_
 refine XO.q (Q.assign rfl) (XO.done (XK.seq (XK.region rfl ?_)))
 refine XO.q (Q.ldA [_, _, _, _, _] rfl rfl rfl) ?_
 refine XO.q (Q.move rfl) (XO.q (Q.move rfl) ?_)
 refine XO.call Tryz.call102 rfl rfl rfl (leads_spec S C K next good ok vn vg hn s u hs hu) fun v12 s12 R12 => ?_
 obtain ⟨rfl, A12⟩ := R12
 dsimp only [lcA, lnA]
 refine XO.q (Q.func (fun _ he => rfl) (fun _ he => evs_rel he rfl)) ?_
 refine XO.call Tryz.call97 rfl rfl rfl (containsFuncI v12 hn (leads next C K s u) 103 [ptr b4 0] [blk b4 [vi, vc, vr] 48, hi] _ Tryz.call103 (fun x hx => keeps1 b4 vi vc vr hi ins x (hmem x hx))) fun v14 s14 R14 => ?_
 obtain ⟨rfl, rfl⟩ := R14
 dsimp only [lcA, lnA]
 refine XO.q (Q.not rfl) ?_
 refine XO.q (Q.assign rfl) (XO.done ?_)
 refine XK.rt [] Tryz.func46 Tryz.results46 (.t rfl .n) ?_
 exact ⟨rfl, rfl⟩
theorem safe1 (b : Nat) (vi vc vr : Value) (hi : PHeap) (ins : List Bool) [si : Arr vi encB 1 hi ins] :
  It Tryz.prog (.func (.func 161) #[] #[ptr b 0]) ((insL ins).map fun s => [.int .i64 (s : Nat)]) [blk b [vi, vc, vr] 48, hi] := by
 intro f Hr QQ X hy q hq
 have hcl : ∀ args w, (callFunc 161 args).run Tryz.prog w = .ok (.enter 161 args) w := Tryz.call161
 have hap : [] ++ [f] ++ [ptr b 0] = [f, ptr b 0] := rfl
 refine VSpec.fn (P := Tryz.prog) (g := 161) (fst := []) (vs := [f]) (cap := [ptr b 0]) (A := [f, ptr b 0]) (Hm := [q]) hcl hap ?_
 dsimp only [lcA, lnA]
 have hle := si.le
 rw [List.length_map] at *
 have hcall : ∀ s, s < ins.length → ins.getD s default = true → ∀ q, QQ ((List.range s).filter fun s => ins.getD s false).length q →
   VSpec Tryz.prog f [.int .i64 (s : Nat)] [q] Hr (fun v hs => ∃ bb q', v = .bool bb ∧ hs = [q'] ∧ (bb = true → QQ (((List.range s).filter fun s => ins.getD s false).length + 1) q') ∧ (bb = false → X q')) := by
  intro s hs hp q hq
  obtain ⟨h1, h2⟩ := filter_at (p := fun s => ins.getD s false) hs hp
  have := hy _ (by exact h1) q hq
  rw [List.getD_eq_getElem?_getD, List.getElem?_map] at this
  unfold insL at this
  rw [h2] at this
  exact this
 refine Spec.intro (fn := Tryz.f161) (N := 21) Tryz.func161 rfl Tryz.ntmps161 rfl fun B => ?_
 refine XK.seq (XK.region rfl ?_)
 refine XO.q (Q.fieldAddr rfl) ?_
 refine XO.q (Q.ld rfl rfl) ?_
 refine XO.len rfl fun l7 => ?_
 refine XO.q (Q.move rfl) (XO.done (XK.block ?_))
 refine XK.while (X := Nat × PHeap) [3, 4, 8, 9, 10, 11, 12, 13, 14, 15, 16, 17, 18, 19, 20] (fun ⟨s, q1⟩ => [(8, some (.int .i64 (s : Nat)))]) (fun ⟨s, q1⟩ => [q1]) (fun ⟨s, q1⟩ => s ≤ ins.length ∧ QQ ((List.range s).filter fun s => ins.getD s false).length q1) (fun ⟨s, q1⟩ => ins.length - s) (0, q) [q] rfl ⟨by omega, hq⟩ (.c rfl (.base 0 rfl rfl)) ?_
 rintro ⟨s, q1⟩ ⟨hs, hQ⟩ ih0
 dsimp only [lcA, lnA] at ih0 ⊢
 refine XK.seq (XK.region rfl ?_)
 refine XO.q (Q.lss rfl rfl) ?_
 refine XO.done (XK.seq ?_)
 refine XK.if rfl (fun c0 => ?_) (fun c0 => ?_)
 ·skip
  refine XK.skip (XK.seq (XK.block (XK.seq (XK.region rfl (XO.q (Q.move rfl) ?_)))))
  refine XO.ix rfl rfl (by omega) (by omega) fun i11 => ?_
  refine XO.q (Q.ldE rfl (by first | assumption | omega) rfl) ?_
  refine XO.q (Q.assign rfl) (XO.q (Q.assign rfl) (XO.done (XK.seq (XK.region rfl (XO.q (Q.move rfl) ?_)))))
  refine XO.q (Q.move rfl) ?_
  refine XO.q (Quiet.guardT rfl rfl fun g15 p15 => Q.move rfl) ?_
  refine XO.q (Quiet.guardT rfl rfl fun g16 p16 => Q.move rfl) ?_
  refine XO.gvcall rfl rfl (fun g17 => lzv g17 rfl) (fun g17 => .c (lzv g17 rfl) .n) (fun g17 => hcall s (by omega) g17 q1 hQ) (fun g17 v17 s17 R17 => ?_) (fun g17 => ?_)
  ·have _tb := True.intro
   obtain ⟨bb, q2, rfl, rfl, hT, hF⟩ := R17
   dsimp only [lcA, lnA]
   refine XO.q (Quiet.guardT rfl rfl fun g18 p18 => Q.not rfl) ?_
   refine XO.q (Q.and rfl (fun hp => lzv hp rfl)) ?_
   refine XO.done ?_
   refine XK.if rfl (fun c1 => ?_) (fun c1 => ?_)
   ·skip
    refine XK.rt [q2] Tryz.func161 Tryz.results161 (.n) ?_
    exact ⟨q2, rfl, .inr (hF (by cases bb <;> simp_all))⟩
   ·skip
    refine XK.skip ?_
    refine XK.inBlock ?_
    refine XK.region rfl ?_
    refine XO.q (Q.add rfl rfl ⟨by omega, by omega⟩) ?_
    refine XO.q (Q.move rfl) (XO.done ?_)
    exact ih0 (s + 1, q2) _ _ (by refine ⟨by dsimp only; omega, ?_⟩; dsimp only; rw [filter_succ, if_pos (show ins.getD s false = true from g17)]; refine hT ?_; cases bb <;> simp_all) (by first | omega | (dsimp only; omega)) (.c rfl (.base 31 rfl rfl)) inferInstance
  ·have _tb := True.intro
   refine XO.q (Quiet.guardT (v := .bool false) rfl rfl fun g18 p18 => absurd g18 g17) ?_
   refine XO.q (Q.and rfl (fun hp => lzv hp rfl)) ?_
   refine XO.done ?_
   refine XK.if rfl (fun c2 => ?_) (fun c2 => ?_)
   ·skip
    refine XK.rt [q1] Tryz.func161 Tryz.results161 (.n) ?_
    exact absurd c2.1 g17
   ·skip
    refine XK.skip ?_
    refine XK.inBlock ?_
    refine XK.region rfl ?_
    refine XO.q (Q.add rfl rfl ⟨by omega, by omega⟩) ?_
    refine XO.q (Q.move rfl) (XO.done ?_)
    exact ih0 (s + 1, q1) _ _ (by refine ⟨by dsimp only; omega, ?_⟩; dsimp only; rw [filter_succ, if_neg (show ¬ ins.getD s false = true from g17)]; exact hQ) (by first | omega | (dsimp only; omega)) (.c rfl (.base 31 rfl rfl)) inferInstance
 ·skip
  refine XK.exit rfl ?_
  refine XK.fn [q1] Tryz.func161 Tryz.results161 (.n) ?_
  have hss : s = ins.length := by omega
  subst hss
  exact ⟨q1, rfl, .inl hQ⟩
theorem safe_spec (vi vc vr : Value) [oi : One vi] [oc : One vc] [orr : One vr] : Spec Tryz.prog 101 #[.agg #[vi, vc, vr]] [] [] (fun v hs => ∃ b, v = .func (.func 161) #[] #[ptr b 0] ∧ hs = [blk b [vi, vc, vr] 48]) := by
 refine Spec.intro (fn := Tryz.f101) (N := 4) Tryz.func101 rfl Tryz.ntmps101 rfl fun B => ?_
 refine XK.seq (XK.region rfl ?_)
 refine XO.box rfl fun b1 => ?_
 refine XO.q (Q.assign rfl) (XO.done (XK.seq (XK.region rfl ?_)))
 refine XO.q (Q.func (fun _ he => rfl) (fun _ he => evs_rel he rfl)) ?_
 refine XO.q (Q.assign rfl) (XO.done ?_)
 refine XK.rt [blk b1 [vi, vc, vr] 48] Tryz.func101 Tryz.results101 (.t rfl .n) ?_
 exact ⟨b1, rfl, rfl⟩
end Go.X.Ke

set_option linter.unusedSimpArgs false
set_option maxRecDepth 20000
set_option linter.unusedVariables false
set_option maxRecDepth 20000
namespace Go.X.Ke
open Go.Proofs
theorem solve_spec (S C K : Nat) (next : List Int) (good : List Bool) (ok : Ok S C K next good) (vn vg : Value) (hn : PHeap) [sn : Arr vn encI 1 hn next] (hg : PHeap) [sg : Arr vg encB 1 hg good] : Spec Tryz.prog 45 #[.agg #[.int .i64 (S : Nat), .int .i64 (C : Nat), .int .i64 (K : Nat), vn, vg]] [] [hn, hg]
  (fun v hs => ∃ v1 v2 v3 k1 k2 k3, v = .agg #[v1, v2, v3] ∧ hs = [k1, k2, k3] ∧ OArr v1 encB 1 4 k1 (solved S C K next good).1 ∧ OArr v2 encI 1 3 k2 (solved S C K next good).2.1 ∧ OArr v3 encI 1 3 k3 (solved S C K next good).2.2) := by
 refine Spec.intro (fn := Tryz.f45) (N := 87) Tryz.func45 rfl Tryz.ntmps45 rfl fun B => ?_
 have hnil : OArr (.slice none 0 0) encI 1 3 emp ([] : List Int) := OArr.nil (fun _ => rfl)
 have okg := ok.glen
 have oks := ok.s2
 have hcg := List.count_le_length (a := true) (l := good)
 have okc2 := ok.c2
 refine XK.seq (XK.region rfl ?_)
 refine XO.box rfl fun b1 => ?_
 refine XO.alloc fun b2 => ?_
 refine XO.done ?_
 refine XK.scope ?_
 refine XK.seq ?_
 refine XK.meet (X := Nat × Value × PHeap × Value × PHeap × Value × PHeap) [3, 12, 13, 14, 15, 16, 17, 18, 19, 20, 21, 22] (fun ⟨b3, v14, h14, v18, h18, v21, h21⟩ => [(3, some (ptr b3 0))]) (fun ⟨b3, v14, h14, v18, h18, v21, h21⟩ => [blk b3 [v14, v18, v21] 48, h14, h18, h21]) (fun ⟨b3, v14, h14, v18, h18, v21, h21⟩ => OArr v14 encB 1 4 h14 good ∧ OArr v18 encI 1 3 h18 (List.replicate S (-1)) ∧ OArr v21 encI 1 3 h21 (List.replicate S 0)) [] ?_ ?_
 ·rintro ⟨b3, v14, h14, v18, h18, v21, h21⟩ ⟨O14, O18, O21⟩
  dsimp only [lcA, lnA]
  refine XK.seq (XK.region rfl ?_)
  refine XO.q (Q.ldA [_, _, _] rfl rfl rfl) ?_
  refine XO.q (Q.func (fun _ he => evs_rel he rfl) (fun _ he => rfl)) ?_
  refine XO.alloc fun b4 => ?_
  refine XO.st rfl rfl rfl ?_
  refine XO.done (XK.seq ?_)
  refine XK.label ?_
  refine XK.seq (XK.seq (XK.region rfl (XO.q (Q.assign rfl) (XO.done (XK.block ?_)))))
  refine XK.while (X := Int × List Bool × PHeap × List Int × PHeap × List Int × PHeap) [5, 6, 7, 8, 10, 25, 26, 27, 28, 30, 31, 32, 33, 34, 35, 36, 37, 38, 39, 40, 41, 42, 43, 44, 45, 46, 47, 48, 49, 50, 51, 52, 53, 54, 55, 56, 57, 58, 59, 60, 61, 62, 63, 64, 65, 66, 67, 68, 69, 70, 71, 72, 73, 74, 75, 76, 77, 78] (fun ⟨rank, ins, hI, ctl, hC, rnk, hR⟩ => [(5, some (.int .i64 rank))]) (fun ⟨rank, ins, hI, ctl, hC, rnk, hR⟩ => [hI, hC, hR]) (fun ⟨rank, ins, hI, ctl, hC, rnk, hR⟩ => 1 ≤ rank ∧ rank + ins.count true ≤ 401 ∧ ins.length = S ∧ ctl.length = S ∧ rnk.length = S ∧ (∃ f, ins.count true < f ∧ rounds next C K f rank ins ctl rnk = rounds next C K (S + 1) 1 good (List.replicate S (-1)) (List.replicate S 0)) ∧ OArr v14 encB 1 4 hI ins ∧ OArr v18 encI 1 3 hC ctl ∧ OArr v21 encI 1 3 hR rnk) (fun ⟨rank, ins, hI, ctl, hC, rnk, hR⟩ => ins.count true) (1, good, h14, List.replicate S (-1), h18, List.replicate S 0, h21) [h14, h18, h21] rfl ⟨by omega, by omega, okg, by simp, by simp, ⟨S + 1, by omega, rfl⟩, O14, O18, O21⟩ (.c rfl (.base 0 rfl rfl)) ?_
  rintro ⟨rank, ins, hI, ctl, hC, rnk, hR⟩ ⟨hr1, hr2, hli, hlc, hlr, ⟨fu, hfu, hro⟩, OI, OC, OR⟩ ih0
  dsimp only [lcA, lnA] at ih0 ⊢
  refine XK.seq (XK.block (XK.seq (XK.region rfl ?_)))
  refine XO.alloc fun b6 => ?_
  refine XO.done (XK.seq (XK.seq (XK.region rfl ?_)))
  refine XO.q (Q.ldA [_, _, _] rfl rfl rfl) ?_
  refine XO.call Tryz.call101 rfl rfl rfl (safe_spec _ _ _) fun v28 s28 R28 => ?_
  obtain ⟨b28, rfl, rfl⟩ := R28
  dsimp only [lcA, lnA]
  refine XO.done (XK.block ?_)
  refine XK.range (X := List Int × PHeap × Value × PHeap) (ps := [29]) ((insL ins).map fun s => [Value.int .i64 ((s : Nat) : Int)]) (fun ⟨ctl2, hC2, vo, hO⟩ => [hC2, blk b6 [vo] 29, hO]) (fun i ⟨ctl2, hC2, vo, hO⟩ => ctl2 = ctlAt next C K ins ctl ((insL ins).take i) ∧ OArr v18 encI 1 3 hC2 ctl2 ∧ OArr vo encI 1 3 hO ((outsAt next C K ins ((insL ins).take i)).map fun s : Nat => (s : Int))) (fun _ _ => False) (ctl, hC, .slice none 0 0, emp) [hC, blk b6 [.slice none 0 0] 29, emp] rfl ⟨by simp [ctlAt], OC, by simpa [outsAt] using hnil⟩ rfl (safe1 b28 v14 v18 v21 hI ins) rfl (by intro i hi; rw [List.getD_eq_getElem?_getD, List.getElem?_eq_getElem hi]; simp) ?_ ?_ (fun _ _ hJ => hJ.elim)
  ·rintro lq rec B' i ⟨ctl2, hC2, vo, hO⟩ hi ⟨e2, OC2, OO⟩
   dsimp only [lcA, lnA]
   have hi2 : i < (insL ins).length := by rw [List.length_map] at hi; exact hi
   obtain ⟨s, hsL⟩ : ∃ s, (insL ins)[i]? = some s := ⟨_, List.getElem?_eq_getElem hi2⟩
   have hit : ((insL ins).map fun s => [Value.int .i64 ((s : Nat) : Int)]).getD i [] = [.int .i64 (s : Nat)] := by rw [List.getD_eq_getElem?_getD, List.getElem?_map, hsL]; rfl
   rw [hit]
   dsimp only [pars]
   obtain ⟨hsS, hsI⟩ := insL_mem hsL
   rw [hli] at hsS
   have hlc2 : ctl2.length = S := by rw [e2, ctlAt_len]; exact hlc
   have hol := outs_le (next := next) (C := C) (K := K) (ins := ins) (i := i)
   refine XK.region rfl (XO.q (Q.assign rfl) (XO.done ?_))
   refine XK.beginRound ?_
   refine XK.block (XK.seq (XK.region rfl ?_))
   refine XO.q (Q.fieldAddr rfl) ?_
   refine XO.q (Q.ld rfl rfl) ?_
   refine XO.q (Q.move rfl) ?_
   refine XO.ix rfl rfl (by omega) (by omega) fun i33 => ?_
   refine XO.stE _ rfl rfl rfl (by assumption) rfl rfl fun h8_4 O8_4 => ?_
   refine XO.done (XK.seq (XK.seq (XK.region rfl ?_)))
   refine XO.q (Q.fieldAddr rfl) ?_
   refine XO.q (Q.ld rfl rfl) ?_
   refine XO.q (Q.move rfl) (XO.done (XK.block ?_))
   refine XK.while (X := Nat) [8, 36, 37, 38, 39, 40, 41, 42, 43, 44, 45, 46, 47, 48, 49] (fun u => [(36, some (.int .i64 (u : Nat)))]) (fun u => []) (fun u => u ≤ C ∧ ∀ u2 < u, keepsP next C K ins s u2 = false) (fun u => C - u) (0) [] rfl ⟨by omega, fun _ h => by omega⟩ (.c rfl (.base 0 rfl rfl)) ?_
   rintro u ⟨hu, hno⟩ ih1
   dsimp only [lcA, lnA] at ih1 ⊢
   refine XK.seq (XK.region rfl ?_)
   refine XO.q (Q.lss rfl rfl) ?_
   refine XO.done (XK.seq ?_)
   refine XK.if rfl (fun c0 => ?_) (fun c0 => ?_)
   ·skip
    refine XK.skip (XK.seq (XK.block (XK.seq (XK.region rfl (XO.q (Q.move rfl) ?_)))))
    refine XO.q (Q.assign rfl) (XO.done (XK.seq (XK.region rfl ?_)))
    refine XO.q (Q.ld rfl rfl) ?_
    refine XO.q (Q.ldA [_, _, _, _, _] rfl rfl rfl) ?_
    refine XO.q (Q.move rfl) (XO.q (Q.move rfl) ?_)
    refine XO.call Tryz.call46 rfl rfl rfl (keeps_spec S C K next good ok vn vg hn v14 v18 v21 hI ins hli s u (by omega) (by omega)) fun v43 s43 R43 => ?_
    obtain ⟨rfl, rfl⟩ := R43
    dsimp only [lcA, lnA]
    refine XO.done ?_
    refine XK.if rfl (fun c1 => ?_) (fun c1 => ?_)
    ·skip
     refine XK.seq (XK.region rfl ?_)
     refine XO.q (Q.fieldAddr rfl) ?_
     refine XO.q (Q.ld rfl rfl) ?_
     refine XO.q (Q.move rfl) (XO.q (Q.move rfl) ?_)
     refine XO.ix rfl rfl (by omega) (by simp only [List.length_set]; omega) fun i48 => ?_
     refine XO.stE _ rfl rfl rfl (by assumption) rfl rfl fun h13_5 O13_5 => ?_
     refine XO.done ?_
     refine XK.exit rfl ?_
     refine XK.seq (XK.region rfl ?_)
     refine XO.q (Q.fieldAddr rfl) ?_
     refine XO.q (Q.ld rfl rfl) ?_
     refine XO.q (Q.move rfl) ?_
     refine XO.ix rfl rfl (by omega) (by simp only [List.length_set]; omega) fun i53 => ?_
     refine XO.q (Q.ldE rfl (by first | assumption | omega) rfl) ?_
     refine XO.q (Q.lss rfl rfl) ?_
     refine XO.done ?_
     refine XK.if rfl (fun c2 => ?_) (fun c2 => ?_)
     ·skip
      have hg : ((ctl2.set s (-1)).set s (u : Int)).getD s default = (u : Int) := by rw [List.getD_eq_getElem?_getD]; simp [hlc2, hsS]
      exact absurd c2 (by rw [hg]; omega)
     ·skip
      refine XK.skip ?_
      refine XK.inBlock ?_
      have hct := ctlOf_at (by omega) c1 hno
      exact XK.leave (j := none) [h13_5, blk b6 [vo] 29, hO] trivial ⟨((ctl2.set s (-1)).set s (u : Int), h13_5, vo, hO), ⟨by rw [take_snoc hsL, ctlAt_snoc, hct, ← e2, List.set_set], O13_5, by rw [take_snoc hsL, outs_no (by rw [hct]; omega)]; exact OO⟩, rfl⟩
    ·skip
     refine XK.skip ?_
     refine XK.inBlock ?_
     refine XK.region rfl ?_
     refine XO.q (Q.add rfl rfl ⟨by omega, by omega⟩) ?_
     refine XO.q (Q.move rfl) (XO.done ?_)
     exact ih1 (u + 1) _ _ ⟨by omega, fun u2 h2 => by rcases Nat.lt_or_ge u2 u with h3 | h3; exact hno u2 h3; rw [show u2 = u by omega]; simpa using c1⟩ (by first | omega | (dsimp only; omega)) (.c rfl (.base 26 rfl rfl)) inferInstance
   ·skip
    refine XK.exit rfl ?_
    refine XK.seq (XK.region rfl ?_)
    refine XO.q (Q.fieldAddr rfl) ?_
    refine XO.q (Q.ld rfl rfl) ?_
    refine XO.q (Q.move rfl) ?_
    refine XO.ix rfl rfl (by omega) (by simp only [List.length_set]; omega) fun i53 => ?_
    refine XO.q (Q.ldE rfl (by first | assumption | omega) rfl) ?_
    refine XO.q (Q.lss rfl rfl) ?_
    refine XO.done ?_
    refine XK.if rfl (fun c3 => ?_) (fun c3 => ?_)
    ·skip
     refine XK.region rfl ?_
     refine XO.q (Q.ld rfl rfl) ?_
     refine XO.q (Q.move rfl) ?_
     refine XO.lit [_] [_] [_] encI (by rfl) (by rfl) rfl (by rfl) (by exact .c 0 1 rfl rfl rfl (.n _)) (fun _ => rfl) (by rfl) rfl (by infer_instance) rfl fun v58 h58 O58 => ?_
     refine XO.append rfl rfl rfl rfl (by simp only [List.length_map, List.length_cons, List.length_nil]; omega) fun v59 h59 O59 => ?_
     refine XO.st rfl rfl rfl ?_
     refine XO.done ?_
     refine XK.inBlock ?_
     have hct := ctlOf_none (fun u2 h2 => hno u2 (by omega))
     exact XK.leave (j := none) [h8_4, blk b6 [v59] 29, h59] trivial ⟨(ctl2.set s (-1), h8_4, v59, h59), ⟨by rw [take_snoc hsL, ctlAt_snoc, hct, ← e2], O8_4, by rw [take_snoc hsL, outs_yes (by rw [hct]; omega), List.map_append]; exact O59⟩, rfl⟩
    ·skip
     have hg : (ctl2.set s (-1)).getD s default = -1 := by rw [List.getD_eq_getElem?_getD]; simp [hlc2, hsS]
     exact absurd (by rw [hg]; omega) c3
  ·rintro ⟨ctl2, hC2, vo, hO⟩ ⟨e2, OC2, OO⟩
   dsimp only [lcA, lnA]
   rw [List.length_map, List.take_length] at e2 OO
   refine XK.inBlock ?_
   refine XK.seq (XK.seq (XK.region rfl ?_))
   refine XO.q (Q.ld rfl rfl) ?_
   refine XO.len rfl fun l61 => ?_
   refine XO.q (Q.eql rfl rfl) ?_
   refine XO.done ?_
   refine XK.if rfl (fun c4 => ?_) (fun c4 => ?_)
   ·skip
    have h0 : (outsAt next C K ins (insL ins)).length = 0 := by rw [List.length_map] at c4; omega
    have hout := List.length_eq_zero_iff.1 h0
    obtain ⟨f2, rfl⟩ : ∃ f2, fu = f2 + 1 := ⟨fu - 1, by omega⟩
    rw [rounds, if_pos hout, ← e2] at hro
    refine XK.exit rfl ?_
    refine XK.seq (XK.seq (XK.region rfl ?_))
    refine XO.q (Q.ldA [_, _, _] rfl rfl rfl) ?_
    refine XO.call Tryz.call101 rfl rfl rfl (safe_spec _ _ _) fun v80 s80 R80 => ?_
    obtain ⟨b80, rfl, rfl⟩ := R80
    dsimp only [lcA, lnA]
    refine XO.done (XK.block ?_)
    refine XK.range (X := List Int × PHeap) (ps := [81]) ((insL ins).map fun s => [Value.int .i64 ((s : Nat) : Int)]) (fun ⟨rn2, hR2⟩ => [hR2]) (fun i ⟨rn2, hR2⟩ => rn2 = setAll rnk ((insL ins).take i) (-1) ∧ OArr v21 encI 1 3 hR2 rn2) (fun _ _ => False) (rnk, hR) [hR] rfl ⟨by simp [setAll], OR⟩ rfl (safe1 b80 v14 v18 v21 hI ins) rfl (by intro i hi; rw [List.getD_eq_getElem?_getD, List.getElem?_eq_getElem hi]; simp) ?_ ?_ (fun _ _ hJ => hJ.elim)
    ·rintro lq rec B' i ⟨rn2, hR2⟩ hi ⟨e3, OR2⟩
     dsimp only [lcA, lnA]
     have hi2 : i < (insL ins).length := by rw [List.length_map] at hi; exact hi
     obtain ⟨s, hsL⟩ : ∃ s, (insL ins)[i]? = some s := ⟨_, List.getElem?_eq_getElem hi2⟩
     have hit : ((insL ins).map fun s => [Value.int .i64 ((s : Nat) : Int)]).getD i [] = [.int .i64 (s : Nat)] := by rw [List.getD_eq_getElem?_getD, List.getElem?_map, hsL]; rfl
     rw [hit]
     dsimp only [pars]
     obtain ⟨hsS, hsI⟩ := insL_mem hsL
     rw [hli] at hsS
     have hlr2 : rn2.length = S := by rw [e3, setAll_len]; exact hlr
     refine XK.region rfl (XO.q (Q.assign rfl) (XO.done ?_))
     refine XK.beginRound ?_
     refine XK.block (XK.region rfl ?_)
     refine XO.q (Q.fieldAddr rfl) ?_
     refine XO.q (Q.ld rfl rfl) ?_
     refine XO.q (Q.move rfl) ?_
     refine XO.ix rfl rfl (by omega) (by omega) fun i85 => ?_
     refine XO.stE _ rfl rfl rfl (by assumption) rfl rfl fun h25_4 O25_4 => ?_
     refine XO.done ?_
     refine XK.inBlock ?_
     exact XK.leave (j := none) [h25_4] trivial ⟨(rn2.set s (-1), h25_4), ⟨by rw [take_snoc hsL, setAll_snoc, ← e3], O25_4⟩, rfl⟩
    ·rintro ⟨rn2, hR2⟩ ⟨e3, OR2⟩
     dsimp only [lcA, lnA]
     rw [List.length_map, List.take_length] at e3
     refine XK.inBlock ?_
     refine XK.seq (XK.region rfl ?_)
     refine XO.q (Q.ldA [_, _, _] rfl rfl rfl) ?_
     refine XO.st rfl rfl rfl ?_
     refine XO.done ?_
     refine XK.rt [hI, hC2, hR2] Tryz.func45 Tryz.results45 (.cell [_, _, _] rfl rfl rfl (.n)) ?_
     have hsol : solved S C K next good = (ins, ctl2, setAll rnk (insL ins) (-1)) := by unfold solved; rw [← hro]
     rw [hsol]
     exact ⟨v14, v18, v21, hI, hC2, hR2, rfl, rfl, OI, OC2, by rw [← e3]; exact OR2⟩
   ·skip
    have hne : outsAt next C K ins (insL ins) ≠ [] := by intro h0; rw [h0] at c4; exact c4 rfl
    obtain ⟨f2, rfl⟩ : ∃ f2, fu = f2 + 1 := ⟨fu - 1, by omega⟩
    have hlc2 : ctl2.length = S := by rw [e2, ctlAt_len]; exact hlc
    rw [rounds, if_neg hne, ← e2] at hro
    have hmem : ∀ s ∈ outsAt next C K ins (insL ins), s < ins.length ∧ ins.getD s false = true := fun s hs => by
     have h1 := List.mem_filter.1 (List.mem_filter.1 hs).1
     exact ⟨List.mem_range.1 h1.1, h1.2⟩
    have hlt := count_setAll_lt hne hmem
    obtain ⟨outs, hou⟩ : ∃ outs, outs = outsAt next C K ins (insL ins) := ⟨_, rfl⟩
    rw [← hou] at hro hlt OO hne hmem
    refine XK.skip (XK.seq (XK.region rfl ?_))
    refine XO.q (Q.ld rfl rfl) ?_
    refine XO.len rfl fun l64 => ?_
    refine XO.q (Q.move rfl) (XO.done (XK.block ?_))
    refine XK.while (X := Nat × PHeap × PHeap) [10, 65, 66, 67, 68, 69, 70, 71, 72, 73, 74, 75, 76, 77, 78] (fun ⟨j, hI2, hR2⟩ => [(65, some (.int .i64 (j : Nat)))]) (fun ⟨j, hI2, hR2⟩ => [hI2, hR2]) (fun ⟨j, hI2, hR2⟩ => j ≤ outs.length ∧ OArr v14 encB 1 4 hI2 (setAll ins (outs.take j) false) ∧ OArr v21 encI 1 3 hR2 (setAll rnk (outs.take j) rank)) (fun ⟨j, hI2, hR2⟩ => outs.length - j) (0, hI, hR) [hI, hR] rfl ⟨by omega, by simpa [setAll] using OI, by simpa [setAll] using OR⟩ (.c rfl (.base 0 rfl rfl)) ?_
    rintro ⟨j, hI2, hR2⟩ ⟨hj, OI2, OR2⟩ ih2
    dsimp only [lcA, lnA] at ih2 ⊢
    refine XK.seq (XK.region rfl ?_)
    refine XO.q (Q.lss rfl rfl) ?_
    refine XO.done (XK.seq ?_)
    refine XK.if rfl (fun c5 => ?_) (fun c5 => ?_)
    ·skip
     have hj2 : j < outs.length := by simp only [List.length_map] at c5; omega
     obtain ⟨s, hsO⟩ : ∃ s, outs[j]? = some s := ⟨_, List.getElem?_eq_getElem hj2⟩
     have hsm := (hmem s (List.mem_of_getElem? hsO)).1
     rw [hli] at hsm
     have hgs : (outs.map fun s : Nat => (s : Int)).getD j default = (s : Int) := by rw [List.getD_eq_getElem?_getD, List.getElem?_map, hsO]; rfl
     refine XK.skip (XK.seq (XK.block (XK.seq (XK.region rfl ?_))))
     refine XO.ix rfl rfl (by omega) (by omega) fun i67 => ?_
     refine XO.q (Q.ldE rfl (by first | assumption | omega) rfl) ?_
     rw [hgs]
     refine XO.q (Q.assign rfl) (XO.done ?_)
     refine XK.drawn [0, 1, 2, 3, 4, 5, 6, 7, 9] [b3] [] (.q 0 (.q 1 (.q 2 (.q 3 (.q 4 (.q 5 (.q 6 (.q 7 (.br 8 true (.q 9 (.br 10 false .done .stop)) .stop))))))))) Tryz.mixed rfl (by kernel_rfl) ?_
     refine XT.q rfl rfl (Q.fieldAddr rfl) ?_
     refine XT.q rfl rfl (Q.ld rfl rfl) ?_
     refine XT.q rfl rfl (Q.move rfl) ?_
     refine XT.q rfl rfl (Q.fieldAddr rfl) ?_
     refine XT.q rfl rfl (Q.ld rfl rfl) ?_
     refine XT.q rfl rfl (Q.move rfl) ?_
     refine XT.q rfl rfl (Q.move rfl) ?_
     refine XT.ix rfl rfl rfl rfl (by omega) (by rw [setAll_len]; omega) fun i76 => ?_
     refine XT.stE _ rfl rfl rfl rfl rfl (by assumption) rfl rfl (fun h21_8 O21_8 => ⟨inferInstance, ?_⟩) XT.stop
     refine XT.ix rfl rfl rfl rfl (by omega) (by rw [setAll_len]; omega) fun i77 => ?_
     refine XT.stE _ rfl rfl rfl rfl rfl (by assumption) rfl rfl (fun h21_10 O21_10 => ⟨inferInstance, ?_⟩) XT.stop
     refine XT.done ?_
     refine XK.inBlock ?_
     refine XK.region rfl ?_
     refine XO.q (Q.add rfl rfl ⟨by omega, by omega⟩) ?_
     refine XO.q (Q.move rfl) (XO.done ?_)
     exact ih2 (j + 1, h21_8, h21_10) _ _ ⟨by dsimp only; omega, by dsimp only; rw [take_snoc hsO, setAll_snoc]; exact O21_8, by dsimp only; rw [take_snoc hsO, setAll_snoc]; exact O21_10⟩ (by first | omega | (dsimp only; omega)) (.c rfl (.base 31 rfl rfl)) inferInstance
    ·skip
     simp only [List.length_map] at c5
     refine XK.exit rfl ?_
     refine XK.inBlock ?_
     refine XK.region rfl (XO.q (Q.move rfl) ?_)
     refine XO.q (Q.add rfl rfl ⟨by omega, by omega⟩) ?_
     refine XO.q (Q.assign rfl) (XO.done ?_)
     have hj2 : outs.take j = outs := List.take_of_length_le (by omega)
     rw [hj2] at OI2 OR2
     exact ih0 (rank + 1, setAll ins outs false, hI2, ctl2, hC2, setAll rnk outs rank, hR2) _ _ ⟨by dsimp only; omega, by dsimp only; omega, by dsimp only; rw [setAll_len]; exact hli, hlc2, by dsimp only; rw [setAll_len]; exact hlr, ⟨f2, by dsimp only; omega, hro⟩, OI2, OC2, OR2⟩ hlt (.c rfl (.base 88 rfl rfl)) inferInstance
 ·intro mtr1
  dsimp only [lcA, lnA] at mtr1
  refine XK.drawn [0, 1, 4, 5, 7, 8, 10] [b1] [] (.q 0 (.q 1 (.q 4 (.q 5 (.q 7 (.q 8 (.br 2 true (.br 3 true (.br 6 true (.br 9 true (.q 10 (.br 11 true (.br 12 false .done .stop) .stop)) (.br 11 true (.br 9 true (.q 10 (.br 12 false .done .stop)) .stop) .stop)) (.br 9 true (.br 6 true (.q 10 (.br 11 true (.br 12 false .done .stop) .stop)) (.br 11 true (.br 6 true (.q 10 (.br 12 false .done .stop)) .stop) .stop)) (.br 11 true (.br 6 true (.br 9 true (.q 10 (.br 12 false .done .stop)) .stop) (.br 9 true (.br 6 true (.q 10 (.br 12 false .done .stop)) .stop) .stop)) .stop))) (.br 9 true (.br 3 true (.br 6 true (.q 10 (.br 11 true (.br 12 false .done .stop) .stop)) (.br 11 true (.br 6 true (.q 10 (.br 12 false .done .stop)) .stop) .stop)) (.br 11 true (.br 3 true (.br 6 true (.q 10 (.br 12 false .done .stop)) .stop) .stop) .stop)) (.br 11 true (.br 3 true (.br 6 true (.br 9 true (.q 10 (.br 12 false .done .stop)) .stop) (.br 9 true (.br 6 true (.q 10 (.br 12 false .done .stop)) .stop) .stop)) (.br 9 true (.br 3 true (.br 6 true (.q 10 (.br 12 false .done .stop)) .stop) .stop) .stop)) .stop))) (.br 3 true (.br 2 true (.br 6 true (.br 9 true (.q 10 (.br 11 true (.br 12 false .done .stop) .stop)) (.br 11 true (.br 9 true (.q 10 (.br 12 false .done .stop)) .stop) .stop)) (.br 9 true (.br 6 true (.q 10 (.br 11 true (.br 12 false .done .stop) .stop)) (.br 11 true (.br 6 true (.q 10 (.br 12 false .done .stop)) .stop) .stop)) (.br 11 true (.br 6 true (.br 9 true (.q 10 (.br 12 false .done .stop)) .stop) (.br 9 true (.br 6 true (.q 10 (.br 12 false .done .stop)) .stop) .stop)) .stop))) (.br 9 true (.br 2 true (.br 6 true (.q 10 (.br 11 true (.br 12 false .done .stop) .stop)) (.br 11 true (.br 6 true (.q 10 (.br 12 false .done .stop)) .stop) .stop)) (.br 11 true (.br 2 true (.br 6 true (.q 10 (.br 12 false .done .stop)) .stop) .stop) .stop)) (.br 11 true (.br 2 true (.br 6 true (.br 9 true (.q 10 (.br 12 false .done .stop)) .stop) (.br 9 true (.br 6 true (.q 10 (.br 12 false .done .stop)) .stop) .stop)) (.br 9 true (.br 2 true (.br 6 true (.q 10 (.br 12 false .done .stop)) .stop) .stop) .stop)) .stop))) (.br 9 true (.br 2 true (.br 3 true (.br 6 true (.q 10 (.br 11 true (.br 12 false .done .stop) .stop)) (.br 11 true (.br 6 true (.q 10 (.br 12 false .done .stop)) .stop) .stop)) (.br 11 true (.br 3 true (.br 6 true (.q 10 (.br 12 false .done .stop)) .stop) .stop) .stop)) (.br 3 true (.br 2 true (.br 6 true (.q 10 (.br 11 true (.br 12 false .done .stop) .stop)) (.br 11 true (.br 6 true (.q 10 (.br 12 false .done .stop)) .stop) .stop)) (.br 11 true (.br 2 true (.br 6 true (.q 10 (.br 12 false .done .stop)) .stop) .stop) .stop)) (.br 11 true (.br 2 true (.br 3 true (.br 6 true (.q 10 (.br 12 false .done .stop)) .stop) .stop) (.br 3 true (.br 2 true (.br 6 true (.q 10 (.br 12 false .done .stop)) .stop) .stop) .stop)) .stop))) (.br 11 true (.br 2 true (.br 3 true (.br 6 true (.br 9 true (.q 10 (.br 12 false .done .stop)) .stop) (.br 9 true (.br 6 true (.q 10 (.br 12 false .done .stop)) .stop) .stop)) (.br 9 true (.br 3 true (.br 6 true (.q 10 (.br 12 false .done .stop)) .stop) .stop) .stop)) (.br 3 true (.br 2 true (.br 6 true (.br 9 true (.q 10 (.br 12 false .done .stop)) .stop) (.br 9 true (.br 6 true (.q 10 (.br 12 false .done .stop)) .stop) .stop)) (.br 9 true (.br 2 true (.br 6 true (.q 10 (.br 12 false .done .stop)) .stop) .stop) .stop)) (.br 9 true (.br 2 true (.br 3 true (.br 6 true (.q 10 (.br 12 false .done .stop)) .stop) .stop) (.br 3 true (.br 2 true (.br 6 true (.q 10 (.br 12 false .done .stop)) .stop) .stop) .stop)) .stop))) .stop)))))))))) Tryz.mixed rfl (by kernel_rfl) ?_
  refine XT.q rfl rfl (Q.fieldAddr rfl) ?_
  refine XT.q rfl rfl (Q.ld rfl rfl) ?_
  refine XT.q rfl rfl (Q.fieldAddr rfl) ?_
  refine XT.q rfl rfl (Q.ld rfl rfl) ?_
  refine XT.q rfl rfl (Q.fieldAddr rfl) ?_
  refine XT.q rfl rfl (Q.ld rfl rfl) ?_
  refine XT.call rfl rfl Tryz.call99 rfl rfl rfl (cloneB _ _ _ (by omega)) (fun v14 s14 R14 => ?_) ?_
  ·skip
   obtain ⟨h14, rfl, O14⟩ := R14
   dsimp only [lcA, lnA]
   refine ⟨inferInstance, ?_⟩
   refine XT.lit [_] [_] [-1] encI rfl rfl (by rfl) (by rfl) rfl (by rfl) (by exact .c 0 1 rfl rfl rfl (.n _)) (fun _ => rfl) (by rfl) rfl (by infer_instance) rfl (fun v15 h15 O15 => ⟨inferInstance, ?_⟩) ?_
   ·skip
    refine XT.call rfl rfl Tryz.call100 rfl rfl rfl (repeatI _ _ _ S (by omega)) (fun v18 s18 R18 => ?_) ?_
    ·skip
     obtain ⟨h18, rfl, O18⟩ := R18
     dsimp only [lcA, lnA]
     refine ⟨inferInstance, ?_⟩
     refine XT.make encI (0) rfl rfl rfl rfl rfl (by omega) (by omega) (fun _ => rfl) rfl rfl rfl (by dsimp only [encI]; infer_instance) (fun v21 h21 O21 => ⟨inferInstance, ?_⟩) ?_
     ·skip
      refine XT.q rfl rfl (Q.build [_, _, _] (.c 0 1 rfl rfl rfl (.c 1 1 rfl rfl rfl (.c 2 1 rfl rfl rfl (.n _))))) ?_
      refine XT.alloc rfl rfl (fun b3 => ⟨inferInstance, ?_⟩) XT.stop
      refine XT.st rfl rfl rfl rfl rfl ⟨inferInstance, ?_⟩ XT.stop
      refine XT.done ?_
      exact mtr1 ((b3, v14, h14, v18, h18, v21, h21)) _ _ ⟨O14, O18, O21⟩ (.c rfl (.base 12 rfl rfl)) inferInstance
     ·skip
      refine XT.alloc rfl rfl (fun b3 => ⟨inferInstance, ?_⟩) XT.stop
      refine XT.make encI (0) rfl rfl rfl rfl rfl (by omega) (by omega) (fun _ => rfl) rfl rfl rfl (by dsimp only [encI]; infer_instance) (fun v21 h21 O21 => ⟨inferInstance, ?_⟩) XT.stop
      refine XT.q rfl rfl (Q.build [_, _, _] (.c 0 1 rfl rfl rfl (.c 1 1 rfl rfl rfl (.c 2 1 rfl rfl rfl (.n _))))) ?_
      refine XT.st rfl rfl rfl rfl rfl ⟨inferInstance, ?_⟩ XT.stop
      refine XT.done ?_
      exact mtr1 ((b3, v14, h14, v18, h18, v21, h21)) _ _ ⟨O14, O18, O21⟩ (.c rfl (.base 12 rfl rfl)) inferInstance
    ·skip
     refine XT.make encI (0) rfl rfl rfl rfl rfl (by omega) (by omega) (fun _ => rfl) rfl rfl rfl (by dsimp only [encI]; infer_instance) (fun v21 h21 O21 => ⟨inferInstance, ?_⟩) ?_
     ·skip
      refine XT.call rfl rfl Tryz.call100 rfl rfl rfl (repeatI _ _ _ S (by omega)) (fun v18 s18 R18 => ?_) ?_
      ·skip
       obtain ⟨h18, rfl, O18⟩ := R18
       dsimp only [lcA, lnA]
       refine ⟨inferInstance, ?_⟩
       refine XT.q rfl rfl (Q.build [_, _, _] (.c 0 1 rfl rfl rfl (.c 1 1 rfl rfl rfl (.c 2 1 rfl rfl rfl (.n _))))) ?_
       refine XT.alloc rfl rfl (fun b3 => ⟨inferInstance, ?_⟩) XT.stop
       refine XT.st rfl rfl rfl rfl rfl ⟨inferInstance, ?_⟩ XT.stop
       refine XT.done ?_
       exact mtr1 ((b3, v14, h14, v18, h18, v21, h21)) _ _ ⟨O14, O18, O21⟩ (.c rfl (.base 12 rfl rfl)) inferInstance
      ·skip
       refine XT.alloc rfl rfl (fun b3 => ⟨inferInstance, ?_⟩) XT.stop
       refine XT.call rfl rfl Tryz.call100 rfl rfl rfl (repeatI _ _ _ S (by omega)) (fun v18 s18 R18 => ?_) XT.stop
       obtain ⟨h18, rfl, O18⟩ := R18
       dsimp only [lcA, lnA]
       refine ⟨inferInstance, ?_⟩
       refine XT.q rfl rfl (Q.build [_, _, _] (.c 0 1 rfl rfl rfl (.c 1 1 rfl rfl rfl (.c 2 1 rfl rfl rfl (.n _))))) ?_
       refine XT.st rfl rfl rfl rfl rfl ⟨inferInstance, ?_⟩ XT.stop
       refine XT.done ?_
       exact mtr1 ((b3, v14, h14, v18, h18, v21, h21)) _ _ ⟨O14, O18, O21⟩ (.c rfl (.base 12 rfl rfl)) inferInstance
     ·skip
      refine XT.alloc rfl rfl (fun b3 => ⟨inferInstance, ?_⟩) XT.stop
      refine XT.call rfl rfl Tryz.call100 rfl rfl rfl (repeatI _ _ _ S (by omega)) (fun v18 s18 R18 => ?_) ?_
      ·skip
       obtain ⟨h18, rfl, O18⟩ := R18
       dsimp only [lcA, lnA]
       refine ⟨inferInstance, ?_⟩
       refine XT.make encI (0) rfl rfl rfl rfl rfl (by omega) (by omega) (fun _ => rfl) rfl rfl rfl (by dsimp only [encI]; infer_instance) (fun v21 h21 O21 => ⟨inferInstance, ?_⟩) XT.stop
       refine XT.q rfl rfl (Q.build [_, _, _] (.c 0 1 rfl rfl rfl (.c 1 1 rfl rfl rfl (.c 2 1 rfl rfl rfl (.n _))))) ?_
       refine XT.st rfl rfl rfl rfl rfl ⟨inferInstance, ?_⟩ XT.stop
       refine XT.done ?_
       exact mtr1 ((b3, v14, h14, v18, h18, v21, h21)) _ _ ⟨O14, O18, O21⟩ (.c rfl (.base 12 rfl rfl)) inferInstance
      ·skip
       refine XT.make encI (0) rfl rfl rfl rfl rfl (by omega) (by omega) (fun _ => rfl) rfl rfl rfl (by dsimp only [encI]; infer_instance) (fun v21 h21 O21 => ⟨inferInstance, ?_⟩) XT.stop
       refine XT.call rfl rfl Tryz.call100 rfl rfl rfl (repeatI _ _ _ S (by omega)) (fun v18 s18 R18 => ?_) XT.stop
       obtain ⟨h18, rfl, O18⟩ := R18
       dsimp only [lcA, lnA]
       refine ⟨inferInstance, ?_⟩
       refine XT.q rfl rfl (Q.build [_, _, _] (.c 0 1 rfl rfl rfl (.c 1 1 rfl rfl rfl (.c 2 1 rfl rfl rfl (.n _))))) ?_
       refine XT.st rfl rfl rfl rfl rfl ⟨inferInstance, ?_⟩ XT.stop
       refine XT.done ?_
       exact mtr1 ((b3, v14, h14, v18, h18, v21, h21)) _ _ ⟨O14, O18, O21⟩ (.c rfl (.base 12 rfl rfl)) inferInstance
   ·skip
    refine XT.make encI (0) rfl rfl rfl rfl rfl (by omega) (by omega) (fun _ => rfl) rfl rfl rfl (by dsimp only [encI]; infer_instance) (fun v21 h21 O21 => ⟨inferInstance, ?_⟩) ?_
    ·skip
     refine XT.lit [_] [_] [-1] encI rfl rfl (by rfl) (by rfl) rfl (by rfl) (by exact .c 0 1 rfl rfl rfl (.n _)) (fun _ => rfl) (by rfl) rfl (by infer_instance) rfl (fun v15 h15 O15 => ⟨inferInstance, ?_⟩) ?_
     ·skip
      refine XT.call rfl rfl Tryz.call100 rfl rfl rfl (repeatI _ _ _ S (by omega)) (fun v18 s18 R18 => ?_) ?_
      ·skip
       obtain ⟨h18, rfl, O18⟩ := R18
       dsimp only [lcA, lnA]
       refine ⟨inferInstance, ?_⟩
       refine XT.q rfl rfl (Q.build [_, _, _] (.c 0 1 rfl rfl rfl (.c 1 1 rfl rfl rfl (.c 2 1 rfl rfl rfl (.n _))))) ?_
       refine XT.alloc rfl rfl (fun b3 => ⟨inferInstance, ?_⟩) XT.stop
       refine XT.st rfl rfl rfl rfl rfl ⟨inferInstance, ?_⟩ XT.stop
       refine XT.done ?_
       exact mtr1 ((b3, v14, h14, v18, h18, v21, h21)) _ _ ⟨O14, O18, O21⟩ (.c rfl (.base 12 rfl rfl)) inferInstance
      ·skip
       refine XT.alloc rfl rfl (fun b3 => ⟨inferInstance, ?_⟩) XT.stop
       refine XT.call rfl rfl Tryz.call100 rfl rfl rfl (repeatI _ _ _ S (by omega)) (fun v18 s18 R18 => ?_) XT.stop
       obtain ⟨h18, rfl, O18⟩ := R18
       dsimp only [lcA, lnA]
       refine ⟨inferInstance, ?_⟩
       refine XT.q rfl rfl (Q.build [_, _, _] (.c 0 1 rfl rfl rfl (.c 1 1 rfl rfl rfl (.c 2 1 rfl rfl rfl (.n _))))) ?_
       refine XT.st rfl rfl rfl rfl rfl ⟨inferInstance, ?_⟩ XT.stop
       refine XT.done ?_
       exact mtr1 ((b3, v14, h14, v18, h18, v21, h21)) _ _ ⟨O14, O18, O21⟩ (.c rfl (.base 12 rfl rfl)) inferInstance
     ·skip
      refine XT.alloc rfl rfl (fun b3 => ⟨inferInstance, ?_⟩) XT.stop
      refine XT.lit [_] [_] [-1] encI rfl rfl (by rfl) (by rfl) rfl (by rfl) (by exact .c 0 1 rfl rfl rfl (.n _)) (fun _ => rfl) (by rfl) rfl (by infer_instance) rfl (fun v15 h15 O15 => ⟨inferInstance, ?_⟩) XT.stop
      refine XT.call rfl rfl Tryz.call100 rfl rfl rfl (repeatI _ _ _ S (by omega)) (fun v18 s18 R18 => ?_) XT.stop
      obtain ⟨h18, rfl, O18⟩ := R18
      dsimp only [lcA, lnA]
      refine ⟨inferInstance, ?_⟩
      refine XT.q rfl rfl (Q.build [_, _, _] (.c 0 1 rfl rfl rfl (.c 1 1 rfl rfl rfl (.c 2 1 rfl rfl rfl (.n _))))) ?_
      refine XT.st rfl rfl rfl rfl rfl ⟨inferInstance, ?_⟩ XT.stop
      refine XT.done ?_
      exact mtr1 ((b3, v14, h14, v18, h18, v21, h21)) _ _ ⟨O14, O18, O21⟩ (.c rfl (.base 12 rfl rfl)) inferInstance
    ·skip
     refine XT.alloc rfl rfl (fun b3 => ⟨inferInstance, ?_⟩) XT.stop
     refine XT.lit [_] [_] [-1] encI rfl rfl (by rfl) (by rfl) rfl (by rfl) (by exact .c 0 1 rfl rfl rfl (.n _)) (fun _ => rfl) (by rfl) rfl (by infer_instance) rfl (fun v15 h15 O15 => ⟨inferInstance, ?_⟩) ?_
     ·skip
      refine XT.call rfl rfl Tryz.call100 rfl rfl rfl (repeatI _ _ _ S (by omega)) (fun v18 s18 R18 => ?_) ?_
      ·skip
       obtain ⟨h18, rfl, O18⟩ := R18
       dsimp only [lcA, lnA]
       refine ⟨inferInstance, ?_⟩
       refine XT.make encI (0) rfl rfl rfl rfl rfl (by omega) (by omega) (fun _ => rfl) rfl rfl rfl (by dsimp only [encI]; infer_instance) (fun v21 h21 O21 => ⟨inferInstance, ?_⟩) XT.stop
       refine XT.q rfl rfl (Q.build [_, _, _] (.c 0 1 rfl rfl rfl (.c 1 1 rfl rfl rfl (.c 2 1 rfl rfl rfl (.n _))))) ?_
       refine XT.st rfl rfl rfl rfl rfl ⟨inferInstance, ?_⟩ XT.stop
       refine XT.done ?_
       exact mtr1 ((b3, v14, h14, v18, h18, v21, h21)) _ _ ⟨O14, O18, O21⟩ (.c rfl (.base 12 rfl rfl)) inferInstance
      ·skip
       refine XT.make encI (0) rfl rfl rfl rfl rfl (by omega) (by omega) (fun _ => rfl) rfl rfl rfl (by dsimp only [encI]; infer_instance) (fun v21 h21 O21 => ⟨inferInstance, ?_⟩) XT.stop
       refine XT.call rfl rfl Tryz.call100 rfl rfl rfl (repeatI _ _ _ S (by omega)) (fun v18 s18 R18 => ?_) XT.stop
       obtain ⟨h18, rfl, O18⟩ := R18
       dsimp only [lcA, lnA]
       refine ⟨inferInstance, ?_⟩
       refine XT.q rfl rfl (Q.build [_, _, _] (.c 0 1 rfl rfl rfl (.c 1 1 rfl rfl rfl (.c 2 1 rfl rfl rfl (.n _))))) ?_
       refine XT.st rfl rfl rfl rfl rfl ⟨inferInstance, ?_⟩ XT.stop
       refine XT.done ?_
       exact mtr1 ((b3, v14, h14, v18, h18, v21, h21)) _ _ ⟨O14, O18, O21⟩ (.c rfl (.base 12 rfl rfl)) inferInstance
     ·skip
      refine XT.make encI (0) rfl rfl rfl rfl rfl (by omega) (by omega) (fun _ => rfl) rfl rfl rfl (by dsimp only [encI]; infer_instance) (fun v21 h21 O21 => ⟨inferInstance, ?_⟩) XT.stop
      refine XT.lit [_] [_] [-1] encI rfl rfl (by rfl) (by rfl) rfl (by rfl) (by exact .c 0 1 rfl rfl rfl (.n _)) (fun _ => rfl) (by rfl) rfl (by infer_instance) rfl (fun v15 h15 O15 => ⟨inferInstance, ?_⟩) XT.stop
      refine XT.call rfl rfl Tryz.call100 rfl rfl rfl (repeatI _ _ _ S (by omega)) (fun v18 s18 R18 => ?_) XT.stop
      obtain ⟨h18, rfl, O18⟩ := R18
      dsimp only [lcA, lnA]
      refine ⟨inferInstance, ?_⟩
      refine XT.q rfl rfl (Q.build [_, _, _] (.c 0 1 rfl rfl rfl (.c 1 1 rfl rfl rfl (.c 2 1 rfl rfl rfl (.n _))))) ?_
      refine XT.st rfl rfl rfl rfl rfl ⟨inferInstance, ?_⟩ XT.stop
      refine XT.done ?_
      exact mtr1 ((b3, v14, h14, v18, h18, v21, h21)) _ _ ⟨O14, O18, O21⟩ (.c rfl (.base 12 rfl rfl)) inferInstance
  ·skip
   refine XT.lit [_] [_] [-1] encI rfl rfl (by rfl) (by rfl) rfl (by rfl) (by exact .c 0 1 rfl rfl rfl (.n _)) (fun _ => rfl) (by rfl) rfl (by infer_instance) rfl (fun v15 h15 O15 => ⟨inferInstance, ?_⟩) ?_
   ·skip
    refine XT.call rfl rfl Tryz.call99 rfl rfl rfl (cloneB _ _ _ (by omega)) (fun v14 s14 R14 => ?_) ?_
    ·skip
     obtain ⟨h14, rfl, O14⟩ := R14
     dsimp only [lcA, lnA]
     refine ⟨inferInstance, ?_⟩
     refine XT.call rfl rfl Tryz.call100 rfl rfl rfl (repeatI _ _ _ S (by omega)) (fun v18 s18 R18 => ?_) ?_
     ·skip
      obtain ⟨h18, rfl, O18⟩ := R18
      dsimp only [lcA, lnA]
      refine ⟨inferInstance, ?_⟩
      refine XT.make encI (0) rfl rfl rfl rfl rfl (by omega) (by omega) (fun _ => rfl) rfl rfl rfl (by dsimp only [encI]; infer_instance) (fun v21 h21 O21 => ⟨inferInstance, ?_⟩) ?_
      ·skip
       refine XT.q rfl rfl (Q.build [_, _, _] (.c 0 1 rfl rfl rfl (.c 1 1 rfl rfl rfl (.c 2 1 rfl rfl rfl (.n _))))) ?_
       refine XT.alloc rfl rfl (fun b3 => ⟨inferInstance, ?_⟩) XT.stop
       refine XT.st rfl rfl rfl rfl rfl ⟨inferInstance, ?_⟩ XT.stop
       refine XT.done ?_
       exact mtr1 ((b3, v14, h14, v18, h18, v21, h21)) _ _ ⟨O14, O18, O21⟩ (.c rfl (.base 12 rfl rfl)) inferInstance
      ·skip
       refine XT.alloc rfl rfl (fun b3 => ⟨inferInstance, ?_⟩) XT.stop
       refine XT.make encI (0) rfl rfl rfl rfl rfl (by omega) (by omega) (fun _ => rfl) rfl rfl rfl (by dsimp only [encI]; infer_instance) (fun v21 h21 O21 => ⟨inferInstance, ?_⟩) XT.stop
       refine XT.q rfl rfl (Q.build [_, _, _] (.c 0 1 rfl rfl rfl (.c 1 1 rfl rfl rfl (.c 2 1 rfl rfl rfl (.n _))))) ?_
       refine XT.st rfl rfl rfl rfl rfl ⟨inferInstance, ?_⟩ XT.stop
       refine XT.done ?_
       exact mtr1 ((b3, v14, h14, v18, h18, v21, h21)) _ _ ⟨O14, O18, O21⟩ (.c rfl (.base 12 rfl rfl)) inferInstance
     ·skip
      refine XT.make encI (0) rfl rfl rfl rfl rfl (by omega) (by omega) (fun _ => rfl) rfl rfl rfl (by dsimp only [encI]; infer_instance) (fun v21 h21 O21 => ⟨inferInstance, ?_⟩) ?_
      ·skip
       refine XT.call rfl rfl Tryz.call100 rfl rfl rfl (repeatI _ _ _ S (by omega)) (fun v18 s18 R18 => ?_) ?_
       ·skip
        obtain ⟨h18, rfl, O18⟩ := R18
        dsimp only [lcA, lnA]
        refine ⟨inferInstance, ?_⟩
        refine XT.q rfl rfl (Q.build [_, _, _] (.c 0 1 rfl rfl rfl (.c 1 1 rfl rfl rfl (.c 2 1 rfl rfl rfl (.n _))))) ?_
        refine XT.alloc rfl rfl (fun b3 => ⟨inferInstance, ?_⟩) XT.stop
        refine XT.st rfl rfl rfl rfl rfl ⟨inferInstance, ?_⟩ XT.stop
        refine XT.done ?_
        exact mtr1 ((b3, v14, h14, v18, h18, v21, h21)) _ _ ⟨O14, O18, O21⟩ (.c rfl (.base 12 rfl rfl)) inferInstance
       ·skip
        refine XT.alloc rfl rfl (fun b3 => ⟨inferInstance, ?_⟩) XT.stop
        refine XT.call rfl rfl Tryz.call100 rfl rfl rfl (repeatI _ _ _ S (by omega)) (fun v18 s18 R18 => ?_) XT.stop
        obtain ⟨h18, rfl, O18⟩ := R18
        dsimp only [lcA, lnA]
        refine ⟨inferInstance, ?_⟩
        refine XT.q rfl rfl (Q.build [_, _, _] (.c 0 1 rfl rfl rfl (.c 1 1 rfl rfl rfl (.c 2 1 rfl rfl rfl (.n _))))) ?_
        refine XT.st rfl rfl rfl rfl rfl ⟨inferInstance, ?_⟩ XT.stop
        refine XT.done ?_
        exact mtr1 ((b3, v14, h14, v18, h18, v21, h21)) _ _ ⟨O14, O18, O21⟩ (.c rfl (.base 12 rfl rfl)) inferInstance
      ·skip
       refine XT.alloc rfl rfl (fun b3 => ⟨inferInstance, ?_⟩) XT.stop
       refine XT.call rfl rfl Tryz.call100 rfl rfl rfl (repeatI _ _ _ S (by omega)) (fun v18 s18 R18 => ?_) ?_
       ·skip
        obtain ⟨h18, rfl, O18⟩ := R18
        dsimp only [lcA, lnA]
        refine ⟨inferInstance, ?_⟩
        refine XT.make encI (0) rfl rfl rfl rfl rfl (by omega) (by omega) (fun _ => rfl) rfl rfl rfl (by dsimp only [encI]; infer_instance) (fun v21 h21 O21 => ⟨inferInstance, ?_⟩) XT.stop
        refine XT.q rfl rfl (Q.build [_, _, _] (.c 0 1 rfl rfl rfl (.c 1 1 rfl rfl rfl (.c 2 1 rfl rfl rfl (.n _))))) ?_
        refine XT.st rfl rfl rfl rfl rfl ⟨inferInstance, ?_⟩ XT.stop
        refine XT.done ?_
        exact mtr1 ((b3, v14, h14, v18, h18, v21, h21)) _ _ ⟨O14, O18, O21⟩ (.c rfl (.base 12 rfl rfl)) inferInstance
       ·skip
        refine XT.make encI (0) rfl rfl rfl rfl rfl (by omega) (by omega) (fun _ => rfl) rfl rfl rfl (by dsimp only [encI]; infer_instance) (fun v21 h21 O21 => ⟨inferInstance, ?_⟩) XT.stop
        refine XT.call rfl rfl Tryz.call100 rfl rfl rfl (repeatI _ _ _ S (by omega)) (fun v18 s18 R18 => ?_) XT.stop
        obtain ⟨h18, rfl, O18⟩ := R18
        dsimp only [lcA, lnA]
        refine ⟨inferInstance, ?_⟩
        refine XT.q rfl rfl (Q.build [_, _, _] (.c 0 1 rfl rfl rfl (.c 1 1 rfl rfl rfl (.c 2 1 rfl rfl rfl (.n _))))) ?_
        refine XT.st rfl rfl rfl rfl rfl ⟨inferInstance, ?_⟩ XT.stop
        refine XT.done ?_
        exact mtr1 ((b3, v14, h14, v18, h18, v21, h21)) _ _ ⟨O14, O18, O21⟩ (.c rfl (.base 12 rfl rfl)) inferInstance
    ·skip
     refine XT.make encI (0) rfl rfl rfl rfl rfl (by omega) (by omega) (fun _ => rfl) rfl rfl rfl (by dsimp only [encI]; infer_instance) (fun v21 h21 O21 => ⟨inferInstance, ?_⟩) ?_
     ·skip
      refine XT.call rfl rfl Tryz.call99 rfl rfl rfl (cloneB _ _ _ (by omega)) (fun v14 s14 R14 => ?_) ?_
      ·skip
       obtain ⟨h14, rfl, O14⟩ := R14
       dsimp only [lcA, lnA]
       refine ⟨inferInstance, ?_⟩
       refine XT.call rfl rfl Tryz.call100 rfl rfl rfl (repeatI _ _ _ S (by omega)) (fun v18 s18 R18 => ?_) ?_
       ·skip
        obtain ⟨h18, rfl, O18⟩ := R18
        dsimp only [lcA, lnA]
        refine ⟨inferInstance, ?_⟩
        refine XT.q rfl rfl (Q.build [_, _, _] (.c 0 1 rfl rfl rfl (.c 1 1 rfl rfl rfl (.c 2 1 rfl rfl rfl (.n _))))) ?_
        refine XT.alloc rfl rfl (fun b3 => ⟨inferInstance, ?_⟩) XT.stop
        refine XT.st rfl rfl rfl rfl rfl ⟨inferInstance, ?_⟩ XT.stop
        refine XT.done ?_
        exact mtr1 ((b3, v14, h14, v18, h18, v21, h21)) _ _ ⟨O14, O18, O21⟩ (.c rfl (.base 12 rfl rfl)) inferInstance
       ·skip
        refine XT.alloc rfl rfl (fun b3 => ⟨inferInstance, ?_⟩) XT.stop
        refine XT.call rfl rfl Tryz.call100 rfl rfl rfl (repeatI _ _ _ S (by omega)) (fun v18 s18 R18 => ?_) XT.stop
        obtain ⟨h18, rfl, O18⟩ := R18
        dsimp only [lcA, lnA]
        refine ⟨inferInstance, ?_⟩
        refine XT.q rfl rfl (Q.build [_, _, _] (.c 0 1 rfl rfl rfl (.c 1 1 rfl rfl rfl (.c 2 1 rfl rfl rfl (.n _))))) ?_
        refine XT.st rfl rfl rfl rfl rfl ⟨inferInstance, ?_⟩ XT.stop
        refine XT.done ?_
        exact mtr1 ((b3, v14, h14, v18, h18, v21, h21)) _ _ ⟨O14, O18, O21⟩ (.c rfl (.base 12 rfl rfl)) inferInstance
      ·skip
       refine XT.alloc rfl rfl (fun b3 => ⟨inferInstance, ?_⟩) XT.stop
       refine XT.call rfl rfl Tryz.call99 rfl rfl rfl (cloneB _ _ _ (by omega)) (fun v14 s14 R14 => ?_) XT.stop
       obtain ⟨h14, rfl, O14⟩ := R14
       dsimp only [lcA, lnA]
       refine ⟨inferInstance, ?_⟩
       refine XT.call rfl rfl Tryz.call100 rfl rfl rfl (repeatI _ _ _ S (by omega)) (fun v18 s18 R18 => ?_) XT.stop
       obtain ⟨h18, rfl, O18⟩ := R18
       dsimp only [lcA, lnA]
       refine ⟨inferInstance, ?_⟩
       refine XT.q rfl rfl (Q.build [_, _, _] (.c 0 1 rfl rfl rfl (.c 1 1 rfl rfl rfl (.c 2 1 rfl rfl rfl (.n _))))) ?_
       refine XT.st rfl rfl rfl rfl rfl ⟨inferInstance, ?_⟩ XT.stop
       refine XT.done ?_
       exact mtr1 ((b3, v14, h14, v18, h18, v21, h21)) _ _ ⟨O14, O18, O21⟩ (.c rfl (.base 12 rfl rfl)) inferInstance
     ·skip
      refine XT.alloc rfl rfl (fun b3 => ⟨inferInstance, ?_⟩) XT.stop
      refine XT.call rfl rfl Tryz.call99 rfl rfl rfl (cloneB _ _ _ (by omega)) (fun v14 s14 R14 => ?_) ?_
      ·skip
       obtain ⟨h14, rfl, O14⟩ := R14
       dsimp only [lcA, lnA]
       refine ⟨inferInstance, ?_⟩
       refine XT.call rfl rfl Tryz.call100 rfl rfl rfl (repeatI _ _ _ S (by omega)) (fun v18 s18 R18 => ?_) ?_
       ·skip
        obtain ⟨h18, rfl, O18⟩ := R18
        dsimp only [lcA, lnA]
        refine ⟨inferInstance, ?_⟩
        refine XT.make encI (0) rfl rfl rfl rfl rfl (by omega) (by omega) (fun _ => rfl) rfl rfl rfl (by dsimp only [encI]; infer_instance) (fun v21 h21 O21 => ⟨inferInstance, ?_⟩) XT.stop
        refine XT.q rfl rfl (Q.build [_, _, _] (.c 0 1 rfl rfl rfl (.c 1 1 rfl rfl rfl (.c 2 1 rfl rfl rfl (.n _))))) ?_
        refine XT.st rfl rfl rfl rfl rfl ⟨inferInstance, ?_⟩ XT.stop
        refine XT.done ?_
        exact mtr1 ((b3, v14, h14, v18, h18, v21, h21)) _ _ ⟨O14, O18, O21⟩ (.c rfl (.base 12 rfl rfl)) inferInstance
       ·skip
        refine XT.make encI (0) rfl rfl rfl rfl rfl (by omega) (by omega) (fun _ => rfl) rfl rfl rfl (by dsimp only [encI]; infer_instance) (fun v21 h21 O21 => ⟨inferInstance, ?_⟩) XT.stop
        refine XT.call rfl rfl Tryz.call100 rfl rfl rfl (repeatI _ _ _ S (by omega)) (fun v18 s18 R18 => ?_) XT.stop
        obtain ⟨h18, rfl, O18⟩ := R18
        dsimp only [lcA, lnA]
        refine ⟨inferInstance, ?_⟩
        refine XT.q rfl rfl (Q.build [_, _, _] (.c 0 1 rfl rfl rfl (.c 1 1 rfl rfl rfl (.c 2 1 rfl rfl rfl (.n _))))) ?_
        refine XT.st rfl rfl rfl rfl rfl ⟨inferInstance, ?_⟩ XT.stop
        refine XT.done ?_
        exact mtr1 ((b3, v14, h14, v18, h18, v21, h21)) _ _ ⟨O14, O18, O21⟩ (.c rfl (.base 12 rfl rfl)) inferInstance
      ·skip
       refine XT.make encI (0) rfl rfl rfl rfl rfl (by omega) (by omega) (fun _ => rfl) rfl rfl rfl (by dsimp only [encI]; infer_instance) (fun v21 h21 O21 => ⟨inferInstance, ?_⟩) XT.stop
       refine XT.call rfl rfl Tryz.call99 rfl rfl rfl (cloneB _ _ _ (by omega)) (fun v14 s14 R14 => ?_) XT.stop
       obtain ⟨h14, rfl, O14⟩ := R14
       dsimp only [lcA, lnA]
       refine ⟨inferInstance, ?_⟩
       refine XT.call rfl rfl Tryz.call100 rfl rfl rfl (repeatI _ _ _ S (by omega)) (fun v18 s18 R18 => ?_) XT.stop
       obtain ⟨h18, rfl, O18⟩ := R18
       dsimp only [lcA, lnA]
       refine ⟨inferInstance, ?_⟩
       refine XT.q rfl rfl (Q.build [_, _, _] (.c 0 1 rfl rfl rfl (.c 1 1 rfl rfl rfl (.c 2 1 rfl rfl rfl (.n _))))) ?_
       refine XT.st rfl rfl rfl rfl rfl ⟨inferInstance, ?_⟩ XT.stop
       refine XT.done ?_
       exact mtr1 ((b3, v14, h14, v18, h18, v21, h21)) _ _ ⟨O14, O18, O21⟩ (.c rfl (.base 12 rfl rfl)) inferInstance
   ·skip
    refine XT.make encI (0) rfl rfl rfl rfl rfl (by omega) (by omega) (fun _ => rfl) rfl rfl rfl (by dsimp only [encI]; infer_instance) (fun v21 h21 O21 => ⟨inferInstance, ?_⟩) ?_
    ·skip
     refine XT.call rfl rfl Tryz.call99 rfl rfl rfl (cloneB _ _ _ (by omega)) (fun v14 s14 R14 => ?_) ?_
     ·skip
      obtain ⟨h14, rfl, O14⟩ := R14
      dsimp only [lcA, lnA]
      refine ⟨inferInstance, ?_⟩
      refine XT.lit [_] [_] [-1] encI rfl rfl (by rfl) (by rfl) rfl (by rfl) (by exact .c 0 1 rfl rfl rfl (.n _)) (fun _ => rfl) (by rfl) rfl (by infer_instance) rfl (fun v15 h15 O15 => ⟨inferInstance, ?_⟩) ?_
      ·skip
       refine XT.call rfl rfl Tryz.call100 rfl rfl rfl (repeatI _ _ _ S (by omega)) (fun v18 s18 R18 => ?_) ?_
       ·skip
        obtain ⟨h18, rfl, O18⟩ := R18
        dsimp only [lcA, lnA]
        refine ⟨inferInstance, ?_⟩
        refine XT.q rfl rfl (Q.build [_, _, _] (.c 0 1 rfl rfl rfl (.c 1 1 rfl rfl rfl (.c 2 1 rfl rfl rfl (.n _))))) ?_
        refine XT.alloc rfl rfl (fun b3 => ⟨inferInstance, ?_⟩) XT.stop
        refine XT.st rfl rfl rfl rfl rfl ⟨inferInstance, ?_⟩ XT.stop
        refine XT.done ?_
        exact mtr1 ((b3, v14, h14, v18, h18, v21, h21)) _ _ ⟨O14, O18, O21⟩ (.c rfl (.base 12 rfl rfl)) inferInstance
       ·skip
        refine XT.alloc rfl rfl (fun b3 => ⟨inferInstance, ?_⟩) XT.stop
        refine XT.call rfl rfl Tryz.call100 rfl rfl rfl (repeatI _ _ _ S (by omega)) (fun v18 s18 R18 => ?_) XT.stop
        obtain ⟨h18, rfl, O18⟩ := R18
        dsimp only [lcA, lnA]
        refine ⟨inferInstance, ?_⟩
        refine XT.q rfl rfl (Q.build [_, _, _] (.c 0 1 rfl rfl rfl (.c 1 1 rfl rfl rfl (.c 2 1 rfl rfl rfl (.n _))))) ?_
        refine XT.st rfl rfl rfl rfl rfl ⟨inferInstance, ?_⟩ XT.stop
        refine XT.done ?_
        exact mtr1 ((b3, v14, h14, v18, h18, v21, h21)) _ _ ⟨O14, O18, O21⟩ (.c rfl (.base 12 rfl rfl)) inferInstance
      ·skip
       refine XT.alloc rfl rfl (fun b3 => ⟨inferInstance, ?_⟩) XT.stop
       refine XT.lit [_] [_] [-1] encI rfl rfl (by rfl) (by rfl) rfl (by rfl) (by exact .c 0 1 rfl rfl rfl (.n _)) (fun _ => rfl) (by rfl) rfl (by infer_instance) rfl (fun v15 h15 O15 => ⟨inferInstance, ?_⟩) XT.stop
       refine XT.call rfl rfl Tryz.call100 rfl rfl rfl (repeatI _ _ _ S (by omega)) (fun v18 s18 R18 => ?_) XT.stop
       obtain ⟨h18, rfl, O18⟩ := R18
       dsimp only [lcA, lnA]
       refine ⟨inferInstance, ?_⟩
       refine XT.q rfl rfl (Q.build [_, _, _] (.c 0 1 rfl rfl rfl (.c 1 1 rfl rfl rfl (.c 2 1 rfl rfl rfl (.n _))))) ?_
       refine XT.st rfl rfl rfl rfl rfl ⟨inferInstance, ?_⟩ XT.stop
       refine XT.done ?_
       exact mtr1 ((b3, v14, h14, v18, h18, v21, h21)) _ _ ⟨O14, O18, O21⟩ (.c rfl (.base 12 rfl rfl)) inferInstance
     ·skip
      refine XT.lit [_] [_] [-1] encI rfl rfl (by rfl) (by rfl) rfl (by rfl) (by exact .c 0 1 rfl rfl rfl (.n _)) (fun _ => rfl) (by rfl) rfl (by infer_instance) rfl (fun v15 h15 O15 => ⟨inferInstance, ?_⟩) ?_
      ·skip
       refine XT.call rfl rfl Tryz.call99 rfl rfl rfl (cloneB _ _ _ (by omega)) (fun v14 s14 R14 => ?_) ?_
       ·skip
        obtain ⟨h14, rfl, O14⟩ := R14
        dsimp only [lcA, lnA]
        refine ⟨inferInstance, ?_⟩
        refine XT.call rfl rfl Tryz.call100 rfl rfl rfl (repeatI _ _ _ S (by omega)) (fun v18 s18 R18 => ?_) ?_
        ·skip
         obtain ⟨h18, rfl, O18⟩ := R18
         dsimp only [lcA, lnA]
         refine ⟨inferInstance, ?_⟩
         refine XT.q rfl rfl (Q.build [_, _, _] (.c 0 1 rfl rfl rfl (.c 1 1 rfl rfl rfl (.c 2 1 rfl rfl rfl (.n _))))) ?_
         refine XT.alloc rfl rfl (fun b3 => ⟨inferInstance, ?_⟩) XT.stop
         refine XT.st rfl rfl rfl rfl rfl ⟨inferInstance, ?_⟩ XT.stop
         refine XT.done ?_
         exact mtr1 ((b3, v14, h14, v18, h18, v21, h21)) _ _ ⟨O14, O18, O21⟩ (.c rfl (.base 12 rfl rfl)) inferInstance
        ·skip
         refine XT.alloc rfl rfl (fun b3 => ⟨inferInstance, ?_⟩) XT.stop
         refine XT.call rfl rfl Tryz.call100 rfl rfl rfl (repeatI _ _ _ S (by omega)) (fun v18 s18 R18 => ?_) XT.stop
         obtain ⟨h18, rfl, O18⟩ := R18
         dsimp only [lcA, lnA]
         refine ⟨inferInstance, ?_⟩
         refine XT.q rfl rfl (Q.build [_, _, _] (.c 0 1 rfl rfl rfl (.c 1 1 rfl rfl rfl (.c 2 1 rfl rfl rfl (.n _))))) ?_
         refine XT.st rfl rfl rfl rfl rfl ⟨inferInstance, ?_⟩ XT.stop
         refine XT.done ?_
         exact mtr1 ((b3, v14, h14, v18, h18, v21, h21)) _ _ ⟨O14, O18, O21⟩ (.c rfl (.base 12 rfl rfl)) inferInstance
       ·skip
        refine XT.alloc rfl rfl (fun b3 => ⟨inferInstance, ?_⟩) XT.stop
        refine XT.call rfl rfl Tryz.call99 rfl rfl rfl (cloneB _ _ _ (by omega)) (fun v14 s14 R14 => ?_) XT.stop
        obtain ⟨h14, rfl, O14⟩ := R14
        dsimp only [lcA, lnA]
        refine ⟨inferInstance, ?_⟩
        refine XT.call rfl rfl Tryz.call100 rfl rfl rfl (repeatI _ _ _ S (by omega)) (fun v18 s18 R18 => ?_) XT.stop
        obtain ⟨h18, rfl, O18⟩ := R18
        dsimp only [lcA, lnA]
        refine ⟨inferInstance, ?_⟩
        refine XT.q rfl rfl (Q.build [_, _, _] (.c 0 1 rfl rfl rfl (.c 1 1 rfl rfl rfl (.c 2 1 rfl rfl rfl (.n _))))) ?_
        refine XT.st rfl rfl rfl rfl rfl ⟨inferInstance, ?_⟩ XT.stop
        refine XT.done ?_
        exact mtr1 ((b3, v14, h14, v18, h18, v21, h21)) _ _ ⟨O14, O18, O21⟩ (.c rfl (.base 12 rfl rfl)) inferInstance
      ·skip
       refine XT.alloc rfl rfl (fun b3 => ⟨inferInstance, ?_⟩) XT.stop
       refine XT.call rfl rfl Tryz.call99 rfl rfl rfl (cloneB _ _ _ (by omega)) (fun v14 s14 R14 => ?_) ?_
       ·skip
        obtain ⟨h14, rfl, O14⟩ := R14
        dsimp only [lcA, lnA]
        refine ⟨inferInstance, ?_⟩
        refine XT.lit [_] [_] [-1] encI rfl rfl (by rfl) (by rfl) rfl (by rfl) (by exact .c 0 1 rfl rfl rfl (.n _)) (fun _ => rfl) (by rfl) rfl (by infer_instance) rfl (fun v15 h15 O15 => ⟨inferInstance, ?_⟩) XT.stop
        refine XT.call rfl rfl Tryz.call100 rfl rfl rfl (repeatI _ _ _ S (by omega)) (fun v18 s18 R18 => ?_) XT.stop
        obtain ⟨h18, rfl, O18⟩ := R18
        dsimp only [lcA, lnA]
        refine ⟨inferInstance, ?_⟩
        refine XT.q rfl rfl (Q.build [_, _, _] (.c 0 1 rfl rfl rfl (.c 1 1 rfl rfl rfl (.c 2 1 rfl rfl rfl (.n _))))) ?_
        refine XT.st rfl rfl rfl rfl rfl ⟨inferInstance, ?_⟩ XT.stop
        refine XT.done ?_
        exact mtr1 ((b3, v14, h14, v18, h18, v21, h21)) _ _ ⟨O14, O18, O21⟩ (.c rfl (.base 12 rfl rfl)) inferInstance
       ·skip
        refine XT.lit [_] [_] [-1] encI rfl rfl (by rfl) (by rfl) rfl (by rfl) (by exact .c 0 1 rfl rfl rfl (.n _)) (fun _ => rfl) (by rfl) rfl (by infer_instance) rfl (fun v15 h15 O15 => ⟨inferInstance, ?_⟩) XT.stop
        refine XT.call rfl rfl Tryz.call99 rfl rfl rfl (cloneB _ _ _ (by omega)) (fun v14 s14 R14 => ?_) XT.stop
        obtain ⟨h14, rfl, O14⟩ := R14
        dsimp only [lcA, lnA]
        refine ⟨inferInstance, ?_⟩
        refine XT.call rfl rfl Tryz.call100 rfl rfl rfl (repeatI _ _ _ S (by omega)) (fun v18 s18 R18 => ?_) XT.stop
        obtain ⟨h18, rfl, O18⟩ := R18
        dsimp only [lcA, lnA]
        refine ⟨inferInstance, ?_⟩
        refine XT.q rfl rfl (Q.build [_, _, _] (.c 0 1 rfl rfl rfl (.c 1 1 rfl rfl rfl (.c 2 1 rfl rfl rfl (.n _))))) ?_
        refine XT.st rfl rfl rfl rfl rfl ⟨inferInstance, ?_⟩ XT.stop
        refine XT.done ?_
        exact mtr1 ((b3, v14, h14, v18, h18, v21, h21)) _ _ ⟨O14, O18, O21⟩ (.c rfl (.base 12 rfl rfl)) inferInstance
    ·skip
     refine XT.alloc rfl rfl (fun b3 => ⟨inferInstance, ?_⟩) XT.stop
     refine XT.call rfl rfl Tryz.call99 rfl rfl rfl (cloneB _ _ _ (by omega)) (fun v14 s14 R14 => ?_) ?_
     ·skip
      obtain ⟨h14, rfl, O14⟩ := R14
      dsimp only [lcA, lnA]
      refine ⟨inferInstance, ?_⟩
      refine XT.lit [_] [_] [-1] encI rfl rfl (by rfl) (by rfl) rfl (by rfl) (by exact .c 0 1 rfl rfl rfl (.n _)) (fun _ => rfl) (by rfl) rfl (by infer_instance) rfl (fun v15 h15 O15 => ⟨inferInstance, ?_⟩) ?_
      ·skip
       refine XT.call rfl rfl Tryz.call100 rfl rfl rfl (repeatI _ _ _ S (by omega)) (fun v18 s18 R18 => ?_) ?_
       ·skip
        obtain ⟨h18, rfl, O18⟩ := R18
        dsimp only [lcA, lnA]
        refine ⟨inferInstance, ?_⟩
        refine XT.make encI (0) rfl rfl rfl rfl rfl (by omega) (by omega) (fun _ => rfl) rfl rfl rfl (by dsimp only [encI]; infer_instance) (fun v21 h21 O21 => ⟨inferInstance, ?_⟩) XT.stop
        refine XT.q rfl rfl (Q.build [_, _, _] (.c 0 1 rfl rfl rfl (.c 1 1 rfl rfl rfl (.c 2 1 rfl rfl rfl (.n _))))) ?_
        refine XT.st rfl rfl rfl rfl rfl ⟨inferInstance, ?_⟩ XT.stop
        refine XT.done ?_
        exact mtr1 ((b3, v14, h14, v18, h18, v21, h21)) _ _ ⟨O14, O18, O21⟩ (.c rfl (.base 12 rfl rfl)) inferInstance
       ·skip
        refine XT.make encI (0) rfl rfl rfl rfl rfl (by omega) (by omega) (fun _ => rfl) rfl rfl rfl (by dsimp only [encI]; infer_instance) (fun v21 h21 O21 => ⟨inferInstance, ?_⟩) XT.stop
        refine XT.call rfl rfl Tryz.call100 rfl rfl rfl (repeatI _ _ _ S (by omega)) (fun v18 s18 R18 => ?_) XT.stop
        obtain ⟨h18, rfl, O18⟩ := R18
        dsimp only [lcA, lnA]
        refine ⟨inferInstance, ?_⟩
        refine XT.q rfl rfl (Q.build [_, _, _] (.c 0 1 rfl rfl rfl (.c 1 1 rfl rfl rfl (.c 2 1 rfl rfl rfl (.n _))))) ?_
        refine XT.st rfl rfl rfl rfl rfl ⟨inferInstance, ?_⟩ XT.stop
        refine XT.done ?_
        exact mtr1 ((b3, v14, h14, v18, h18, v21, h21)) _ _ ⟨O14, O18, O21⟩ (.c rfl (.base 12 rfl rfl)) inferInstance
      ·skip
       refine XT.make encI (0) rfl rfl rfl rfl rfl (by omega) (by omega) (fun _ => rfl) rfl rfl rfl (by dsimp only [encI]; infer_instance) (fun v21 h21 O21 => ⟨inferInstance, ?_⟩) XT.stop
       refine XT.lit [_] [_] [-1] encI rfl rfl (by rfl) (by rfl) rfl (by rfl) (by exact .c 0 1 rfl rfl rfl (.n _)) (fun _ => rfl) (by rfl) rfl (by infer_instance) rfl (fun v15 h15 O15 => ⟨inferInstance, ?_⟩) XT.stop
       refine XT.call rfl rfl Tryz.call100 rfl rfl rfl (repeatI _ _ _ S (by omega)) (fun v18 s18 R18 => ?_) XT.stop
       obtain ⟨h18, rfl, O18⟩ := R18
       dsimp only [lcA, lnA]
       refine ⟨inferInstance, ?_⟩
       refine XT.q rfl rfl (Q.build [_, _, _] (.c 0 1 rfl rfl rfl (.c 1 1 rfl rfl rfl (.c 2 1 rfl rfl rfl (.n _))))) ?_
       refine XT.st rfl rfl rfl rfl rfl ⟨inferInstance, ?_⟩ XT.stop
       refine XT.done ?_
       exact mtr1 ((b3, v14, h14, v18, h18, v21, h21)) _ _ ⟨O14, O18, O21⟩ (.c rfl (.base 12 rfl rfl)) inferInstance
     ·skip
      refine XT.lit [_] [_] [-1] encI rfl rfl (by rfl) (by rfl) rfl (by rfl) (by exact .c 0 1 rfl rfl rfl (.n _)) (fun _ => rfl) (by rfl) rfl (by infer_instance) rfl (fun v15 h15 O15 => ⟨inferInstance, ?_⟩) ?_
      ·skip
       refine XT.call rfl rfl Tryz.call99 rfl rfl rfl (cloneB _ _ _ (by omega)) (fun v14 s14 R14 => ?_) ?_
       ·skip
        obtain ⟨h14, rfl, O14⟩ := R14
        dsimp only [lcA, lnA]
        refine ⟨inferInstance, ?_⟩
        refine XT.call rfl rfl Tryz.call100 rfl rfl rfl (repeatI _ _ _ S (by omega)) (fun v18 s18 R18 => ?_) ?_
        ·skip
         obtain ⟨h18, rfl, O18⟩ := R18
         dsimp only [lcA, lnA]
         refine ⟨inferInstance, ?_⟩
         refine XT.make encI (0) rfl rfl rfl rfl rfl (by omega) (by omega) (fun _ => rfl) rfl rfl rfl (by dsimp only [encI]; infer_instance) (fun v21 h21 O21 => ⟨inferInstance, ?_⟩) XT.stop
         refine XT.q rfl rfl (Q.build [_, _, _] (.c 0 1 rfl rfl rfl (.c 1 1 rfl rfl rfl (.c 2 1 rfl rfl rfl (.n _))))) ?_
         refine XT.st rfl rfl rfl rfl rfl ⟨inferInstance, ?_⟩ XT.stop
         refine XT.done ?_
         exact mtr1 ((b3, v14, h14, v18, h18, v21, h21)) _ _ ⟨O14, O18, O21⟩ (.c rfl (.base 12 rfl rfl)) inferInstance
        ·skip
         refine XT.make encI (0) rfl rfl rfl rfl rfl (by omega) (by omega) (fun _ => rfl) rfl rfl rfl (by dsimp only [encI]; infer_instance) (fun v21 h21 O21 => ⟨inferInstance, ?_⟩) XT.stop
         refine XT.call rfl rfl Tryz.call100 rfl rfl rfl (repeatI _ _ _ S (by omega)) (fun v18 s18 R18 => ?_) XT.stop
         obtain ⟨h18, rfl, O18⟩ := R18
         dsimp only [lcA, lnA]
         refine ⟨inferInstance, ?_⟩
         refine XT.q rfl rfl (Q.build [_, _, _] (.c 0 1 rfl rfl rfl (.c 1 1 rfl rfl rfl (.c 2 1 rfl rfl rfl (.n _))))) ?_
         refine XT.st rfl rfl rfl rfl rfl ⟨inferInstance, ?_⟩ XT.stop
         refine XT.done ?_
         exact mtr1 ((b3, v14, h14, v18, h18, v21, h21)) _ _ ⟨O14, O18, O21⟩ (.c rfl (.base 12 rfl rfl)) inferInstance
       ·skip
        refine XT.make encI (0) rfl rfl rfl rfl rfl (by omega) (by omega) (fun _ => rfl) rfl rfl rfl (by dsimp only [encI]; infer_instance) (fun v21 h21 O21 => ⟨inferInstance, ?_⟩) XT.stop
        refine XT.call rfl rfl Tryz.call99 rfl rfl rfl (cloneB _ _ _ (by omega)) (fun v14 s14 R14 => ?_) XT.stop
        obtain ⟨h14, rfl, O14⟩ := R14
        dsimp only [lcA, lnA]
        refine ⟨inferInstance, ?_⟩
        refine XT.call rfl rfl Tryz.call100 rfl rfl rfl (repeatI _ _ _ S (by omega)) (fun v18 s18 R18 => ?_) XT.stop
        obtain ⟨h18, rfl, O18⟩ := R18
        dsimp only [lcA, lnA]
        refine ⟨inferInstance, ?_⟩
        refine XT.q rfl rfl (Q.build [_, _, _] (.c 0 1 rfl rfl rfl (.c 1 1 rfl rfl rfl (.c 2 1 rfl rfl rfl (.n _))))) ?_
        refine XT.st rfl rfl rfl rfl rfl ⟨inferInstance, ?_⟩ XT.stop
        refine XT.done ?_
        exact mtr1 ((b3, v14, h14, v18, h18, v21, h21)) _ _ ⟨O14, O18, O21⟩ (.c rfl (.base 12 rfl rfl)) inferInstance
      ·skip
       refine XT.make encI (0) rfl rfl rfl rfl rfl (by omega) (by omega) (fun _ => rfl) rfl rfl rfl (by dsimp only [encI]; infer_instance) (fun v21 h21 O21 => ⟨inferInstance, ?_⟩) XT.stop
       refine XT.call rfl rfl Tryz.call99 rfl rfl rfl (cloneB _ _ _ (by omega)) (fun v14 s14 R14 => ?_) ?_
       ·skip
        obtain ⟨h14, rfl, O14⟩ := R14
        dsimp only [lcA, lnA]
        refine ⟨inferInstance, ?_⟩
        refine XT.lit [_] [_] [-1] encI rfl rfl (by rfl) (by rfl) rfl (by rfl) (by exact .c 0 1 rfl rfl rfl (.n _)) (fun _ => rfl) (by rfl) rfl (by infer_instance) rfl (fun v15 h15 O15 => ⟨inferInstance, ?_⟩) XT.stop
        refine XT.call rfl rfl Tryz.call100 rfl rfl rfl (repeatI _ _ _ S (by omega)) (fun v18 s18 R18 => ?_) XT.stop
        obtain ⟨h18, rfl, O18⟩ := R18
        dsimp only [lcA, lnA]
        refine ⟨inferInstance, ?_⟩
        refine XT.q rfl rfl (Q.build [_, _, _] (.c 0 1 rfl rfl rfl (.c 1 1 rfl rfl rfl (.c 2 1 rfl rfl rfl (.n _))))) ?_
        refine XT.st rfl rfl rfl rfl rfl ⟨inferInstance, ?_⟩ XT.stop
        refine XT.done ?_
        exact mtr1 ((b3, v14, h14, v18, h18, v21, h21)) _ _ ⟨O14, O18, O21⟩ (.c rfl (.base 12 rfl rfl)) inferInstance
       ·skip
        refine XT.lit [_] [_] [-1] encI rfl rfl (by rfl) (by rfl) rfl (by rfl) (by exact .c 0 1 rfl rfl rfl (.n _)) (fun _ => rfl) (by rfl) rfl (by infer_instance) rfl (fun v15 h15 O15 => ⟨inferInstance, ?_⟩) XT.stop
        refine XT.call rfl rfl Tryz.call99 rfl rfl rfl (cloneB _ _ _ (by omega)) (fun v14 s14 R14 => ?_) XT.stop
        obtain ⟨h14, rfl, O14⟩ := R14
        dsimp only [lcA, lnA]
        refine ⟨inferInstance, ?_⟩
        refine XT.call rfl rfl Tryz.call100 rfl rfl rfl (repeatI _ _ _ S (by omega)) (fun v18 s18 R18 => ?_) XT.stop
        obtain ⟨h18, rfl, O18⟩ := R18
        dsimp only [lcA, lnA]
        refine ⟨inferInstance, ?_⟩
        refine XT.q rfl rfl (Q.build [_, _, _] (.c 0 1 rfl rfl rfl (.c 1 1 rfl rfl rfl (.c 2 1 rfl rfl rfl (.n _))))) ?_
        refine XT.st rfl rfl rfl rfl rfl ⟨inferInstance, ?_⟩ XT.stop
        refine XT.done ?_
        exact mtr1 ((b3, v14, h14, v18, h18, v21, h21)) _ _ ⟨O14, O18, O21⟩ (.c rfl (.base 12 rfl rfl)) inferInstance
end Go.X.Ke

set_option linter.unusedSimpArgs false
set_option maxRecDepth 20000
set_option linter.unusedVariables false
set_option maxRecDepth 20000
namespace Go.X.Ke
open Go.Proofs
theorem Solve_spec (g : G) (vn vg : Value) (hn hg : PHeap) [sn : Arr vn encI 1 hn g.next] [sg : Arr vg encB 1 hg g.good] : Spec Tryz.prog 12 #[.agg #[.int .i64 g.S, .int .i64 g.C, .int .i64 g.K, vn, vg]] [] [hn, hg] (fun v hs => ∃ v1 v2 v3 k1 k2 k3, v = .tuple #[.agg #[v1, v2, v3], .int .i64 (gcheck g)] ∧ hs = [k1, k2, k3] ∧ OArr v1 encB 1 4 k1 (solveG g).1 ∧ OArr v2 encI 1 3 k2 (solveG g).2.1 ∧ OArr v3 encI 1 3 k3 (solveG g).2.2) := by
 refine Spec.intro (fn := Tryz.f12) (N := 13) Tryz.func12 rfl Tryz.ntmps12 rfl fun B => ?_
 refine XK.seq (XK.region rfl ?_)
 refine XO.box rfl fun b1 => ?_
 refine XO.alloc fun b2 => ?_
 refine XO.q (Q.assign rfl) (XO.done (XK.seq (XK.seq (XK.region rfl ?_))))
 refine XO.q (Q.ldA [_, _, _, _, _] rfl rfl rfl) ?_
 refine XO.call Tryz.call44 rfl rfl rfl (check _ _ _ _ _) fun v6 s6 R6 => ?_
 obtain ⟨rfl, rfl⟩ := R6
 dsimp only [lcA, lnA]
 refine XO.q (Q.assign rfl) (XO.done (XK.seq (XK.region rfl (XO.q (Q.move rfl) ?_))))
 refine XO.q (Q.neq rfl rfl) ?_
 refine XO.done ?_
 refine XK.if rfl (fun c0 => ?_) (fun c0 => ?_)
 ·skip
  refine XK.seq (XK.region rfl ?_)
  refine XO.q (Q.build [_, _, _] (.n _)) ?_
  refine XO.q (Q.move rfl) ?_
  refine XO.st rfl rfl rfl ?_
  refine XO.q (Q.assign rfl) (XO.done ?_)
  refine XK.rt [emp, emp, emp] Tryz.func12 Tryz.results12 (.cell [_, _, _] rfl rfl rfl (.t rfl .n)) ?_
  have hw : solveG g = ([], [], []) := by rw [solveG, if_pos c0]
  rw [hw]
  exact ⟨.slice none 0 0, .slice none 0 0, .slice none 0 0, emp, emp, emp, rfl, rfl, OArr.nil (fun _ => rfl), OArr.nil (fun _ => rfl), OArr.nil (fun _ => rfl)⟩
 ·skip
  obtain ⟨S, C, K, hS, hC, hK, ok⟩ := gcheck_ok (Decidable.of_not_not c0)
  obtain ⟨gS, gC, gK, next, good⟩ := g
  dsimp only at hS hC hK ok sn sg ⊢
  subst hS hC hK
  refine XK.skip (XK.seq (XK.region rfl ?_))
  refine XO.q (Q.ldA [_, _, _, _, _] rfl rfl rfl) ?_
  refine XO.call Tryz.call45 rfl rfl rfl (solve_spec S C K next good ok vn vg hn hg) fun v12 s12 R12 => ?_
  obtain ⟨v1, v2, v3, k1, k2, k3, rfl, rfl, O1, O2, O3⟩ := R12
  dsimp only [lcA, lnA]
  refine XO.st rfl rfl rfl ?_
  refine XO.q (Q.assign rfl) (XO.done ?_)
  refine XK.rt [k1, k2, k3] Tryz.func12 Tryz.results12 (.cell [_, _, _] rfl rfl rfl (.t rfl .n)) ?_
  have hw : solveG ⟨S, C, K, next, good⟩ = solved S C K next good := by rw [solveG, if_neg c0]; simp
  have hw0 : gcheck ⟨S, C, K, next, good⟩ = 0 := Decidable.of_not_not c0
  rw [hw, hw0]
  exact ⟨v1, v2, v3, k1, k2, k3, rfl, rfl, O1, O2, O3⟩
end Go.X.Ke

set_option linter.unusedSimpArgs false
set_option linter.unusedVariables false
set_option maxRecDepth 20000
namespace Go.X.Pl
open Go.Proofs
def encDraw (x : PDraw) : List Value := [.int .i64 x.power, .int .i64 x.count]
def encPJ (x : Value × PJob) : List Value := [.int .i64 x.2.n0, .int .i64 x.2.n1, .int .i64 x.2.n2, x.1, .int .i64 x.2.group, .int .i64 x.2.worth]
def encRack (x : PRack) : List Value := [.int .i64 x.r0, .int .i64 x.r1, .int .i64 x.r2, .int .i64 x.cap, .int .i64 x.domain]
/-- The draws of jobs lie in one heap. -/
def JobsK (ms : List (Value × PJob)) (K : PHeap) : Prop := ∀ i, i < ms.length → Arr (ms.getD i default).1 encDraw 2 K (ms.getD i default).2.draws
theorem map_snd_atP (l : List (Value × PJob)) (i : Nat) : (l.map Prod.snd).getD i default = (l.getD i default).2 := by
 rw [List.getD_eq_getElem?_getD, List.getD_eq_getElem?_getD, List.getElem?_map]
 cases l[i]? <;> rfl
theorem indexFuncI (v : Value) (h : PHeap) (xs : List Int) [s : Arr v encI 1 h xs] (gid : FuncId) (cap : List Value) (Hr : List PHeap) (p : Int → Bool)
  (hc : ∀ args w, (callFunc gid args).run Tryz.prog w = .ok (.enter gid args) w) (hS : ∀ x ∈ xs, Spec Tryz.prog gid (.int .i64 x :: cap).toArray [] Hr (fun v hs => v = .bool (p x) ∧ hs = [])) :
  Spec Tryz.prog 159 #[v, .func (.func gid) #[] cap.toArray] [] (h :: Hr) (fun v hs => v = .int .i64 (findFirst p xs) ∧ hs = []) := by apply Go.X.Bk.indexFuncI <;> assumption
theorem containsFuncI (v : Value) (h : PHeap) (xs : List Int) [s : Arr v encI 1 h xs] (gid : FuncId) (cap : List Value) (Hr : List PHeap) (p : Int → Bool)
  (hc : ∀ args w, (callFunc gid args).run Tryz.prog w = .ok (.enter gid args) w) (hS : ∀ x ∈ xs, Spec Tryz.prog gid (.int .i64 x :: cap).toArray [] Hr (fun v hs => v = .bool (p x) ∧ hs = [])) :
  Spec Tryz.prog 97 #[v, .func (.func gid) #[] cap.toArray] [] (h :: Hr) (fun v hs => v = .bool (xs.any p) ∧ hs = []) := by apply Go.X.Bk.containsFuncI <;> assumption
theorem indexFuncPJ (v : Value) (h : PHeap) (xs : List (Value × PJob)) [s : Arr v encPJ 6 h xs] (gid : FuncId) (cap : List Value) (Hr : List PHeap) (p : (Value × PJob) → Bool)
  (hc : ∀ args w, (callFunc gid args).run Tryz.prog w = .ok (.enter gid args) w) (hS : ∀ x ∈ xs, Spec Tryz.prog gid (.agg #[.int .i64 x.2.n0, .int .i64 x.2.n1, .int .i64 x.2.n2, x.1, .int .i64 x.2.group, .int .i64 x.2.worth] :: cap).toArray [] Hr (fun v hs => v = .bool (p x) ∧ hs = [])) :
  Spec Tryz.prog 173 #[v, .func (.func gid) #[] cap.toArray] [] (h :: Hr) (fun v hs => v = .int .i64 (findFirst p xs) ∧ hs = []) := by
 refine Spec.intro (fn := Tryz.f173) (N := 19) Tryz.func173 rfl Tryz.ntmps173 rfl fun B => ?_
 refine XK.seq (XK.region rfl (XO.q (Q.assign rfl) (XO.done (XK.seq (XK.seq ?_)))))
 refine XK.region rfl (XO.q (Q.move rfl) ?_)
 refine XO.len rfl fun l7 => ?_
 refine XO.q (Q.move rfl) (XO.done (XK.block ?_))
 refine XK.while (X := Nat) [4, 5, 8, 9, 10, 11, 12, 13, 14, 15, 16, 17, 18] (fun i => [(8, some (.int .i64 (i : Nat)))]) (fun i => []) (fun i => i ≤ xs.length ∧ (xs.take i).any p = false) (fun i => xs.length - i) (0) [] rfl ⟨by omega, rfl⟩ (.c rfl (.base 0 rfl rfl)) ?_
 rintro i ⟨hi, ht⟩ ih0
 dsimp only [lcA, lnA] at ih0 ⊢
 refine XK.seq (XK.region rfl ?_)
 refine XO.q (Q.lss rfl rfl) ?_
 refine XO.done (XK.seq ?_)
 refine XK.if rfl (fun c0 => ?_) (fun c0 => ?_)
 ·skip
  refine XK.skip (XK.seq (XK.block (XK.seq (XK.region rfl (XO.q (Q.move rfl) ?_)))))
  refine XO.q (Q.assign rfl) (XO.done (XK.seq (XK.region rfl (XO.q (Q.move rfl) (XO.q (Q.move rfl) ?_)))))
  refine XO.q (Q.move rfl) ?_
  refine XO.ix rfl rfl (by omega) (by omega) fun i14 => ?_
  refine XO.q (Q.ldEA [_, _, _, _, _, _] rfl (by first | assumption | omega) rfl rfl) ?_
  refine XO.call hc rfl rfl rfl (hS _ (getD_mem (by omega))) fun v16 s16 R16 => ?_
  obtain ⟨rfl, rfl⟩ := R16
  dsimp only [lcA, lnA]
  refine XO.done ?_
  refine XK.if rfl (fun c1 => ?_) (fun c1 => ?_)
  ·skip
   refine XK.seq (XK.region rfl (XO.q (Q.move rfl) (XO.q (Q.assign rfl) (XO.done ?_))))
   refine XK.rt [] Tryz.func173 Tryz.results173 (.t rfl .n) ?_
   exact ⟨by rw [findFirst_here ht (by omega) c1], rfl⟩
  ·skip
   refine XK.skip ?_
   refine XK.inBlock ?_
   refine XK.region rfl ?_
   refine XO.q (Q.add rfl rfl ⟨by omega, by omega⟩) ?_
   refine XO.q (Q.move rfl) (XO.done ?_)
   exact ih0 (i + 1) _ _ ⟨by omega, any_step ht (by omega) (Bool.eq_false_iff.2 c1)⟩ (by first | omega | (dsimp only; omega)) (.c rfl (.base 25 rfl rfl)) inferInstance
 ·skip
  refine XK.exit rfl ?_
  refine XK.seq (XK.region rfl (XO.q (Q.assign rfl) (XO.done ?_)))
  refine XK.rt [] Tryz.func173 Tryz.results173 (.t rfl .n) ?_
  exact ⟨by rw [findFirst_none ht c0], rfl⟩
theorem containsFuncPJ (v : Value) (h : PHeap) (xs : List (Value × PJob)) [s : Arr v encPJ 6 h xs] (gid : FuncId) (cap : List Value) (Hr : List PHeap) (p : (Value × PJob) → Bool)
  (hc : ∀ args w, (callFunc gid args).run Tryz.prog w = .ok (.enter gid args) w) (hS : ∀ x ∈ xs, Spec Tryz.prog gid (.agg #[.int .i64 x.2.n0, .int .i64 x.2.n1, .int .i64 x.2.n2, x.1, .int .i64 x.2.group, .int .i64 x.2.worth] :: cap).toArray [] Hr (fun v hs => v = .bool (p x) ∧ hs = [])) :
  Spec Tryz.prog 124 #[v, .func (.func gid) #[] cap.toArray] [] (h :: Hr) (fun v hs => v = .bool (xs.any p) ∧ hs = []) := by
 refine Spec.intro (fn := Tryz.f124) (N := 9) Tryz.func124 rfl Tryz.ntmps124 rfl fun B => ?_
 refine XK.seq (XK.region rfl (XO.q (Q.assign rfl) (XO.done (XK.seq (XK.region rfl ?_)))))
 refine XO.q (Q.move rfl) (XO.q (Q.move rfl) ?_)
 refine XO.call Tryz.call173 rfl rfl rfl (indexFuncPJ v h xs gid cap Hr p hc hS) fun v7 s7 R7 => ?_
 obtain ⟨rfl, rfl⟩ := R7
 dsimp only [lcA, lnA]
 refine XO.q (Q.geq rfl rfl) ?_
 refine XO.q (Q.assign rfl) (XO.done ?_)
 refine XK.rt [] Tryz.func124 Tryz.results124 (.t rfl .n) ?_
 exact ⟨by rw [← findFirst_any], rfl⟩
theorem indexFuncPR (v : Value) (h : PHeap) (xs : List PRack) [s : Arr v encRack 5 h xs] (gid : FuncId) (cap : List Value) (Hr : List PHeap) (p : PRack → Bool)
  (hc : ∀ args w, (callFunc gid args).run Tryz.prog w = .ok (.enter gid args) w) (hS : ∀ x ∈ xs, Spec Tryz.prog gid (.agg #[.int .i64 x.r0, .int .i64 x.r1, .int .i64 x.r2, .int .i64 x.cap, .int .i64 x.domain] :: cap).toArray [] Hr (fun v hs => v = .bool (p x) ∧ hs = [])) :
  Spec Tryz.prog 201 #[v, .func (.func gid) #[] cap.toArray] [] (h :: Hr) (fun v hs => v = .int .i64 (findFirst p xs) ∧ hs = []) := by
 refine Spec.intro (fn := Tryz.f201) (N := 19) Tryz.func201 rfl Tryz.ntmps201 rfl fun B => ?_
 refine XK.seq (XK.region rfl (XO.q (Q.assign rfl) (XO.done (XK.seq (XK.seq ?_)))))
 refine XK.region rfl (XO.q (Q.move rfl) ?_)
 refine XO.len rfl fun l7 => ?_
 refine XO.q (Q.move rfl) (XO.done (XK.block ?_))
 refine XK.while (X := Nat) [4, 5, 8, 9, 10, 11, 12, 13, 14, 15, 16, 17, 18] (fun i => [(8, some (.int .i64 (i : Nat)))]) (fun i => []) (fun i => i ≤ xs.length ∧ (xs.take i).any p = false) (fun i => xs.length - i) (0) [] rfl ⟨by omega, rfl⟩ (.c rfl (.base 0 rfl rfl)) ?_
 rintro i ⟨hi, ht⟩ ih0
 dsimp only [lcA, lnA] at ih0 ⊢
 refine XK.seq (XK.region rfl ?_)
 refine XO.q (Q.lss rfl rfl) ?_
 refine XO.done (XK.seq ?_)
 refine XK.if rfl (fun c0 => ?_) (fun c0 => ?_)
 ·skip
  refine XK.skip (XK.seq (XK.block (XK.seq (XK.region rfl (XO.q (Q.move rfl) ?_)))))
  refine XO.q (Q.assign rfl) (XO.done (XK.seq (XK.region rfl (XO.q (Q.move rfl) (XO.q (Q.move rfl) ?_)))))
  refine XO.q (Q.move rfl) ?_
  refine XO.ix rfl rfl (by omega) (by omega) fun i14 => ?_
  refine XO.q (Q.ldEA [_, _, _, _, _] rfl (by first | assumption | omega) rfl rfl) ?_
  refine XO.call hc rfl rfl rfl (hS _ (getD_mem (by omega))) fun v16 s16 R16 => ?_
  obtain ⟨rfl, rfl⟩ := R16
  dsimp only [lcA, lnA]
  refine XO.done ?_
  refine XK.if rfl (fun c1 => ?_) (fun c1 => ?_)
  ·skip
   refine XK.seq (XK.region rfl (XO.q (Q.move rfl) (XO.q (Q.assign rfl) (XO.done ?_))))
   refine XK.rt [] Tryz.func201 Tryz.results201 (.t rfl .n) ?_
   exact ⟨by rw [findFirst_here ht (by omega) c1], rfl⟩
  ·skip
   refine XK.skip ?_
   refine XK.inBlock ?_
   refine XK.region rfl ?_
   refine XO.q (Q.add rfl rfl ⟨by omega, by omega⟩) ?_
   refine XO.q (Q.move rfl) (XO.done ?_)
   exact ih0 (i + 1) _ _ ⟨by omega, any_step ht (by omega) (Bool.eq_false_iff.2 c1)⟩ (by first | omega | (dsimp only; omega)) (.c rfl (.base 25 rfl rfl)) inferInstance
 ·skip
  refine XK.exit rfl ?_
  refine XK.seq (XK.region rfl (XO.q (Q.assign rfl) (XO.done ?_)))
  refine XK.rt [] Tryz.func201 Tryz.results201 (.t rfl .n) ?_
  exact ⟨by rw [findFirst_none ht c0], rfl⟩
theorem containsFuncPR (v : Value) (h : PHeap) (xs : List PRack) [s : Arr v encRack 5 h xs] (gid : FuncId) (cap : List Value) (Hr : List PHeap) (p : PRack → Bool)
  (hc : ∀ args w, (callFunc gid args).run Tryz.prog w = .ok (.enter gid args) w) (hS : ∀ x ∈ xs, Spec Tryz.prog gid (.agg #[.int .i64 x.r0, .int .i64 x.r1, .int .i64 x.r2, .int .i64 x.cap, .int .i64 x.domain] :: cap).toArray [] Hr (fun v hs => v = .bool (p x) ∧ hs = [])) :
  Spec Tryz.prog 168 #[v, .func (.func gid) #[] cap.toArray] [] (h :: Hr) (fun v hs => v = .bool (xs.any p) ∧ hs = []) := by
 refine Spec.intro (fn := Tryz.f168) (N := 9) Tryz.func168 rfl Tryz.ntmps168 rfl fun B => ?_
 refine XK.seq (XK.region rfl (XO.q (Q.assign rfl) (XO.done (XK.seq (XK.region rfl ?_)))))
 refine XO.q (Q.move rfl) (XO.q (Q.move rfl) ?_)
 refine XO.call Tryz.call201 rfl rfl rfl (indexFuncPR v h xs gid cap Hr p hc hS) fun v7 s7 R7 => ?_
 obtain ⟨rfl, rfl⟩ := R7
 dsimp only [lcA, lnA]
 refine XO.q (Q.geq rfl rfl) ?_
 refine XO.q (Q.assign rfl) (XO.done ?_)
 refine XK.rt [] Tryz.func168 Tryz.results168 (.t rfl .n) ?_
 exact ⟨by rw [← findFirst_any], rfl⟩
theorem pin1 (b : Nat) (m x : Int) : Spec Tryz.prog 202 #[.int .i64 x, ptr b 0] [] [blk b [.int .i64 m] 3] (fun v hs => v = .bool (pout m x) ∧ hs = []) := by
 refine Spec.intro (fn := Tryz.f202) (N := 11) Tryz.func202 rfl Tryz.ntmps202 rfl fun B => ?_
 refine XK.seq (XK.region rfl (XO.q (Q.assign rfl) (XO.done (XK.seq (XK.region rfl ?_)))))
 refine XO.q (Q.move rfl) ?_
 refine XO.q (Q.lss rfl rfl) ?_
 refine XO.q (Q.move rfl) ?_
 refine XO.q (Quiet.guardF rfl rfl fun g7 p7 => Q.move rfl) ?_
 refine XO.q (Quiet.guardF rfl rfl fun g8 p8 => Q.ld rfl rfl) ?_
 refine XO.q (Quiet.guardF rfl rfl fun g9 p9 => Q.gtr (lzv g9 rfl) (lzv g9 rfl)) ?_
 refine XO.q (Q.or rfl (fun hp => lzv hp rfl)) ?_
 refine XO.q (Q.assign rfl) (XO.done ?_)
 refine XK.rt [] Tryz.func202 Tryz.results202 (.t rfl .n) ?_
 exact ⟨rfl, rfl⟩
theorem pin_spec (m : Int) (v : Value) (h : PHeap) (xs : List Int) [s : Arr v encI 1 h xs] : Spec Tryz.prog 174 #[.int .i64 m, v] [] [h] (fun v hs => v = .bool (pin m xs) ∧ hs = []) := by
 refine Spec.intro (fn := Tryz.f174) (N := 9) Tryz.func174 rfl Tryz.ntmps174 rfl fun B => ?_
 refine XK.seq (XK.region rfl ?_)
 refine XO.box rfl fun b2 => ?_
 refine XO.q (Q.assign rfl) (XO.done (XK.seq (XK.region rfl (XO.q (Q.move rfl) ?_))))
 refine XO.q (Q.func (fun _ he => rfl) (fun _ he => evs_rel he rfl)) ?_
 refine XO.call Tryz.call97 rfl rfl rfl (containsFuncI v h xs 202 [ptr b2 0] [blk b2 [.int .i64 m] 3] (pout m) Tryz.call202 (fun x hx => pin1 b2 m x)) fun v7 s7 R7 => ?_
 obtain ⟨rfl, rfl⟩ := R7
 dsimp only [lcA, lnA]
 refine XO.q (Q.not rfl) ?_
 refine XO.q (Q.assign rfl) (XO.done ?_)
 refine XK.rt [] Tryz.func174 Tryz.results174 (.t rfl .n) ?_
 exact ⟨rfl, rfl⟩
theorem divisor_spec (a b : Nat) (ha : (a : Int) ≤ 9223372036854775807) (hb : (b : Int) ≤ 9223372036854775807) : Spec Tryz.prog 128 #[.int .i64 (a : Nat), .int .i64 (b : Nat)] [] [] (fun v hs => v = .int .i64 (Nat.gcd a b : Nat) ∧ hs = []) := by
 refine Spec.intro (fn := Tryz.f128) (N := 12) Tryz.func128 rfl Tryz.ntmps128 rfl fun B => ?_
 refine XK.seq (XK.region rfl (XO.q (Q.assign rfl) (XO.done (XK.seq (XK.block ?_)))))
 refine XK.while (X := Nat × Nat) [0, 1, 5, 6, 7, 8, 9, 10] (fun ⟨x, y⟩ => [(0, some (.int .i64 (x : Nat))), (1, some (.int .i64 (y : Nat)))]) (fun ⟨x, y⟩ => []) (fun ⟨x, y⟩ => ((x : Int) ≤ 9223372036854775807 ∧ (y : Int) ≤ 9223372036854775807) ∧ Nat.gcd x y = Nat.gcd a b) (fun ⟨x, y⟩ => y) (a, b) [] rfl ⟨⟨ha, hb⟩, rfl⟩ (.c rfl (.c rfl (.base 0 rfl rfl))) ?_
 rintro ⟨x, y⟩ ⟨⟨hx, hyb⟩, hg⟩ ih0
 dsimp only [lcA, lnA] at ih0 ⊢
 refine XK.seq (XK.seq (XK.region rfl (XO.q (Q.move rfl) ?_)))
 refine XO.q (Q.neq rfl rfl) ?_
 refine XO.done ?_
 refine XK.if rfl (fun c0 => ?_) (fun c0 => ?_)
 ·skip
  have hy : 0 < y := by omega
  have hm := Nat.mod_lt x hy
  refine XK.skip (XK.block ?_)
  refine XK.drawn [0, 1, 2, 3, 4, 5] [] [] (.q 0 (.q 1 (.q 2 (.q 3 (.q 4 (.q 5 .done)))))) Tryz.mixed rfl (by kernel_rfl) ?_
  refine XT.q rfl rfl (Q.move rfl) ?_
  refine XT.q rfl rfl (Q.move rfl) ?_
  refine XT.q rfl rfl (Q.move rfl) ?_
  refine XT.q rfl rfl (Q.rem rfl rfl (by omega) (by omega)) ?_
  rw [show (x : Int) % (y : Int) = ((x % y : Nat) : Int) from rfl]
  refine XT.q rfl rfl (Q.assign rfl) ?_
  refine XT.q rfl rfl (Q.assign rfl) ?_
  refine XT.done ?_
  refine XK.inBlock ?_
  exact ih0 (y, x % y) _ _ ⟨⟨by dsimp only; omega, by dsimp only; omega⟩, by dsimp only; rw [← hg, Nat.gcd_comm y, ← Nat.gcd_rec, Nat.gcd_comm]⟩ (by first | omega | (dsimp only; omega)) (.c rfl (.c rfl (.base 18 rfl rfl))) inferInstance
 ·skip
  have hy : y = 0 := by omega
  subst hy
  refine XK.exit rfl ?_
  refine XK.seq (XK.region rfl (XO.q (Q.move rfl) (XO.q (Q.assign rfl) (XO.done ?_))))
  refine XK.rt [] Tryz.func128 Tryz.results128 (.t rfl .n) ?_
  exact ⟨by rw [← hg, Nat.gcd_zero_right], rfl⟩
theorem chance_spec (r : PRat) : Spec Tryz.prog 171 #[.agg #[.int .i64 r.n, .int .i64 r.d]] [] [] (fun v hs => v = .bool (chanceR r) ∧ hs = []) := by
 refine Spec.intro (fn := Tryz.f171) (N := 27) Tryz.func171 rfl Tryz.ntmps171 rfl fun B => ?_
 refine XK.seq (XK.region rfl ?_)
 refine XO.box rfl fun b1 => ?_
 refine XO.q (Q.assign rfl) (XO.done (XK.seq (XK.region rfl ?_)))
 refine XO.q (Q.fieldAddr rfl) ?_
 refine XO.q (Q.ld rfl rfl) ?_
 refine XO.q (Q.geq rfl rfl) ?_
 refine XO.q (Q.move rfl) ?_
 refine XO.q (Quiet.guardT rfl rfl fun g7 p7 => Q.fieldAddr rfl) ?_
 refine XO.q (Quiet.guardT rfl rfl fun g8 p8 => Q.ld (lzv g8 rfl) rfl) ?_
 refine XO.q (Quiet.guardT rfl rfl fun g9 p9 => Q.leq (lzv g9 rfl) rfl) ?_
 refine XO.q (Q.and rfl (fun hp => lzv hp rfl)) ?_
 refine XO.q (Q.move rfl) ?_
 refine XO.q (Quiet.guardT rfl rfl fun g12 p12 => Q.fieldAddr rfl) ?_
 refine XO.q (Quiet.guardT rfl rfl fun g13 p13 => Q.ld (lzv g13 rfl) rfl) ?_
 refine XO.q (Quiet.guardT rfl rfl fun g14 p14 => Q.fieldAddr rfl) ?_
 refine XO.q (Quiet.guardT rfl rfl fun g15 p15 => Q.ld (lzv g15 rfl) rfl) ?_
 refine XO.lit1 [_] [_] [r.n] encI rfl rfl (by rfl) (by rfl) rfl (by rfl) (fun g16 => by exact .c 0 1 (lzv g16 rfl) rfl rfl (.n _)) (fun _ => rfl) (by rfl) rfl (fun _ => by infer_instance) rfl (fun v16 h16 O16 => ?_)
 refine XO.gcallT rfl rfl Tryz.call174 rfl (fun g17 => .c (lzv g17 rfl) (.c (lzv g17 rfl) .n)) rfl (fun g17 p17 => by haveI := O16 g17; exact pin_spec r.d v16 h16 [r.n]) ?_
 refine XO.q (Q.and rfl (fun hp => lzv hp rfl)) ?_
 refine XO.q (Q.move rfl) ?_
 refine XO.q (Quiet.guardT rfl rfl fun g20 p20 => Q.fieldAddr rfl) ?_
 refine XO.q (Quiet.guardT rfl rfl fun g21 p21 => Q.ld (lzv g21 rfl) rfl) ?_
 refine XO.q (Quiet.guardT rfl rfl fun g22 p22 => Q.fieldAddr rfl) ?_
 refine XO.q (Quiet.guardT rfl rfl fun g23 p23 => Q.ld (lzv g23 rfl) rfl) ?_
 refine XO.gcallT rfl rfl Tryz.call128 rfl (fun g24 => .c (lzv g24 rfl) (.c (lzv g24 rfl) .n)) rfl (fun g24 p24 => (by
  have q := pin_one.1 p24.2
  have e1 : r.n = (r.n.toNat : Int) := by omega
  have e2 : r.d = (r.d.toNat : Int) := by omega
  have s := divisor_spec r.n.toNat r.d.toNat (by omega) (by omega)
  rw [← e1, ← e2] at s
  exact s)) ?_
 refine XO.q (Quiet.guardT rfl rfl fun g25 p25 => Q.eql (lzv g25 rfl) rfl) ?_
 refine XO.q (Q.and rfl (fun hp => lzv hp rfl)) ?_
 refine XO.q (Q.assign rfl) (XO.done ?_)
 refine XK.rt [] Tryz.func171 Tryz.results171 (.t rfl .n) ?_
 refine ⟨?_, rfl⟩
 unfold chanceR
 by_cases h : pin r.d [r.n] = true
 ·have q := pin_one.1 h
  have e : Int.gcd r.n r.d = r.n.toNat.gcd r.d.toNat := by
   unfold Int.gcd
   rw [show r.n.natAbs = r.n.toNat by omega, show r.d.natAbs = r.d.toNat by omega]
  have e3 : (((r.n.toNat.gcd r.d.toNat : Nat) : Int) = 1) ↔ (r.n.toNat.gcd r.d.toNat = 1) := by omega
  rw [e]
  simp only [e3]
 ·rw [Bool.eq_false_iff.2 h]; simp
end Go.X.Pl

set_option linter.unusedSimpArgs false
set_option linter.unusedVariables false
set_option maxRecDepth 20000
namespace Go.X.Pl
open Go.Proofs
theorem rackR_spec (r : PRack) : Spec Tryz.prog 170 #[.agg #[.int .i64 r.r0, .int .i64 r.r1, .int .i64 r.r2, .int .i64 r.cap, .int .i64 r.domain]] [] [] (fun v hs => v = .bool (rackR r) ∧ hs = []) := by
 refine Spec.intro (fn := Tryz.f170) (N := 18) Tryz.func170 rfl Tryz.ntmps170 rfl fun B => ?_
 refine XK.seq (XK.region rfl ?_)
 refine XO.box rfl fun b1 => ?_
 refine XO.q (Q.assign rfl) (XO.done (XK.seq (XK.region rfl ?_)))
 refine XO.q (Q.fieldAddr rfl) ?_
 refine XO.q (Q.sliceA rfl) ?_
 refine XO.call Tryz.call174 rfl rfl rfl (by haveI := arr3 (b := b1) (a0 := r.r0) (a1 := r.r1) (a2 := r.r2) (rest := [.int .i64 r.cap, .int .i64 r.domain]) (T := 85); exact pin_spec 1000000 (.slice (some ⟨b1, 0, none⟩) 3 3) (blk b1 (.int .i64 r.r0 :: .int .i64 r.r1 :: .int .i64 r.r2 :: [.int .i64 r.cap, .int .i64 r.domain]) 85) [r.r0, r.r1, r.r2]) fun v5 s5 R5 => ?_
 obtain ⟨rfl, rfl⟩ := R5
 dsimp only [lcA, lnA]
 refine XO.q (Q.move rfl) ?_
 refine XO.q (Quiet.guardT rfl rfl fun g7 p7 => Q.fieldAddr rfl) ?_
 refine XO.q (Quiet.guardT rfl rfl fun g8 p8 => Q.ld (lzv g8 rfl) rfl) ?_
 refine XO.lit1 [_] [_] [r.cap] encI rfl rfl (by rfl) (by rfl) rfl (by rfl) (fun g9 => by exact .c 0 1 (lzv g9 rfl) rfl rfl (.n _)) (fun _ => rfl) (by rfl) rfl (fun _ => by infer_instance) rfl (fun v9 h9 O9 => ?_)
 refine XO.gcallT rfl rfl Tryz.call174 rfl (fun g10 => .c rfl (.c (lzv g10 rfl) .n)) rfl (fun g10 p10 => by haveI := O9 g10; exact pin_spec 10000 v9 h9 [r.cap]) ?_
 refine XO.q (Q.and rfl (fun hp => lzv hp rfl)) ?_
 refine XO.q (Q.move rfl) ?_
 refine XO.q (Quiet.guardT rfl rfl fun g13 p13 => Q.fieldAddr rfl) ?_
 refine XO.q (Quiet.guardT rfl rfl fun g14 p14 => Q.ld (lzv g14 rfl) rfl) ?_
 refine XO.lit1 [_] [_] [r.domain] encI rfl rfl (by rfl) (by rfl) rfl (by rfl) (fun g15 => by exact .c 0 1 (lzv g15 rfl) rfl rfl (.n _)) (fun _ => rfl) (by rfl) rfl (fun _ => by infer_instance) rfl (fun v15 h15 O15 => ?_)
 refine XO.gcallT rfl rfl Tryz.call174 rfl (fun g16 => .c rfl (.c (lzv g16 rfl) .n)) rfl (fun g16 p16 => by haveI := O15 g16; exact pin_spec 100 v15 h15 [r.domain]) ?_
 refine XO.q (Q.and rfl (fun hp => lzv hp rfl)) ?_
 refine XO.q (Q.assign rfl) (XO.done ?_)
 refine XK.rt [] Tryz.func170 Tryz.results170 (.t rfl .n) ?_
 exact ⟨rfl, rfl⟩
theorem draws_next {j : PJob} {i : Nat} (h : ∀ k, k < i → DrawOk j.draws k) (hi : DrawOk j.draws i) : ∀ k, k < i + 1 → DrawOk j.draws k := fun k hk => by
 by_cases e : k = i
 ·subst e; exact hi
 ·exact h k (by omega)
theorem jobR_no {j : PJob} (h : (((¬pin 1000000 [j.n0, j.n1, j.n2] = true ∨ ¬pin 100 [j.group] = true) ∨ ¬pin 1000000 [j.worth] = true) ∨ (j.draws.length : Int) < 1) ∨ 8 < (j.draws.length : Int)) : jobR j = false := by
 refine Bool.eq_false_iff.2 fun hc => ?_
 have k := jobR_iff.1 hc
 have := k.few
 rcases h with (((h | h) | h) | h) | h
 ·exact h k.need
 ·exact h (pin_one.2 k.grp)
 ·exact h (pin_one.2 k.wor)
 ·omega
 ·omega
theorem jobR_yes {j : PJob} (h : ¬ ((((¬pin 1000000 [j.n0, j.n1, j.n2] = true ∨ ¬pin 100 [j.group] = true) ∨ ¬pin 1000000 [j.worth] = true) ∨ (j.draws.length : Int) < 1) ∨ 8 < (j.draws.length : Int))) (hg : ∀ k, k < j.draws.length → DrawOk j.draws k) : jobR j = true := by
 simp only [not_or, Decidable.not_not, pin_one] at h
 obtain ⟨⟨⟨⟨a, b⟩, c⟩, d⟩, e⟩ := h
 exact jobR_iff.2 ⟨a, b, c, ⟨by omega, by omega⟩, hg⟩
theorem drawOk_no {l : List PDraw} {i : Nat} (h : ((¬pin 1000 [(l.getD i default).power] = true ∨ (l.getD i default).count < 1) ∨ 64 < (l.getD i default).count) ∨ 0 < (i : Int) ∧ (l.getD i default).power ≤ (l.getD ((i : Int) - 1).toNat default).power) : ¬ DrawOk l i := fun hd => by
 unfold DrawOk at hd
 rw [pin_one] at h
 rw [show ((i : Int) - 1).toNat = i - 1 by omega] at h
 omega
theorem drawOk_yes {l : List PDraw} {i : Nat} (h : ¬ (((¬pin 1000 [(l.getD i default).power] = true ∨ (l.getD i default).count < 1) ∨ 64 < (l.getD i default).count) ∨ 0 < (i : Int) ∧ (l.getD i default).power ≤ (l.getD ((i : Int) - 1).toNat default).power)) : DrawOk l i := by
 unfold DrawOk
 rw [pin_one] at h
 rw [show ((i : Int) - 1).toNat = i - 1 by omega] at h
 omega
set_option maxHeartbeats 2000000 in
theorem jobR_spec (j : PJob) (vd : Value) (hd : PHeap) [id_ : Arr vd encDraw 2 hd j.draws] : Spec Tryz.prog 126 #[.agg #[.int .i64 j.n0, .int .i64 j.n1, .int .i64 j.n2, vd, .int .i64 j.group, .int .i64 j.worth]] [] [hd] (fun v hs => v = .bool (jobR j) ∧ hs = []) := by
 have ld := id_.le
 refine Spec.intro (fn := Tryz.f126) (N := 75) Tryz.func126 rfl Tryz.ntmps126 rfl fun B => ?_
 refine XK.seq (XK.region rfl ?_)
 refine XO.box rfl fun b1 => ?_
 refine XO.q (Q.assign rfl) (XO.done (XK.seq (XK.seq (XK.region rfl ?_))))
 refine XO.q (Q.fieldAddr rfl) ?_
 refine XO.q (Q.sliceA rfl) ?_
 refine XO.call Tryz.call174 rfl rfl rfl (by haveI := arr3 (b := b1) (a0 := j.n0) (a1 := j.n1) (a2 := j.n2) (rest := [vd, .int .i64 j.group, .int .i64 j.worth]) (T := 88); exact pin_spec 1000000 (.slice (some ⟨b1, 0, none⟩) 3 3) (blk b1 (.int .i64 j.n0 :: .int .i64 j.n1 :: .int .i64 j.n2 :: [vd, .int .i64 j.group, .int .i64 j.worth]) 88) [j.n0, j.n1, j.n2]) fun v7 s7 R7 => ?_
 obtain ⟨rfl, rfl⟩ := R7
 dsimp only [lcA, lnA]
 refine XO.q (Q.not rfl) ?_
 refine XO.q (Q.move rfl) ?_
 refine XO.q (Quiet.guardF rfl rfl fun g10 p10 => Q.fieldAddr rfl) ?_
 refine XO.q (Quiet.guardF rfl rfl fun g11 p11 => Q.ld (lzv g11 rfl) rfl) ?_
 refine XO.lit1 [_] [_] [j.group] encI rfl rfl (by rfl) (by rfl) rfl (by rfl) (fun g12 => by exact .c 0 1 (lzv g12 rfl) rfl rfl (.n _)) (fun _ => rfl) (by rfl) rfl (fun _ => by infer_instance) rfl (fun v12 h12 O12 => ?_)
 refine XO.gcallF rfl rfl Tryz.call174 rfl (fun g13 => .c rfl (.c (lzv g13 rfl) .n)) rfl (fun g13 p13 => by haveI := O12 g13; exact pin_spec 100 v12 h12 [j.group]) ?_
 refine XO.q (Quiet.guardF rfl rfl fun g14 p14 => Q.not (lzv g14 rfl)) ?_
 refine XO.q (Q.or rfl (fun hp => lzv hp rfl)) ?_
 refine XO.q (Q.move rfl) ?_
 refine XO.q (Quiet.guardF rfl rfl fun g17 p17 => Q.fieldAddr rfl) ?_
 refine XO.q (Quiet.guardF rfl rfl fun g18 p18 => Q.ld (lzv g18 rfl) rfl) ?_
 refine XO.lit1 [_] [_] [j.worth] encI rfl rfl (by rfl) (by rfl) rfl (by rfl) (fun g19 => by exact .c 0 1 (lzv g19 rfl) rfl rfl (.n _)) (fun _ => rfl) (by rfl) rfl (fun _ => by infer_instance) rfl (fun v19 h19 O19 => ?_)
 refine XO.gcallF rfl rfl Tryz.call174 rfl (fun g20 => .c rfl (.c (lzv g20 rfl) .n)) rfl (fun g20 p20 => by haveI := O19 g20; exact pin_spec 1000000 v19 h19 [j.worth]) ?_
 refine XO.q (Quiet.guardF rfl rfl fun g21 p21 => Q.not (lzv g21 rfl)) ?_
 refine XO.q (Q.or rfl (fun hp => lzv hp rfl)) ?_
 refine XO.q (Q.move rfl) ?_
 refine XO.q (Quiet.guardF rfl rfl fun g24 p24 => Q.fieldAddr rfl) ?_
 refine XO.q (Quiet.guardF rfl rfl fun g25 p25 => Q.ld (lzv g25 rfl) rfl) ?_
 refine XO.q (Quiet.guardF rfl rfl fun g26 p26 => Q.len (lzv g26 rfl)) ?_
 refine XO.q (Quiet.guardF rfl rfl fun g27 p27 => Q.lss (lzv g27 rfl) rfl) ?_
 refine XO.q (Q.or rfl (fun hp => lzv hp rfl)) ?_
 refine XO.q (Q.move rfl) ?_
 refine XO.q (Quiet.guardF rfl rfl fun g30 p30 => Q.fieldAddr rfl) ?_
 refine XO.q (Quiet.guardF rfl rfl fun g31 p31 => Q.ld (lzv g31 rfl) rfl) ?_
 refine XO.q (Quiet.guardF rfl rfl fun g32 p32 => Q.len (lzv g32 rfl)) ?_
 refine XO.q (Quiet.guardF rfl rfl fun g33 p33 => Q.gtr (lzv g33 rfl) rfl) ?_
 refine XO.q (Q.or rfl (fun hp => lzv hp rfl)) ?_
 refine XO.done ?_
 refine XK.if rfl (fun c0 => ?_) (fun c0 => ?_)
 ·skip
  refine XK.seq (XK.region rfl (XO.q (Q.assign rfl) (XO.done ?_)))
  refine XK.rt [] Tryz.func126 Tryz.results126 (.t rfl .n) ?_
  exact ⟨by rw [jobR_no c0], rfl⟩
 ·skip
  refine XK.skip (XK.seq (XK.seq (XK.region rfl ?_)))
  refine XO.q (Q.fieldAddr rfl) ?_
  refine XO.q (Q.ld rfl rfl) ?_
  refine XO.len rfl fun l37 => ?_
  refine XO.q (Q.move rfl) (XO.done (XK.block ?_))
  refine XK.while (X := Nat) [2, 3, 4, 38, 39, 40, 41, 42, 43, 44, 45, 46, 47, 48, 49, 50, 51, 52, 53, 54, 55, 56, 57, 58, 59, 60, 61, 62, 63, 64, 65, 66, 67, 68, 69, 70, 71, 72, 73, 74] (fun i => [(38, some (.int .i64 (i : Nat)))]) (fun i => []) (fun i => i ≤ j.draws.length ∧ ∀ k, k < i → DrawOk j.draws k) (fun i => j.draws.length - i) (0) [] rfl ⟨by omega, fun k hk => by omega⟩ (.c rfl (.base 0 rfl rfl)) ?_
  rintro i ⟨hi, hg⟩ ih0
  dsimp only [lcA, lnA] at ih0 ⊢
  refine XK.seq (XK.region rfl ?_)
  refine XO.q (Q.lss rfl rfl) ?_
  refine XO.done (XK.seq ?_)
  refine XK.if rfl (fun c1 => ?_) (fun c1 => ?_)
  ·skip
   refine XK.skip (XK.seq (XK.block (XK.seq (XK.region rfl (XO.q (Q.move rfl) ?_)))))
   refine XO.ix rfl rfl (by omega) (by omega) fun i41 => ?_
   refine XO.q (Q.ldEA [_, _] rfl (by first | assumption | omega) rfl rfl) ?_
   refine XO.alloc fun b4 => ?_
   refine XO.q (Q.assign rfl) ?_
   refine XO.st rfl rfl rfl ?_
   refine XO.done (XK.seq ?_)
   refine XK.drawn [0, 1, 4, 5, 6, 7, 8, 9, 10, 11, 12, 13, 14, 15, 16, 17, 18, 19, 20, 21, 22, 23, 24, 25, 26, 27, 28, 29, 30] [b4, b1] [] (.q 0 (.q 1 (.br 2 true (.br 3 true (.q 4 (.q 5 (.q 6 (.q 7 (.q 8 (.q 9 (.q 10 (.q 11 (.q 12 (.q 13 (.q 14 (.q 15 (.q 16 (.q 17 (.q 18 (.q 19 (.q 20 (.q 21 (.q 22 (.q 23 (.q 24 (.q 25 (.q 26 (.q 27 (.q 28 (.q 29 (.q 30 .done))))))))))))))))))))))))))) .stop) .stop))) Tryz.mixed rfl (by kernel_rfl) ?_
   refine XT.q rfl rfl (Q.fieldAddr rfl) ?_
   refine XT.q rfl rfl (Q.ld rfl rfl) ?_
   refine XT.lit [_] [_] [(j.draws.getD i default).power] encI rfl rfl (by rfl) (by rfl) rfl (by rfl) (by exact .c 0 1 rfl rfl rfl (.n _)) (fun _ => rfl) (by rfl) rfl (by infer_instance) rfl (fun v45 h45 O45 => ⟨inferInstance, ?_⟩) XT.stop
   refine XT.call rfl rfl Tryz.call174 rfl rfl rfl (pin_spec 1000 v45 h45 [(j.draws.getD i default).power]) (fun v46 s46 R46 => ?_) XT.stop
   obtain ⟨rfl, rfl⟩ := R46
   dsimp only [lcA, lnA]
   refine ⟨inferInstance, ?_⟩
   refine XT.q rfl rfl (Q.not rfl) ?_
   refine XT.q rfl rfl (Q.move rfl) ?_
   refine XT.q rfl rfl (Quiet.guardF rfl rfl fun g49 p49 => Q.fieldAddr rfl) ?_
   refine XT.q rfl rfl (Quiet.guardF rfl rfl fun g50 p50 => Q.ld (lzv g50 rfl) rfl) ?_
   refine XT.q rfl rfl (Quiet.guardF rfl rfl fun g51 p51 => Q.lss (lzv g51 rfl) rfl) ?_
   refine XT.q rfl rfl (Q.or rfl (fun hp => lzv hp rfl)) ?_
   refine XT.q rfl rfl (Q.move rfl) ?_
   refine XT.q rfl rfl (Quiet.guardF rfl rfl fun g54 p54 => Q.fieldAddr rfl) ?_
   refine XT.q rfl rfl (Quiet.guardF rfl rfl fun g55 p55 => Q.ld (lzv g55 rfl) rfl) ?_
   refine XT.q rfl rfl (Quiet.guardF rfl rfl fun g56 p56 => Q.gtr (lzv g56 rfl) rfl) ?_
   refine XT.q rfl rfl (Q.or rfl (fun hp => lzv hp rfl)) ?_
   refine XT.q rfl rfl (Q.move rfl) ?_
   refine XT.q rfl rfl (Quiet.guardF rfl rfl fun g59 p59 => Q.move rfl) ?_
   refine XT.q rfl rfl (Quiet.guardF rfl rfl fun g60 p60 => Q.gtr (lzv g60 rfl) rfl) ?_
   refine XT.q rfl rfl (Quiet.guardF rfl rfl fun g61 p61 => Q.move (lzv g61 rfl)) ?_
   refine XT.q rfl rfl (Quiet.guard2 rfl rfl fun g62a g62b => have p62a := bpF g62a; have p62b := bpT g62b; Q.fieldAddr rfl) ?_
   refine XT.q rfl rfl (Quiet.guard2 rfl rfl fun g63a g63b => have p63a := bpF g63a; have p63b := bpT g63b; Q.ld (lzv g63b (lzv g63a rfl)) rfl) ?_
   refine XT.q rfl rfl (Quiet.guard2 rfl rfl fun g64a g64b => have p64a := bpF g64a; have p64b := bpT g64b; Q.fieldAddr rfl) ?_
   refine XT.q rfl rfl (Quiet.guard2 rfl rfl fun g65a g65b => have p65a := bpF g65a; have p65b := bpT g65b; Q.ld (lzv g65b (lzv g65a rfl)) rfl) ?_
   refine XT.q rfl rfl (Quiet.guard2 rfl rfl fun g66a g66b => have p66a := bpF g66a; have p66b := bpT g66b; Q.move rfl) ?_
   refine XT.q rfl rfl (Quiet.guard2 rfl rfl fun g67a g67b => have p67a := bpF g67a; have p67b := bpT g67b; Q.sub (lzv g67b (lzv g67a rfl)) rfl ⟨by omega, by omega⟩) ?_
   refine XT.q rfl rfl (Quiet.guard2 rfl rfl fun g68a g68b => have p68a := bpF g68a; have p68b := bpT g68b; Q.ix (lzv g68b (lzv g68a rfl)) (lzv g68b (lzv g68a rfl)) (by omega) (by omega)) ?_
   refine XT.q rfl rfl (Quiet.guard2 rfl rfl fun g69a g69b => have p69a := bpF g69a; have p69b := bpT g69b; Q.fieldQ (lzv g69b (lzv g69a rfl)) (by first | assumption | omega)) ?_
   refine XT.q rfl rfl (Quiet.guard2 rfl rfl fun g70a g70b => have p70a := bpF g70a; have p70b := bpT g70b; Q.ldE (lzv g70b (lzv g70a rfl)) (by first | assumption | omega) rfl) ?_
   refine XT.q rfl rfl (Quiet.guard2 rfl rfl fun g71a g71b => have p71a := bpF g71a; have p71b := bpT g71b; Q.leq (lzv g71b (lzv g71a rfl)) (lzv g71b (lzv g71a rfl))) ?_
   refine XT.q rfl rfl (Quiet.guardF rfl rfl fun g72 p72 => Q.and (lzv g72 rfl) (fun hp => (lzv hp (lzv g72 rfl)))) ?_
   refine XT.q rfl rfl (Q.or rfl (fun hp => lzv hp rfl)) ?_
   refine XT.done ?_
   refine XK.if rfl (fun c2 => ?_) (fun c2 => ?_)
   ·skip
    refine XK.seq (XK.region rfl (XO.q (Q.assign rfl) (XO.done ?_)))
    refine XK.rt [] Tryz.func126 Tryz.results126 (.t rfl .n) ?_
    exact ⟨by rw [Bool.eq_false_iff.2 (fun h => drawOk_no c2 ((jobR_iff.1 h).draw i (by omega)))], rfl⟩
   ·skip
    refine XK.skip ?_
    refine XK.inBlock ?_
    refine XK.region rfl ?_
    refine XO.q (Q.add rfl rfl ⟨by omega, by omega⟩) ?_
    refine XO.q (Q.move rfl) (XO.done ?_)
    exact ih0 (i + 1) _ _ ⟨by omega, draws_next hg (drawOk_yes c2)⟩ (by first | omega | (dsimp only; omega)) (.c rfl (.base 80 rfl rfl)) inferInstance
  ·skip
   refine XK.exit rfl ?_
   refine XK.seq (XK.region rfl (XO.q (Q.assign rfl) (XO.done ?_)))
   refine XK.rt [] Tryz.func126 Tryz.results126 (.t rfl .n) ?_
   exact ⟨by rw [jobR_yes c0 (fun k hk => hg k (by omega))], rfl⟩
theorem JobsK.mem {l : List (Value × PJob)} {K : PHeap} (h : JobsK l K) {x : Value × PJob} (hx : x ∈ l) : Arr x.1 encDraw 2 K x.2.draws := by
 obtain ⟨i, hi, rfl⟩ := List.getElem_of_mem hx
 have := h i hi
 rwa [List.getD_eq_getElem?_getD, List.getElem?_eq_getElem hi] at this
theorem check1 (j : PJob) (vd : Value) (hd : PHeap) [id_ : Arr vd encDraw 2 hd j.draws] : Spec Tryz.prog 167 #[.agg #[.int .i64 j.n0, .int .i64 j.n1, .int .i64 j.n2, vd, .int .i64 j.group, .int .i64 j.worth]] [] [hd] (fun v hs => v = .bool (!jobR j) ∧ hs = []) := by
 refine Spec.intro (fn := Tryz.f167) (N := 6) Tryz.func167 rfl Tryz.ntmps167 rfl fun B => ?_
 refine XK.seq (XK.region rfl ?_)
 refine XO.box rfl fun b1 => ?_
 refine XO.q (Q.assign rfl) (XO.done (XK.seq (XK.region rfl ?_)))
 refine XO.q (Q.ldA [_, _, _, _, _, _] rfl rfl rfl) ?_
 refine XO.call Tryz.call126 rfl rfl rfl (jobR_spec j vd hd) fun v4 s4 R4 => ?_
 obtain ⟨rfl, rfl⟩ := R4
 dsimp only [lcA, lnA]
 refine XO.q (Q.not rfl) ?_
 refine XO.q (Q.assign rfl) (XO.done ?_)
 refine XK.rt [] Tryz.func167 Tryz.results167 (.t rfl .n) ?_
 exact ⟨rfl, rfl⟩
theorem listed1 (j : PJob) (vd : Value) (hd : PHeap) [id_ : Arr vd encDraw 2 hd j.draws] : Spec Tryz.prog 125 #[.agg #[.int .i64 j.n0, .int .i64 j.n1, .int .i64 j.n2, vd, .int .i64 j.group, .int .i64 j.worth]] [] [hd] (fun v hs => v = .bool (!jobR j) ∧ hs = []) := by
 refine Spec.intro (fn := Tryz.f125) (N := 6) Tryz.func125 rfl Tryz.ntmps125 rfl fun B => ?_
 refine XK.seq (XK.region rfl ?_)
 refine XO.box rfl fun b1 => ?_
 refine XO.q (Q.assign rfl) (XO.done (XK.seq (XK.region rfl ?_)))
 refine XO.q (Q.ldA [_, _, _, _, _, _] rfl rfl rfl) ?_
 refine XO.call Tryz.call126 rfl rfl rfl (jobR_spec j vd hd) fun v4 s4 R4 => ?_
 obtain ⟨rfl, rfl⟩ := R4
 dsimp only [lcA, lnA]
 refine XO.q (Q.not rfl) ?_
 refine XO.q (Q.assign rfl) (XO.done ?_)
 refine XK.rt [] Tryz.func125 Tryz.results125 (.t rfl .n) ?_
 exact ⟨rfl, rfl⟩
theorem check2 (r : PRack) : Spec Tryz.prog 169 #[.agg #[.int .i64 r.r0, .int .i64 r.r1, .int .i64 r.r2, .int .i64 r.cap, .int .i64 r.domain]] [] [] (fun v hs => v = .bool (!rackR r) ∧ hs = []) := by
 refine Spec.intro (fn := Tryz.f169) (N := 6) Tryz.func169 rfl Tryz.ntmps169 rfl fun B => ?_
 refine XK.seq (XK.region rfl ?_)
 refine XO.box rfl fun b1 => ?_
 refine XO.q (Q.assign rfl) (XO.done (XK.seq (XK.region rfl ?_)))
 refine XO.q (Q.ldA [_, _, _, _, _] rfl rfl rfl) ?_
 refine XO.call Tryz.call170 rfl rfl rfl (rackR_spec r) fun v4 s4 R4 => ?_
 obtain ⟨rfl, rfl⟩ := R4
 dsimp only [lcA, lnA]
 refine XO.q (Q.not rfl) ?_
 refine XO.q (Q.assign rfl) (XO.done ?_)
 refine XK.rt [] Tryz.func169 Tryz.results169 (.t rfl .n) ?_
 exact ⟨rfl, rfl⟩
theorem any_jobs {l : List (Value × PJob)} : (l.any fun x => !jobR x.2) = ((l.map Prod.snd).any fun j => !jobR j) := by rw [List.any_map]; rfl
theorem Check_spec (l : List (Value × PJob)) (vl : Value) (hl K : PHeap) [jl : Arr vl encPJ 6 hl l] (aL : JobsK l K) (rs : List PRack) (vr : Value) (hr : PHeap) [jr : Arr vr encRack 5 hr rs] (m : PRat) : Spec Tryz.prog 119 #[.agg #[vl, vr, .int .i64 m.n, .int .i64 m.d]] [] [hl, K, hr] (fun v hs => v = .int .i64 (pcheck ⟨(l.map Prod.snd), rs, m⟩) ∧ hs = []) := by
 refine Spec.intro (fn := Tryz.f119) (N := 34) Tryz.func119 rfl Tryz.ntmps119 rfl fun B => ?_
 refine XK.seq (XK.region rfl ?_)
 refine XO.box rfl fun b1 => ?_
 refine XO.q (Q.assign rfl) (XO.done (XK.seq (XK.block (XK.seq (XK.region rfl ?_)))))
 refine XO.q (Q.fieldAddr rfl) ?_
 refine XO.q (Q.ld rfl rfl) ?_
 refine XO.len rfl fun l6 => ?_
 refine XO.q (Q.gtr rfl rfl) ?_
 refine XO.q (Q.move rfl) ?_
 refine XO.q (Quiet.guardF rfl rfl fun g9 p9 => Q.fieldAddr rfl) ?_
 refine XO.q (Quiet.guardF rfl rfl fun g10 p10 => Q.ld (lzv g10 rfl) rfl) ?_
 refine XO.q (Quiet.guardF rfl rfl fun g11 p11 => Q.len (lzv g11 rfl)) ?_
 refine XO.q (Quiet.guardF rfl rfl fun g12 p12 => Q.lss (lzv g12 rfl) rfl) ?_
 refine XO.q (Q.or rfl (fun hp => lzv hp rfl)) ?_
 refine XO.q (Q.move rfl) ?_
 refine XO.q (Quiet.guardF rfl rfl fun g15 p15 => Q.fieldAddr rfl) ?_
 refine XO.q (Quiet.guardF rfl rfl fun g16 p16 => Q.ld (lzv g16 rfl) rfl) ?_
 refine XO.q (Quiet.guardF rfl rfl fun g17 p17 => Q.len (lzv g17 rfl)) ?_
 refine XO.q (Quiet.guardF rfl rfl fun g18 p18 => Q.gtr (lzv g18 rfl) rfl) ?_
 refine XO.q (Q.or rfl (fun hp => lzv hp rfl)) ?_
 refine XO.q (Q.assign rfl) (XO.done ?_)
 refine XK.if rfl (fun c0 => ?_) (fun c0 => ?_)
 ·skip
  refine XK.seq (XK.region rfl (XO.q (Q.assign rfl) (XO.done ?_)))
  refine XK.rt [] Tryz.func119 Tryz.results119 (.t rfl .n) ?_
  exact ⟨by rw [pcheck, if_pos (by dsimp only; rw [List.length_map]; omega)], rfl⟩
 ·skip
  refine XK.seq (XK.region rfl ?_)
  refine XO.q (Q.fieldAddr rfl) ?_
  refine XO.q (Q.ld rfl rfl) ?_
  refine XO.call Tryz.call124 rfl rfl rfl (containsFuncPJ vl hl l 167 [] [K] (fun x => !jobR x.2) Tryz.call167 (fun x hx => by haveI := aL.mem hx; exact check1 x.2 x.1 K)) fun v23 s23 R23 => ?_
  obtain ⟨rfl, rfl⟩ := R23
  dsimp only [lcA, lnA]
  rw [any_jobs]
  refine XO.q (Q.move rfl) ?_
  refine XO.q (Quiet.guardF rfl rfl fun g25 p25 => Q.fieldAddr rfl) ?_
  refine XO.q (Quiet.guardF rfl rfl fun g26 p26 => Q.ld (lzv g26 rfl) rfl) ?_
  refine XO.gcallF rfl rfl Tryz.call168 rfl (fun g27 => .c (lzv g27 rfl) (.c rfl .n)) rfl (fun g27 p27 => containsFuncPR vr hr rs 169 [] [] (fun x => !rackR x) Tryz.call169 (fun x hx => check2 x)) ?_
  refine XO.q (Q.or rfl (fun hp => lzv hp rfl)) ?_
  refine XO.q (Q.assign rfl) (XO.done ?_)
  refine XK.if rfl (fun c1 => ?_) (fun c1 => ?_)
  ·skip
   refine XK.seq (XK.region rfl (XO.q (Q.assign rfl) (XO.done ?_)))
   refine XK.rt [] Tryz.func119 Tryz.results119 (.t rfl .n) ?_
   exact ⟨by rw [pcheck, if_neg (by dsimp only; rw [List.length_map]; omega), if_pos (by dsimp only; rw [Bool.or_eq_true]; exact c1)], rfl⟩
  ·skip
   refine XK.seq (XK.region rfl ?_)
   refine XO.q (Q.fieldAddr rfl) ?_
   refine XO.q (Q.ldA [_, _] rfl rfl rfl) ?_
   refine XO.call Tryz.call171 rfl rfl rfl (chance_spec m) fun v32 s32 R32 => ?_
   obtain ⟨rfl, rfl⟩ := R32
   dsimp only [lcA, lnA]
   refine XO.q (Q.not rfl) ?_
   refine XO.q (Q.assign rfl) (XO.done ?_)
   refine XK.if rfl (fun c2 => ?_) (fun c2 => ?_)
   ·skip
    refine XK.seq (XK.region rfl (XO.q (Q.assign rfl) (XO.done ?_)))
    refine XK.rt [] Tryz.func119 Tryz.results119 (.t rfl .n) ?_
    exact ⟨by rw [pcheck, if_neg (by dsimp only; rw [List.length_map]; omega), if_neg (by dsimp only; rw [Bool.or_eq_true]; exact c1), if_pos c2], rfl⟩
   ·skip
    refine XK.skip ?_
    refine XK.inBlock ?_
    refine XK.seq (XK.region rfl (XO.q (Q.assign rfl) (XO.done ?_)))
    refine XK.rt [] Tryz.func119 Tryz.results119 (.t rfl .n) ?_
    exact ⟨by rw [pcheck, if_neg (by dsimp only; rw [List.length_map]; omega), if_neg (by dsimp only; rw [Bool.or_eq_true]; exact c1), if_neg c2], rfl⟩
end Go.X.Pl

set_option linter.unusedSimpArgs false
set_option linter.unusedVariables false
set_option maxRecDepth 20000
namespace Go.X.Pl
open Go.Proofs
theorem listed_spec (l : List (Value × PJob)) (vl : Value) (hl K : PHeap) [jl : Arr vl encPJ 6 hl l] (aL : JobsK l K) : Spec Tryz.prog 73 #[vl] [] [hl, K] (fun v hs => v = .tuple #[.int .i64 (listedG (l.map Prod.snd)).1, .int .i64 (listedG (l.map Prod.snd)).2] ∧ hs = []) := by
 have ll := jl.le
 have lm : (l.map Prod.snd).length = l.length := List.length_map ..
 refine Spec.intro (fn := Tryz.f73) (N := 40) Tryz.func73 rfl Tryz.ntmps73 rfl fun B => ?_
 refine XK.seq (XK.region rfl (XO.q (Q.assign rfl) (XO.q (Q.assign rfl) (XO.done (XK.seq ?_)))))
 refine XK.seq (XK.region rfl (XO.q (Q.move rfl) ?_))
 refine XO.len rfl fun l11 => ?_
 refine XO.q (Q.gtr rfl rfl) ?_
 refine XO.done ?_
 refine XK.if rfl (fun c0 => ?_) (fun c0 => ?_)
 ·skip
  refine XK.seq (XK.region rfl (XO.q (Q.assign rfl) (XO.q (Q.assign rfl) (XO.done ?_))))
  refine XK.rt [] Tryz.func73 Tryz.results73 (.t rfl (.t rfl .n)) ?_
  exact ⟨by rw [listedG, if_pos (by omega)], rfl⟩
 ·skip
  refine XK.skip (XK.seq (XK.seq (XK.region rfl (XO.q (Q.move rfl) ?_))))
  refine XO.call Tryz.call124 rfl rfl rfl (containsFuncPJ vl hl l 125 [] [K] (fun x => !jobR x.2) Tryz.call125 (fun x hx => by haveI := aL.mem hx; exact listed1 x.2 x.1 K)) fun v14 s14 R14 => ?_
  obtain ⟨rfl, rfl⟩ := R14
  dsimp only [lcA, lnA]
  rw [any_jobs]
  refine XO.done ?_
  refine XK.if rfl (fun c1 => ?_) (fun c1 => ?_)
  ·skip
   refine XK.seq (XK.region rfl (XO.q (Q.assign rfl) (XO.q (Q.assign rfl) (XO.done ?_))))
   refine XK.rt [] Tryz.func73 Tryz.results73 (.t rfl (.t rfl .n)) ?_
   exact ⟨by rw [listedG, if_neg (by omega), if_pos c1], rfl⟩
  ·skip
   have hJ : ∀ k, k < l.length → PJobOk (l.getD k default).2 := fun k hk => jobR_iff.1 (by
    have := any_false_at (Bool.eq_false_iff.2 c1) (i := k) (by rw [lm]; exact hk)
    rw [map_snd_atP] at this
    simpa using this)
   refine XK.skip (XK.seq (XK.region rfl (XO.q (Q.assign rfl) (XO.done (XK.seq ?_)))))
   refine XK.seq (XK.region rfl (XO.q (Q.move rfl) ?_))
   refine XO.len rfl fun l16 => ?_
   refine XO.q (Q.move rfl) (XO.done (XK.block ?_))
   refine XK.while (X := Nat) [2, 3, 4, 6, 7, 9, 17, 18, 19, 20, 21, 22, 23, 24, 25, 26, 27, 28, 29, 30, 31, 32, 33, 34, 35, 36, 37, 38] (fun i => [(17, some (.int .i64 (i : Nat))), (4, some (.int .i64 (prodJ (l.map Prod.snd) i)))]) (fun i => []) (fun i => (i ≤ l.length ∧ (1 ≤ prodJ (l.map Prod.snd) i ∧ prodJ (l.map Prod.snd) i ≤ 1099511627776)) ∧ ∀ k, k < i → prodJ (l.map Prod.snd) (k + 1) ≤ 1099511627776) (fun i => l.length - i) (0) [] rfl ⟨⟨by omega, by (try unfold prodJ); omega⟩, fun k hk => by omega⟩ (.c rfl (.c rfl (.base 0 rfl rfl))) ?_
   rintro i ⟨⟨hi, pp⟩, hp⟩ ih0
   dsimp only [lcA, lnA] at ih0 ⊢
   refine XK.seq (XK.region rfl ?_)
   refine XO.q (Q.lss rfl rfl) ?_
   refine XO.done (XK.seq ?_)
   refine XK.if rfl (fun c2 => ?_) (fun c2 => ?_)
   ·skip
    have ji := map_snd_atP l i
    have ai := aL i (by omega)
    have jok := hJ i (by omega)
    have pn := prod_next (l := l.map Prod.snd) (i := i) (by omega) (by rw [ji]; exact jok) pp
    rw [ji] at pn
    have jf := jok.few
    refine XK.skip (XK.seq (XK.block (XK.seq (XK.region rfl ?_))))
    refine XO.ix rfl rfl (by omega) (by omega) fun i19 => ?_
    refine XO.q (Q.ldEA [_, _, _, _, _, _] rfl (by first | assumption | omega) rfl rfl) ?_
    refine XO.alloc fun b6 => ?_
    refine XO.st rfl rfl rfl ?_
    refine XO.done (XK.seq (XK.region rfl (XO.q (Q.assign rfl) (XO.done (XK.seq ?_)))))
    refine XK.seq (XK.region rfl ?_)
    refine XO.q (Q.fieldAddr rfl) ?_
    refine XO.q (Q.ld rfl rfl) ?_
    refine XO.len rfl fun l23 => ?_
    refine XO.q (Q.move rfl) (XO.done (XK.block ?_))
    refine XK.while (X := Nat) [7, 9, 24, 25, 26, 27, 28, 29, 30, 31, 32] (fun k => [(24, some (.int .i64 (k : Nat))), (7, some (.int .i64 (cntTo (l.getD i default).2 k)))]) (fun k => []) (fun k => k ≤ (l.getD i default).2.draws.length) (fun k => (l.getD i default).2.draws.length - k) (0) [] rfl (by omega) (.c rfl (.c rfl (.base 0 rfl rfl))) ?_
    rintro k hk ih1
    dsimp only [lcA, lnA] at ih1 ⊢
    refine XK.seq (XK.region rfl ?_)
    refine XO.q (Q.lss rfl rfl) ?_
    refine XO.done (XK.seq ?_)
    refine XK.if rfl (fun c3 => ?_) (fun c3 => ?_)
    ·skip
     have ct := cntTo_rng jok k (by omega)
     have dk := jok.draw k (by omega)
     unfold DrawOk at dk
     refine XK.skip (XK.seq (XK.block (XK.seq (XK.region rfl ?_))))
     refine XO.ix rfl rfl (by omega) (by omega) fun i26 => ?_
     refine XO.q (Q.ldEA [_, _] rfl (by first | assumption | omega) rfl rfl) ?_
     refine XO.alloc fun b9 => ?_
     refine XO.st rfl rfl rfl ?_
     refine XO.done (XK.region rfl (XO.q (Q.move rfl) ?_))
     refine XO.q (Q.fieldAddr rfl) ?_
     refine XO.q (Q.ld rfl rfl) ?_
     refine XO.q (Q.add rfl rfl ⟨by omega, by omega⟩) ?_
     refine XO.q (Q.assign rfl) (XO.done ?_)
     refine XK.inBlock ?_
     refine XK.region rfl ?_
     refine XO.q (Q.add rfl rfl ⟨by omega, by omega⟩) ?_
     refine XO.q (Q.move rfl) (XO.done ?_)
     rw [← cntTo_succ (by omega)]
     exact ih1 (k + 1) _ _ (by omega) (by first | omega | (dsimp only; omega)) (.c rfl (.c rfl (.base 24 rfl rfl))) inferInstance
    ·skip
     have hkl : k = (l.getD i default).2.draws.length := by omega
     subst hkl
     rw [cntTo_all]
     have tr := total_rng jok
     refine XK.exit rfl ?_
     refine XK.seq (XK.region rfl (XO.q (Q.move rfl) (XO.q (Q.move rfl) ?_)))
     refine XO.q (Q.mul rfl rfl ⟨by omega, by omega⟩) ?_
     refine XO.q (Q.assign rfl) (XO.done (XK.seq (XK.region rfl (XO.q (Q.move rfl) ?_))))
     refine XO.q (Q.gtr rfl rfl) ?_
     refine XO.done ?_
     refine XK.if rfl (fun c4 => ?_) (fun c4 => ?_)
     ·skip
      have mt := manyTo_true (l := l.map Prod.snd) (n := (l.map Prod.snd).length) (i := i) (by omega) (by rw [pn.1]; omega)
      refine XK.seq (XK.region rfl (XO.q (Q.assign rfl) (XO.q (Q.assign rfl) (XO.done ?_))))
      refine XK.rt [] Tryz.func73 Tryz.results73 (.t rfl (.t rfl .n)) ?_
      exact ⟨by rw [listedG, if_neg (by omega), if_neg c1, if_pos mt], rfl⟩
     ·skip
      refine XK.skip ?_
      refine XK.inBlock ?_
      refine XK.region rfl ?_
      refine XO.q (Q.add rfl rfl ⟨by omega, by omega⟩) ?_
      refine XO.q (Q.move rfl) (XO.done ?_)
      rw [← pn.1]
      exact ih0 (i + 1) _ _ ⟨⟨by omega, by rw [pn.1]; omega⟩, fun k hk => by
       by_cases h : k = i
       ·subst h; rw [pn.1]; omega
       ·exact hp k (by omega)⟩ (by first | omega | (dsimp only; omega)) (.c rfl (.c rfl (.base 61 rfl rfl))) inferInstance
   ·skip
    refine XK.exit rfl ?_
    refine XK.seq (XK.region rfl (XO.q (Q.move rfl) (XO.q (Q.assign rfl) (XO.q (Q.assign rfl) (XO.done ?_)))))
    refine XK.rt [] Tryz.func73 Tryz.results73 (.t rfl (.t rfl .n)) ?_
    have hil : i = (l.map Prod.snd).length := by omega
    exact ⟨by rw [listedG, if_neg (by omega), if_neg c1, if_neg (by rw [manyTo_false.2 fun k hk => hp k (by omega)]; decide), ← hil], rfl⟩
theorem keyI : KeyT Tryz.prog 3 encK1 := KeyT.int (by kernel_rfl)
set_option maxHeartbeats 2000000 in
theorem sums_spec (l : List (Value × PJob)) (vl : Value) (hl K : PHeap) [jl : Arr vl encPJ 6 hl l] (aL : JobsK l K) (ok : ListOk (l.map Prod.snd)) : Spec Tryz.prog 127 #[vl] [] [hl, K] (fun v hs => ∃ b es, v = .map (some b) ∧ hs = [mapH b encK1 es] ∧ MapIs es (combos (l.map Prod.snd))) := by
 haveI := keyI
 have ll := jl.le
 have lm : (l.map Prod.snd).length = l.length := List.length_map ..
 have few := ok.few
 refine Spec.intro (fn := Tryz.f127) (N := 49) Tryz.func127 rfl Tryz.ntmps127 rfl fun B => ?_
 refine XK.seq (XK.region rfl (XO.q (Q.assign rfl) (XO.done (XK.seq (XK.region rfl ?_)))))
 refine XO.map encK1 fun b11 => ?_
 refine XO.insert (enc := encK1) (0) rfl rfl rfl ?_
 refine XO.q (Q.move rfl) (XO.q (Q.assign rfl) (XO.done (XK.seq (XK.seq (XK.region rfl ?_)))))
 refine XO.q (Q.move rfl) ?_
 refine XO.len rfl fun l14 => ?_
 refine XO.q (Q.move rfl) (XO.done (XK.block ?_))
 refine XK.while (X := Nat × Nat × List (Int × Value)) [3, 5, 6, 7, 8, 10, 15, 16, 17, 18, 19, 20, 21, 22, 23, 24, 25, 26, 27, 28, 29, 30, 31, 32, 33, 34, 35, 36, 37, 38, 39, 40, 41, 42, 43, 44, 45, 46, 47] (fun ⟨i, b, es⟩ => [(15, some (.int .i64 (i : Nat))), (3, some (.map (some b)))]) (fun ⟨i, b, es⟩ => [mapH b encK1 es]) (fun ⟨i, b, es⟩ => i ≤ l.length ∧ MapIs es (combos ((l.map Prod.snd).take i))) (fun ⟨i, b, es⟩ => l.length - i) (0, b11, putM 0 (.int .i64 1) []) [mapH b11 encK1 (putM 0 (.int .i64 1) [])] rfl ⟨by omega, MapIs.one⟩ (.c rfl (.c rfl (.base 0 rfl rfl))) ?_
 rintro ⟨i, b, es⟩ ⟨hi, mi⟩ ih0
 dsimp only [lcA, lnA] at ih0 ⊢
 refine XK.seq (XK.region rfl ?_)
 refine XO.q (Q.lss rfl rfl) ?_
 refine XO.done (XK.seq ?_)
 refine XK.if rfl (fun c0 => ?_) (fun c0 => ?_)
 ·skip
  have ji := map_snd_atP l i
  have ai := aL i (by omega)
  have sb := step_bound ok (i := i) (by omega)
  rw [ji] at sb
  have jok := ok.job i (by omega)
  rw [ji] at jok
  have jf := jok.few
  refine XK.skip (XK.seq (XK.block (XK.seq (XK.region rfl ?_))))
  refine XO.ix rfl rfl (by omega) (by omega) fun i17 => ?_
  refine XO.q (Q.ldEA [_, _, _, _, _, _] rfl (by first | assumption | omega) rfl rfl) ?_
  refine XO.alloc fun b5 => ?_
  refine XO.st rfl rfl rfl ?_
  refine XO.done (XK.seq (XK.region rfl ?_))
  refine XO.map encK1 fun b19 => ?_
  refine XO.q (Q.assign rfl) (XO.done (XK.seq (XK.seq (XK.region rfl (XO.q (Q.move rfl) ?_)))))
  refine XO.range rfl fun q21 => ?_
  refine XO.done (XK.block ?_)
  refine XK.while (X := List Nat × List (Int × Value)) [7, 8, 10, 22, 23, 24, 25, 26, 27, 28, 29, 30, 31, 32, 33, 34, 35, 36, 37, 38, 39, 40, 41, 42, 43, 44, 45] (fun ⟨seen, es2⟩ => []) (fun ⟨seen, es2⟩ => [itH q21 b es.length seen, mapH b19 encK1 es2]) (fun ⟨seen, es2⟩ => seen.Nodup ∧ (∀ i ∈ seen, i < es.length) ∧ MapIs es2 (given es (l.getD i default).2 seen)) (fun ⟨seen, es2⟩ => es.length - seen.length) ([], []) [itH q21 b es.length [], mapH b19 encK1 []] rfl ⟨List.nodup_nil, fun i h => (by cases h), MapIs.nil⟩ (.base 0 rfl rfl) ?_
  rintro ⟨seen, es2⟩ ⟨hnd, hlt, h2⟩ ih1
  dsimp only [lcA, lnA] at ih1 ⊢
  refine XK.seq (XK.region rfl ?_)
  refine XO.next rfl rfl fun more22 nl22 seen22 out22 => ?_
  refine XO.q (Q.extract0 rfl) ?_
  refine XO.done (XK.seq ?_)
  refine XK.if rfl (fun c1 => ?_) (fun c1 => ?_)
  ·skip
   obtain ⟨q, hq, hqs, rfl⟩ := (Out.next out22) c1
   have kr := combos_rng ok i (by omega) _ (mi.at hq).2.2
   refine XK.skip (XK.block (XK.seq (XK.region rfl ?_)))
   refine XO.q (Q.entry (i := q) rfl rfl hq) ?_
   refine XO.q (Q.extract rfl rfl) ?_
   refine XO.q (Q.extract rfl rfl) ?_
   rw [(mi.at hq).1]
   refine XO.q (Q.assign rfl) (XO.q (Q.assign rfl) (XO.done (XK.seq (XK.region rfl ?_))))
   refine XO.q (Q.fieldAddr rfl) ?_
   refine XO.q (Q.ld rfl rfl) ?_
   refine XO.len rfl fun l29 => ?_
   refine XO.q (Q.move rfl) (XO.done (XK.block ?_))
   refine XK.while (X := Nat × List (Int × Value)) [10, 30, 31, 32, 33, 34, 35, 36, 37, 38, 39, 40, 41, 42, 43, 44, 45] (fun ⟨k, es3⟩ => [(30, some (.int .i64 (k : Nat)))]) (fun ⟨k, es3⟩ => [mapH b19 encK1 es3]) (fun ⟨k, es3⟩ => k ≤ (l.getD i default).2.draws.length ∧ MapIs es3 (given es (l.getD i default).2 seen ++ give (l.getD i default).2 k (es.getD q default))) (fun ⟨k, es3⟩ => (l.getD i default).2.draws.length - k) (0, es2) [mapH b19 encK1 es2] rfl ⟨by omega, by (try dsimp only); rw [count_nil_give]; exact h2⟩ (.c rfl (.base 0 rfl rfl)) ?_
   rintro ⟨k, es3⟩ ⟨hk, h4⟩ ih2
   dsimp only [lcA, lnA] at ih2 ⊢
   refine XK.seq (XK.region rfl ?_)
   refine XO.q (Q.lss rfl rfl) ?_
   refine XO.done (XK.seq ?_)
   refine XK.if rfl (fun c2 => ?_) (fun c2 => ?_)
   ·skip
    have dk := jok.draw k (by omega)
    unfold DrawOk at dk
    refine XK.skip (XK.seq (XK.block (XK.seq (XK.region rfl ?_))))
    refine XO.ix rfl rfl (by omega) (by omega) fun i32 => ?_
    refine XO.q (Q.ldEA [_, _] rfl (by first | assumption | omega) rfl rfl) ?_
    refine XO.alloc fun b10 => ?_
    refine XO.st rfl rfl rfl ?_
    refine XO.done (XK.region rfl (XO.q (Q.move rfl) (XO.q (Q.move rfl) ?_)))
    refine XO.q (Q.fieldAddr rfl) ?_
    refine XO.q (Q.ld rfl rfl) ?_
    refine XO.q (Q.add rfl rfl ⟨by omega, by omega⟩) ?_
    refine XO.q (Q.lookup (enc := encK1) _ Tryz.zeroValue3 ((es.getD q default).1 + ((l.getD i default).2.draws.getD k default).power) rfl rfl) ?_
    rw [h4.get]
    refine XO.q (Q.move rfl) ?_
    refine XO.q (Q.fieldAddr rfl) ?_
    refine XO.q (Q.ld rfl rfl) ?_
    obtain ⟨gv1, gv2, gv3⟩ := mi.give jok h4 hq (by omega) hnd hlt hqs sb.1 sb.2 rfl rfl rfl
    refine XO.q (Q.mul rfl rfl ⟨by omega, by omega⟩) ?_
    refine XO.q (Q.add rfl rfl ⟨by omega, by omega⟩) ?_
    refine XO.mapUpdate (enc := encK1) ((es.getD q default).1 + ((l.getD i default).2.draws.getD k default).power) rfl rfl rfl ?_
    refine XO.done ?_
    refine XK.inBlock ?_
    refine XK.region rfl ?_
    refine XO.q (Q.add rfl rfl ⟨by omega, by omega⟩) ?_
    refine XO.q (Q.move rfl) (XO.done ?_)
    exact ih2 (k + 1, _) _ _ ⟨by dsimp only; omega, gv3⟩ (by first | omega | (dsimp only; omega)) (.c rfl (.base 35 rfl rfl)) inferInstance
   ·skip
    have hkl : k = (l.getD i default).2.draws.length := by omega
    subst hkl
    refine XK.exit rfl ?_
    refine XK.inBlock ?_
    exact ih1 (seen ++ [q], es3) _ _ ⟨nodup_snoc hnd hqs, mem_snoc hlt hq, by dsimp only; rw [given_snoc]; exact h4⟩ (by have := seen_few (nodup_snoc hnd hqs) (mem_snoc hlt hq); rw [List.length_append, List.length_singleton] at this; dsimp only; rw [List.length_append, List.length_singleton]; omega) (.base 57 rfl rfl) inferInstance
  ·skip
   obtain ⟨rfl, hall⟩ := Out.done out22 (by simpa using c1)
   have h3 := h2.perm (given_all mi hnd hlt hall)
   refine XK.exit rfl ?_
   refine XK.region rfl (XO.q (Q.move rfl) (XO.q (Q.assign rfl) (XO.done ?_)))
   refine XK.inBlock ?_
   refine XK.region rfl ?_
   refine XO.q (Q.add rfl rfl ⟨by omega, by omega⟩) ?_
   refine XO.q (Q.move rfl) (XO.done ?_)
   exact ih0 (i + 1, b19, es2) _ _ ⟨by dsimp only; omega, by dsimp only; rw [combos_succ (by omega), ji]; exact h3⟩ (by first | omega | (dsimp only; omega)) (.c rfl (.c rfl (.base 82 rfl rfl))) inferInstance
 ·skip
  refine XK.exit rfl ?_
  refine XK.seq (XK.region rfl (XO.q (Q.move rfl) (XO.q (Q.assign rfl) (XO.done ?_))))
  refine XK.rt [mapH b encK1 es] Tryz.func127 Tryz.results127 (.t rfl .n) ?_
  have hil : i = l.length := by omega
  rw [← lm] at hil
  rw [hil, List.take_length] at mi
  exact ⟨b, es, rfl, rfl, mi⟩
end Go.X.Pl

set_option linter.unusedSimpArgs false
set_option linter.unusedVariables false
set_option maxRecDepth 20000
namespace Go.X.Pl
open Go.Proofs
set_option maxHeartbeats 2000000 in
theorem over_spec (l : List (Value × PJob)) (vl : Value) (hl K : PHeap) [jl : Arr vl encPJ 6 hl l] (aL : JobsK l K) (ok : ListOk (l.map Prod.snd)) (limit all : Int) (ha : 1 ≤ all ∧ all ≤ 1099511627776) : Spec Tryz.prog 74 #[vl, .int .i64 limit, .int .i64 all] [] [hl, K] (fun v hs => v = .agg #[.int .i64 (overG (l.map Prod.snd) limit all).n, .int .i64 (overG (l.map Prod.snd) limit all).d] ∧ hs = []) := by
 have cl := combos_len ok (l.map Prod.snd).length (Nat.le_refl _)
 rw [List.take_length] at cl
 have pr := ok.prod (l.map Prod.snd).length (Nat.le_refl _)
 have ol := over_len (combos (l.map Prod.snd)) limit
 have gp := gcd_pos (n := ((overN (combos (l.map Prod.snd)) limit : Nat) : Int)) ha.1
 refine Spec.intro (fn := Tryz.f74) (N := 35) Tryz.func74 rfl Tryz.ntmps74 rfl fun B => ?_
 refine XK.seq (XK.region rfl ?_)
 refine XO.alloc fun b6 => ?_
 refine XO.done (XK.seq (XK.region rfl (XO.q (Q.assign rfl) (XO.done (XK.seq ?_)))))
 refine XK.seq (XK.region rfl (XO.q (Q.move rfl) ?_))
 refine XO.call Tryz.call127 rfl rfl rfl (sums_spec l vl hl K aL ok) fun v12 s12 R12 => ?_
 obtain ⟨b, es, rfl, rfl, mi⟩ := R12
 dsimp only [lcA, lnA]
 refine XO.range rfl fun q13 => ?_
 refine XO.done (XK.block ?_)
 refine XK.while (X := List Nat) [7, 8, 9, 14, 15, 16, 17, 18, 19, 20, 21, 22, 23, 24] (fun seen => [(7, some (.int .i64 (overS es limit seen)))]) (fun seen => [itH q13 b es.length seen]) (fun seen => seen.Nodup ∧ (∀ i ∈ seen, i < es.length)) (fun seen => es.length - seen.length) ([]) [itH q13 b es.length []] rfl ⟨List.nodup_nil, fun i h => (by cases h)⟩ (.c rfl (.base 0 rfl rfl)) ?_
 rintro seen ⟨hnd, hlt⟩ ih0
 dsimp only [lcA, lnA] at ih0 ⊢
 refine XK.seq (XK.region rfl ?_)
 refine XO.next rfl rfl fun more14 nl14 seen14 out14 => ?_
 refine XO.q (Q.extract0 rfl) ?_
 refine XO.done (XK.seq ?_)
 refine XK.if rfl (fun c0 => ?_) (fun c0 => ?_)
 ·skip
  obtain ⟨q, hq, hqs, rfl⟩ := Out.next out14 c0
  refine XK.skip (XK.block (XK.seq (XK.region rfl ?_)))
  refine XO.q (Q.entry (i := q) rfl rfl hq) ?_
  refine XO.q (Q.extract rfl rfl) ?_
  refine XO.q (Q.extract rfl rfl) ?_
  rw [(mi.at hq).1]
  have os := overS_snoc es limit seen q
  rw [(mi.at hq).2.1] at os
  have orr := overS_rng (limit := limit) mi hnd hlt
  have cle : List.count (es.getD q default).1 (combos (l.map Prod.snd)) ≤ (combos (l.map Prod.snd)).length := List.count_le_length
  refine XO.q (Q.assign rfl) (XO.q (Q.assign rfl) (XO.done (XK.seq (XK.region rfl (XO.q (Q.move rfl) ?_)))))
  refine XO.q (Q.move rfl) ?_
  refine XO.q (Q.gtr rfl rfl) ?_
  refine XO.done ?_
  refine XK.if rfl (fun c1 => ?_) (fun c1 => ?_)
  ·skip
   rw [if_pos c1] at os
   refine XK.region rfl (XO.q (Q.move rfl) (XO.q (Q.move rfl) ?_))
   refine XO.q (Q.add rfl rfl ⟨by omega, by omega⟩) ?_
   refine XO.q (Q.assign rfl) (XO.done ?_)
   refine XK.inBlock ?_
   rw [← os]
   exact ih0 (seen ++ [q]) _ _ ⟨nodup_snoc hnd hqs, mem_snoc hlt hq⟩ (by have := seen_few (nodup_snoc hnd hqs) (mem_snoc hlt hq); rw [List.length_append, List.length_singleton] at this; (try dsimp only); rw [List.length_append, List.length_singleton]; omega) (.c rfl (.base 29 rfl rfl)) inferInstance
  ·skip
   rw [if_neg c1, Int.add_zero] at os
   refine XK.skip ?_
   refine XK.inBlock ?_
   rw [← os]
   exact ih0 (seen ++ [q]) _ _ ⟨nodup_snoc hnd hqs, mem_snoc hlt hq⟩ (by have := seen_few (nodup_snoc hnd hqs) (mem_snoc hlt hq); rw [List.length_append, List.length_singleton] at this; (try dsimp only); rw [List.length_append, List.length_singleton]; omega) (.c rfl (.base 25 rfl rfl)) inferInstance
 ·skip
  obtain ⟨rfl, hall⟩ := Out.done out14 (by simpa using c0)
  rw [overS_all mi hnd hlt hall]
  refine XK.exit rfl ?_
  refine XK.seq (XK.region rfl (XO.q (Q.move rfl) (XO.q (Q.move rfl) ?_)))
  refine XO.call Tryz.call128 rfl rfl rfl ((by
   have q := divisor_spec (overN (combos (l.map Prod.snd)) limit) all.toNat (by omega) (by omega)
   rw [show ((all.toNat : Nat) : Int) = all by omega] at q
   exact q)) fun v27 s27 R27 => ?_
  obtain ⟨rfl, rfl⟩ := R27
  dsimp only [lcA, lnA]
  rw [show (Nat.gcd (overN (combos (l.map Prod.snd)) limit) all.toNat : Nat) = Int.gcd ((overN (combos (l.map Prod.snd)) limit : Nat) : Int) all by unfold Int.gcd; rw [Int.natAbs_natCast, show all.natAbs = all.toNat by omega]]
  refine XO.q (Q.assign rfl) (XO.done (XK.seq ?_))
  refine XK.drawn [0, 1, 2, 3, 4, 5, 6] [] [] (.q 0 (.q 1 (.q 2 (.q 3 (.q 4 (.q 5 (.q 6 (.br 7 false .done .stop)))))))) Tryz.mixed rfl (by kernel_rfl) ?_
  refine XT.q rfl rfl (Q.move rfl) ?_
  refine XT.q rfl rfl (Q.move rfl) ?_
  refine XT.q rfl rfl (Q.quo rfl rfl (by omega) (by omega) (by omega)) ?_
  refine XT.q rfl rfl (Q.move rfl) ?_
  refine XT.q rfl rfl (Q.move rfl) ?_
  refine XT.q rfl rfl (Q.quo rfl rfl (by omega) (by omega) (by omega)) ?_
  refine XT.q rfl rfl (Q.build [_, _] (.c 0 1 rfl rfl rfl (.c 1 1 rfl rfl rfl (.n _)))) ?_
  refine XT.st rfl rfl rfl rfl rfl ⟨inferInstance, ?_⟩ XT.stop
  refine XT.done ?_
  refine XK.rt [] Tryz.func74 Tryz.results74 (.cell [_, _] rfl rfl rfl (.n)) ?_
  exact ⟨rfl, rfl⟩
theorem listed_rng {l : List PJob} (ok : ListOk l) : listedG l = (prodJ l l.length, 0) ∧ 1 ≤ prodJ l l.length ∧ prodJ l l.length ≤ 1099511627776 := ⟨listed_prod ok, prod_pos ok _ (Nat.le_refl _), ok.prod _ (Nat.le_refl _)⟩
theorem Chance_spec (l : List (Value × PJob)) (vl : Value) (hl K : PHeap) [jl : Arr vl encPJ 6 hl l] (aL : JobsK l K) (limit : Int) : Spec Tryz.prog 26 #[vl, .int .i64 limit] [] [hl, K] (fun v hs => v = .tuple #[.agg #[.int .i64 (chanceG (l.map Prod.snd) limit).1.n, .int .i64 (chanceG (l.map Prod.snd) limit).1.d], .int .i64 (chanceG (l.map Prod.snd) limit).2] ∧ hs = []) := by
 refine Spec.intro (fn := Tryz.f26) (N := 21) Tryz.func26 rfl Tryz.ntmps26 rfl fun B => ?_
 refine XK.seq (XK.region rfl ?_)
 refine XO.alloc fun b4 => ?_
 refine XO.q (Q.assign rfl) (XO.done (XK.seq (XK.region rfl (XO.q (Q.move rfl) ?_))))
 refine XO.call Tryz.call73 rfl rfl rfl (listed_spec l vl hl K aL) fun v10 s10 R10 => ?_
 obtain ⟨rfl, rfl⟩ := R10
 dsimp only [lcA, lnA]
 refine XO.q (Q.move rfl) ?_
 refine XO.q (Q.extract rfl rfl) ?_
 refine XO.q (Q.extract rfl rfl) ?_
 refine XO.q (Q.assign rfl) (XO.q (Q.assign rfl) (XO.done (XK.seq (XK.seq (XK.region rfl ?_)))))
 refine XO.q (Q.move rfl) ?_
 refine XO.q (Q.neq rfl rfl) ?_
 refine XO.done ?_
 refine XK.if rfl (fun c0 => ?_) (fun c0 => ?_)
 ·skip
  refine XK.seq (XK.region rfl ?_)
  refine XO.q (Q.build [_, _] (.n _)) ?_
  refine XO.q (Q.move rfl) ?_
  refine XO.st rfl rfl rfl ?_
  refine XO.q (Q.assign rfl) (XO.done ?_)
  refine XK.rt [] Tryz.func26 Tryz.results26 (.cell [_, _] rfl rfl rfl (.t rfl .n)) ?_
  exact ⟨by rw [chanceG, if_pos c0], rfl⟩
 ·skip
  have ok := listed_ok.1 (Decidable.of_not_not c0)
  have lr := listed_rng ok
  refine XK.skip (XK.seq (XK.region rfl (XO.q (Q.move rfl) (XO.q (Q.move rfl) (XO.q (Q.move rfl) ?_)))))
  refine XO.call Tryz.call74 rfl rfl rfl (over_spec l vl hl K aL ok limit (listedG (l.map Prod.snd)).1 (by rw [lr.1]; exact lr.2)) fun v20 s20 R20 => ?_
  obtain ⟨rfl, rfl⟩ := R20
  dsimp only [lcA, lnA]
  refine XO.st rfl rfl rfl ?_
  refine XO.q (Q.assign rfl) (XO.done ?_)
  refine XK.rt [] Tryz.func26 Tryz.results26 (.cell [_, _] rfl rfl rfl (.t rfl .n)) ?_
  exact ⟨by rw [chanceG, if_neg c0], rfl⟩
end Go.X.Pl

set_option linter.unusedSimpArgs false
set_option linter.unusedVariables false
set_option maxRecDepth 20000
namespace Go.X.Ma
open Go.Proofs
def encHour (x : KHour) : List Value := [.int .i64 x.buy, .int .i64 x.sell, .int .i64 x.sun, .int .i64 x.load, .int .i64 x.carbon, .int .i64 x.water]
def encJob (x : KJob) : List Value := [.int .i64 x.beg, .int .i64 x.fin, .int .i64 x.hours, .int .i64 x.power]
theorem cloneI (v : Value) (h : PHeap) (xs : List Int) [s : Arr v encI 1 h xs] (hl : xs.length ≤ 68719476736) :
  Spec Tryz.prog 59 #[v] [] [h] (fun v' hs => ∃ h', hs = [h'] ∧ OArr v' encI 1 3 h' xs) := by apply Go.X.Bk.cloneI <;> assumption
theorem equalI (v1 v2 : Value) (h1 h2 : PHeap) (xs ys : List Int) [s1 : Arr v1 encI 1 h1 xs] [s2 : Arr v2 encI 1 h2 ys] :
  Spec Tryz.prog 35 #[v1, v2] [] [h1, h2] (fun v hs => v = .bool (decide (xs = ys)) ∧ hs = []) := by apply Go.X.Bk.equalI <;> assumption
theorem indexFuncI (v : Value) (h : PHeap) (xs : List Int) [s : Arr v encI 1 h xs] (gid : FuncId) (cap : List Value) (Hr : List PHeap) (p : Int → Bool)
  (hc : ∀ args w, (callFunc gid args).run Tryz.prog w = .ok (.enter gid args) w) (hS : ∀ x ∈ xs, Spec Tryz.prog gid (.int .i64 x :: cap).toArray [] Hr (fun v hs => v = .bool (p x) ∧ hs = [])) :
  Spec Tryz.prog 159 #[v, .func (.func gid) #[] cap.toArray] [] (h :: Hr) (fun v hs => v = .int .i64 (findFirst p xs) ∧ hs = []) := by apply Go.X.Bk.indexFuncI <;> assumption
theorem containsFuncI (v : Value) (h : PHeap) (xs : List Int) [s : Arr v encI 1 h xs] (gid : FuncId) (cap : List Value) (Hr : List PHeap) (p : Int → Bool)
  (hc : ∀ args w, (callFunc gid args).run Tryz.prog w = .ok (.enter gid args) w) (hS : ∀ x ∈ xs, Spec Tryz.prog gid (.int .i64 x :: cap).toArray [] Hr (fun v hs => v = .bool (p x) ∧ hs = [])) :
  Spec Tryz.prog 97 #[v, .func (.func gid) #[] cap.toArray] [] (h :: Hr) (fun v hs => v = .bool (xs.any p) ∧ hs = []) := by apply Go.X.Bk.containsFuncI <;> assumption
theorem indexFuncH (v : Value) (h : PHeap) (xs : List KHour) [s : Arr v encHour 6 h xs] (gid : FuncId) (cap : List Value) (Hr : List PHeap) (p : KHour → Bool)
  (hc : ∀ args w, (callFunc gid args).run Tryz.prog w = .ok (.enter gid args) w) (hS : ∀ x ∈ xs, Spec Tryz.prog gid (.agg #[.int .i64 x.buy, .int .i64 x.sell, .int .i64 x.sun, .int .i64 x.load, .int .i64 x.carbon, .int .i64 x.water] :: cap).toArray [] Hr (fun v hs => v = .bool (p x) ∧ hs = [])) :
  Spec Tryz.prog 203 #[v, .func (.func gid) #[] cap.toArray] [] (h :: Hr) (fun v hs => v = .int .i64 (findFirst p xs) ∧ hs = []) := by
 refine Spec.intro (fn := Tryz.f203) (N := 19) Tryz.func203 rfl Tryz.ntmps203 rfl fun B => ?_
 refine XK.seq (XK.region rfl (XO.q (Q.assign rfl) (XO.done (XK.seq (XK.seq ?_)))))
 refine XK.region rfl (XO.q (Q.move rfl) ?_)
 refine XO.len rfl fun l7 => ?_
 refine XO.q (Q.move rfl) (XO.done (XK.block ?_))
 refine XK.while (X := Nat) [4, 5, 8, 9, 10, 11, 12, 13, 14, 15, 16, 17, 18] (fun i => [(8, some (.int .i64 (i : Nat)))]) (fun i => []) (fun i => i ≤ xs.length ∧ (xs.take i).any p = false) (fun i => xs.length - i) (0) [] rfl ⟨by omega, rfl⟩ (.c rfl (.base 0 rfl rfl)) ?_
 rintro i ⟨hi, ht⟩ ih0
 dsimp only [lcA, lnA] at ih0 ⊢
 refine XK.seq (XK.region rfl ?_)
 refine XO.q (Q.lss rfl rfl) ?_
 refine XO.done (XK.seq ?_)
 refine XK.if rfl (fun c0 => ?_) (fun c0 => ?_)
 ·skip
  refine XK.skip (XK.seq (XK.block (XK.seq (XK.region rfl (XO.q (Q.move rfl) ?_)))))
  refine XO.q (Q.assign rfl) (XO.done (XK.seq (XK.region rfl (XO.q (Q.move rfl) (XO.q (Q.move rfl) ?_)))))
  refine XO.q (Q.move rfl) ?_
  refine XO.ix rfl rfl (by omega) (by omega) fun i14 => ?_
  refine XO.q (Q.ldEA [_, _, _, _, _, _] rfl (by first | assumption | omega) rfl rfl) ?_
  refine XO.call hc rfl rfl rfl (hS _ (getD_mem (by omega))) fun v16 s16 R16 => ?_
  obtain ⟨rfl, rfl⟩ := R16
  dsimp only [lcA, lnA]
  refine XO.done ?_
  refine XK.if rfl (fun c1 => ?_) (fun c1 => ?_)
  ·skip
   refine XK.seq (XK.region rfl (XO.q (Q.move rfl) (XO.q (Q.assign rfl) (XO.done ?_))))
   refine XK.rt [] Tryz.func203 Tryz.results203 (.t rfl .n) ?_
   exact ⟨by rw [findFirst_here ht (by omega) c1], rfl⟩
  ·skip
   refine XK.skip ?_
   refine XK.inBlock ?_
   refine XK.region rfl ?_
   refine XO.q (Q.add rfl rfl ⟨by omega, by omega⟩) ?_
   refine XO.q (Q.move rfl) (XO.done ?_)
   exact ih0 (i + 1) _ _ ⟨by omega, any_step ht (by omega) (Bool.eq_false_iff.2 c1)⟩ (by first | omega | (dsimp only; omega)) (.c rfl (.base 25 rfl rfl)) inferInstance
 ·skip
  refine XK.exit rfl ?_
  refine XK.seq (XK.region rfl (XO.q (Q.assign rfl) (XO.done ?_)))
  refine XK.rt [] Tryz.func203 Tryz.results203 (.t rfl .n) ?_
  exact ⟨by rw [findFirst_none ht c0], rfl⟩
theorem containsFuncH (v : Value) (h : PHeap) (xs : List KHour) [s : Arr v encHour 6 h xs] (gid : FuncId) (cap : List Value) (Hr : List PHeap) (p : KHour → Bool)
  (hc : ∀ args w, (callFunc gid args).run Tryz.prog w = .ok (.enter gid args) w) (hS : ∀ x ∈ xs, Spec Tryz.prog gid (.agg #[.int .i64 x.buy, .int .i64 x.sell, .int .i64 x.sun, .int .i64 x.load, .int .i64 x.carbon, .int .i64 x.water] :: cap).toArray [] Hr (fun v hs => v = .bool (p x) ∧ hs = [])) :
  Spec Tryz.prog 185 #[v, .func (.func gid) #[] cap.toArray] [] (h :: Hr) (fun v hs => v = .bool (xs.any p) ∧ hs = []) := by
 refine Spec.intro (fn := Tryz.f185) (N := 9) Tryz.func185 rfl Tryz.ntmps185 rfl fun B => ?_
 refine XK.seq (XK.region rfl (XO.q (Q.assign rfl) (XO.done (XK.seq (XK.region rfl ?_)))))
 refine XO.q (Q.move rfl) (XO.q (Q.move rfl) ?_)
 refine XO.call Tryz.call203 rfl rfl rfl (indexFuncH v h xs gid cap Hr p hc hS) fun v7 s7 R7 => ?_
 obtain ⟨rfl, rfl⟩ := R7
 dsimp only [lcA, lnA]
 refine XO.q (Q.geq rfl rfl) ?_
 refine XO.q (Q.assign rfl) (XO.done ?_)
 refine XK.rt [] Tryz.func185 Tryz.results185 (.t rfl .n) ?_
 exact ⟨by rw [← findFirst_any], rfl⟩
theorem indexFuncJ (v : Value) (h : PHeap) (xs : List KJob) [s : Arr v encJob 4 h xs] (gid : FuncId) (cap : List Value) (Hr : List PHeap) (p : KJob → Bool)
  (hc : ∀ args w, (callFunc gid args).run Tryz.prog w = .ok (.enter gid args) w) (hS : ∀ x ∈ xs, Spec Tryz.prog gid (.agg #[.int .i64 x.beg, .int .i64 x.fin, .int .i64 x.hours, .int .i64 x.power] :: cap).toArray [] Hr (fun v hs => v = .bool (p x) ∧ hs = [])) :
  Spec Tryz.prog 204 #[v, .func (.func gid) #[] cap.toArray] [] (h :: Hr) (fun v hs => v = .int .i64 (findFirst p xs) ∧ hs = []) := by
 refine Spec.intro (fn := Tryz.f204) (N := 19) Tryz.func204 rfl Tryz.ntmps204 rfl fun B => ?_
 refine XK.seq (XK.region rfl (XO.q (Q.assign rfl) (XO.done (XK.seq (XK.seq ?_)))))
 refine XK.region rfl (XO.q (Q.move rfl) ?_)
 refine XO.len rfl fun l7 => ?_
 refine XO.q (Q.move rfl) (XO.done (XK.block ?_))
 refine XK.while (X := Nat) [4, 5, 8, 9, 10, 11, 12, 13, 14, 15, 16, 17, 18] (fun i => [(8, some (.int .i64 (i : Nat)))]) (fun i => []) (fun i => i ≤ xs.length ∧ (xs.take i).any p = false) (fun i => xs.length - i) (0) [] rfl ⟨by omega, rfl⟩ (.c rfl (.base 0 rfl rfl)) ?_
 rintro i ⟨hi, ht⟩ ih0
 dsimp only [lcA, lnA] at ih0 ⊢
 refine XK.seq (XK.region rfl ?_)
 refine XO.q (Q.lss rfl rfl) ?_
 refine XO.done (XK.seq ?_)
 refine XK.if rfl (fun c0 => ?_) (fun c0 => ?_)
 ·skip
  refine XK.skip (XK.seq (XK.block (XK.seq (XK.region rfl (XO.q (Q.move rfl) ?_)))))
  refine XO.q (Q.assign rfl) (XO.done (XK.seq (XK.region rfl (XO.q (Q.move rfl) (XO.q (Q.move rfl) ?_)))))
  refine XO.q (Q.move rfl) ?_
  refine XO.ix rfl rfl (by omega) (by omega) fun i14 => ?_
  refine XO.q (Q.ldEA [_, _, _, _] rfl (by first | assumption | omega) rfl rfl) ?_
  refine XO.call hc rfl rfl rfl (hS _ (getD_mem (by omega))) fun v16 s16 R16 => ?_
  obtain ⟨rfl, rfl⟩ := R16
  dsimp only [lcA, lnA]
  refine XO.done ?_
  refine XK.if rfl (fun c1 => ?_) (fun c1 => ?_)
  ·skip
   refine XK.seq (XK.region rfl (XO.q (Q.move rfl) (XO.q (Q.assign rfl) (XO.done ?_))))
   refine XK.rt [] Tryz.func204 Tryz.results204 (.t rfl .n) ?_
   exact ⟨by rw [findFirst_here ht (by omega) c1], rfl⟩
  ·skip
   refine XK.skip ?_
   refine XK.inBlock ?_
   refine XK.region rfl ?_
   refine XO.q (Q.add rfl rfl ⟨by omega, by omega⟩) ?_
   refine XO.q (Q.move rfl) (XO.done ?_)
   exact ih0 (i + 1) _ _ ⟨by omega, any_step ht (by omega) (Bool.eq_false_iff.2 c1)⟩ (by first | omega | (dsimp only; omega)) (.c rfl (.base 25 rfl rfl)) inferInstance
 ·skip
  refine XK.exit rfl ?_
  refine XK.seq (XK.region rfl (XO.q (Q.assign rfl) (XO.done ?_)))
  refine XK.rt [] Tryz.func204 Tryz.results204 (.t rfl .n) ?_
  exact ⟨by rw [findFirst_none ht c0], rfl⟩
theorem containsFuncJ (v : Value) (h : PHeap) (xs : List KJob) [s : Arr v encJob 4 h xs] (gid : FuncId) (cap : List Value) (Hr : List PHeap) (p : KJob → Bool)
  (hc : ∀ args w, (callFunc gid args).run Tryz.prog w = .ok (.enter gid args) w) (hS : ∀ x ∈ xs, Spec Tryz.prog gid (.agg #[.int .i64 x.beg, .int .i64 x.fin, .int .i64 x.hours, .int .i64 x.power] :: cap).toArray [] Hr (fun v hs => v = .bool (p x) ∧ hs = [])) :
  Spec Tryz.prog 189 #[v, .func (.func gid) #[] cap.toArray] [] (h :: Hr) (fun v hs => v = .bool (xs.any p) ∧ hs = []) := by
 refine Spec.intro (fn := Tryz.f189) (N := 9) Tryz.func189 rfl Tryz.ntmps189 rfl fun B => ?_
 refine XK.seq (XK.region rfl (XO.q (Q.assign rfl) (XO.done (XK.seq (XK.region rfl ?_)))))
 refine XO.q (Q.move rfl) (XO.q (Q.move rfl) ?_)
 refine XO.call Tryz.call204 rfl rfl rfl (indexFuncJ v h xs gid cap Hr p hc hS) fun v7 s7 R7 => ?_
 obtain ⟨rfl, rfl⟩ := R7
 dsimp only [lcA, lnA]
 refine XO.q (Q.geq rfl rfl) ?_
 refine XO.q (Q.assign rfl) (XO.done ?_)
 refine XK.rt [] Tryz.func189 Tryz.results189 (.t rfl .n) ?_
 exact ⟨by rw [← findFirst_any], rfl⟩
theorem in1 (b : Nat) (m x : Int) : Spec Tryz.prog 196 #[.int .i64 x, ptr b 0] [] [blk b [.int .i64 m] 3] (fun v hs => v = .bool (kout m x) ∧ hs = []) := by
 refine Spec.intro (fn := Tryz.f196) (N := 11) Tryz.func196 rfl Tryz.ntmps196 rfl fun B => ?_
 refine XK.seq (XK.region rfl (XO.q (Q.assign rfl) (XO.done (XK.seq (XK.region rfl ?_)))))
 refine XO.q (Q.move rfl) ?_
 refine XO.q (Q.lss rfl rfl) ?_
 refine XO.q (Q.move rfl) ?_
 refine XO.q (Quiet.guardF rfl rfl fun g7 p7 => Q.move rfl) ?_
 refine XO.q (Quiet.guardF rfl rfl fun g8 p8 => Q.ld rfl rfl) ?_
 refine XO.q (Quiet.guardF rfl rfl fun g9 p9 => Q.gtr (lzv g9 rfl) (lzv g9 rfl)) ?_
 refine XO.q (Q.or rfl (fun hp => lzv hp rfl)) ?_
 refine XO.q (Q.assign rfl) (XO.done ?_)
 refine XK.rt [] Tryz.func196 Tryz.results196 (.t rfl .n) ?_
 exact ⟨rfl, rfl⟩
theorem kin_spec (m : Int) (v : Value) (h : PHeap) (xs : List Int) [s : Arr v encI 1 h xs] : Spec Tryz.prog 151 #[.int .i64 m, v] [] [h] (fun v hs => v = .bool (kin m xs) ∧ hs = []) := by
 refine Spec.intro (fn := Tryz.f151) (N := 9) Tryz.func151 rfl Tryz.ntmps151 rfl fun B => ?_
 refine XK.seq (XK.region rfl ?_)
 refine XO.box rfl fun b2 => ?_
 refine XO.q (Q.assign rfl) (XO.done (XK.seq (XK.region rfl (XO.q (Q.move rfl) ?_))))
 refine XO.q (Q.func (fun _ he => rfl) (fun _ he => evs_rel he rfl)) ?_
 refine XO.call Tryz.call97 rfl rfl rfl (containsFuncI v h xs 196 [ptr b2 0] [blk b2 [.int .i64 m] 3] (kout m) Tryz.call196 (fun x hx => in1 b2 m x)) fun v7 s7 R7 => ?_
 obtain ⟨rfl, rfl⟩ := R7
 dsimp only [lcA, lnA]
 refine XO.q (Q.not rfl) ?_
 refine XO.q (Q.assign rfl) (XO.done ?_)
 refine XK.rt [] Tryz.func151 Tryz.results151 (.t rfl .n) ?_
 exact ⟨rfl, rfl⟩
theorem hourR_spec (h : KHour) : Spec Tryz.prog 187 #[.agg #[.int .i64 h.buy, .int .i64 h.sell, .int .i64 h.sun, .int .i64 h.load, .int .i64 h.carbon, .int .i64 h.water]] [] [] (fun v hs => v = .bool (hourR h) ∧ hs = []) := by
 refine Spec.intro (fn := Tryz.f187) (N := 32) Tryz.func187 rfl Tryz.ntmps187 rfl fun B => ?_
 refine XK.seq (XK.region rfl ?_)
 refine XO.box rfl fun b1 => ?_
 refine XO.q (Q.assign rfl) (XO.done (XK.seq (XK.region rfl ?_)))
 refine XO.q (Q.fieldAddr rfl) ?_
 refine XO.q (Q.ld rfl rfl) ?_
 refine XO.q (Q.fieldAddr rfl) ?_
 refine XO.q (Q.ld rfl rfl) ?_
 refine XO.lit [_, _] [_, _] [h.buy, h.sell] encI (by rfl) (by rfl) rfl (by rfl) (by exact .c 0 1 rfl rfl rfl (.c 1 1 rfl rfl rfl (.n _))) (fun _ => rfl) (by rfl) rfl (by infer_instance) rfl fun v7 h7 O7 => ?_
 refine XO.call Tryz.call151 rfl rfl rfl (kin_spec 1000 v7 h7 [h.buy, h.sell]) fun v8 s8 R8 => ?_
 obtain ⟨rfl, rfl⟩ := R8
 dsimp only [lcA, lnA]
 refine XO.q (Q.move rfl) ?_
 refine XO.q (Quiet.guardT rfl rfl fun g10 p10 => Q.fieldAddr rfl) ?_
 refine XO.q (Quiet.guardT rfl rfl fun g11 p11 => Q.ld (lzv g11 rfl) rfl) ?_
 refine XO.q (Quiet.guardT rfl rfl fun g12 p12 => Q.fieldAddr rfl) ?_
 refine XO.q (Quiet.guardT rfl rfl fun g13 p13 => Q.ld (lzv g13 rfl) rfl) ?_
 refine XO.q (Quiet.guardT rfl rfl fun g14 p14 => Q.leq (lzv g14 rfl) (lzv g14 rfl)) ?_
 refine XO.q (Q.and rfl (fun hp => lzv hp rfl)) ?_
 refine XO.q (Q.move rfl) ?_
 refine XO.q (Quiet.guardT rfl rfl fun g17 p17 => Q.fieldAddr rfl) ?_
 refine XO.q (Quiet.guardT rfl rfl fun g18 p18 => Q.ld (lzv g18 rfl) rfl) ?_
 refine XO.q (Quiet.guardT rfl rfl fun g19 p19 => Q.fieldAddr rfl) ?_
 refine XO.q (Quiet.guardT rfl rfl fun g20 p20 => Q.ld (lzv g20 rfl) rfl) ?_
 refine XO.lit1 [_, _] [_, _] [h.sun, h.load] encI rfl rfl (by rfl) (by rfl) rfl (by rfl) (fun g21 => by exact .c 0 1 (lzv g21 rfl) rfl rfl (.c 1 1 (lzv g21 rfl) rfl rfl (.n _))) (fun _ => rfl) (by rfl) rfl (fun _ => by infer_instance) rfl (fun v21 h21 O21 => ?_)
 refine XO.gcallT rfl rfl Tryz.call151 rfl (fun g22 => .c rfl (.c (lzv g22 rfl) .n)) rfl (fun g22 p22 => by haveI := O21 g22; exact kin_spec 40 v21 h21 [h.sun, h.load]) ?_
 refine XO.q (Q.and rfl (fun hp => lzv hp rfl)) ?_
 refine XO.q (Q.move rfl) ?_
 refine XO.q (Quiet.guardT rfl rfl fun g25 p25 => Q.fieldAddr rfl) ?_
 refine XO.q (Quiet.guardT rfl rfl fun g26 p26 => Q.ld (lzv g26 rfl) rfl) ?_
 refine XO.q (Quiet.guardT rfl rfl fun g27 p27 => Q.fieldAddr rfl) ?_
 refine XO.q (Quiet.guardT rfl rfl fun g28 p28 => Q.ld (lzv g28 rfl) rfl) ?_
 refine XO.lit1 [_, _] [_, _] [h.carbon, h.water] encI rfl rfl (by rfl) (by rfl) rfl (by rfl) (fun g29 => by exact .c 0 1 (lzv g29 rfl) rfl rfl (.c 1 1 (lzv g29 rfl) rfl rfl (.n _))) (fun _ => rfl) (by rfl) rfl (fun _ => by infer_instance) rfl (fun v29 h29 O29 => ?_)
 refine XO.gcallT rfl rfl Tryz.call151 rfl (fun g30 => .c rfl (.c (lzv g30 rfl) .n)) rfl (fun g30 p30 => by haveI := O29 g30; exact kin_spec 10000 v29 h29 [h.carbon, h.water]) ?_
 refine XO.q (Q.and rfl (fun hp => lzv hp rfl)) ?_
 refine XO.q (Q.assign rfl) (XO.done ?_)
 refine XK.rt [] Tryz.func187 Tryz.results187 (.t rfl .n) ?_
 exact ⟨rfl, rfl⟩
theorem storeR_spec (s : KStore) : Spec Tryz.prog 188 #[.agg #[.int .i64 s.energy, .int .i64 s.full, .int .i64 s.power, .int .i64 s.fin]] [] [] (fun v hs => v = .bool (storeR s) ∧ hs = []) := by
 refine Spec.intro (fn := Tryz.f188) (N := 19) Tryz.func188 rfl Tryz.ntmps188 rfl fun B => ?_
 refine XK.seq (XK.region rfl ?_)
 refine XO.box rfl fun b1 => ?_
 refine XO.q (Q.assign rfl) (XO.done (XK.seq (XK.region rfl ?_)))
 refine XO.q (Q.fieldAddr rfl) ?_
 refine XO.q (Q.ld rfl rfl) ?_
 refine XO.q (Q.fieldAddr rfl) ?_
 refine XO.q (Q.ld rfl rfl) ?_
 refine XO.lit [_, _] [_, _] [s.full, s.power] encI (by rfl) (by rfl) rfl (by rfl) (by exact .c 0 1 rfl rfl rfl (.c 1 1 rfl rfl rfl (.n _))) (fun _ => rfl) (by rfl) rfl (by infer_instance) rfl fun v7 h7 O7 => ?_
 refine XO.call Tryz.call151 rfl rfl rfl (kin_spec 10 v7 h7 [s.full, s.power]) fun v8 s8 R8 => ?_
 obtain ⟨rfl, rfl⟩ := R8
 dsimp only [lcA, lnA]
 refine XO.q (Q.move rfl) ?_
 refine XO.q (Quiet.guardT rfl rfl fun g10 p10 => Q.fieldAddr rfl) ?_
 refine XO.q (Quiet.guardT rfl rfl fun g11 p11 => Q.ld (lzv g11 rfl) rfl) ?_
 refine XO.q (Quiet.guardT rfl rfl fun g12 p12 => Q.fieldAddr rfl) ?_
 refine XO.q (Quiet.guardT rfl rfl fun g13 p13 => Q.ld (lzv g13 rfl) rfl) ?_
 refine XO.q (Quiet.guardT rfl rfl fun g14 p14 => Q.fieldAddr rfl) ?_
 refine XO.q (Quiet.guardT rfl rfl fun g15 p15 => Q.ld (lzv g15 rfl) rfl) ?_
 refine XO.lit1 [_, _] [_, _] [s.energy, s.fin] encI rfl rfl (by rfl) (by rfl) rfl (by rfl) (fun g16 => by exact .c 0 1 (lzv g16 rfl) rfl rfl (.c 1 1 (lzv g16 rfl) rfl rfl (.n _))) (fun _ => rfl) (by rfl) rfl (fun _ => by infer_instance) rfl (fun v16 h16 O16 => ?_)
 refine XO.gcallT rfl rfl Tryz.call151 rfl (fun g17 => .c (lzv g17 rfl) (.c (lzv g17 rfl) .n)) rfl (fun g17 p17 => by haveI := O16 g17; exact kin_spec s.full v16 h16 [s.energy, s.fin]) ?_
 refine XO.q (Q.and rfl (fun hp => lzv hp rfl)) ?_
 refine XO.q (Q.assign rfl) (XO.done ?_)
 refine XK.rt [] Tryz.func188 Tryz.results188 (.t rfl .n) ?_
 exact ⟨rfl, rfl⟩
theorem jobR_spec (j : KJob) (n : Nat) (hn : (n : Int) ≤ 140737488355328) : Spec Tryz.prog 191 #[.agg #[.int .i64 j.beg, .int .i64 j.fin, .int .i64 j.hours, .int .i64 j.power], .int .i64 (n : Nat)] [] [] (fun v hs => v = .bool (jobR n j) ∧ hs = []) := by
 refine Spec.intro (fn := Tryz.f191) (N := 33) Tryz.func191 rfl Tryz.ntmps191 rfl fun B => ?_
 refine XK.seq (XK.region rfl ?_)
 refine XO.box rfl fun b2 => ?_
 refine XO.q (Q.assign rfl) (XO.done (XK.seq (XK.region rfl (XO.q (Q.move rfl) ?_))))
 refine XO.q (Q.fieldAddr rfl) ?_
 refine XO.q (Q.ld rfl rfl) ?_
 refine XO.q (Q.fieldAddr rfl) ?_
 refine XO.q (Q.ld rfl rfl) ?_
 refine XO.lit [_, _] [_, _] [j.beg, j.fin] encI (by rfl) (by rfl) rfl (by rfl) (by exact .c 0 1 rfl rfl rfl (.c 1 1 rfl rfl rfl (.n _))) (fun _ => rfl) (by rfl) rfl (by infer_instance) rfl fun v10 h10 O10 => ?_
 refine XO.call Tryz.call151 rfl rfl rfl (kin_spec (n : Int) v10 h10 [j.beg, j.fin]) fun v11 s11 R11 => ?_
 obtain ⟨rfl, rfl⟩ := R11
 dsimp only [lcA, lnA]
 refine XO.q (Q.move rfl) ?_
 refine XO.q (Quiet.guardT rfl rfl fun g13 p13 => Q.fieldAddr rfl) ?_
 refine XO.q (Quiet.guardT rfl rfl fun g14 p14 => Q.ld (lzv g14 rfl) rfl) ?_
 refine XO.q (Quiet.guardT rfl rfl fun g15 p15 => Q.geq (lzv g15 rfl) rfl) ?_
 refine XO.q (Q.and rfl (fun hp => lzv hp rfl)) ?_
 refine XO.q (Q.move rfl) ?_
 refine XO.q (Quiet.guardT rfl rfl fun g18 p18 => Q.fieldAddr rfl) ?_
 refine XO.q (Quiet.guardT rfl rfl fun g19 p19 => Q.ld (lzv g19 rfl) rfl) ?_
 refine XO.q (Quiet.guardT rfl rfl fun g20 p20 => Q.fieldAddr rfl) ?_
 refine XO.q (Quiet.guardT rfl rfl fun g21 p21 => Q.ld (lzv g21 rfl) rfl) ?_
 refine XO.q (Quiet.guardT rfl rfl fun g22 p22 => Q.fieldAddr rfl) ?_
 refine XO.q (Quiet.guardT rfl rfl fun g23 p23 => Q.ld (lzv g23 rfl) rfl) ?_
 refine XO.q (Quiet.guardT rfl rfl fun g24 p24 => Q.sub (lzv g24 rfl) (lzv g24 rfl) (by have q := kin_two.1 p24.1; exact ⟨by omega, by omega⟩)) ?_
 refine XO.q (Quiet.guardT rfl rfl fun g25 p25 => Q.leq (lzv g25 rfl) (lzv g25 rfl)) ?_
 refine XO.q (Q.and rfl (fun hp => lzv hp rfl)) ?_
 refine XO.q (Q.move rfl) ?_
 refine XO.q (Quiet.guardT rfl rfl fun g28 p28 => Q.fieldAddr rfl) ?_
 refine XO.q (Quiet.guardT rfl rfl fun g29 p29 => Q.ld (lzv g29 rfl) rfl) ?_
 refine XO.lit1 [_] [_] [j.power] encI rfl rfl (by rfl) (by rfl) rfl (by rfl) (fun g30 => by exact .c 0 1 (lzv g30 rfl) rfl rfl (.n _)) (fun _ => rfl) (by rfl) rfl (fun _ => by infer_instance) rfl (fun v30 h30 O30 => ?_)
 refine XO.gcallT rfl rfl Tryz.call151 rfl (fun g31 => .c rfl (.c (lzv g31 rfl) .n)) rfl (fun g31 p31 => by haveI := O30 g31; exact kin_spec 20 v30 h30 [j.power]) ?_
 refine XO.q (Q.and rfl (fun hp => lzv hp rfl)) ?_
 refine XO.q (Q.assign rfl) (XO.done ?_)
 refine XK.rt [] Tryz.func191 Tryz.results191 (.t rfl .n) ?_
 exact ⟨rfl, rfl⟩
theorem check1 (h : KHour) : Spec Tryz.prog 186 #[.agg #[.int .i64 h.buy, .int .i64 h.sell, .int .i64 h.sun, .int .i64 h.load, .int .i64 h.carbon, .int .i64 h.water]] [] [] (fun v hs => v = .bool (!hourR h) ∧ hs = []) := by
 refine Spec.intro (fn := Tryz.f186) (N := 6) Tryz.func186 rfl Tryz.ntmps186 rfl fun B => ?_
 refine XK.seq (XK.region rfl ?_)
 refine XO.box rfl fun b1 => ?_
 refine XO.q (Q.assign rfl) (XO.done (XK.seq (XK.region rfl ?_)))
 refine XO.q (Q.ldA [_, _, _, _, _, _] rfl rfl rfl) ?_
 refine XO.call Tryz.call187 rfl rfl rfl (hourR_spec h) fun v4 s4 R4 => ?_
 obtain ⟨rfl, rfl⟩ := R4
 dsimp only [lcA, lnA]
 refine XO.q (Q.not rfl) ?_
 refine XO.q (Q.assign rfl) (XO.done ?_)
 refine XK.rt [] Tryz.func186 Tryz.results186 (.t rfl .n) ?_
 exact ⟨rfl, rfl⟩
theorem check2 (d : KDay) (vh vj : Value) (hh hj : PHeap) [ih : Arr vh encHour 6 hh d.hours] [ij : Arr vj encJob 4 hj d.jobs] (j : KJob) (b : Nat) : Spec Tryz.prog 190 #[.agg #[.int .i64 j.beg, .int .i64 j.fin, .int .i64 j.hours, .int .i64 j.power], ptr b 0] [] [blk b [vh, .int .i64 d.store.energy, .int .i64 d.store.full, .int .i64 d.store.power, .int .i64 d.store.fin, vj, .int .i64 d.most, .int .i64 d.peak] 116] (fun v hs => v = .bool (!jobR d.hours.length j) ∧ hs = []) := by
 have lh := ih.le
 refine Spec.intro (fn := Tryz.f190) (N := 10) Tryz.func190 rfl Tryz.ntmps190 rfl fun B => ?_
 refine XK.seq (XK.region rfl ?_)
 refine XO.box rfl fun b2 => ?_
 refine XO.q (Q.assign rfl) (XO.done (XK.seq (XK.region rfl ?_)))
 refine XO.q (Q.ldA [_, _, _, _] rfl rfl rfl) ?_
 refine XO.q (Q.fieldAddr rfl) ?_
 refine XO.q (Q.ld rfl rfl) ?_
 refine XO.len rfl fun l7 => ?_
 refine XO.call Tryz.call191 rfl rfl rfl (jobR_spec j d.hours.length (by omega)) fun v8 s8 R8 => ?_
 obtain ⟨rfl, rfl⟩ := R8
 dsimp only [lcA, lnA]
 refine XO.q (Q.not rfl) ?_
 refine XO.q (Q.assign rfl) (XO.done ?_)
 refine XK.rt [] Tryz.func190 Tryz.results190 (.t rfl .n) ?_
 exact ⟨rfl, rfl⟩
theorem prod_rng {js : List KJob} {n : Nat} (hn : n ≤ 24) (h2 : js.length ≤ 2) (h : ∀ i, i < js.length → JobOk n (js.getD i default)) : ∀ i, i ≤ js.length → 1 ≤ prodS js i ∧ prodS js i ≤ (if i = 0 then 1 else if i = 1 then 24 else 576) := fun i hi => by
 have sp : ∀ k, k < js.length → 1 ≤ spanS (js.getD k default) ∧ spanS (js.getD k default) ≤ 24 := fun k hk => by
  have := h k hk
  have := this.b0; have := (h k hk).b1; have := (h k hk).t1; have := (h k hk).h0
  unfold spanS; omega
 match i, hi with
 | 0, _ => exact ⟨Int.le_refl _, Int.le_refl _⟩
 | 1, hi => have := sp 0 (by omega); simp only [prodS]; omega
 | 2, hi =>
  have h0 := sp 0 (by omega)
  have h1 := sp 1 (by omega)
  simp only [prodS, Int.one_mul]
  have a : 1 * 1 ≤ spanS (js.getD 0 default) * spanS (js.getD 1 default) := Int.mul_le_mul h0.1 h1.1 (by omega) (by omega)
  have b : spanS (js.getD 0 default) * spanS (js.getD 1 default) ≤ 24 * 24 := Int.mul_le_mul h0.2 h1.2 (by omega) (by omega)
  omega
 | n + 3, hi => omega
theorem Check_spec (d : KDay) (vh vj : Value) (hh hj : PHeap) [ih : Arr vh encHour 6 hh d.hours] [ij : Arr vj encJob 4 hj d.jobs] : Spec Tryz.prog 144 #[.agg #[vh, .int .i64 d.store.energy, .int .i64 d.store.full, .int .i64 d.store.power, .int .i64 d.store.fin, vj, .int .i64 d.most, .int .i64 d.peak]] [] [hh, hj] (fun v hs => v = .int .i64 (kcheck d) ∧ hs = []) := by
 have lh := ih.le
 have lj := ij.le
 refine Spec.intro (fn := Tryz.f144) (N := 66) Tryz.func144 rfl Tryz.ntmps144 rfl fun B => ?_
 refine XK.seq (XK.region rfl ?_)
 refine XO.box rfl fun b1 => ?_
 refine XO.q (Q.assign rfl) (XO.done (XK.seq (XK.block (XK.seq (XK.region rfl ?_)))))
 refine XO.q (Q.fieldAddr rfl) ?_
 refine XO.q (Q.ld rfl rfl) ?_
 refine XO.len rfl fun l9 => ?_
 refine XO.q (Q.lss rfl rfl) ?_
 refine XO.q (Q.move rfl) ?_
 refine XO.q (Quiet.guardF rfl rfl fun g12 p12 => Q.fieldAddr rfl) ?_
 refine XO.q (Quiet.guardF rfl rfl fun g13 p13 => Q.ld (lzv g13 rfl) rfl) ?_
 refine XO.q (Quiet.guardF rfl rfl fun g14 p14 => Q.len (lzv g14 rfl)) ?_
 refine XO.q (Quiet.guardF rfl rfl fun g15 p15 => Q.gtr (lzv g15 rfl) rfl) ?_
 refine XO.q (Q.or rfl (fun hp => lzv hp rfl)) ?_
 refine XO.q (Q.move rfl) ?_
 refine XO.q (Quiet.guardF rfl rfl fun g18 p18 => Q.fieldAddr rfl) ?_
 refine XO.q (Quiet.guardF rfl rfl fun g19 p19 => Q.ld (lzv g19 rfl) rfl) ?_
 refine XO.q (Quiet.guardF rfl rfl fun g20 p20 => Q.len (lzv g20 rfl)) ?_
 refine XO.q (Quiet.guardF rfl rfl fun g21 p21 => Q.gtr (lzv g21 rfl) rfl) ?_
 refine XO.q (Q.or rfl (fun hp => lzv hp rfl)) ?_
 refine XO.q (Q.assign rfl) (XO.done ?_)
 refine XK.if rfl (fun c0 => ?_) (fun c0 => ?_)
 ·skip
  refine XK.seq (XK.region rfl (XO.q (Q.assign rfl) (XO.done ?_)))
  refine XK.rt [] Tryz.func144 Tryz.results144 (.t rfl .n) ?_
  exact ⟨by rw [kcheck, if_pos c0], rfl⟩
 ·skip
  refine XK.seq (XK.seq (XK.region rfl ?_))
  refine XO.q (Q.fieldAddr rfl) ?_
  refine XO.q (Q.ld rfl rfl) ?_
  refine XO.call Tryz.call185 rfl rfl rfl (containsFuncH vh hh d.hours 186 [] [] (fun h => !hourR h) Tryz.call186 (fun x hx => check1 x)) fun v26 s26 R26 => ?_
  obtain ⟨rfl, rfl⟩ := R26
  dsimp only [lcA, lnA]
  refine XO.q (Q.assign rfl) (XO.done ?_)
  refine XK.meet (X := Bool) [23, 27, 28, 29, 30, 31, 32, 33, 34, 35, 36, 37, 38, 39, 40, 41, 42, 43, 44] (fun q => [(23, some (.bool q))]) (fun q => []) (fun q => q = kbad d) [] ?_ ?_
  ·rintro q hq
   dsimp only [lcA, lnA]
   subst hq
   refine XK.if rfl (fun c2 => ?_) (fun c2 => ?_)
   ·skip
    refine XK.seq (XK.region rfl (XO.q (Q.assign rfl) (XO.done ?_)))
    refine XK.rt [] Tryz.func144 Tryz.results144 (.t rfl .n) ?_
    exact ⟨by rw [kcheck, if_neg c0, if_pos c2], rfl⟩
   ·skip
    have kf := kbad_false.1 (Bool.eq_false_iff.2 c2)
    have pr := prod_rng (by omega) (by omega) kf.2.2.1
    refine XK.skip ?_
    refine XK.inBlock ?_
    refine XK.seq (XK.region rfl (XO.q (Q.assign rfl) (XO.done (XK.seq (XK.seq ?_)))))
    refine XK.region rfl ?_
    refine XO.q (Q.fieldAddr rfl) ?_
    refine XO.q (Q.ld rfl rfl) ?_
    refine XO.len rfl fun l47 => ?_
    refine XO.q (Q.move rfl) (XO.done (XK.block ?_))
    refine XK.while (X := Nat) [3, 5, 48, 49, 50, 51, 52, 53, 54, 55, 56, 57, 58, 59, 60, 61, 62, 63] (fun i => [(3, some (.int .i64 (prodS d.jobs i))), (48, some (.int .i64 (i : Nat)))]) (fun i => []) (fun i => i ≤ d.jobs.length) (fun i => d.jobs.length - i) (0) [] rfl (by omega) (.c rfl (.c rfl (.base 0 rfl rfl))) ?_
    rintro i hi ih0
    dsimp only [lcA, lnA] at ih0 ⊢
    refine XK.seq (XK.region rfl ?_)
    refine XO.q (Q.lss rfl rfl) ?_
    refine XO.done (XK.seq ?_)
    refine XK.if rfl (fun c3 => ?_) (fun c3 => ?_)
    ·skip
     have pi := pr i (by omega)
     have pi1 := pr (i + 1) (by omega)
     have ji := kf.2.2.1 i (by omega)
     have j1 := ji.b0
     have j2 := ji.b1
     have j3 := ji.t1
     have j4 := ji.h0
     have e1 : prodS d.jobs (i + 1) = prodS d.jobs i * spanS (d.jobs.getD i default) := rfl
     unfold spanS at e1
     have hi2 : i = 0 ∨ i = 1 := by omega
     rw [e1] at pi1
     refine XK.skip (XK.seq (XK.block (XK.seq (XK.region rfl ?_))))
     refine XO.ix rfl rfl (by omega) (by omega) fun i50 => ?_
     refine XO.q (Q.ldEA [_, _, _, _] rfl (by first | assumption | omega) rfl rfl) ?_
     refine XO.alloc fun b5 => ?_
     refine XO.st rfl rfl rfl ?_
     refine XO.done (XK.region rfl (XO.q (Q.move rfl) ?_))
     refine XO.q (Q.fieldAddr rfl) ?_
     refine XO.q (Q.ld rfl rfl) ?_
     refine XO.q (Q.fieldAddr rfl) ?_
     refine XO.q (Q.ld rfl rfl) ?_
     refine XO.q (Q.sub rfl rfl ⟨by omega, by omega⟩) ?_
     refine XO.q (Q.fieldAddr rfl) ?_
     refine XO.q (Q.ld rfl rfl) ?_
     refine XO.q (Q.sub rfl rfl ⟨by omega, by omega⟩) ?_
     refine XO.q (Q.add rfl rfl ⟨by omega, by omega⟩) ?_
     refine XO.q (Q.mul rfl rfl ⟨by omega, by omega⟩) ?_
     refine XO.q (Q.assign rfl) (XO.done ?_)
     refine XK.inBlock ?_
     refine XK.region rfl ?_
     refine XO.q (Q.add rfl rfl ⟨by omega, by omega⟩) ?_
     refine XO.q (Q.move rfl) (XO.done ?_)
     exact ih0 (i + 1) _ _ (by omega) (by first | omega | (dsimp only; omega)) (.c rfl (.c rfl (.base 38 rfl rfl))) inferInstance
    ·skip
     have hil : i = d.jobs.length := by omega
     subst hil
     refine XK.exit rfl ?_
     refine XK.seq (XK.seq (XK.region rfl (XO.q (Q.move rfl) ?_)))
     refine XO.q (Q.gtr rfl rfl) ?_
     refine XO.done ?_
     refine XK.if rfl (fun c4 => ?_) (fun c4 => ?_)
     ·skip
      refine XK.seq (XK.region rfl (XO.q (Q.assign rfl) (XO.done ?_)))
      refine XK.rt [] Tryz.func144 Tryz.results144 (.t rfl .n) ?_
      exact ⟨by rw [kcheck, if_neg c0, if_neg c2, if_pos c4], rfl⟩
     ·skip
      refine XK.skip (XK.seq (XK.region rfl (XO.q (Q.assign rfl) (XO.done ?_))))
      refine XK.rt [] Tryz.func144 Tryz.results144 (.t rfl .n) ?_
      exact ⟨by rw [kcheck, if_neg c0, if_neg c2, if_neg c4], rfl⟩
  ·intro mt1
   dsimp only [lcA, lnA] at mt1
   refine XK.if rfl (fun c1 => ?_) (fun c1 => ?_)
   ·skip
    refine XK.skip ?_
    exact mt1 (d.hours.any fun h => !hourR h) _ _ (by unfold kbad; rw [c1]; rfl) (.c rfl (.base 0 rfl rfl)) inferInstance
   ·skip
    refine XK.seq (XK.region rfl ?_)
    refine XO.q (Q.fieldAddr rfl) ?_
    refine XO.q (Q.ldA [_, _, _, _] rfl rfl rfl) ?_
    refine XO.call Tryz.call188 rfl rfl rfl (storeR_spec d.store) fun v29 s29 R29 => ?_
    obtain ⟨rfl, rfl⟩ := R29
    dsimp only [lcA, lnA]
    refine XO.q (Q.not rfl) ?_
    refine XO.q (Q.assign rfl) (XO.done ?_)
    refine XK.if rfl (fun c5 => ?_) (fun c5 => ?_)
    ·skip
     refine XK.skip ?_
     exact mt1 (!storeR d.store) _ _ (by unfold kbad; rw [Bool.eq_false_iff.2 c1, Bool.eq_false_iff.2 c5]; rfl) (.c rfl (.base 5 rfl rfl)) inferInstance
    ·skip
     refine XK.seq (XK.region rfl ?_)
     refine XO.q (Q.fieldAddr rfl) ?_
     refine XO.q (Q.ld rfl rfl) ?_
     refine XO.q (Q.func (fun _ he => rfl) (fun _ he => evs_rel he rfl)) ?_
     refine XO.call Tryz.call189 rfl rfl rfl (containsFuncJ vj hj d.jobs 190 [ptr b1 0] [blk b1 [vh, .int .i64 d.store.energy, .int .i64 d.store.full, .int .i64 d.store.power, .int .i64 d.store.fin, vj, .int .i64 d.most, .int .i64 d.peak] 116] (fun j => !jobR d.hours.length j) Tryz.call190 (fun x hx => check2 d vh vj hh hj x b1)) fun v34 s34 R34 => ?_
     obtain ⟨rfl, rfl⟩ := R34
     dsimp only [lcA, lnA]
     refine XO.q (Q.assign rfl) (XO.done ?_)
     refine XK.if rfl (fun c6 => ?_) (fun c6 => ?_)
     ·skip
      refine XK.skip ?_
      exact mt1 (d.jobs.any fun j => !jobR d.hours.length j) _ _ (by unfold kbad; rw [Bool.eq_false_iff.2 c1, Decidable.of_not_not c5, c6]; rfl) (.c rfl (.base 10 rfl rfl)) inferInstance
     ·skip
      refine XK.seq (XK.region rfl ?_)
      refine XO.q (Q.fieldAddr rfl) ?_
      refine XO.q (Q.ld rfl rfl) ?_
      refine XO.lit [_] [_] [d.most] encI (by rfl) (by rfl) rfl (by rfl) (by exact .c 0 1 rfl rfl rfl (.n _)) (fun _ => rfl) (by rfl) rfl (by infer_instance) rfl fun v37 h37 O37 => ?_
      refine XO.call Tryz.call151 rfl rfl rfl (kin_spec 40 v37 h37 [d.most]) fun v38 s38 R38 => ?_
      obtain ⟨rfl, rfl⟩ := R38
      dsimp only [lcA, lnA]
      refine XO.q (Q.not rfl) ?_
      refine XO.q (Q.assign rfl) (XO.done ?_)
      refine XK.if rfl (fun c7 => ?_) (fun c7 => ?_)
      ·skip
       refine XK.skip ?_
       exact mt1 (!kin 40 [d.most]) _ _ (by unfold kbad; rw [Bool.eq_false_iff.2 c1, Decidable.of_not_not c5, Bool.eq_false_iff.2 c6, Bool.eq_false_iff.2 c7]; rfl) (.c rfl (.base 16 rfl rfl)) inferInstance
      ·skip
       refine XK.region rfl ?_
       refine XO.q (Q.fieldAddr rfl) ?_
       refine XO.q (Q.ld rfl rfl) ?_
       refine XO.lit [_] [_] [d.peak] encI (by rfl) (by rfl) rfl (by rfl) (by exact .c 0 1 rfl rfl rfl (.n _)) (fun _ => rfl) (by rfl) rfl (by infer_instance) rfl fun v42 h42 O42 => ?_
       refine XO.call Tryz.call151 rfl rfl rfl (kin_spec 1000 v42 h42 [d.peak]) fun v43 s43 R43 => ?_
       obtain ⟨rfl, rfl⟩ := R43
       dsimp only [lcA, lnA]
       refine XO.q (Q.not rfl) ?_
       refine XO.q (Q.assign rfl) (XO.done ?_)
       exact mt1 (!kin 1000 [d.peak]) _ _ (by unfold kbad; rw [Bool.eq_false_iff.2 c1, Decidable.of_not_not c5, Bool.eq_false_iff.2 c6, Decidable.of_not_not c7]; rfl) (.c rfl (.base 22 rfl rfl)) inferInstance
end Go.X.Ma

set_option linter.unusedSimpArgs false
set_option linter.unusedVariables false
set_option maxRecDepth 20000
namespace Go.X.Ma
open Go.Proofs
theorem span_rng {d : KDay} (ok : DayOk d) {i : Nat} (hi : i < d.jobs.length) : 1 ≤ (spanS (d.jobs.getD i default)).toNat ∧ (spanS (d.jobs.getD i default)).toNat ≤ 24 := by
 have j := ok.job i hi
 have := j.b0; have := j.b1; have := j.t1; have := j.h0; have := ok.h2
 unfold spanS; omega
theorem addJob_take {out : List (List Int)} (j : KJob) : addJob (out.take out.length) j = addJob out j := by rw [List.take_length]
set_option maxHeartbeats 1000000 in
theorem starts_spec (d : KDay) (vh vj : Value) (hh hj : PHeap) [ih : Arr vh encHour 6 hh d.hours] [ij : Arr vj encJob 4 hj d.jobs] (ok : DayOk d) : Spec Tryz.prog 145 #[.agg #[vh, .int .i64 d.store.energy, .int .i64 d.store.full, .int .i64 d.store.power, .int .i64 d.store.fin, vj, .int .i64 d.most, .int .i64 d.peak]] [] [hh, hj] (fun v hs => ∃ ho us K, hs = [ho, K] ∧ OArr v encV 1 29 ho us ∧ RowsK us K (startsL d)) := by
 have lj := ij.le
 have j2 := ok.j2
 have h24 := ok.h2
 have pr := prod_rng ok.h2 ok.j2 ok.job
 have sl := starts_len ok.job
 have nV : OArr (.slice none 0 0) encV 1 29 emp ([] : List Value) := OArr.nil (fun _ => rfl)
 refine Spec.intro (fn := Tryz.f145) (N := 47) Tryz.func145 rfl Tryz.ntmps145 rfl fun B => ?_
 refine XK.seq (XK.region rfl ?_)
 refine XO.box rfl fun b1 => ?_
 refine XO.q (Q.assign rfl) (XO.done (XK.seq (XK.region rfl ?_)))
 refine XO.lit [_] [_] [.slice none 0 0] encV (by rfl) (by rfl) rfl (by rfl) (by exact .c 0 1 rfl rfl rfl (.n _)) (fun _ => rfl) (by rfl) rfl (by infer_instance) rfl fun v10 h10 O10 => ?_
 refine XO.q (Q.assign rfl) (XO.done (XK.seq (XK.seq (XK.region rfl ?_))))
 refine XO.q (Q.fieldAddr rfl) ?_
 refine XO.q (Q.ld rfl rfl) ?_
 refine XO.len rfl fun l13 => ?_
 refine XO.q (Q.move rfl) (XO.done (XK.block ?_))
 refine XK.while (X := Nat × Value × PHeap × List Value × PHeap) [3, 5, 6, 8, 9, 14, 15, 16, 17, 18, 19, 20, 21, 22, 23, 24, 25, 26, 27, 28, 29, 30, 31, 32, 33, 34, 35, 36, 37, 38, 39, 40, 41, 42, 43, 44, 45] (fun ⟨i, vo, ko, us, K⟩ => [(3, some (vo)), (14, some (.int .i64 (i : Nat)))]) (fun ⟨i, vo, ko, us, K⟩ => [ko, K]) (fun ⟨i, vo, ko, us, K⟩ => i ≤ d.jobs.length ∧ OArr vo encV 1 29 ko us ∧ RowsK us K (startsTo d.jobs (i))) (fun ⟨i, vo, ko, us, K⟩ => d.jobs.length - i) (0, v10, h10, [.slice none 0 0], emp) [h10, emp] rfl ⟨by omega, O10, ⟨rfl, fun i hi => (by have h0 : i = 0 := (by simpa using hi); subst h0; exact Arr.nil (fun _ => rfl))⟩⟩ (.c rfl (.c rfl (.base 0 rfl rfl))) ?_
 rintro ⟨i, vo, ko, us, K⟩ ⟨hi, OO, RO⟩ ih0
 dsimp only [lcA, lnA] at ih0 ⊢
 refine XK.seq (XK.region rfl ?_)
 refine XO.q (Q.lss rfl rfl) ?_
 refine XO.done (XK.seq ?_)
 refine XK.if rfl (fun c0 => ?_) (fun c0 => ?_)
 ·skip
  have ji := ok.job i (by omega)
  have jb := ji.b0
  have jc := ji.b1
  have jt := ji.t1
  have jh := ji.h0
  have sp := span_rng ok (i := i) (by omega)
  have pi := pr i (by omega)
  have pi1 := pr (i + 1) (by omega)
  have si := sl i (by omega)
  have rl := RO.1
  have hi2 : i = 0 ∨ i = 1 := by omega
  have sl3 : (startsTo d.jobs (i)).length ≤ 24 := by rcases hi2 with h | h <;> (subst h; simp at pi; omega)
  refine XK.skip (XK.seq (XK.block (XK.seq (XK.region rfl ?_))))
  refine XO.ix rfl rfl (by omega) (by omega) fun i16 => ?_
  refine XO.q (Q.ldEA [_, _, _, _] rfl (by first | assumption | omega) rfl rfl) ?_
  refine XO.alloc fun b5 => ?_
  refine XO.st rfl rfl rfl ?_
  refine XO.done (XK.seq (XK.region rfl (XO.q (Q.assign rfl) (XO.done (XK.seq ?_)))))
  refine XK.seq (XK.region rfl (XO.q (Q.move rfl) ?_))
  refine XO.len rfl fun l19 => ?_
  refine XO.q (Q.move rfl) (XO.done (XK.block ?_))
  refine XK.while (X := Nat × Value × PHeap × List Value × PHeap) [6, 8, 9, 20, 21, 22, 23, 24, 25, 26, 27, 28, 29, 30, 31, 32, 33, 34, 35, 36, 37, 38, 39, 40, 41, 42, 43] (fun ⟨k, vn, kn, un, K2⟩ => [(6, some (vn)), (20, some (.int .i64 (k : Nat)))]) (fun ⟨k, vn, kn, un, K2⟩ => [kn, K2]) (fun ⟨k, vn, kn, un, K2⟩ => k ≤ us.length ∧ OArr vn encV 1 29 kn un ∧ RowsK us K2 (startsTo d.jobs (i)) ∧ RowsK un K2 (addPart (startsTo d.jobs (i)) (d.jobs.getD i default) (k) (0))) (fun ⟨k, vn, kn, un, K2⟩ => us.length - k) (0, .slice none 0 0, emp, [], K) [emp, K] rfl ⟨by omega, nV, RO, by rw [addPart_zero, List.take_zero]; exact RowsK.nil⟩ (.c rfl (.c rfl (.base 0 rfl rfl))) ?_
  rintro ⟨k, vn, kn, un, K2⟩ ⟨hk, ON, RS, RP⟩ ih1
  dsimp only [lcA, lnA] at ih1 ⊢
  refine XK.seq (XK.region rfl ?_)
  refine XO.q (Q.lss rfl rfl) ?_
  refine XO.done (XK.seq ?_)
  refine XK.if rfl (fun c1 => ?_) (fun c1 => ?_)
  ·skip
   have ak := RS.2 k (by omega)
   have lk := starts_each d.jobs i ((startsTo d.jobs (i)).getD k default) (getD_mem (by omega))
   refine XK.skip (XK.seq (XK.block (XK.seq (XK.region rfl ?_))))
   refine XO.ix rfl rfl (by omega) (by omega) fun i22 => ?_
   refine XO.q (Q.ldE rfl (by first | assumption | omega) rfl) ?_
   refine XO.q (Q.assign rfl) (XO.done (XK.seq (XK.region rfl ?_)))
   refine XO.q (Q.fieldAddr rfl) ?_
   refine XO.q (Q.ld rfl rfl) ?_
   refine XO.q (Q.assign rfl) (XO.done (XK.block ?_))
   refine XK.while (X := Nat × Int × Value × PHeap × List Value × PHeap) [6, 9, 26, 27, 28, 29, 30, 31, 32, 33, 34, 35, 36, 37, 38, 39, 40, 41, 42] (fun ⟨q, tt, vn3, kn3, un3, K3⟩ => [(6, some (vn3)), (9, some (.int .i64 tt))]) (fun ⟨q, tt, vn3, kn3, un3, K3⟩ => [kn3, K3]) (fun ⟨q, tt, vn3, kn3, un3, K3⟩ => q ≤ (spanS (d.jobs.getD i default)).toNat ∧ tt = (d.jobs.getD i default).beg + ((q : Nat) : Int) ∧ OArr vn3 encV 1 29 kn3 un3 ∧ RowsK us K3 (startsTo d.jobs (i)) ∧ RowsK un3 K3 (addPart (startsTo d.jobs (i)) (d.jobs.getD i default) (k) (q))) (fun ⟨q, tt, vn3, kn3, un3, K3⟩ => (spanS (d.jobs.getD i default)).toNat - q) (0, (d.jobs.getD i default).beg, vn, kn, un, K2) [kn, K2] rfl ⟨by omega, by omega, ON, RS, RP⟩ (.c rfl (.c rfl (.base 0 rfl rfl))) ?_
   rintro ⟨q, tt, vn3, kn3, un3, K3⟩ ⟨hq, htt, ON3, RS3, RP3⟩ ih2
   dsimp only [lcA, lnA] at ih2 ⊢
   subst htt
   refine XK.seq (XK.seq (XK.region rfl (XO.q (Q.move rfl) ?_)))
   refine XO.q (Q.fieldAddr rfl) ?_
   refine XO.q (Q.ld rfl rfl) ?_
   refine XO.q (Q.fieldAddr rfl) ?_
   refine XO.q (Q.ld rfl rfl) ?_
   refine XO.q (Q.sub rfl rfl ⟨by omega, by omega⟩) ?_
   refine XO.q (Q.leq rfl rfl) ?_
   refine XO.done ?_
   refine XK.if rfl (fun c2 => ?_) (fun c2 => ?_)
   ·skip
    have hq2 : q < (spanS (d.jobs.getD i default)).toNat := by unfold spanS; omega
    have ak3 := RS3.2 k (by omega)
    have al := addPart_len (out := (startsTo d.jobs (i))) (j := (d.jobs.getD i default)) (k := k) (q := q) (by omega) (by omega)
    have rl3 := RP3.1
    rw [al] at rl3
    have mq : k * (spanS (d.jobs.getD i default)).toNat ≤ 24 * 24 := Nat.mul_le_mul (by omega) (by omega)
    refine XK.skip (XK.seq (XK.block (XK.region rfl (XO.q (Q.move rfl) (XO.q (Q.move rfl) ?_)))))
    refine XO.call Tryz.call59 rfl rfl rfl (cloneI (us.getD k default) K3 ((startsTo d.jobs (i)).getD k default) (by omega)) fun v37 s37 R37 => ?_
    obtain ⟨k37, rfl, O37⟩ := R37
    dsimp only [lcA, lnA]
    refine XO.q (Q.move rfl) ?_
    refine XO.lit [_] [_] [(d.jobs.getD i default).beg + ((q : Nat) : Int)] encI (by rfl) (by rfl) rfl (by rfl) (by exact .c 0 1 rfl rfl rfl (.n _)) (fun _ => rfl) (by rfl) rfl (by infer_instance) rfl fun v39 h39 O39 => ?_
    have AK : True := trivial
    refine XO.append rfl rfl rfl rfl (by simp only [List.length_cons, List.length_nil]; omega) fun v40 h40 O40 => ?_
    refine XO.lit [_] [_] [v40] encV (by rfl) (by rfl) rfl (by rfl) (by exact .c 0 1 rfl rfl rfl (.n _)) (fun _ => rfl) (by rfl) rfl (by infer_instance) rfl fun v41 h41 O41 => ?_
    refine XO.append rfl rfl rfl rfl (by simp only [List.length_cons, List.length_nil]; omega) fun v42 h42 O42 => ?_
    refine XO.q (Q.assign rfl) (XO.done ?_)
    refine XK.inBlock ?_
    refine XK.region rfl (XO.q (Q.move rfl) ?_)
    refine XO.q (Q.add rfl rfl ⟨by omega, by omega⟩) ?_
    refine XO.q (Q.assign rfl) (XO.done ?_)
    refine XK.cat K3 h40 fun l1 l2 => ?_
    exact ih2 (q + 1, (d.jobs.getD i default).beg + ((q : Nat) : Int) + 1, v42, h42, un3 ++ [v40], cat K3 h40) _ _ ⟨by dsimp only; omega, by dsimp only; omega, O42, RS3.mono l1, by dsimp only; rw [addPart_succ hq2]; exact (RP3.mono l1).snoc (Arr.le_heap (OArr.arr (s := O40)) l2)⟩ (by first | omega | (dsimp only; omega)) (.c rfl (.c rfl (.base 40 rfl rfl))) inferInstance
   ·skip
    have hqe : q = (spanS (d.jobs.getD i default)).toNat := by unfold spanS at hq ⊢; omega
    refine XK.exit rfl ?_
    refine XK.inBlock ?_
    refine XK.region rfl ?_
    refine XO.q (Q.add rfl rfl ⟨by omega, by omega⟩) ?_
    refine XO.q (Q.move rfl) (XO.done ?_)
    exact ih1 (k + 1, vn3, kn3, un3, K3) _ _ ⟨by dsimp only; omega, ON3, RS3, by dsimp only; rw [hqe, addPart_all (by omega)] at RP3; rw [addPart_zero]; exact RP3⟩ (by first | omega | (dsimp only; omega)) (.c rfl (.c rfl (.base 66 rfl rfl))) inferInstance
  ·skip
   have hkl : k = us.length := by omega
   subst hkl
   refine XK.exit rfl ?_
   refine XK.region rfl (XO.q (Q.move rfl) (XO.q (Q.assign rfl) (XO.done ?_)))
   refine XK.inBlock ?_
   refine XK.region rfl ?_
   refine XO.q (Q.add rfl rfl ⟨by omega, by omega⟩) ?_
   refine XO.q (Q.move rfl) (XO.done ?_)
   exact ih0 (i + 1, vn, kn, un, K2) _ _ ⟨by dsimp only; omega, ON, by dsimp only; rw [rl, addPart_zero, addJob_take] at RP; exact RP⟩ (by first | omega | (dsimp only; omega)) (.c rfl (.c rfl (.base 81 rfl rfl))) inferInstance
 ·skip
  have hil : i = d.jobs.length := by omega
  subst hil
  refine XK.exit rfl ?_
  refine XK.seq (XK.region rfl (XO.q (Q.move rfl) (XO.q (Q.assign rfl) (XO.done ?_))))
  refine XK.rt [ko, K] Tryz.func145 Tryz.results145 (.t rfl .n) ?_
  exact ⟨ko, us, K, rfl, OO, RO⟩
end Go.X.Ma

set_option linter.unusedSimpArgs false
set_option linter.unusedVariables false
set_option maxRecDepth 20000
namespace Go.X.Ma
open Go.Proofs
theorem range_snocI (f : Nat → Int) (n : Nat) : (List.range (n + 1)).map f = (List.range n).map f ++ [f n] := by rw [List.range_succ, List.map_append]; rfl
theorem used_spec (d : KDay) (vh vj : Value) (hh hj : PHeap) [ih : Arr vh encHour 6 hh d.hours] [ij : Arr vj encJob 4 hj d.jobs] (s : List Int) (vs : Value) (hs_ : PHeap) [js : Arr vs encI 1 hs_ s] (ok : DayOk d) (so : SOk d s) : Spec Tryz.prog 84 #[.agg #[vh, .int .i64 d.store.energy, .int .i64 d.store.full, .int .i64 d.store.power, .int .i64 d.store.fin, vj, .int .i64 d.most, .int .i64 d.peak], vs] [] [hh, hj, hs_] (fun v hs => ∃ k, hs = [k] ∧ OArr v encI 1 3 k (usedL d s)) := by
 have lh := ih.le
 have lj := ij.le
 have h24 := ok.h2
 have j2 := ok.j2
 have sl := so.len
 have nI : OArr (.slice none 0 0) encI 1 3 emp ([] : List Int) := OArr.nil (fun _ => rfl)
 refine Spec.intro (fn := Tryz.f84) (N := 53) Tryz.func84 rfl Tryz.ntmps84 rfl fun B => ?_
 refine XK.seq (XK.region rfl ?_)
 refine XO.box rfl fun b2 => ?_
 refine XO.q (Q.assign rfl) (XO.done (XK.seq (XK.region rfl (XO.q (Q.assign rfl) (XO.done ?_)))))
 refine XK.seq (XK.seq (XK.region rfl ?_))
 refine XO.q (Q.fieldAddr rfl) ?_
 refine XO.q (Q.ld rfl rfl) ?_
 refine XO.len rfl fun l13 => ?_
 refine XO.q (Q.move rfl) (XO.done (XK.block ?_))
 refine XK.while (X := Nat × Value × PHeap) [5, 7, 14, 15, 16, 17, 18, 19, 20, 21, 22, 23] (fun ⟨i, vo, ko⟩ => [(5, some (vo)), (14, some (.int .i64 (i : Nat)))]) (fun ⟨i, vo, ko⟩ => [ko]) (fun ⟨i, vo, ko⟩ => i ≤ d.hours.length ∧ OArr vo encI 1 3 ko ((List.range i).map (fun i => (d.hours.getD i default).load))) (fun ⟨i, vo, ko⟩ => d.hours.length - i) (0, .slice none 0 0, emp) [emp] rfl ⟨by omega, nI⟩ (.c rfl (.c rfl (.base 0 rfl rfl))) ?_
 rintro ⟨i, vo, ko⟩ ⟨hi, OL⟩ ih0
 dsimp only [lcA, lnA] at ih0 ⊢
 have ll : ((List.range i).map (fun i => (d.hours.getD i default).load)).length = i := range_len
 refine XK.seq (XK.region rfl ?_)
 refine XO.q (Q.lss rfl rfl) ?_
 refine XO.done (XK.seq ?_)
 refine XK.if rfl (fun c0 => ?_) (fun c0 => ?_)
 ·skip
  refine XK.skip (XK.seq (XK.block (XK.seq (XK.region rfl ?_))))
  refine XO.ix rfl rfl (by omega) (by omega) fun i16 => ?_
  refine XO.q (Q.ldEA [_, _, _, _, _, _] rfl (by first | assumption | omega) rfl rfl) ?_
  refine XO.alloc fun b7 => ?_
  refine XO.st rfl rfl rfl ?_
  refine XO.done (XK.region rfl (XO.q (Q.move rfl) ?_))
  refine XO.q (Q.fieldAddr rfl) ?_
  refine XO.q (Q.ld rfl rfl) ?_
  refine XO.lit [_] [_] [(d.hours.getD i default).load] encI (by rfl) (by rfl) rfl (by rfl) (by exact .c 0 1 rfl rfl rfl (.n _)) (fun _ => rfl) (by rfl) rfl (by infer_instance) rfl fun v21 h21 O21 => ?_
  refine XO.append rfl rfl rfl rfl (by first | omega | (simp; omega)) fun v22 h22 O22 => ?_
  refine XO.q (Q.assign rfl) (XO.done ?_)
  refine XK.inBlock ?_
  refine XK.region rfl ?_
  refine XO.q (Q.add rfl rfl ⟨by omega, by omega⟩) ?_
  refine XO.q (Q.move rfl) (XO.done ?_)
  exact ih0 (i + 1, v22, h22) _ _ ⟨by dsimp only; omega, by dsimp only; rw [range_snocI]; exact O22⟩ (by first | omega | (dsimp only; omega)) (.c rfl (.c rfl (.base 26 rfl rfl))) inferInstance
 ·skip
  have hin : i = d.hours.length := by omega
  rw [hin, ← usedT_start d s] at OL
  clear ih0
  refine XK.exit rfl ?_
  refine XK.seq (XK.seq (XK.region rfl ?_))
  refine XO.q (Q.fieldAddr rfl) ?_
  refine XO.q (Q.ld rfl rfl) ?_
  refine XO.len rfl fun l26 => ?_
  refine XO.q (Q.move rfl) (XO.done (XK.block ?_))
  refine XK.while (X := Nat × PHeap) [8, 9, 10, 27, 28, 29, 30, 31, 32, 33, 34, 35, 36, 37, 38, 39, 40, 41, 42, 43, 44, 45, 46, 47, 48, 49, 50, 51] (fun ⟨k, kq⟩ => [(27, some (.int .i64 (k : Nat)))]) (fun ⟨k, kq⟩ => [kq]) (fun ⟨k, kq⟩ => k ≤ d.jobs.length ∧ OArr vo encI 1 3 kq (usedT d s k 0)) (fun ⟨k, kq⟩ => d.jobs.length - k) (0, ko) [ko] rfl ⟨by omega, OL⟩ (.c rfl (.base 0 rfl rfl)) ?_
  rintro ⟨k, kq⟩ ⟨hk, OU⟩ ih1
  dsimp only [lcA, lnA] at ih1 ⊢
  refine XK.seq (XK.region rfl ?_)
  refine XO.q (Q.lss rfl rfl) ?_
  refine XO.done (XK.seq ?_)
  refine XK.if rfl (fun c1 => ?_) (fun c1 => ?_)
  ·skip
   have ji := ok.job k (by omega)
   have jb := ji.b0
   have jc := ji.b1
   have jt := ji.t1
   have jh := ji.h0
   have jp := ji.p0
   have jq := ji.p1
   have sk := so.at' k (by omega)
   refine XK.skip (XK.seq (XK.block (XK.seq (XK.region rfl (XO.q (Q.move rfl) ?_)))))
   refine XO.ix rfl rfl (by omega) (by omega) fun i30 => ?_
   refine XO.q (Q.ldEA [_, _, _, _] rfl (by first | assumption | omega) rfl rfl) ?_
   refine XO.alloc fun b9 => ?_
   refine XO.q (Q.assign rfl) ?_
   refine XO.st rfl rfl rfl ?_
   refine XO.done (XK.seq (XK.region rfl ?_))
   refine XO.q (Q.fieldAddr rfl) ?_
   refine XO.q (Q.ld rfl rfl) ?_
   refine XO.q (Q.move rfl) (XO.done (XK.block ?_))
   refine XK.while (X := Nat × PHeap) [10, 34, 35, 36, 37, 38, 39, 40, 41, 42, 43, 44, 45, 46, 47, 48, 49, 50] (fun ⟨t, kr⟩ => [(34, some (.int .i64 (t : Nat)))]) (fun ⟨t, kr⟩ => [kr]) (fun ⟨t, kr⟩ => (t : Int) ≤ (d.jobs.getD k default).hours ∧ OArr vo encI 1 3 kr (usedT d s k t)) (fun ⟨t, kr⟩ => (d.jobs.getD k default).hours.toNat - t) (0, kq) [kq] rfl ⟨by (try dsimp only); omega, OU⟩ (.c rfl (.base 0 rfl rfl)) ?_
   rintro ⟨t, kr⟩ ⟨ht, OT⟩ ih2
   dsimp only [lcA, lnA] at ih2 ⊢
   refine XK.seq (XK.region rfl ?_)
   refine XO.q (Q.lss rfl rfl) ?_
   refine XO.done (XK.seq ?_)
   refine XK.if rfl (fun c2 => ?_) (fun c2 => ?_)
   ·skip
    have ul := usedT_len d s k t
    have ha : (s.getD k default + ((t : Nat) : Int)).toNat < d.hours.length := by omega
    have ur := used_rng ok s ha k (by omega)
    have ue : (usedT d s k t).getD (s.getD k default + ((t : Nat) : Int)).toNat default = usedAt d s (s.getD k default + ((t : Nat) : Int)).toNat k + partS (d.jobs.getD k default) (s.getD k default) t (s.getD k default + ((t : Nat) : Int)).toNat := by rw [usedT, range_at ha]
    unfold partS at ue
    rw [if_neg (by omega), Int.add_zero] at ue
    refine XK.skip (XK.seq (XK.block (XK.seq (XK.region rfl (XO.q (Q.move rfl) ?_)))))
    refine XO.q (Q.assign rfl) (XO.done ?_)
    refine XK.drawn [0, 1, 2, 3, 4, 5, 6, 7, 8, 9, 10, 11, 12] [b9] [kr] (.q 0 (.q 1 (.q 2 (.q 3 (.q 4 (.q 5 (.q 6 (.q 7 (.q 8 (.q 9 (.q 10 (.q 11 (.q 12 (.br 13 false .done .stop)))))))))))))) Tryz.mixed rfl (by kernel_rfl) ?_
    refine XT.q rfl rfl (Q.move rfl) ?_
    refine XT.q rfl rfl (Q.move rfl) ?_
    refine XT.q rfl rfl (Q.move rfl) ?_
    refine XT.ix rfl rfl rfl rfl (by omega) (by omega) fun i40 => ?_
    refine XT.q rfl rfl (Q.ldE rfl (by first | assumption | omega) rfl) ?_
    refine XT.q rfl rfl (Q.move rfl) ?_
    refine XT.q rfl rfl (Q.add rfl rfl ⟨by omega, by omega⟩) ?_
    refine XT.ix rfl rfl rfl rfl (by omega) (by omega) fun i44 => ?_
    refine XT.q rfl rfl (Q.ldE rfl (by first | assumption | omega) rfl) ?_
    refine XT.q rfl rfl (Q.fieldAddr rfl) ?_
    refine XT.q rfl rfl (Q.ld rfl rfl) ?_
    refine XT.q rfl rfl (Q.add rfl rfl ⟨by omega, by omega⟩) ?_
    refine XT.ix rfl rfl rfl rfl (by omega) (by omega) fun i49 => ?_
    refine XT.stE _ rfl rfl rfl rfl rfl (by assumption) rfl rfl (fun h13_13 O13_13 => ⟨inferInstance, ?_⟩) XT.stop
    rw [usedT_step ha (by omega) (by omega)] at O13_13
    refine XT.done ?_
    refine XK.inBlock ?_
    refine XK.region rfl ?_
    refine XO.q (Q.add rfl rfl ⟨by omega, by omega⟩) ?_
    refine XO.q (Q.move rfl) (XO.done ?_)
    exact ih2 (t + 1, h13_13) _ _ ⟨by dsimp only; omega, O13_13⟩ (by first | omega | (dsimp only; omega)) (.c rfl (.base 37 rfl rfl)) inferInstance
   ·skip
    have hte : ((t : Nat) : Int) = (d.jobs.getD k default).hours := by omega
    refine XK.exit rfl ?_
    refine XK.inBlock ?_
    refine XK.region rfl ?_
    refine XO.q (Q.add rfl rfl ⟨by omega, by omega⟩) ?_
    refine XO.q (Q.move rfl) (XO.done ?_)
    exact ih1 (k + 1, kr) _ _ ⟨by dsimp only; omega, by dsimp only; rw [← usedT_all hte]; exact OT⟩ (by first | omega | (dsimp only; omega)) (.c rfl (.base 60 rfl rfl)) inferInstance
  ·skip
   have hkl : k = d.jobs.length := by omega
   rw [hkl, usedT_end] at OU
   refine XK.exit rfl ?_
   refine XK.seq (XK.region rfl (XO.q (Q.move rfl) (XO.q (Q.assign rfl) (XO.done ?_))))
   refine XK.rt [kq] Tryz.func84 Tryz.results84 (.t rfl .n) ?_
   exact ⟨kq, rfl, OU⟩
theorem needs_spec (d : KDay) (vh vj : Value) (hh hj : PHeap) [ih : Arr vh encHour 6 hh d.hours] [ij : Arr vj encJob 4 hj d.jobs] (s : List Int) (vs : Value) (hs_ : PHeap) [js : Arr vs encI 1 hs_ s] (ok : DayOk d) (so : SOk d s) : Spec Tryz.prog 150 #[.agg #[vh, .int .i64 d.store.energy, .int .i64 d.store.full, .int .i64 d.store.power, .int .i64 d.store.fin, vj, .int .i64 d.most, .int .i64 d.peak], vs] [] [hh, hj, hs_] (fun v hs => ∃ k, hs = [k] ∧ OArr v encI 1 3 k (needsL d s)) := by
 have lh := ih.le
 refine Spec.intro (fn := Tryz.f150) (N := 29) Tryz.func150 rfl Tryz.ntmps150 rfl fun B => ?_
 refine XK.seq (XK.region rfl ?_)
 refine XO.box rfl fun b2 => ?_
 refine XO.q (Q.assign rfl) (XO.done (XK.seq (XK.region rfl ?_)))
 refine XO.q (Q.ldA [_, _, _, _, _, _, _, _] rfl rfl rfl) ?_
 refine XO.q (Q.move rfl) ?_
 refine XO.call Tryz.call84 rfl rfl rfl (used_spec d vh vj hh hj s vs hs_ ok so) fun v10 s10 R10 => ?_
 obtain ⟨ku, rfl, OU0⟩ := R10
 dsimp only [lcA, lnA]
 refine XO.q (Q.assign rfl) (XO.done (XK.seq (XK.seq (XK.region rfl ?_))))
 refine XO.q (Q.fieldAddr rfl) ?_
 refine XO.q (Q.ld rfl rfl) ?_
 refine XO.len rfl fun l13 => ?_
 refine XO.q (Q.move rfl) (XO.done (XK.block ?_))
 refine XK.while (X := Nat × PHeap) [6, 7, 14, 15, 16, 17, 18, 19, 20, 21, 22, 23, 24, 25, 26, 27] (fun ⟨i, kq⟩ => [(14, some (.int .i64 (i : Nat)))]) (fun ⟨i, kq⟩ => [kq]) (fun ⟨i, kq⟩ => i ≤ d.hours.length ∧ OArr v10 encI 1 3 kq (needT d s i)) (fun ⟨i, kq⟩ => d.hours.length - i) (0, ku) [ku] rfl ⟨by omega, by rw [needT_zero]; exact OU0⟩ (.c rfl (.base 0 rfl rfl)) ?_
 rintro ⟨i, kq⟩ ⟨hi, OU⟩ ih0
 dsimp only [lcA, lnA] at ih0 ⊢
 refine XK.seq (XK.region rfl ?_)
 refine XO.q (Q.lss rfl rfl) ?_
 refine XO.done (XK.seq ?_)
 refine XK.if rfl (fun c0 => ?_) (fun c0 => ?_)
 ·skip
  have nl := needT_len d s i
  have ur := used_rng ok s (show i < d.hours.length by omega) d.jobs.length (Nat.le_refl _)
  have j2 := ok.j2
  have hk := ok.hour i (by omega)
  have u0 := hk.u0
  have u1 := hk.u1
  have na := needT_at (s := s) (show i < d.hours.length by omega)
  refine XK.skip (XK.seq (XK.block (XK.seq (XK.region rfl (XO.q (Q.move rfl) ?_)))))
  refine XO.ix rfl rfl (by omega) (by omega) fun i17 => ?_
  refine XO.q (Q.ldEA [_, _, _, _, _, _] rfl (by first | assumption | omega) rfl rfl) ?_
  refine XO.alloc fun b7 => ?_
  refine XO.q (Q.assign rfl) ?_
  refine XO.st rfl rfl rfl ?_
  refine XO.done ?_
  refine XK.drawn [0, 1, 2, 3, 4, 5, 6, 7] [b7] [kq] (.q 0 (.q 1 (.q 2 (.q 3 (.q 4 (.q 5 (.q 6 (.q 7 (.br 8 false .done .stop))))))))) Tryz.mixed rfl (by kernel_rfl) ?_
  refine XT.q rfl rfl (Q.move rfl) ?_
  refine XT.q rfl rfl (Q.move rfl) ?_
  refine XT.ix rfl rfl rfl rfl (by omega) (by omega) fun i21 => ?_
  refine XT.q rfl rfl (Q.ldE rfl (by first | assumption | omega) rfl) ?_
  refine XT.q rfl rfl (Q.fieldAddr rfl) ?_
  refine XT.q rfl rfl (Q.ld rfl rfl) ?_
  refine XT.q rfl rfl (Q.sub rfl rfl ⟨by omega, by omega⟩) ?_
  refine XT.ix rfl rfl rfl rfl (by omega) (by omega) fun i26 => ?_
  refine XT.stE _ rfl rfl rfl rfl rfl (by assumption) rfl rfl (fun h5_8 O5_8 => ⟨inferInstance, ?_⟩) XT.stop
  rw [needT_step (by omega)] at O5_8
  refine XT.done ?_
  refine XK.inBlock ?_
  refine XK.region rfl ?_
  refine XO.q (Q.add rfl rfl ⟨by omega, by omega⟩) ?_
  refine XO.q (Q.move rfl) (XO.done ?_)
  exact ih0 (i + 1, h5_8) _ _ ⟨by dsimp only; omega, O5_8⟩ (by first | omega | (dsimp only; omega)) (.c rfl (.base 33 rfl rfl)) inferInstance
 ·skip
  have hin : i = d.hours.length := by omega
  rw [hin, needT_all] at OU
  refine XK.exit rfl ?_
  refine XK.seq (XK.region rfl (XO.q (Q.move rfl) (XO.q (Q.assign rfl) (XO.done ?_))))
  refine XK.rt [kq] Tryz.func150 Tryz.results150 (.t rfl .n) ?_
  exact ⟨kq, rfl, OU⟩
theorem price_mul {a b : Int} (a0 : 0 ≤ a) (a1 : a ≤ 1000) (b0 : 0 ≤ b) (b1 : b ≤ 1000) : 0 ≤ a * b ∧ a * b ≤ 1000000 := ⟨Int.mul_nonneg a0 b0, Int.le_trans (Int.mul_le_mul a1 b1 b0 (by omega)) (by decide)⟩
theorem price_rng {h : KHour} (k : HourOk h) {n : Int} (h0 : -1000 ≤ n) (h1 : n ≤ 1000) : -1000000 ≤ priceH h n ∧ priceH h n ≤ 1000000 := by
 have := k.b0; have := k.b1; have := k.s0; have := k.s1
 have p1 := price_mul (a := max n 0) (b := h.buy) (by omega) (by omega) (by omega) (by omega)
 have p2 := price_mul (a := max (-n) 0) (b := h.sell) (by omega) (by omega) (by omega) (by omega)
 unfold priceH; omega
theorem price_spec (h : KHour) (k : HourOk h) (n : Int) (h0 : -1000 ≤ n) (h1 : n ≤ 1000) : Spec Tryz.prog 162 #[.agg #[.int .i64 h.buy, .int .i64 h.sell, .int .i64 h.sun, .int .i64 h.load, .int .i64 h.carbon, .int .i64 h.water], .int .i64 n] [] [] (fun v hs => v = .int .i64 (priceH h n) ∧ hs = []) := by
 have := k.b0
 have := k.b1
 have := k.s0
 have := k.s1
 have p1 := price_mul (a := max n 0) (b := h.buy) (by omega) (by omega) (by omega) (by omega)
 have p2 := price_mul (a := max (-n) 0) (b := h.sell) (by omega) (by omega) (by omega) (by omega)
 refine Spec.intro (fn := Tryz.f162) (N := 17) Tryz.func162 rfl Tryz.ntmps162 rfl fun B => ?_
 refine XK.seq (XK.region rfl ?_)
 refine XO.box rfl fun b2 => ?_
 refine XO.q (Q.assign rfl) (XO.done (XK.seq (XK.region rfl (XO.q (Q.move rfl) ?_))))
 refine XO.q (Q.max rfl rfl) ?_
 refine XO.q (Q.fieldAddr rfl) ?_
 refine XO.q (Q.ld rfl rfl) ?_
 refine XO.q (Q.mul rfl rfl ⟨by omega, by omega⟩) ?_
 refine XO.q (Q.move rfl) ?_
 refine XO.q (Q.neg rfl ⟨by omega, by omega⟩) ?_
 rw [show (0 : Int) - n = -n by omega]
 refine XO.q (Q.max rfl rfl) ?_
 refine XO.q (Q.fieldAddr rfl) ?_
 refine XO.q (Q.ld rfl rfl) ?_
 refine XO.q (Q.mul rfl rfl ⟨by omega, by omega⟩) ?_
 refine XO.q (Q.sub rfl rfl ⟨by omega, by omega⟩) ?_
 refine XO.q (Q.assign rfl) (XO.done ?_)
 refine XK.rt [] Tryz.func162 Tryz.results162 (.t rfl .n) ?_
 exact ⟨rfl, rfl⟩
end Go.X.Ma
