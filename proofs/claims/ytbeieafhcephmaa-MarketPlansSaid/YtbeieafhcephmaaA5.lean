/- A part of the proof: a small program logic, plain laws and contracts of functions, each proved by a walk through its operations. No condition but those that stand in each theorem. -/
import Derived.Test.YtbeieafhcephmaaA4
set_option linter.unusedSimpArgs false
set_option linter.unusedVariables false
set_option maxRecDepth 20000
namespace Go.X
open Go.Proofs
theorem mul64_one (n : Nat) (h : n ≤ 4294967295) : Spec Try.prog 119 #[.int .u64 1, .int .u64 (n : Nat)] [] [] (fun v hs => v = .tuple #[.int .u64 0, .int .u64 (n : Nat)] ∧ hs = []) := by
  have h1 : (1 : Int) % 4294967296 = 1 := by decide
  have h2 : (1 : Int) / 4294967296 = 0 := by decide
  have h3 : (n : Int) % 4294967296 = n := by omega
  have h4 : (n : Int) / 4294967296 = 0 := by omega
  have h5 : (0 : Int) % 4294967296 = 0 := by decide
  have h6 : (0 : Int) / 4294967296 = 0 := by decide
  refine Spec.intro (fn := Try.f119) (N := 51) Try.func119 rfl Try.ntmps119 rfl fun B => ?_
  refine XK.seq ?_
  refine XK.region rfl ?_
  refine XO.q (Q.assign rfl) ?_
  refine XO.q (Q.assign rfl) ?_
  refine XO.done ?_
  refine XK.seq ?_
  refine XK.region rfl ?_
  refine XO.q (Q.move rfl) ?_
  refine XO.q (Q.mask32 rfl rfl (by omega)) ?_
  rw [h1]
  refine XO.q (Q.assign rfl) ?_
  refine XO.done ?_
  refine XK.seq ?_
  refine XK.region rfl ?_
  refine XO.q (Q.move rfl) ?_
  refine XO.q (Q.shr32 rfl rfl) ?_
  rw [h2]
  refine XO.q (Q.assign rfl) ?_
  refine XO.done ?_
  refine XK.seq ?_
  refine XK.region rfl ?_
  refine XO.q (Q.move rfl) ?_
  refine XO.q (Q.mask32 rfl rfl (by omega)) ?_
  rw [h3]
  refine XO.q (Q.assign rfl) ?_
  refine XO.done ?_
  refine XK.seq ?_
  refine XK.region rfl ?_
  refine XO.q (Q.move rfl) ?_
  refine XO.q (Q.shr32 rfl rfl) ?_
  rw [h4]
  refine XO.q (Q.assign rfl) ?_
  refine XO.done ?_
  refine XK.seq ?_
  refine XK.region rfl ?_
  refine XO.q (Q.move rfl) ?_
  refine XO.q (Q.move rfl) ?_
  refine XO.q (Q.mulU rfl rfl (by omega)) ?_
  rw [Int.one_mul]
  refine XO.q (Q.assign rfl) ?_
  refine XO.done ?_
  refine XK.seq ?_
  refine XK.region rfl ?_
  refine XO.q (Q.move rfl) ?_
  refine XO.q (Q.move rfl) ?_
  refine XO.q (Q.mulU rfl rfl (by omega)) ?_
  rw [Int.zero_mul]
  refine XO.q (Q.move rfl) ?_
  refine XO.q (Q.shr32 rfl rfl) ?_
  rw [h4]
  refine XO.q (Q.addU rfl rfl (by omega)) ?_
  rw [Int.add_zero]
  refine XO.q (Q.assign rfl) ?_
  refine XO.done ?_
  refine XK.seq ?_
  refine XK.region rfl ?_
  refine XO.q (Q.move rfl) ?_
  refine XO.q (Q.mask32 rfl rfl (by omega)) ?_
  rw [h5]
  refine XO.q (Q.assign rfl) ?_
  refine XO.done ?_
  refine XK.seq ?_
  refine XK.region rfl ?_
  refine XO.q (Q.move rfl) ?_
  refine XO.q (Q.shr32 rfl rfl) ?_
  rw [h6]
  refine XO.q (Q.assign rfl) ?_
  refine XO.done ?_
  refine XK.seq ?_
  refine XK.region rfl ?_
  refine XO.q (Q.move rfl) ?_
  refine XO.q (Q.move rfl) ?_
  refine XO.q (Q.move rfl) ?_
  refine XO.q (Q.mulU rfl rfl (by omega)) ?_
  rw [Int.mul_zero]
  refine XO.q (Q.addU rfl rfl (by omega)) ?_
  rw [Int.add_zero]
  refine XO.q (Q.assign rfl) ?_
  refine XO.done ?_
  refine XK.seq ?_
  refine XK.region rfl ?_
  refine XO.q (Q.move rfl) ?_
  refine XO.q (Q.move rfl) ?_
  refine XO.q (Q.mulU rfl rfl (by omega)) ?_
  rw [Int.mul_zero]
  refine XO.q (Q.move rfl) ?_
  refine XO.q (Q.addU rfl rfl (by omega)) ?_
  rw [Int.add_zero]
  refine XO.q (Q.move rfl) ?_
  refine XO.q (Q.shr32 rfl rfl) ?_
  rw [h6]
  refine XO.q (Q.addU rfl rfl (by omega)) ?_
  rw [Int.add_zero]
  refine XO.q (Q.assign rfl) ?_
  refine XO.done ?_
  refine XK.seq ?_
  refine XK.region rfl ?_
  refine XO.q (Q.move rfl) ?_
  refine XO.q (Q.move rfl) ?_
  refine XO.q (Q.mulU rfl rfl (by omega)) ?_
  rw [Int.one_mul]
  refine XO.q (Q.assign rfl) ?_
  refine XO.done ?_
  refine XK.rt [] Try.func119 Try.results119 (.t rfl (.t rfl .n)) ?_
  exact ⟨rfl, rfl⟩
theorem mul_one' (n : Nat) (h : n ≤ 4294967295) : Spec Try.prog 117 #[.int .u64 1, .int .u64 (n : Nat)] [] [] (fun v hs => v = .tuple #[.int .u64 0, .int .u64 (n : Nat)] ∧ hs = []) := by
  refine Spec.intro (fn := Try.f117) (N := 30) Try.func117 rfl Try.ntmps117 rfl fun B => ?_
  refine XK.seq ?_
  refine XK.region rfl ?_
  refine XO.q (Q.assign rfl) ?_
  refine XO.q (Q.assign rfl) ?_
  refine XO.done ?_
  refine XK.seq ?_
  refine XK.if rfl (fun c0 => ?_) (fun c0 => ?_)
  · have _t0 := True.intro
    exact c0.elim
  · have _t0 := True.intro
    refine XK.skip ?_
    refine XK.seq ?_
    refine XK.region rfl ?_
    refine XO.q (Q.move rfl) ?_
    refine XO.q (Q.move rfl) ?_
    refine XO.call Try.call119 rfl rfl rfl (mul64_one n h) fun v25 s25 R25 => ?_
    obtain ⟨rfl, rfl⟩ := R25
    dsimp only [List.cons_append, List.nil_append]
    refine XO.q (Q.move rfl) ?_
    refine XO.q (Q.extract rfl rfl) ?_
    refine XO.q (Q.extract rfl rfl) ?_
    refine XO.q (Q.assign rfl) ?_
    refine XO.q (Q.assign rfl) ?_
    refine XO.done ?_
    refine XK.seq ?_
    refine XK.region rfl ?_
    refine XO.q (Q.move rfl) ?_
    refine XO.q (Q.move rfl) ?_
    refine XO.q (Q.assign rfl) ?_
    refine XO.q (Q.assign rfl) ?_
    refine XO.done ?_
    refine XK.rt [] Try.func117 Try.results117 (.t rfl (.t rfl .n)) ?_
    exact ⟨rfl, rfl⟩
theorem repeatI (v : Value) (h : PHeap) (x : Int) [s : Arr v encI 1 h [x]] (n : Nat) (hn : n ≤ 4294967295) : Spec Try.prog 97 #[v, .int .i64 (n : Nat)] [] [h] (fun v' hs => ∃ h', hs = [h'] ∧ OArr v' encI 1 3 h' (List.replicate n x)) := by
  have hw1 : IntKind.u64.wrap ((([x] : List Int).length : Nat) : Int) = 1 := rfl
  have hw2 : IntKind.u64.wrap ((n : Nat) : Int) = n := wrapu64 (by omega)
  have hw3 : IntKind.i64.wrap ((n : Nat) : Int) = n := wrap64_of ⟨by omega, by omega⟩
  have hl1 : ([x] : List Int).length = 1 := rfl
  refine Spec.intro (fn := Try.f97) (N := 48) Try.func97 rfl Try.ntmps97 rfl fun B => ?_
  refine XK.seq ?_
  refine XK.region rfl ?_
  refine XO.q (Q.assign rfl) ?_
  refine XO.done ?_
  refine XK.seq ?_
  refine XK.seq ?_
  refine XK.region rfl ?_
  refine XO.q (Q.move rfl) ?_
  refine XO.q (Q.lss rfl rfl) ?_
  refine XO.done ?_
  refine XK.if rfl (fun c0 => ?_) (fun c0 => ?_)
  · have _t0 := True.intro
    exact absurd c0 (by omega)
  · have _t0 := True.intro
    refine XK.skip ?_
    refine XK.seq ?_
    refine XK.region rfl ?_
    refine XO.q (Q.move rfl) ?_
    refine XO.len rfl fun l14 => ?_
    refine XO.q (Q.conv rfl) ?_
    rw [hw1]
    refine XO.q (Q.move rfl) ?_
    refine XO.q (Q.conv rfl) ?_
    rw [hw2]
    refine XO.call Try.call117 rfl rfl rfl (mul_one' n hn) fun v18 s18 R18 => ?_
    obtain ⟨rfl, rfl⟩ := R18
    dsimp only [List.cons_append, List.nil_append]
    refine XO.q (Q.move rfl) ?_
    refine XO.q (Q.extract rfl rfl) ?_
    refine XO.q (Q.extract rfl rfl) ?_
    refine XO.q (Q.assign rfl) ?_
    refine XO.q (Q.assign rfl) ?_
    refine XO.done ?_
    refine XK.seq ?_
    refine XK.seq ?_
    refine XK.region rfl ?_
    refine XO.q (Q.move rfl) ?_
    refine XO.q (Q.gtr rfl rfl) ?_
    refine XO.q (Q.move rfl) ?_
    refine XO.q (Quiet.guardF rfl rfl fun g24 p24 => Q.move rfl) ?_
    refine XO.q (Quiet.guardF rfl rfl fun g25 p25 => Q.gtr (lzv g25 rfl) rfl) ?_
    refine XO.q (Q.or rfl (fun hp => lzv hp rfl)) ?_
    refine XO.done ?_
    refine XK.if rfl (fun c1 => ?_) (fun c1 => ?_)
    · have _t1 := True.intro
      exact absurd c1 (by omega)
    · have _t1 := True.intro
      refine XK.skip ?_
      refine XK.seq ?_
      refine XK.region rfl ?_
      refine XO.q (Q.move rfl) ?_
      refine XO.q (Q.conv rfl) ?_
      rw [hw3]
      refine XO.make encI (0) rfl rfl rfl (by omega) (by omega) (fun _ => rfl) rfl rfl rfl (by dsimp only [encI]; infer_instance) fun v30 h30 O30 => ?_
      refine XO.q (Q.assign rfl) ?_
      refine XO.done ?_
      refine XK.seq ?_
      refine XK.region rfl ?_
      refine XO.q (Q.move rfl) ?_
      refine XO.q (Q.move rfl) ?_
      refine XO.copy rfl (tailv_zero (s := O30)).symm rfl (by omega) fun h33 O33 => ?_
      rw [show min ([x] : List Int).length ((List.replicate n (0 : Int)).length - 0) = min 1 n by simp]
      refine XO.q (Q.assign rfl) ?_
      refine XO.done ?_
      refine XK.seq ?_
      refine XK.block ?_
      refine XK.while (X := Nat × PHeap) [8, 34, 35, 36, 37, 38, 39, 40, 41, 42, 43, 44, 45, 46] (fun ⟨m, hM⟩ => [(8, some (.int .i64 (m : Nat)))]) (fun ⟨m, hM⟩ => [hM]) (fun ⟨m, hM⟩ => m ≤ n ∧ (0 < n → 0 < m) ∧ OArr v30 encI 1 3 hM (List.replicate m x ++ List.replicate (n - m) 0)) (fun ⟨m, hM⟩ => n - m) (min 1 n, h33) [h33] rfl ⟨by omega, by omega, by have := O33; rw [repeat_first] at this; exact this⟩ (.c rfl (.base 0 rfl rfl)) ?_
      rintro ⟨m, hM⟩ ⟨hm, hm0, OM⟩ ih0
      dsimp only [List.cons_append, List.nil_append] at ih0 ⊢
      have hlm : (List.replicate m x ++ List.replicate (n - m) 0).length = n := by rw [List.length_append, List.length_replicate, List.length_replicate]; omega
      have hmm : min (((List.replicate m x ++ List.replicate (n - m) (0 : Int)).drop 0).take (m - 0)).length ((List.replicate m x ++ List.replicate (n - m) (0 : Int)).length - m) = min m (n - m) := by
        rw [hlm, List.drop_zero, List.length_take, hlm]; omega
      refine XK.seq ?_
      refine XK.seq ?_
      refine XK.region rfl ?_
      refine XO.q (Q.move rfl) ?_
      refine XO.q (Q.move rfl) ?_
      refine XO.len rfl fun l36 => ?_
      refine XO.q (Q.lss rfl rfl) ?_
      refine XO.done ?_
      refine XK.if rfl (fun c2 => ?_) (fun c2 => ?_)
      · have _t2 := True.intro
        refine XK.skip ?_
        refine XK.block ?_
        refine XK.drawn [0, 1, 2, 3, 4, 5, 6, 8, 9] [] [] (.q 0 (.q 1 (.q 2 (.q 3 (.q 4 (.q 5 (.q 6 (.br 7 true (.q 8 (.q 9 .done)) .stop)))))))) Try.mixed rfl (by kernel_rfl) ?_
        refine XT.q rfl rfl (Q.move rfl) ?_
        refine XT.q rfl rfl (Q.move rfl) ?_
        refine XT.q rfl rfl (Q.move rfl) ?_
        refine XT.q rfl rfl (Q.tail (i := m) rfl (.s rfl (by omega)) (by omega)) ?_
        refine XT.q rfl rfl (Q.move rfl) ?_
        refine XT.q rfl rfl (Q.move rfl) ?_
        refine XT.q rfl rfl (Q.cut (i := 0) (j := m) rfl .n (.s rfl (by omega)) (by omega) (by omega)) ?_
        have A44 := Arr.cut (v := v30) (i := 0) (j := m) inferInstance (by omega) (by omega)
        refine XT.copy rfl rfl rfl rfl rfl (by omega) (fun h45 O45 => ⟨inferInstance, ?_⟩) XT.stop
        rw [hmm]
        refine XT.q rfl rfl (Q.add rfl rfl ⟨by omega, by omega⟩) ?_
        rw [show ((m : Int) + ((min m (n - m) : Nat) : Int)) = ((m + min m (n - m) : Nat) : Int) from rfl]
        refine XT.q rfl rfl (Q.assign rfl) ?_
        refine XT.done ?_
        refine XK.inBlock ?_
        exact ih0 (m + min m (n - m), h45) _ _ ⟨by omega, by omega, by have := O45; rw [repeat_step x 0 hm] at this; exact this⟩ (by first | omega | (dsimp only; omega)) (.c rfl (.base 29 rfl rfl)) inferInstance
      · have _t2 := True.intro
        refine XK.exit rfl ?_
        refine XK.seq ?_
        refine XK.region rfl ?_
        refine XO.q (Q.move rfl) ?_
        refine XO.q (Q.assign rfl) ?_
        refine XO.done ?_
        refine XK.rt [hM] Try.func97 Try.results97 (.t rfl .n) ?_
        have hmn : m = n := by omega
        subst hmn
        exact ⟨hM, rfl, by simpa using OM⟩
theorem oright_spec (o : KOffer) (n : Int) : Spec Try.prog 95 #[.agg #[.int .i64 o.beg, .int .i64 o.fin, .int .i64 o.power, .int .i64 o.hours, .int .i64 o.calls, .int .i64 o.pause], .int .i64 n] [] [] (fun v hs => v = .bool (offerR o n) ∧ hs = []) := by
  refine Spec.intro (fn := Try.f95) (N := 46) Try.func95 rfl Try.ntmps95 rfl fun B => ?_
  refine XK.seq ?_
  refine XK.region rfl ?_
  refine XO.box rfl fun b2 => ?_
  refine XO.q (Q.assign rfl) ?_
  refine XO.done ?_
  refine XK.seq ?_
  refine XK.region rfl ?_
  refine XO.q (Q.move rfl) ?_
  refine XO.q (Q.fieldAddr rfl) ?_
  refine XO.q (Q.ld rfl rfl) ?_
  refine XO.q (Q.fieldAddr rfl) ?_
  refine XO.q (Q.ld rfl rfl) ?_
  refine XO.lit [_, _] [_, _] [o.beg, o.fin] encI (by rfl) (by rfl) rfl (by rfl) (by exact .c 0 1 rfl rfl rfl (.c 1 1 rfl rfl rfl (.n _))) (fun _ => rfl) (by rfl) rfl (by infer_instance) rfl fun v10 h10 O10 => ?_
  refine XO.call Try.call75 rfl rfl rfl (kin_spec n v10 h10 [o.beg, o.fin]) fun v11 s11 R11 => ?_
  obtain ⟨rfl, rfl⟩ := R11
  dsimp only [List.cons_append, List.nil_append]
  refine XO.q (Q.move rfl) ?_
  refine XO.q (Quiet.guardT rfl rfl fun g13 p13 => Q.fieldAddr rfl) ?_
  refine XO.q (Quiet.guardT rfl rfl fun g14 p14 => Q.ld (lzv g14 rfl) rfl) ?_
  refine XO.q (Quiet.guardT rfl rfl fun g15 p15 => Q.fieldAddr rfl) ?_
  refine XO.q (Quiet.guardT rfl rfl fun g16 p16 => Q.ld (lzv g16 rfl) rfl) ?_
  refine XO.q (Quiet.guardT rfl rfl fun g17 p17 => Q.leq (lzv g17 rfl) (lzv g17 rfl)) ?_
  refine XO.q (Q.and rfl (fun hp => lzv hp rfl)) ?_
  refine XO.q (Q.move rfl) ?_
  refine XO.q (Quiet.guardT rfl rfl fun g20 p20 => Q.fieldAddr rfl) ?_
  refine XO.q (Quiet.guardT rfl rfl fun g21 p21 => Q.ld (lzv g21 rfl) rfl) ?_
  refine XO.q (Quiet.guardT rfl rfl fun g22 p22 => Q.geq (lzv g22 rfl) rfl) ?_
  refine XO.q (Q.and rfl (fun hp => lzv hp rfl)) ?_
  refine XO.q (Q.move rfl) ?_
  refine XO.q (Quiet.guardT rfl rfl fun g25 p25 => Q.fieldAddr rfl) ?_
  refine XO.q (Quiet.guardT rfl rfl fun g26 p26 => Q.ld (lzv g26 rfl) rfl) ?_
  refine XO.q (Quiet.guardT rfl rfl fun g27 p27 => Q.leq (lzv g27 rfl) rfl) ?_
  refine XO.q (Q.and rfl (fun hp => lzv hp rfl)) ?_
  refine XO.q (Q.move rfl) ?_
  refine XO.q (Quiet.guardT rfl rfl fun g30 p30 => Q.fieldAddr rfl) ?_
  refine XO.q (Quiet.guardT rfl rfl fun g31 p31 => Q.ld (lzv g31 rfl) rfl) ?_
  refine XO.q (Quiet.guardT rfl rfl fun g32 p32 => Q.geq (lzv g32 rfl) rfl) ?_
  refine XO.q (Q.and rfl (fun hp => lzv hp rfl)) ?_
  refine XO.q (Q.move rfl) ?_
  refine XO.q (Quiet.guardT rfl rfl fun g35 p35 => Q.fieldAddr rfl) ?_
  refine XO.q (Quiet.guardT rfl rfl fun g36 p36 => Q.ld (lzv g36 rfl) rfl) ?_
  refine XO.lit1 [_] [_] [o.calls] encI rfl rfl (by rfl) (by rfl) rfl (by rfl) (fun g37 => by exact .c 0 1 (lzv g37 rfl) rfl rfl (.n _)) (fun _ => rfl) (by rfl) rfl (fun _ => by infer_instance) rfl (fun v37 h37 O37 => ?_)
  refine XO.gcallT rfl rfl Try.call75 rfl (fun g38 => .c rfl (.c (lzv g38 rfl) .n)) rfl (fun g38 p38 => by haveI := O37 g38; exact kin_spec 4 v37 h37 [o.calls]) ?_
  refine XO.q (Q.and rfl (fun hp => lzv hp rfl)) ?_
  refine XO.q (Q.move rfl) ?_
  refine XO.q (Quiet.guardT rfl rfl fun g41 p41 => Q.fieldAddr rfl) ?_
  refine XO.q (Quiet.guardT rfl rfl fun g42 p42 => Q.ld (lzv g42 rfl) rfl) ?_
  refine XO.lit1 [_] [_] [o.pause] encI rfl rfl (by rfl) (by rfl) rfl (by rfl) (fun g43 => by exact .c 0 1 (lzv g43 rfl) rfl rfl (.n _)) (fun _ => rfl) (by rfl) rfl (fun _ => by infer_instance) rfl (fun v43 h43 O43 => ?_)
  refine XO.gcallT rfl rfl Try.call75 rfl (fun g44 => .c rfl (.c (lzv g44 rfl) .n)) rfl (fun g44 p44 => by haveI := O43 g44; exact kin_spec 24 v43 h43 [o.pause]) ?_
  refine XO.q (Q.and rfl (fun hp => lzv hp rfl)) ?_
  refine XO.q (Q.assign rfl) ?_
  refine XO.done ?_
  refine XK.rt [] Try.func95 Try.results95 (.t rfl .n) ?_
  exact ⟨rfl, rfl⟩
theorem patterns_spec (o : KOffer) (ok : OfferOk 24 o) : Spec Try.prog 96 #[.agg #[.int .i64 o.beg, .int .i64 o.fin, .int .i64 o.power, .int .i64 o.hours, .int .i64 o.calls, .int .i64 o.pause]] [] [] (fun v hs => ∃ ho us K, hs = [ho, K] ∧ OArr v encV 1 30 ho us ∧ RowsK us K (patternsG o)) := by
  have o1 := ok.b0
  have o2 := ok.bf
  have o3 := ok.fn
  have o7 := ok.c0
  have nV : OArr (.slice none 0 0) encV 1 30 emp ([] : List Value) := OArr.nil (fun _ => rfl)
  have nI : Arr (.slice none 0 0) encI 1 emp ([] : List Int) := OArr.arr (s := (OArr.nil (fun _ => rfl) : OArr (.slice none 0 0) encI 1 3 emp ([] : List Int)))
  refine Spec.intro (fn := Try.f96) (N := 12) Try.func96 rfl Try.ntmps96 rfl fun B => ?_
  refine XK.seq ?_
  refine XK.region rfl ?_
  refine XO.box rfl fun b1 => ?_
  refine XO.q (Q.assign rfl) ?_
  refine XO.done ?_
  refine XK.seq ?_
  refine XK.region rfl ?_
  refine XO.alloc fun b3 => ?_
  refine XO.done ?_
  refine XK.seq ?_
  refine XK.region rfl ?_
  refine XO.alloc fun b4 => ?_
  refine XO.done ?_
  refine XK.seq ?_
  refine XK.region rfl ?_
  refine XO.q (Q.func (fun _ he => rfl) (fun _ he => evs_rel he rfl)) ?_
  refine XO.st rfl rfl rfl ?_
  refine XO.done ?_
  refine XK.seq ?_
  refine XK.seq ?_
  refine XK.region rfl ?_
  refine XO.q (Q.ld rfl rfl) ?_
  refine XO.q (Q.fieldAddr rfl) ?_
  refine XO.q (Q.ld rfl rfl) ?_
  refine XO.drop (o' := [blk b3 [.slice none 0 0] 33, emp, emp, emp, blk b1 [.int .i64 o.beg, .int .i64 o.fin, .int .i64 o.power, .int .i64 o.hours, .int .i64 o.calls, .int .i64 o.pause] 44, blk b4 [.func (.func 116) #[] #[ptr b3 0, ptr b1 0, ptr b4 0]] 174]) ?_
  refine XO.vcall rfl rfl (VSpec.fn (fst := []) (cap := [ptr b3 0, ptr b1 0, ptr b4 0]) Try.call116 rfl (begin_spec o ok b3 b1 b4 o.calls.toNat [] (.slice none 0 0) emp o.beg (by omega) (by rw [List.length_nil]; omega) [] (Nat.zero_le _) (.slice none 0 0) emp emp [] RowsK.nil)) fun v9 s9 R9 => ?_
  obtain ⟨vo3, ho3, us3, K3, rfl, rfl, O3, R3, L3⟩ := R9
  dsimp only [List.cons_append, List.nil_append]
  refine XO.q (Q.not rfl) ?_
  refine XO.done ?_
  refine XK.if rfl (fun c0 => ?_) (fun c0 => ?_)
  · have _t0 := True.intro
    refine XK.seq ?_
    refine XK.region rfl ?_
    refine XO.q (Q.assign rfl) ?_
    refine XO.done ?_
    refine XK.rt [emp, emp] Try.func96 Try.results96 (.t rfl .n) ?_
    rw [patterns_no c0]
    exact ⟨emp, [], emp, rfl, nV, RowsK.nil⟩
  · have _t0 := True.intro
    have c0b := Decidable.of_not_not c0
    rw [patterns_yes c0b] at R3
    refine XK.skip ?_
    refine XK.seq ?_
    refine XK.region rfl ?_
    refine XO.q (Q.ld rfl rfl) ?_
    refine XO.q (Q.assign rfl) ?_
    refine XO.done ?_
    refine XK.rt [ho3, K3] Try.func96 Try.results96 (.t rfl .n) ?_
    exact ⟨ho3, us3, K3, rfl, O3, R3⟩
theorem offered_spec (d : KDay) (vh vj : Value) (hh hj : PHeap) [ih : Arr vh encHour 6 hh d.hours] [ij : Arr vj encJob 4 hj d.jobs] (o : KOffer) : Spec Try.prog 50 #[.agg #[vh, .int .i64 d.store.energy, .int .i64 d.store.full, .int .i64 d.store.power, .int .i64 d.store.fin, vj, .int .i64 d.most, .int .i64 d.peak], .agg #[.int .i64 o.beg, .int .i64 o.fin, .int .i64 o.power, .int .i64 o.hours, .int .i64 o.calls, .int .i64 o.pause]] [] [hh, hj] (fun v hs => ∃ vo ho us K, v = .tuple #[vo, .int .i64 (offeredG d o).2] ∧ hs = [ho, K] ∧ OArr vo encV 1 30 ho us ∧ RowsK us K (offeredG d o).1) := by
  have lh := ih.le
  have nV : OArr (.slice none 0 0) encV 1 30 emp ([] : List Value) := OArr.nil (fun _ => rfl)
  refine Spec.intro (fn := Try.f50) (N := 25) Try.func50 rfl Try.ntmps50 rfl fun B => ?_
  refine XK.seq ?_
  refine XK.region rfl ?_
  refine XO.box rfl fun b2 => ?_
  refine XO.box rfl fun b3 => ?_
  refine XO.q (Q.assign rfl) ?_
  refine XO.q (Q.assign rfl) ?_
  refine XO.done ?_
  refine XK.seq ?_
  refine XK.seq ?_
  refine XK.region rfl ?_
  refine XO.q (Q.ldA [_, _, _, _, _, _, _, _] rfl rfl rfl) ?_
  refine XO.call Try.call29 rfl rfl rfl (Check_spec d vh vj hh hj) fun v9 s9 R9 => ?_
  obtain ⟨rfl, rfl⟩ := R9
  dsimp only [List.cons_append, List.nil_append]
  refine XO.q (Q.assign rfl) ?_
  refine XO.done ?_
  refine XK.seq ?_
  refine XK.region rfl ?_
  refine XO.q (Q.move rfl) ?_
  refine XO.q (Q.neq rfl rfl) ?_
  refine XO.done ?_
  refine XK.if rfl (fun c0 => ?_) (fun c0 => ?_)
  · have _t0 := True.intro
    refine XK.seq ?_
    refine XK.region rfl ?_
    refine XO.q (Q.move rfl) ?_
    refine XO.q (Q.assign rfl) ?_
    refine XO.q (Q.assign rfl) ?_
    refine XO.done ?_
    refine XK.rt [emp, emp] Try.func50 Try.results50 (.t rfl (.t rfl .n)) ?_
    have e : offeredG d o = ([], kcheck d) := by rw [offeredG, if_pos c0]
    rw [e]
    exact ⟨.slice none 0 0, emp, [], emp, rfl, rfl, nV, RowsK.nil⟩
  · have _t0 := True.intro
    have ok := kcheck_iff.1 (Decidable.of_not_not c0)
    refine XK.skip ?_
    refine XK.seq ?_
    refine XK.seq ?_
    refine XK.region rfl ?_
    refine XO.q (Q.ldA [_, _, _, _, _, _] rfl rfl rfl) ?_
    refine XO.q (Q.fieldAddr rfl) ?_
    refine XO.q (Q.ld rfl rfl) ?_
    refine XO.len rfl fun l16 => ?_
    refine XO.call Try.call95 rfl rfl rfl (oright_spec o (d.hours.length : Int)) fun v17 s17 R17 => ?_
    obtain ⟨rfl, rfl⟩ := R17
    dsimp only [List.cons_append, List.nil_append]
    refine XO.q (Q.not rfl) ?_
    refine XO.done ?_
    refine XK.if rfl (fun c1 => ?_) (fun c1 => ?_)
    · have _t1 := True.intro
      refine XK.seq ?_
      refine XK.region rfl ?_
      refine XO.q (Q.assign rfl) ?_
      refine XO.q (Q.assign rfl) ?_
      refine XO.done ?_
      refine XK.rt [emp, emp] Try.func50 Try.results50 (.t rfl (.t rfl .n)) ?_
      have e : offeredG d o = ([], 100) := by rw [offeredG, if_neg c0, if_pos c1]
      rw [e]
      exact ⟨.slice none 0 0, emp, [], emp, rfl, rfl, nV, RowsK.nil⟩
    · have _t1 := True.intro
      have ofk := Decidable.of_not_not c1
      refine XK.skip ?_
      refine XK.seq ?_
      refine XK.region rfl ?_
      refine XO.q (Q.ldA [_, _, _, _, _, _] rfl rfl rfl) ?_
      refine XO.call Try.call96 rfl rfl rfl (patterns_spec o ((offerR_iff.1 ofk).wide (by have := ok.h2; omega))) fun v20 s20 R20 => ?_
      obtain ⟨ho, us, K, rfl, OO, RO⟩ := R20
      dsimp only [List.cons_append, List.nil_append]
      have RL := RO.1
      refine XO.q (Q.assign rfl) ?_
      refine XO.done ?_
      refine XK.seq ?_
      refine XK.seq ?_
      refine XK.region rfl ?_
      refine XO.q (Q.move rfl) ?_
      refine XO.len rfl fun l22 => ?_
      refine XO.q (Q.eql rfl rfl) ?_
      refine XO.done ?_
      refine XK.if rfl (fun c2 => ?_) (fun c2 => ?_)
      · have _t2 := True.intro
        refine XK.seq ?_
        refine XK.region rfl ?_
        refine XO.q (Q.assign rfl) ?_
        refine XO.q (Q.assign rfl) ?_
        refine XO.done ?_
        refine XK.rt [emp, emp] Try.func50 Try.results50 (.t rfl (.t rfl .n)) ?_
        have e : offeredG d o = ([], 8) := by rw [offeredG, if_neg c0, if_neg c1, if_pos (by omega)]
        rw [e]
        exact ⟨.slice none 0 0, emp, [], emp, rfl, rfl, nV, RowsK.nil⟩
      · have _t2 := True.intro
        refine XK.skip ?_
        refine XK.seq ?_
        refine XK.region rfl ?_
        refine XO.q (Q.move rfl) ?_
        refine XO.q (Q.assign rfl) ?_
        refine XO.q (Q.assign rfl) ?_
        refine XO.done ?_
        refine XK.rt [ho, K] Try.func50 Try.results50 (.t rfl (.t rfl .n)) ?_
        have e : offeredG d o = (patternsG o, 0) := by rw [offeredG, if_neg c0, if_neg c1, if_neg (by omega)]
        rw [e]
        exact ⟨v20, ho, us, K, rfl, rfl, OO, RO⟩
theorem Patterns_spec (d : KDay) (vh vj : Value) (hh hj : PHeap) [ih : Arr vh encHour 6 hh d.hours] [ij : Arr vj encJob 4 hj d.jobs] (o : KOffer) : Spec Try.prog 20 #[.agg #[vh, .int .i64 d.store.energy, .int .i64 d.store.full, .int .i64 d.store.power, .int .i64 d.store.fin, vj, .int .i64 d.most, .int .i64 d.peak], .agg #[.int .i64 o.beg, .int .i64 o.fin, .int .i64 o.power, .int .i64 o.hours, .int .i64 o.calls, .int .i64 o.pause]] [] [hh, hj] (fun v hs => ∃ vo ho us K, v = .tuple #[vo, .int .i64 (offeredG d o).2] ∧ hs = [ho, K] ∧ OArr vo encV 1 30 ho us ∧ RowsK us K (offeredG d o).1) := by
  refine Spec.intro (fn := Try.f20) (N := 11) Try.func20 rfl Try.ntmps20 rfl fun B => ?_
  refine XK.seq ?_
  refine XK.region rfl ?_
  refine XO.box rfl fun b2 => ?_
  refine XO.box rfl fun b3 => ?_
  refine XO.q (Q.assign rfl) ?_
  refine XO.q (Q.assign rfl) ?_
  refine XO.done ?_
  refine XK.seq ?_
  refine XK.region rfl ?_
  refine XO.q (Q.ldA [_, _, _, _, _, _, _, _] rfl rfl rfl) ?_
  refine XO.q (Q.ldA [_, _, _, _, _, _] rfl rfl rfl) ?_
  refine XO.call Try.call50 rfl rfl rfl (offered_spec d vh vj hh hj o) fun v8 s8 R8 => ?_
  obtain ⟨vo, ho, us, K, rfl, rfl, OO, RO⟩ := R8
  dsimp only [List.cons_append, List.nil_append]
  refine XO.q (Q.extract rfl rfl) ?_
  refine XO.q (Q.extract rfl rfl) ?_
  refine XO.q (Q.assign rfl) ?_
  refine XO.q (Q.assign rfl) ?_
  refine XO.done ?_
  refine XK.rt [ho, K] Try.func20 Try.results20 (.t rfl (.t rfl .n)) ?_
  exact ⟨vo, ho, us, K, rfl, rfl, OO, RO⟩
end Go.X

set_option linter.unusedSimpArgs false
set_option linter.unusedVariables false
set_option maxRecDepth 20000
namespace Go.X
open Go.Proofs
theorem lim_rng {d : KDay} {o : KOffer} {base ch pat : List Int} (m0 : 0 ≤ d.most) (m1 : d.most ≤ 40) (p0 : 1 ≤ o.power) (p1 : o.power ≤ 40) (hb : ∀ i, i < base.length → -2000 ≤ base.getD i default + ch.getD i default ∧ base.getD i default + ch.getD i default ≤ 2000) {i : Nat} (hi : i < base.length) : -3000 ≤ (limL d o base ch pat).getD i default ∧ (limL d o base ch pat).getD i default ≤ 3000 := by
  have h := hb i hi
  rw [limL, range_at hi, limAt]
  split
  · unfold capH; omega
  · omega
set_option maxHeartbeats 2000000 in
theorem answer_spec (d : KDay) (vh vj : Value) (hh hj : PHeap) [ih : Arr vh encHour 6 hh d.hours] [ij : Arr vj encJob 4 hj d.jobs] (base : List Int) (vb : Value) (hb : PHeap) [jb : Arr vb encI 1 hb base] (p : KPlan) (vs vc : Value) (hs_ hc : PHeap) [js : Arr vs encI 1 hs_ p.starts] [jc : Arr vc encI 1 hc p.charge] (o : KOffer) (pat : List Int) (vt : Value) (ht : PHeap) [jt : Arr vt encI 1 ht pat] (ok : DayOk d) (ofk : OfferOk d.hours.length o) (bl : base.length = d.hours.length) (cl : p.charge.length = d.hours.length)
    (hr : ∀ i, i < base.length → (-1000 ≤ base.getD i default ∧ base.getD i default ≤ 1000) ∧ (-1000 ≤ p.charge.getD i default ∧ p.charge.getD i default ≤ 1000)) (pc : ∀ k, k < pat.length → Call o (pat.getD k default)) :
    Spec Try.prog 52 #[.agg #[vh, .int .i64 d.store.energy, .int .i64 d.store.full, .int .i64 d.store.power, .int .i64 d.store.fin, vj, .int .i64 d.most, .int .i64 d.peak], vb, .agg #[vs, vc, .int .i64 p.cost], .agg #[.int .i64 o.beg, .int .i64 o.fin, .int .i64 o.power, .int .i64 o.hours, .int .i64 o.calls, .int .i64 o.pause], vt] [] [hh, hj, hb, hs_, hc, ht] (fun v hs => ∃ v1 k1, v = .tuple #[v1, .bool (answerG d base p.charge o pat).2] ∧ hs = [k1] ∧ OArr v1 encI 1 3 k1 (answerG d base p.charge o pat).1) := by
  have lb := jb.le
  have lt := jt.le
  have h24 := ok.h2
  have m0 := ok.m0
  have m1 := ok.m1
  have s1 := ok.store.f0
  have s2 := ok.store.f1
  have s3 := ok.store.p0
  have s4 := ok.store.p1
  have s5 := ok.store.e0
  have s6 := ok.store.e1
  have o1 := ofk.b0
  have o2 := ofk.fn
  have o3 := ofk.h0
  have o4 := ofk.p0
  have o5 := ofk.p1
  have nI : OArr (.slice none 0 0) encI 1 3 emp ([] : List Int) := OArr.nil (fun _ => rfl)
  refine Spec.intro (fn := Try.f52) (N := 109) Try.func52 rfl Try.ntmps52 rfl fun B => ?_
  refine XK.seq ?_
  refine XK.region rfl ?_
  refine XO.box rfl fun b5 => ?_
  refine XO.box rfl fun b7 => ?_
  refine XO.box rfl fun b8 => ?_
  refine XO.q (Q.assign rfl) ?_
  refine XO.q (Q.assign rfl) ?_
  refine XO.done ?_
  refine XK.seq ?_
  refine XK.region rfl ?_
  refine XO.q (Q.fieldAddr rfl) ?_
  refine XO.q (Q.ld rfl rfl) ?_
  refine XO.lit [_] [_] [d.most] encI (by rfl) (by rfl) rfl (by rfl) (by exact .c 0 1 rfl rfl rfl (.n _)) (fun _ => rfl) (by rfl) rfl (by infer_instance) rfl fun v23 h23 O23 => ?_
  refine XO.q (Q.move rfl) ?_
  refine XO.len rfl fun l25 => ?_
  refine XO.call Try.call97 rfl rfl rfl (repeatI v23 h23 d.most base.length (by omega)) fun v26 s26 R26 => ?_
  obtain ⟨k26, rfl, O26⟩ := R26
  dsimp only [List.cons_append, List.nil_append]
  rw [← limT_start d o base p.charge pat] at O26
  refine XO.q (Q.assign rfl) ?_
  refine XO.done ?_
  refine XK.seq ?_
  refine XK.seq ?_
  refine XK.region rfl ?_
  refine XO.q (Q.move rfl) ?_
  refine XO.len rfl fun l28 => ?_
  refine XO.q (Q.move rfl) ?_
  refine XO.done ?_
  refine XK.block ?_
  refine XK.while (X := Nat × PHeap) [14, 15, 29, 30, 31, 32, 33, 34, 35, 36, 37, 38, 39, 40, 41, 42, 43, 44, 45, 46, 47, 48, 49, 50, 51, 52, 53, 54, 55, 56, 57, 58, 59] (fun ⟨k, kq⟩ => [(29, some (.int .i64 (k : Nat)))]) (fun ⟨k, kq⟩ => [kq]) (fun ⟨k, kq⟩ => k ≤ pat.length ∧ OArr v26 encI 1 3 kq (limT d o base p.charge pat k 0)) (fun ⟨k, kq⟩ => pat.length - k) (0, k26) [k26] rfl ⟨by omega, O26⟩ (.c rfl (.base 0 rfl rfl)) ?_
  rintro ⟨k, kq⟩ ⟨hk, OU⟩ ih0
  dsimp only [List.cons_append, List.nil_append] at ih0 ⊢
  refine XK.seq ?_
  refine XK.region rfl ?_
  refine XO.q (Q.lss rfl rfl) ?_
  refine XO.done ?_
  refine XK.seq ?_
  refine XK.if rfl (fun c0 => ?_) (fun c0 => ?_)
  · have _t0 := True.intro
    have pk := pc k (by omega)
    have pk1 := pk.1
    have pk2 := pk.2
    refine XK.skip ?_
    refine XK.seq ?_
    refine XK.block ?_
    refine XK.seq ?_
    refine XK.region rfl ?_
    refine XO.ix rfl rfl (by omega) (by omega) fun i31 => ?_
    refine XO.q (Q.ldE rfl (by first | assumption | omega) rfl) ?_
    refine XO.q (Q.assign rfl) ?_
    refine XO.done ?_
    refine XK.seq ?_
    refine XK.region rfl ?_
    refine XO.q (Q.move rfl) ?_
    refine XO.q (Q.assign rfl) ?_
    refine XO.done ?_
    refine XK.block ?_
    refine XK.while (X := Nat × Int × PHeap) [15, 34, 35, 36, 37, 38, 39, 40, 41, 42, 43, 44, 45, 46, 47, 48, 49, 50, 51, 52, 53, 54, 55, 56, 57, 58] (fun ⟨q, z, kr⟩ => [(15, some (.int .i64 z))]) (fun ⟨q, z, kr⟩ => [kr]) (fun ⟨q, z, kr⟩ => (q : Int) ≤ o.hours ∧ z = (pat.getD k default) + ((q : Nat) : Int) ∧ OArr v26 encI 1 3 kr (limT d o base p.charge pat k q)) (fun ⟨q, z, kr⟩ => o.hours.toNat - q) (0, (pat.getD k default), kq) [kq] rfl ⟨by (try dsimp only); omega, by (try dsimp only); omega, OU⟩ (.c rfl (.base 0 rfl rfl)) ?_
    rintro ⟨q, z, kr⟩ ⟨hq, hz, OT⟩ ih1
    dsimp only [List.cons_append, List.nil_append] at ih1 ⊢
    subst hz
    refine XK.seq ?_
    refine XK.seq ?_
    refine XK.region rfl ?_
    refine XO.q (Q.move rfl) ?_
    refine XO.q (Q.move rfl) ?_
    refine XO.q (Q.fieldAddr rfl) ?_
    refine XO.q (Q.ld rfl rfl) ?_
    refine XO.q (Q.add rfl rfl ⟨by omega, by omega⟩) ?_
    refine XO.q (Q.lss rfl rfl) ?_
    refine XO.done ?_
    refine XK.if rfl (fun c1 => ?_) (fun c1 => ?_)
    · have _t1 := True.intro
      have ha : ((pat.getD k default) + ((q : Nat) : Int)).toNat < base.length := by omega
      have hra := hr ((pat.getD k default) + ((q : Nat) : Int)).toNat ha
      have tl := limT_len d o base p.charge pat k q
      refine XK.skip ?_
      refine XK.seq ?_
      refine XK.block ?_
      refine XK.drawn [0, 1, 2, 3, 4, 5, 6, 7, 8, 9, 10, 11, 12, 13, 14, 15, 16] [b7, b8] [kr] (.q 0 (.q 1 (.q 2 (.q 3 (.q 4 (.q 5 (.q 6 (.q 7 (.q 8 (.q 9 (.q 10 (.q 11 (.q 12 (.q 13 (.q 14 (.q 15 (.q 16 (.br 17 false .done .stop)))))))))))))))))) Try.mixed rfl (by kernel_rfl) ?_
      refine XT.q rfl rfl (Q.move rfl) ?_
      refine XT.q rfl rfl (Q.move rfl) ?_
      refine XT.q rfl rfl (Q.move rfl) ?_
      refine XT.q rfl rfl (Q.move rfl) ?_
      refine XT.ix rfl rfl rfl rfl (by omega) (by omega) fun i46 => ?_
      refine XT.q rfl rfl (Q.ldE rfl (by first | assumption | omega) rfl) ?_
      refine XT.q rfl rfl (Q.fieldAddr rfl) ?_
      refine XT.q rfl rfl (Q.ld rfl rfl) ?_
      refine XT.q rfl rfl (Q.move rfl) ?_
      refine XT.ix rfl rfl rfl rfl (by omega) (by omega) fun i51 => ?_
      refine XT.q rfl rfl (Q.ldE rfl (by first | assumption | omega) rfl) ?_
      refine XT.q rfl rfl (Q.add rfl rfl ⟨by omega, by omega⟩) ?_
      refine XT.q rfl rfl (Q.max rfl rfl) ?_
      refine XT.q rfl rfl (Q.fieldAddr rfl) ?_
      refine XT.q rfl rfl (Q.ld rfl rfl) ?_
      refine XT.q rfl rfl (Q.sub rfl rfl ⟨by omega, by omega⟩) ?_
      refine XT.ix rfl rfl rfl rfl (by omega) (by omega) fun i58 => ?_
      refine XT.stE _ rfl rfl rfl rfl rfl (by assumption) rfl rfl (fun h8_17 O8_17 => ⟨inferInstance, ?_⟩) XT.stop
      rw [show max (base.getD ((pat.getD k default) + ((q : Nat) : Int)).toNat default + p.charge.getD ((pat.getD k default) + ((q : Nat) : Int)).toNat default) 0 - o.power = capH o base p.charge ((pat.getD k default) + ((q : Nat) : Int)).toNat from rfl, limT_step ha (by omega)] at O8_17
      refine XT.done ?_
      refine XK.inBlock ?_
      refine XK.region rfl ?_
      refine XO.q (Q.move rfl) ?_
      refine XO.q (Q.add rfl rfl ⟨by omega, by omega⟩) ?_
      refine XO.q (Q.assign rfl) ?_
      refine XO.done ?_
      exact ih1 (q + 1, _, h8_17) _ _ ⟨by dsimp only; omega, by (try dsimp only); omega, O8_17⟩ (by first | omega | (dsimp only; omega)) (.c rfl (.base 53 rfl rfl)) inferInstance
    · have _t1 := True.intro
      have hqe : ((q : Nat) : Int) = o.hours := by omega
      refine XK.exit rfl ?_
      refine XK.inBlock ?_
      refine XK.region rfl ?_
      refine XO.q (Q.add rfl rfl ⟨by omega, by omega⟩) ?_
      refine XO.q (Q.move rfl) ?_
      refine XO.done ?_
      exact ih0 (k + 1, kr) _ _ ⟨by dsimp only; omega, by dsimp only; rw [← limT_all (by omega) hqe]; exact OT⟩ (by first | omega | (dsimp only; omega)) (.c rfl (.base 75 rfl rfl)) inferInstance
  · have _t0 := True.intro
    have hkl : k = pat.length := by omega
    subst hkl
    rw [limT_end] at OU
    refine XK.exit rfl ?_
    refine XK.seq ?_
    refine XK.region rfl ?_
    refine XO.q (Q.assign rfl) ?_
    refine XO.done ?_
    refine XK.seq ?_
    refine XK.region rfl ?_
    refine XO.q (Q.fieldAddr rfl) ?_
    refine XO.q (Q.fieldAddr rfl) ?_
    refine XO.q (Q.ld rfl rfl) ?_
    refine XO.q (Q.assign rfl) ?_
    refine XO.done ?_
    refine XK.seq ?_
    refine XK.seq ?_
    refine XK.region rfl ?_
    refine XO.q (Q.move rfl) ?_
    refine XO.len rfl fun l64 => ?_
    refine XO.q (Q.move rfl) ?_
    refine XO.done ?_
    refine XK.block ?_
    refine XK.while (X := Nat × Value × PHeap) [10, 11, 16, 17, 18, 19, 20, 65, 66, 67, 68, 69, 70, 71, 72, 73, 74, 75, 76, 77, 78, 79, 80, 81, 82, 83, 84, 85, 86, 87, 88, 89, 90, 91, 92, 93, 94, 95, 96, 97, 98, 99, 100, 101, 102] (fun ⟨i, vo, ko⟩ => [(16, some (vo)), (17, some (.int .i64 (ansTo d base (limL d o base p.charge pat) i).e)), (65, some (.int .i64 (i : Nat)))]) (fun ⟨i, vo, ko⟩ => [ko]) (fun ⟨i, vo, ko⟩ => i ≤ base.length ∧ OArr vo encI 1 3 ko (ansTo d base (limL d o base p.charge pat) i).l ∧ (ansTo d base (limL d o base p.charge pat) i).ok = true ∧ 0 ≤ (ansTo d base (limL d o base p.charge pat) i).e ∧ (ansTo d base (limL d o base p.charge pat) i).e ≤ d.store.full ∧ (ansTo d base (limL d o base p.charge pat) i).l.length ≤ i) (fun ⟨i, vo, ko⟩ => base.length - i) (0, .slice none 0 0, emp) [emp] rfl ⟨by omega, nI, rfl, s5, s6, by simp [ansTo]⟩ (.c rfl (.c rfl (.c rfl (.base 0 rfl rfl)))) ?_
    rintro ⟨i, vo, ko⟩ ⟨hi, OA, hok, e0, e1, al⟩ ih2
    dsimp only [List.cons_append, List.nil_append] at ih2 ⊢
    refine XK.seq ?_
    refine XK.region rfl ?_
    refine XO.q (Q.lss rfl rfl) ?_
    refine XO.done ?_
    refine XK.seq ?_
    refine XK.if rfl (fun c2 => ?_) (fun c2 => ?_)
    · have _t2 := True.intro
      have hri := hr i (by omega)
      have lr := lim_rng (d := d) (o := o) (pat := pat) (ch := p.charge) m0 m1 o4 o5 (fun j hj => by have h2 := hr j hj; omega) (show i < base.length by omega)
      have ll : (limL d o base p.charge pat).length = base.length := range_len
      refine XK.skip ?_
      refine XK.seq ?_
      refine XK.block ?_
      refine XK.seq ?_
      refine XK.region rfl ?_
      refine XO.q (Q.move rfl) ?_
      refine XO.ix rfl rfl (by omega) (by omega) fun i68 => ?_
      refine XO.q (Q.ldE rfl (by first | assumption | omega) rfl) ?_
      refine XO.q (Q.assign rfl) ?_
      refine XO.q (Q.assign rfl) ?_
      refine XO.done ?_
      refine XK.seq ?_
      refine XK.drawn [0, 1, 2, 3, 4, 5, 6, 7, 8, 9, 10, 11, 12, 13, 14, 15] [b5] [kq] (.q 0 (.q 1 (.q 2 (.q 3 (.q 4 (.q 5 (.q 6 (.q 7 (.q 8 (.q 9 (.q 10 (.q 11 (.q 12 (.q 13 (.q 14 (.q 15 .done)))))))))))))))) Try.mixed rfl (by kernel_rfl) ?_
      refine XT.q rfl rfl (Q.fieldAddr rfl) ?_
      refine XT.q rfl rfl (Q.fieldAddr rfl) ?_
      refine XT.q rfl rfl (Q.ld rfl rfl) ?_
      refine XT.q rfl rfl (Q.fieldAddr rfl) ?_
      refine XT.q rfl rfl (Q.fieldAddr rfl) ?_
      refine XT.q rfl rfl (Q.ld rfl rfl) ?_
      refine XT.q rfl rfl (Q.move rfl) ?_
      refine XT.q rfl rfl (Q.sub rfl rfl ⟨by omega, by omega⟩) ?_
      refine XT.q rfl rfl (Q.move rfl) ?_
      refine XT.q rfl rfl (Q.move rfl) ?_
      refine XT.ix rfl rfl rfl rfl (by omega) (by omega) fun i80 => ?_
      refine XT.q rfl rfl (Q.ldE rfl (by first | assumption | omega) rfl) ?_
      refine XT.q rfl rfl (Q.move rfl) ?_
      refine XT.q rfl rfl (Q.sub rfl rfl ⟨by omega, by omega⟩) ?_
      refine XT.q rfl rfl (Q.min3 rfl rfl rfl) ?_
      rw [show min (min d.store.power (d.store.full - (ansTo d base (limL d o base p.charge pat) i).e)) ((limL d o base p.charge pat).getD i default - base.getD i default) = (greC d (ansTo d base (limL d o base p.charge pat) i).e ((limL d o base p.charge pat).getD i default) (base.getD i default)) from rfl]
      refine XT.q rfl rfl (Q.assign rfl) ?_
      refine XT.done ?_
      refine XK.seq ?_
      refine XK.seq ?_
      refine XK.region rfl ?_
      refine XO.q (Q.move rfl) ?_
      refine XO.q (Q.fieldAddr rfl) ?_
      refine XO.q (Q.fieldAddr rfl) ?_
      refine XO.q (Q.ld rfl rfl) ?_
      refine XO.q (Q.neg rfl ⟨by omega, by omega⟩) ?_
      rw [show (0 : Int) - d.store.power = -d.store.power by omega]
      refine XO.q (Q.move rfl) ?_
      refine XO.q (Q.neg rfl ⟨by omega, by omega⟩) ?_
      rw [show (0 : Int) - (ansTo d base (limL d o base p.charge pat) i).e = -(ansTo d base (limL d o base p.charge pat) i).e by omega]
      refine XO.q (Q.max rfl rfl) ?_
      refine XO.q (Q.lss rfl rfl) ?_
      refine XO.done ?_
      refine XK.if rfl (fun c3 => ?_) (fun c3 => ?_)
      · have _t3 := True.intro
        have he : (ansTo d base (limL d o base p.charge pat) (i + 1)) = ⟨(ansTo d base (limL d o base p.charge pat) i).l, (ansTo d base (limL d o base p.charge pat) i).e, false⟩ := by rw [ansTo, if_pos hok, if_pos c3]
        have hs : (ansTo d base (limL d o base p.charge pat) base.length) = (ansTo d base (limL d o base p.charge pat) (i + 1)) := ansTo_stay (by rw [he]) _ (by omega)
        refine XK.seq ?_
        refine XK.region rfl ?_
        refine XO.q (Q.move rfl) ?_
        refine XO.q (Q.assign rfl) ?_
        refine XO.q (Q.assign rfl) ?_
        refine XO.done ?_
        refine XK.rt [ko] Try.func52 Try.results52 (.t rfl (.t rfl .n)) ?_
        rw [answerG, hs, he]
        exact ⟨vo, ko, rfl, rfl, OA⟩
      · have _t3 := True.intro
        have he : (ansTo d base (limL d o base p.charge pat) (i + 1)) = ⟨(ansTo d base (limL d o base p.charge pat) i).l ++ [(greC d (ansTo d base (limL d o base p.charge pat) i).e ((limL d o base p.charge pat).getD i default) (base.getD i default))], (ansTo d base (limL d o base p.charge pat) i).e + (greC d (ansTo d base (limL d o base p.charge pat) i).e ((limL d o base p.charge pat).getD i default) (base.getD i default)), true⟩ := by rw [ansTo, if_pos hok, if_neg c3]
        have gr : 0 ≤ (ansTo d base (limL d o base p.charge pat) i).e + (greC d (ansTo d base (limL d o base p.charge pat) i).e ((limL d o base p.charge pat).getD i default) (base.getD i default)) ∧ (ansTo d base (limL d o base p.charge pat) i).e + (greC d (ansTo d base (limL d o base p.charge pat) i).e ((limL d o base p.charge pat).getD i default) (base.getD i default)) ≤ d.store.full := by unfold greC at c3 ⊢; omega
        have gr2 : -1000 ≤ (greC d (ansTo d base (limL d o base p.charge pat) i).e ((limL d o base p.charge pat).getD i default) (base.getD i default)) ∧ (greC d (ansTo d base (limL d o base p.charge pat) i).e ((limL d o base p.charge pat).getD i default) (base.getD i default)) ≤ 1000 := by unfold greC at c3 ⊢; omega
        refine XK.skip ?_
        refine XK.seq ?_
        refine XK.region rfl ?_
        refine XO.q (Q.move rfl) ?_
        refine XO.q (Q.move rfl) ?_
        refine XO.lit [_] [_] [(greC d (ansTo d base (limL d o base p.charge pat) i).e ((limL d o base p.charge pat).getD i default) (base.getD i default))] encI (by rfl) (by rfl) rfl (by rfl) (by exact .c 0 1 rfl rfl rfl (.n _)) (fun _ => rfl) (by rfl) rfl (by infer_instance) rfl fun v97 h97 O97 => ?_
        refine XO.append rfl rfl rfl rfl (by simp only [List.length_cons, List.length_nil]; omega) fun v98 h98 O98 => ?_
        refine XO.q (Q.assign rfl) ?_
        refine XO.done ?_
        refine XK.region rfl ?_
        refine XO.q (Q.move rfl) ?_
        refine XO.q (Q.move rfl) ?_
        refine XO.q (Q.add rfl rfl ⟨by omega, by omega⟩) ?_
        refine XO.q (Q.assign rfl) ?_
        refine XO.done ?_
        refine XK.inBlock ?_
        refine XK.region rfl ?_
        refine XO.q (Q.add rfl rfl ⟨by omega, by omega⟩) ?_
        refine XO.q (Q.move rfl) ?_
        refine XO.done ?_
        rw [show (ansTo d base (limL d o base p.charge pat) i).e + (greC d (ansTo d base (limL d o base p.charge pat) i).e ((limL d o base p.charge pat).getD i default) (base.getD i default)) = (ansTo d base (limL d o base p.charge pat) (i + 1)).e by rw [he]]
        exact ih2 (i + 1, v98, h98) _ _ ⟨by dsimp only; omega, by dsimp only; rw [he]; exact O98, by dsimp only; rw [he], by dsimp only; rw [he]; exact gr.1, by dsimp only; rw [he]; exact gr.2, by dsimp only; rw [he]; simp only [List.length_append, List.length_cons, List.length_nil]; omega⟩ (by first | omega | (dsimp only; omega)) (.c rfl (.c rfl (.c rfl (.base 90 rfl rfl)))) inferInstance
    · have _t2 := True.intro
      have hin : i = base.length := by omega
      subst hin
      refine XK.exit rfl ?_
      refine XK.seq ?_
      refine XK.drawn [0, 1, 2, 3, 4, 5, 6, 7] [b5] [] (.q 0 (.q 1 (.q 2 (.q 3 (.q 4 (.q 5 (.q 6 (.q 7 .done)))))))) Try.mixed rfl (by kernel_rfl) ?_
      refine XT.q rfl rfl (Q.move rfl) ?_
      refine XT.q rfl rfl (Q.move rfl) ?_
      refine XT.q rfl rfl (Q.fieldAddr rfl) ?_
      refine XT.q rfl rfl (Q.fieldAddr rfl) ?_
      refine XT.q rfl rfl (Q.ld rfl rfl) ?_
      refine XT.q rfl rfl (Q.geq rfl rfl) ?_
      refine XT.q rfl rfl (Q.assign rfl) ?_
      refine XT.q rfl rfl (Q.assign rfl) ?_
      refine XT.done ?_
      refine XK.rt [ko] Try.func52 Try.results52 (.t rfl (.t rfl .n)) ?_
      rw [answerG, hok]
      exact ⟨vo, ko, rfl, rfl, OA⟩
end Go.X

set_option linter.unusedSimpArgs false
set_option linter.unusedVariables false
set_option maxRecDepth 20000
namespace Go.X
open Go.Proofs
theorem ready_spec (d : KDay) (vh vj : Value) (hh hj : PHeap) [ih : Arr vh encHour 6 hh d.hours] [ij : Arr vj encJob 4 hj d.jobs] (p : KPlan) (vs vc : Value) (hs_ hc : PHeap) [js : Arr vs encI 1 hs_ p.starts] [jc : Arr vc encI 1 hc p.charge] (o : KOffer) : Spec Try.prog 51 #[.agg #[vh, .int .i64 d.store.energy, .int .i64 d.store.full, .int .i64 d.store.power, .int .i64 d.store.fin, vj, .int .i64 d.most, .int .i64 d.peak], .agg #[vs, vc, .int .i64 p.cost], .agg #[.int .i64 o.beg, .int .i64 o.fin, .int .i64 o.power, .int .i64 o.hours, .int .i64 o.calls, .int .i64 o.pause]] [] [hh, hj, hs_, hc] (fun v hs => ∃ vl ho us K vb kb bs, v = .tuple #[vl, vb, .int .i64 (readyG d p o)] ∧ hs = [ho, K, kb] ∧ OArr vl encV 1 30 ho us ∧ RowsK us K (offeredG d o).1 ∧ OArr vb encI 1 3 kb bs ∧ (readyG d p o = 0 → bs = (formG d p).1)) := by
  have nV : OArr (.slice none 0 0) encV 1 30 emp ([] : List Value) := OArr.nil (fun _ => rfl)
  have nI : OArr (.slice none 0 0) encI 1 3 emp ([] : List Int) := OArr.nil (fun _ => rfl)
  have off0 : (offeredG d o).2 ≠ 0 → (offeredG d o).1 = [] := fun h => by
    unfold offeredG at h ⊢
    split
    · rfl
    · rename_i h0
      rw [if_neg h0] at h
      split
      · rfl
      · rename_i h1
        rw [if_neg h1] at h
        split
        · rfl
        · rename_i h2
          rw [if_neg h2] at h
          exact absurd rfl h
  refine Spec.intro (fn := Try.f51) (N := 30) Try.func51 rfl Try.ntmps51 rfl fun B => ?_
  refine XK.seq ?_
  refine XK.region rfl ?_
  refine XO.box rfl fun b3 => ?_
  refine XO.box rfl fun b4 => ?_
  refine XO.box rfl fun b5 => ?_
  refine XO.q (Q.assign rfl) ?_
  refine XO.q (Q.assign rfl) ?_
  refine XO.q (Q.assign rfl) ?_
  refine XO.done ?_
  refine XK.seq ?_
  refine XK.region rfl ?_
  refine XO.q (Q.ldA [_, _, _, _, _, _, _, _] rfl rfl rfl) ?_
  refine XO.q (Q.ldA [_, _, _, _, _, _] rfl rfl rfl) ?_
  refine XO.call Try.call50 rfl rfl rfl (offered_spec d vh vj hh hj o) fun v15 s15 R15 => ?_
  obtain ⟨vo, ho, us, K, rfl, rfl, OO, RO⟩ := R15
  dsimp only [List.cons_append, List.nil_append]
  refine XO.q (Q.move rfl) ?_
  refine XO.q (Q.extract rfl rfl) ?_
  refine XO.q (Q.extract rfl rfl) ?_
  refine XO.q (Q.assign rfl) ?_
  refine XO.q (Q.assign rfl) ?_
  refine XO.done ?_
  refine XK.seq ?_
  refine XK.seq ?_
  refine XK.region rfl ?_
  refine XO.q (Q.move rfl) ?_
  refine XO.q (Q.neq rfl rfl) ?_
  refine XO.done ?_
  refine XK.if rfl (fun c0 => ?_) (fun c0 => ?_)
  · have _t0 := True.intro
    refine XK.seq ?_
    refine XK.region rfl ?_
    refine XO.q (Q.move rfl) ?_
    refine XO.q (Q.assign rfl) ?_
    refine XO.q (Q.assign rfl) ?_
    refine XO.q (Q.assign rfl) ?_
    refine XO.done ?_
    refine XK.rt [emp, emp, emp] Try.func51 Try.results51 (.t rfl (.t rfl (.t rfl .n))) ?_
    have e : readyG d p o = (offeredG d o).2 := by rw [readyG, if_pos c0]
    rw [e, off0 c0]
    exact ⟨.slice none 0 0, emp, [], emp, .slice none 0 0, emp, [], rfl, rfl, nV, RowsK.nil, nI, fun h => absurd h c0⟩
  · have _t0 := True.intro
    refine XK.skip ?_
    refine XK.seq ?_
    refine XK.region rfl ?_
    refine XO.q (Q.ldA [_, _, _, _, _, _, _, _] rfl rfl rfl) ?_
    refine XO.q (Q.ldA [_, _, _] rfl rfl rfl) ?_
    refine XO.call Try.call44 rfl rfl rfl (form_spec d vh vj hh hj p vs vc hs_ hc) fun v24 s24 R24 => ?_
    obtain ⟨v1, k1, rfl, rfl, O1⟩ := R24
    dsimp only [List.cons_append, List.nil_append]
    refine XO.q (Q.move rfl) ?_
    refine XO.q (Q.extract rfl rfl) ?_
    refine XO.q (Q.extract rfl rfl) ?_
    refine XO.q (Q.assign rfl) ?_
    refine XO.q (Q.assign rfl) ?_
    refine XO.done ?_
    refine XK.seq ?_
    refine XK.region rfl ?_
    refine XO.q (Q.move rfl) ?_
    refine XO.q (Q.move rfl) ?_
    refine XO.q (Q.move rfl) ?_
    refine XO.q (Q.assign rfl) ?_
    refine XO.q (Q.assign rfl) ?_
    refine XO.q (Q.assign rfl) ?_
    refine XO.done ?_
    refine XK.rt [ho, K, k1] Try.func51 Try.results51 (.t rfl (.t rfl (.t rfl .n))) ?_
    have e : readyG d p o = (formG d p).2 := by rw [readyG, if_neg c0]
    rw [e]
    exact ⟨vo, ho, us, K, v1, k1, _, rfl, rfl, OO, RO, O1, fun _ => rfl⟩
theorem ready_fine {d : KDay} {p : KPlan} {o : KOffer} (h : readyG d p o = 0) : (offeredG d o).2 = 0 ∧ (formG d p).2 = 0 := by
  unfold readyG at h
  split at h
  · rename_i h1; exact absurd h h1
  · rename_i h1; exact ⟨Decidable.of_not_not h1, h⟩
theorem ready_rng {d : KDay} {p : KPlan} (h : (formG d p).2 = 0) : ∀ i, i < (formG d p).1.length → (-1000 ≤ (formG d p).1.getD i default ∧ (formG d p).1.getD i default ≤ 1000) ∧ (-1000 ≤ p.charge.getD i default ∧ p.charge.getD i default ≤ 1000) := fun i hi => by
  have ff := form_fine h
  have fl : (formG d p).1.length = d.hours.length := by rw [ff.2.2.2.2.2.2]; exact needsL_len d _
  have r := (form_rng h i (by have := ff.2.2.2.1; omega)).2
  exact ⟨r.1, r.2.1⟩
theorem form_len {d : KDay} {p : KPlan} (h : (formG d p).2 = 0) : (formG d p).1.length = d.hours.length := by rw [(form_fine h).2.2.2.2.2.2]; exact needsL_len d _
theorem answer2_spec (b : Nat) (x y : Value) (K hy : PHeap) (xs ys : List Int) [ix : Arr x encI 1 K xs] [iy : Arr y encI 1 hy ys] : Spec Try.prog 54 #[x, ptr b 0] [] [K, blk b [y] 30, hy] (fun v hs => v = .bool (decide (xs = ys)) ∧ hs = []) := by
  refine Spec.intro (fn := Try.f54) (N := 7) Try.func54 rfl Try.ntmps54 rfl fun B => ?_
  refine XK.seq ?_
  refine XK.region rfl ?_
  refine XO.q (Q.assign rfl) ?_
  refine XO.done ?_
  refine XK.seq ?_
  refine XK.region rfl ?_
  refine XO.q (Q.move rfl) ?_
  refine XO.q (Q.ld rfl rfl) ?_
  refine XO.call Try.call23 rfl rfl rfl (equalI x y K hy xs ys) fun v6 s6 R6 => ?_
  obtain ⟨rfl, rfl⟩ := R6
  dsimp only [List.cons_append, List.nil_append]
  refine XO.q (Q.assign rfl) ?_
  refine XO.done ?_
  refine XK.rt [] Try.func54 Try.results54 (.t rfl .n) ?_
  exact ⟨rfl, rfl⟩
set_option maxHeartbeats 1000000 in
theorem Answer_spec (d : KDay) (vh vj : Value) (hh hj : PHeap) [ih : Arr vh encHour 6 hh d.hours] [ij : Arr vj encJob 4 hj d.jobs] (p : KPlan) (vs vc : Value) (hs_ hc : PHeap) [js : Arr vs encI 1 hs_ p.starts] [jc : Arr vc encI 1 hc p.charge] (o : KOffer) (pat : List Int) (vt : Value) (ht : PHeap) [jt : Arr vt encI 1 ht pat] : Spec Try.prog 22 #[.agg #[vh, .int .i64 d.store.energy, .int .i64 d.store.full, .int .i64 d.store.power, .int .i64 d.store.fin, vj, .int .i64 d.most, .int .i64 d.peak], .agg #[vs, vc, .int .i64 p.cost], .agg #[.int .i64 o.beg, .int .i64 o.fin, .int .i64 o.power, .int .i64 o.hours, .int .i64 o.calls, .int .i64 o.pause], vt] [] [hh, hj, hs_, hc, ht] (fun v hs => ∃ v1 k1, v = .tuple #[v1, .bool (AnswerG d p o pat).2.1, .int .i64 (AnswerG d p o pat).2.2] ∧ hs = [k1] ∧ OArr v1 encI 1 3 k1 (AnswerG d p o pat).1) := by
  have nI : OArr (.slice none 0 0) encI 1 3 emp ([] : List Int) := OArr.nil (fun _ => rfl)
  refine Spec.intro (fn := Try.f22) (N := 42) Try.func22 rfl Try.ntmps22 rfl fun B => ?_
  refine XK.seq ?_
  refine XK.region rfl ?_
  refine XO.box rfl fun b4 => ?_
  refine XO.box rfl fun b5 => ?_
  refine XO.box rfl fun b6 => ?_
  refine XO.box rfl fun b7 => ?_
  refine XO.q (Q.assign rfl) ?_
  refine XO.q (Q.assign rfl) ?_
  refine XO.q (Q.assign rfl) ?_
  refine XO.done ?_
  refine XK.seq ?_
  refine XK.region rfl ?_
  refine XO.q (Q.ldA [_, _, _, _, _, _, _, _] rfl rfl rfl) ?_
  refine XO.q (Q.ldA [_, _, _] rfl rfl rfl) ?_
  refine XO.q (Q.ldA [_, _, _, _, _, _] rfl rfl rfl) ?_
  refine XO.call Try.call51 rfl rfl rfl (ready_spec d vh vj hh hj p vs vc hs_ hc o) fun v20 s20 R20 => ?_
  obtain ⟨vl, ho, us, K, vb, kb, bs, rfl, rfl, OO, RO, OB, hbs⟩ := R20
  dsimp only [List.cons_append, List.nil_append]
  refine XO.q (Q.move rfl) ?_
  refine XO.q (Q.extract rfl rfl) ?_
  refine XO.q (Q.extract rfl rfl) ?_
  refine XO.q (Q.extract rfl rfl) ?_
  refine XO.q (Q.assign rfl) ?_
  refine XO.q (Q.assign rfl) ?_
  refine XO.q (Q.assign rfl) ?_
  refine XO.done ?_
  refine XK.seq ?_
  refine XK.seq ?_
  refine XK.region rfl ?_
  refine XO.q (Q.move rfl) ?_
  refine XO.q (Q.neq rfl rfl) ?_
  refine XO.done ?_
  refine XK.if rfl (fun c0 => ?_) (fun c0 => ?_)
  · have _t0 := True.intro
    refine XK.seq ?_
    refine XK.region rfl ?_
    refine XO.q (Q.move rfl) ?_
    refine XO.q (Q.assign rfl) ?_
    refine XO.q (Q.assign rfl) ?_
    refine XO.q (Q.assign rfl) ?_
    refine XO.done ?_
    refine XK.rt [emp] Try.func22 Try.results22 (.t rfl (.t rfl (.t rfl .n))) ?_
    have e : AnswerG d p o pat = ([], false, readyG d p o) := by rw [AnswerG, if_pos c0]
    rw [e]
    exact ⟨.slice none 0 0, emp, rfl, rfl, nI⟩
  · have _t0 := True.intro
    have hz := Decidable.of_not_not c0
    have e0 := ready_fine hz
    obtain rfl := hbs hz
    have ff := form_fine e0.2
    have of1 := offered_fine e0.1
    rw [of1.2.2.1] at RO
    refine XK.skip ?_
    refine XK.seq ?_
    refine XK.seq ?_
    refine XK.region rfl ?_
    refine XO.q (Q.move rfl) ?_
    refine XO.q (Q.func (fun _ he => rfl) (fun _ he => evs_rel he rfl)) ?_
    refine XO.call Try.call53 rfl rfl rfl (containsRows vl ho us K (patternsG o) RO 54 [ptr b7 0] [blk b7 [vt] 30, ht] (fun x => decide (x = pat)) Try.call54 (fun i hi => by haveI := RO.2 i hi; exact answer2_spec b7 (us.getD i default) vt K ht ((patternsG o).getD i default) pat)) fun v29 s29 R29 => ?_
    obtain ⟨rfl, rfl⟩ := R29
    dsimp only [List.cons_append, List.nil_append]
    refine XO.q (Q.not rfl) ?_
    refine XO.done ?_
    refine XK.if rfl (fun c1 => ?_) (fun c1 => ?_)
    · have _t1 := True.intro
      refine XK.seq ?_
      refine XK.region rfl ?_
      refine XO.q (Q.assign rfl) ?_
      refine XO.q (Q.assign rfl) ?_
      refine XO.q (Q.assign rfl) ?_
      refine XO.done ?_
      refine XK.rt [emp] Try.func22 Try.results22 (.t rfl (.t rfl (.t rfl .n))) ?_
      have e : AnswerG d p o pat = ([], false, 1) := by rw [AnswerG, if_neg c0, if_pos c1]
      rw [e]
      exact ⟨.slice none 0 0, emp, rfl, rfl, nI⟩
    · have _t1 := True.intro
      have c1a : (patternsG o).any (fun x => decide (x = pat)) = true := Decidable.of_not_not c1
      have pm : pat ∈ patternsG o := by
        obtain ⟨x, hx, hxe⟩ := List.any_eq_true.1 c1a
        rw [decide_eq_true_eq] at hxe
        exact hxe ▸ hx
      have pc : ∀ k, k < pat.length → Call o (pat.getD k default) := fun k hk => patterns_calls of1.2.1 pm _ (getD_memK hk)
      refine XK.skip ?_
      refine XK.seq ?_
      refine XK.region rfl ?_
      refine XO.q (Q.ldA [_, _, _, _, _, _, _, _] rfl rfl rfl) ?_
      refine XO.q (Q.move rfl) ?_
      refine XO.q (Q.ldA [_, _, _] rfl rfl rfl) ?_
      refine XO.q (Q.ldA [_, _, _, _, _, _] rfl rfl rfl) ?_
      refine XO.q (Q.ld rfl rfl) ?_
      refine XO.call Try.call52 rfl rfl rfl (answer_spec d vh vj hh hj (formG d p).1 vb kb p vs vc hs_ hc o pat vt ht of1.1 of1.2.1 (form_len e0.2) ff.2.2.2.1 (ready_rng e0.2) pc) fun v37 s37 R37 => ?_
      obtain ⟨v1, k1, rfl, rfl, O1⟩ := R37
      dsimp only [List.cons_append, List.nil_append]
      refine XO.q (Q.move rfl) ?_
      refine XO.q (Q.extract rfl rfl) ?_
      refine XO.q (Q.extract rfl rfl) ?_
      refine XO.q (Q.assign rfl) ?_
      refine XO.q (Q.assign rfl) ?_
      refine XO.done ?_
      refine XK.seq ?_
      refine XK.region rfl ?_
      refine XO.q (Q.move rfl) ?_
      refine XO.q (Q.move rfl) ?_
      refine XO.q (Q.assign rfl) ?_
      refine XO.q (Q.assign rfl) ?_
      refine XO.q (Q.assign rfl) ?_
      refine XO.done ?_
      refine XK.rt [k1] Try.func22 Try.results22 (.t rfl (.t rfl (.t rfl .n))) ?_
      have e : AnswerG d p o pat = ((answerG d (formG d p).1 p.charge o pat).1, (answerG d (formG d p).1 p.charge o pat).2, 0) := by rw [AnswerG, if_neg c0, if_neg c1]
      rw [e]
      exact ⟨v1, k1, rfl, rfl, O1⟩
set_option maxHeartbeats 1000000 in
theorem Deliver_spec (d : KDay) (vh vj : Value) (hh hj : PHeap) [ih : Arr vh encHour 6 hh d.hours] [ij : Arr vj encJob 4 hj d.jobs] (p : KPlan) (vs vc : Value) (hs_ hc : PHeap) [js : Arr vs encI 1 hs_ p.starts] [jc : Arr vc encI 1 hc p.charge] (o : KOffer) : Spec Try.prog 21 #[.agg #[vh, .int .i64 d.store.energy, .int .i64 d.store.full, .int .i64 d.store.power, .int .i64 d.store.fin, vj, .int .i64 d.most, .int .i64 d.peak], .agg #[vs, vc, .int .i64 p.cost], .agg #[.int .i64 o.beg, .int .i64 o.fin, .int .i64 o.power, .int .i64 o.hours, .int .i64 o.calls, .int .i64 o.pause]] [] [hh, hj, hs_, hc] (fun v hs => ∃ v1 k1, v = .tuple #[.bool (DeliverG d p o).1, v1, .int .i64 (DeliverG d p o).2.2] ∧ hs = [k1] ∧ One v1 ∧ Arr v1 encI 1 k1 (DeliverG d p o).2.1) := by
  have nI : OArr (.slice none 0 0) encI 1 3 emp ([] : List Int) := OArr.nil (fun _ => rfl)
  have nA : Arr (.slice none 0 0) encI 1 emp ([] : List Int) := OArr.arr (s := nI)
  refine Spec.intro (fn := Try.f21) (N := 46) Try.func21 rfl Try.ntmps21 rfl fun B => ?_
  refine XK.seq ?_
  refine XK.region rfl ?_
  refine XO.box rfl fun b3 => ?_
  refine XO.box rfl fun b4 => ?_
  refine XO.box rfl fun b5 => ?_
  refine XO.q (Q.assign rfl) ?_
  refine XO.q (Q.assign rfl) ?_
  refine XO.q (Q.assign rfl) ?_
  refine XO.done ?_
  refine XK.seq ?_
  refine XK.region rfl ?_
  refine XO.q (Q.ldA [_, _, _, _, _, _, _, _] rfl rfl rfl) ?_
  refine XO.q (Q.ldA [_, _, _] rfl rfl rfl) ?_
  refine XO.q (Q.ldA [_, _, _, _, _, _] rfl rfl rfl) ?_
  refine XO.call Try.call51 rfl rfl rfl (ready_spec d vh vj hh hj p vs vc hs_ hc o) fun v20 s20 R20 => ?_
  obtain ⟨vl, ho, us, K, vb, kb, bs, rfl, rfl, OO, RO, OB, hbs⟩ := R20
  dsimp only [List.cons_append, List.nil_append]
  refine XO.q (Q.move rfl) ?_
  refine XO.q (Q.extract rfl rfl) ?_
  refine XO.q (Q.extract rfl rfl) ?_
  refine XO.q (Q.extract rfl rfl) ?_
  refine XO.q (Q.assign rfl) ?_
  refine XO.q (Q.assign rfl) ?_
  refine XO.q (Q.assign rfl) ?_
  refine XO.done ?_
  refine XK.seq ?_
  refine XK.seq ?_
  refine XK.region rfl ?_
  refine XO.q (Q.move rfl) ?_
  refine XO.q (Q.neq rfl rfl) ?_
  refine XO.done ?_
  refine XK.if rfl (fun c0 => ?_) (fun c0 => ?_)
  · have _t0 := True.intro
    refine XK.seq ?_
    refine XK.region rfl ?_
    refine XO.q (Q.move rfl) ?_
    refine XO.q (Q.assign rfl) ?_
    refine XO.q (Q.assign rfl) ?_
    refine XO.q (Q.assign rfl) ?_
    refine XO.done ?_
    refine XK.rt [emp] Try.func21 Try.results21 (.t rfl (.t rfl (.t rfl .n))) ?_
    have e : DeliverG d p o = (false, [], readyG d p o) := by rw [DeliverG, if_pos c0]
    rw [e]
    exact ⟨.slice none 0 0, emp, rfl, rfl, inferInstance, nA⟩
  · have _t0 := True.intro
    have hz := Decidable.of_not_not c0
    have e0 := ready_fine hz
    obtain rfl := hbs hz
    have ff := form_fine e0.2
    have of1 := offered_fine e0.1
    rw [of1.2.2.1] at RO
    have RL := RO.1
    refine XK.skip ?_
    refine XK.seq ?_
    refine XK.seq ?_
    refine XK.region rfl ?_
    refine XO.q (Q.move rfl) ?_
    refine XO.len rfl fun l28 => ?_
    refine XO.q (Q.move rfl) ?_
    refine XO.done ?_
    refine XK.block ?_
    refine XK.while (X := Nat) [6, 7, 8, 13, 14, 15, 29, 30, 31, 32, 33, 34, 35, 36, 37, 38, 39, 40, 41, 42, 43, 44, 45] (fun i => [(29, some (.int .i64 (i : Nat)))]) (fun i => []) (fun i => i ≤ us.length ∧ ((patternsG o).take i).any (badPat d p o) = false) (fun i => us.length - i) (0) [] rfl ⟨by omega, rfl⟩ (.c rfl (.base 0 rfl rfl)) ?_
    rintro i ⟨hi, hg⟩ ih0
    dsimp only [List.cons_append, List.nil_append] at ih0 ⊢
    refine XK.seq ?_
    refine XK.region rfl ?_
    refine XO.q (Q.lss rfl rfl) ?_
    refine XO.done ?_
    refine XK.seq ?_
    refine XK.if rfl (fun c1 => ?_) (fun c1 => ?_)
    · have _t1 := True.intro
      have ar := RO.2 i (by omega)
      have pc : ∀ k, k < ((patternsG o).getD i default).length → Call o (((patternsG o).getD i default).getD k default) := fun k hk => patterns_calls of1.2.1 (getD_memK (show i < (patternsG o).length by omega)) _ (getD_memK hk)
      refine XK.skip ?_
      refine XK.seq ?_
      refine XK.block ?_
      refine XK.seq ?_
      refine XK.region rfl ?_
      refine XO.ix rfl rfl (by omega) (by omega) fun i31 => ?_
      refine XO.q (Q.ldE rfl (by first | assumption | omega) rfl) ?_
      refine XO.q (Q.assign rfl) ?_
      refine XO.done ?_
      refine XK.seq ?_
      refine XK.region rfl ?_
      refine XO.q (Q.ldA [_, _, _, _, _, _, _, _] rfl rfl rfl) ?_
      refine XO.q (Q.move rfl) ?_
      refine XO.q (Q.ldA [_, _, _] rfl rfl rfl) ?_
      refine XO.q (Q.ldA [_, _, _, _, _, _] rfl rfl rfl) ?_
      refine XO.q (Q.move rfl) ?_
      refine XO.call Try.call52 rfl rfl rfl (answer_spec d vh vj hh hj (formG d p).1 vb kb p vs vc hs_ hc o ((patternsG o).getD i default) (us.getD i default) K of1.1 of1.2.1 (form_len e0.2) ff.2.2.2.1 (ready_rng e0.2) pc) fun v39 s39 R39 => ?_
      obtain ⟨v1, k1, rfl, rfl, O1⟩ := R39
      dsimp only [List.cons_append, List.nil_append]
      refine XO.q (Q.move rfl) ?_
      refine XO.q (Q.extract rfl rfl) ?_
      refine XO.q (Q.extract rfl rfl) ?_
      refine XO.q (Q.assign rfl) ?_
      refine XO.q (Q.assign rfl) ?_
      refine XO.done ?_
      refine XK.seq ?_
      refine XK.region rfl ?_
      refine XO.q (Q.move rfl) ?_
      refine XO.q (Q.not rfl) ?_
      refine XO.done ?_
      refine XK.if rfl (fun c2 => ?_) (fun c2 => ?_)
      · have _t2 := True.intro
        have hbad : badPat d p o ((patternsG o).getD i default) = true := by unfold badPat; rw [Bool.not_eq_true']; exact Bool.eq_false_iff.2 c2
        refine XK.seq ?_
        refine XK.region rfl ?_
        refine XO.q (Q.move rfl) ?_
        refine XO.q (Q.assign rfl) ?_
        refine XO.q (Q.assign rfl) ?_
        refine XO.q (Q.assign rfl) ?_
        refine XO.done ?_
        refine XK.rt [K] Try.func21 Try.results21 (.t rfl (.t rfl (.t rfl .n))) ?_
        have e : DeliverG d p o = (false, (patternsG o).getD i default, 0) := by rw [DeliverG, if_neg c0, deliver_bad hg (by omega) hbad]
        rw [e]
        exact ⟨us.getD i default, K, rfl, rfl, inferInstance, ar⟩
      · have _t2 := True.intro
        have hgood : badPat d p o ((patternsG o).getD i default) = false := by unfold badPat; rw [Decidable.of_not_not c2]; rfl
        refine XK.skip ?_
        refine XK.inBlock ?_
        refine XK.region rfl ?_
        refine XO.q (Q.add rfl rfl ⟨by omega, by omega⟩) ?_
        refine XO.q (Q.move rfl) ?_
        refine XO.done ?_
        exact ih0 (i + 1) _ _ ⟨by omega, any_step hg (by omega) hgood⟩ (by first | omega | (dsimp only; omega)) (.c rfl (.base 43 rfl rfl)) inferInstance
    · have _t1 := True.intro
      refine XK.exit rfl ?_
      refine XK.seq ?_
      refine XK.region rfl ?_
      refine XO.q (Q.assign rfl) ?_
      refine XO.q (Q.assign rfl) ?_
      refine XO.q (Q.assign rfl) ?_
      refine XO.done ?_
      refine XK.rt [emp] Try.func21 Try.results21 (.t rfl (.t rfl (.t rfl .n))) ?_
      have e : DeliverG d p o = (true, [], 0) := by rw [DeliverG, if_neg c0, deliver_good (by rw [List.take_of_length_le (by omega)] at hg; exact hg)]
      rw [e]
      exact ⟨.slice none 0 0, emp, rfl, rfl, inferInstance, nA⟩
end Go.X

set_option linter.unusedSimpArgs false
set_option linter.unusedVariables false
set_option maxRecDepth 20000
namespace Go.X
open Go.Proofs
theorem byt_rngK (x : List UInt8) (i : Nat) : 0 ≤ (((x.getD i default).toNat : Nat) : Int) ∧ (((x.getD i default).toNat : Nat) : Int) ≤ 255 := by
  have := (x.getD i default).toNat_lt
  omega
theorem next_spec (vx : Value) (hx : PHeap) (x : List UInt8) [jx : Arr vx encU8 1 hx x] (b : Nat) (i : Nat) (i1 : i ≤ 1000000) (n : Int) (n0 : 0 < n) (n1 : n ≤ 1000000) : Spec Try.prog 26 #[ptr b 0, .int .i64 n] [blk b [vx, .int .i64 (((i : Nat) : Int))] 67] [hx] (fun v hs => v = .int .i64 (dg x i n) ∧ hs = [blk b [vx, .int .i64 (((i + 1 : Nat) : Int))] 67]) := by
  have lx := jx.le
  have br := byt_rngK x i
  refine Spec.intro (fn := Try.f26) (N := 36) Try.func26 rfl Try.ntmps26 rfl fun B => ?_
  refine XK.seq ?_
  refine XK.region rfl ?_
  refine XO.q (Q.assign rfl) ?_
  refine XO.done ?_
  refine XK.seq ?_
  refine XK.region rfl ?_
  refine XO.q (Q.move rfl) ?_
  refine XO.q (Q.nilCheck rfl) ?_
  refine XO.q (Q.fieldAddr rfl) ?_
  refine XO.q (Q.ld rfl rfl) ?_
  refine XO.q (Q.add rfl rfl ⟨by omega, by omega⟩) ?_
  rw [show ((i : Nat) : Int) + 1 = ((i + 1 : Nat) : Int) from rfl]
  refine XO.q (Q.nilCheck rfl) ?_
  refine XO.q (Q.fieldAddr rfl) ?_
  refine XO.st rfl rfl rfl ?_
  refine XO.done ?_
  refine XK.seq ?_
  refine XK.seq ?_
  refine XK.drawn [0, 1, 2, 3, 4, 5, 6, 7, 8, 9] [b] [] (.q 0 (.q 1 (.q 2 (.q 3 (.q 4 (.q 5 (.q 6 (.q 7 (.q 8 (.q 9 .done)))))))))) Try.mixed rfl (by kernel_rfl) ?_
  refine XT.q rfl rfl (Q.move rfl) ?_
  refine XT.q rfl rfl (Q.nilCheck rfl) ?_
  refine XT.q rfl rfl (Q.fieldAddr rfl) ?_
  refine XT.q rfl rfl (Q.ld rfl rfl) ?_
  refine XT.q rfl rfl (Q.move rfl) ?_
  refine XT.q rfl rfl (Q.nilCheck rfl) ?_
  refine XT.q rfl rfl (Q.fieldAddr rfl) ?_
  refine XT.q rfl rfl (Q.ld rfl rfl) ?_
  refine XT.q rfl rfl (Q.len rfl) ?_
  refine XT.q rfl rfl (Q.gtr rfl rfl) ?_
  refine XT.done ?_
  refine XK.if rfl (fun c0 => ?_) (fun c0 => ?_)
  · have _t0 := True.intro
    refine XK.seq ?_
    refine XK.region rfl ?_
    refine XO.q (Q.assign rfl) ?_
    refine XO.done ?_
    refine XK.rt [blk b [vx, .int .i64 (((i + 1 : Nat) : Int))] 67] Try.func26 Try.results26 (.t rfl .n) ?_
    exact ⟨by rw [dg_off (by omega) n0], rfl⟩
  · have _t0 := True.intro
    refine XK.skip ?_
    refine XK.seq ?_
    refine XK.drawn [0, 1, 2, 3, 4, 5, 6, 7, 8, 9, 10, 11, 12, 13, 14] [b] [] (.q 0 (.q 1 (.q 2 (.q 3 (.q 4 (.q 5 (.q 6 (.q 7 (.q 8 (.q 9 (.q 10 (.q 11 (.q 12 (.q 13 (.q 14 .done))))))))))))))) Try.mixed rfl (by kernel_rfl) ?_
    refine XT.q rfl rfl (Q.move rfl) ?_
    refine XT.q rfl rfl (Q.nilCheck rfl) ?_
    refine XT.q rfl rfl (Q.fieldAddr rfl) ?_
    refine XT.q rfl rfl (Q.ld rfl rfl) ?_
    refine XT.q rfl rfl (Q.move rfl) ?_
    refine XT.q rfl rfl (Q.nilCheck rfl) ?_
    refine XT.q rfl rfl (Q.fieldAddr rfl) ?_
    refine XT.q rfl rfl (Q.ld rfl rfl) ?_
    refine XT.q rfl rfl (Q.sub rfl rfl ⟨by omega, by omega⟩) ?_
    rw [show ((i + 1 : Nat) : Int) - 1 = ((i : Nat) : Int) by omega]
    refine XT.ix rfl rfl rfl rfl (by omega) (by omega) fun i31 => ?_
    refine XT.q rfl rfl (Q.ldE rfl (by first | assumption | omega) rfl) ?_
    refine XT.q rfl rfl (Q.conv rfl) ?_
    rw [wrap64_of ⟨by omega, by omega⟩]
    refine XT.q rfl rfl (Q.move rfl) ?_
    refine XT.q rfl rfl (Q.rem rfl rfl (by omega) (by omega)) ?_
    refine XT.q rfl rfl (Q.assign rfl) ?_
    refine XT.done ?_
    refine XK.rt [blk b [vx, .int .i64 (((i + 1 : Nat) : Int))] 67] Try.func26 Try.results26 (.t rfl .n) ?_
    exact ⟨rfl, rfl⟩
end Go.X

set_option linter.unusedSimpArgs false
set_option linter.unusedVariables false
set_option maxRecDepth 20000
namespace Go.X
open Go.Proofs
set_option maxHeartbeats 8000000 in
theorem Made_spec (vx : Value) (hx : PHeap) (x : List UInt8) [jx : Arr vx encU8 1 hx x] : Spec Try.prog 9 #[vx] [] [hx] (fun v hs => ∃ vh vj kh kj, v = .agg #[vh, .int .i64 (madeD x).store.energy, .int .i64 (madeD x).store.full, .int .i64 (madeD x).store.power, .int .i64 (madeD x).store.fin, vj, .int .i64 (madeD x).most, .int .i64 (madeD x).peak] ∧ hs = [kh, kj] ∧ OArr vh encHour 6 39 kh (madeD x).hours ∧ OArr vj encJob 4 77 kj (madeD x).jobs) := by
  have nH : OArr (.slice none 0 0) encHour 6 39 emp ([] : List KHour) := OArr.nil (fun _ => rfl)
  have nJ : OArr (.slice none 0 0) encJob 4 77 emp ([] : List KJob) := OArr.nil (fun _ => rfl)
  have r0 := dg_rng x 0 (n := 14) (by omega)
  have r1 := dg_rng x (0 + 1) (n := 30) (by omega)
  have r2 := dg_rng x (0 + 1 + 1) (n := 7) (by omega)
  have r3 := dg_rng x (0 + 1 + 1 + 1) (n := (dg x (0 + 1 + 1) (7)) + 1) (by omega)
  have r4 := dg_rng x (0 + 1 + 1 + 1 + 1) (n := (dg x (0 + 1 + 1) (7)) + 1) (by omega)
  have r5 := dg_rng x (0 + 1 + 1 + 1 + 1 + 1) (n := 2) (by omega)
  have rm := bit_mul (m := 7) r4.1 (by omega) r5.1 r5.2
  have r7 := dg_rng x (0 + 1 + 1 + 1 + 1 + 1 + 1 + 1) (n := 8) (by omega)
  obtain ⟨mn0, mn1, mn2⟩ := madeN_rng x
  have f7 : 0 < (dg x (0 + 1 + 1) (7)) + 1 ∧ (dg x (0 + 1 + 1) (7)) + 1 ≤ 1000000 := by omega
  have fn : (0 : Int) < (madeN x : Int) ∧ (madeN x : Int) ≤ 1000000 := by omega
  have pz0 : 0 ≤ 1000000 := by omega
  have pz1 : 0 + 1 ≤ 1000000 := by omega
  have pz2 : 0 + 1 + 1 ≤ 1000000 := by omega
  have pz3 : 0 + 1 + 1 + 1 ≤ 1000000 := by omega
  have pz4 : 0 + 1 + 1 + 1 + 1 ≤ 1000000 := by omega
  have pz5 : 0 + 1 + 1 + 1 + 1 + 1 ≤ 1000000 := by omega
  have pz6 : 0 + 1 + 1 + 1 + 1 + 1 + 1 ≤ 1000000 := by omega
  have pz7 : 0 + 1 + 1 + 1 + 1 + 1 + 1 + 1 ≤ 1000000 := by omega
  have pz8 : 0 + 1 + 1 + 1 + 1 + 1 + 1 + 1 + 1 ≤ 1000000 := by omega
  have mn3 : ((madeN x : Nat) : Int) = 2 + dg x (0 + 1 + 1 + 1 + 1 + 1 + 1 + 1) 8 := mn2
  clear mn2
  refine Spec.intro (fn := Try.f9) (N := 120) Try.func9 rfl Try.ntmps9 rfl fun B => ?_
  refine XK.seq ?_
  refine XK.region rfl ?_
  refine XO.alloc fun b2 => ?_
  refine XO.done ?_
  refine XK.seq ?_
  refine XK.region rfl ?_
  refine XO.q (Q.move rfl) ?_
  refine XO.q (Q.build [_, _] (.c 0 1 rfl rfl rfl (.n _))) ?_
  refine XO.box rfl fun b10 => ?_
  refine XO.q (Q.assign rfl) ?_
  refine XO.done ?_
  refine XK.seq ?_
  refine XK.region rfl ?_
  refine XO.q (Q.move rfl) ?_
  refine XO.call Try.call26 rfl rfl rfl (next_spec vx hx x b10 (0) pz0 (14) (by decide) (by decide)) fun v12 s12 R12 => ?_
  obtain ⟨rfl, rfl⟩ := R12
  dsimp only [List.cons_append, List.nil_append]
  refine XO.q (Q.add rfl rfl ⟨by omega, by omega⟩) ?_
  refine XO.q (Q.move rfl) ?_
  refine XO.call Try.call26 rfl rfl rfl (next_spec vx hx x b10 (0 + 1) pz1 (30) (by decide) (by decide)) fun v15 s15 R15 => ?_
  obtain ⟨rfl, rfl⟩ := R15
  dsimp only [List.cons_append, List.nil_append]
  refine XO.q (Q.build [_, _, _, _, _, _, _, _] (.c 6 1 rfl rfl rfl (.c 7 1 rfl rfl rfl (.n _)))) ?_
  refine XO.alloc fun b4 => ?_
  refine XO.st rfl rfl rfl ?_
  refine XO.done ?_
  refine XK.seq ?_
  refine XK.region rfl ?_
  refine XO.q (Q.move rfl) ?_
  refine XO.call Try.call26 rfl rfl rfl (next_spec vx hx x b10 (0 + 1 + 1) pz2 (7) (by decide) (by decide)) fun v18 s18 R18 => ?_
  obtain ⟨rfl, rfl⟩ := R18
  dsimp only [List.cons_append, List.nil_append]
  refine XO.q (Q.fieldAddr rfl) ?_
  refine XO.q (Q.fieldAddr rfl) ?_
  refine XO.st rfl rfl rfl ?_
  refine XO.done ?_
  refine XK.seq ?_
  refine XK.meet (X := Unit) [21, 22, 23, 24, 25, 26, 27, 28, 29, 30, 31, 32, 33, 34, 35, 36, 37, 38, 39, 40, 41, 42, 43] (fun _ => []) (fun _ => [blk b4 [.slice none 0 0, .int .i64 (dg x (0 + 1 + 1 + 1) ((dg x (0 + 1 + 1) (7)) + 1)), .int .i64 (dg x (0 + 1 + 1) (7)), .int .i64 (dg x (0 + 1 + 1 + 1 + 1 + 1 + 1) (5)), .int .i64 ((dg x (0 + 1 + 1 + 1 + 1) ((dg x (0 + 1 + 1) (7)) + 1)) * (dg x (0 + 1 + 1 + 1 + 1 + 1) (2))), .slice none 0 0, .int .i64 (4 + dg x 0 14), .int .i64 (dg x (0 + 1) (30))] 28, blk b10 [vx, .int .i64 (((0 + 1 + 1 + 1 + 1 + 1 + 1 + 1 : Nat) : Int))] 67]) (fun _ => True) [blk b4 [.slice none 0 0, .int .i64 0, .int .i64 (dg x (0 + 1 + 1) (7)), .int .i64 0, .int .i64 0, .slice none 0 0, .int .i64 (4 + dg x 0 14), .int .i64 (dg x (0 + 1) (30))] 28, blk b10 [vx, .int .i64 (((0 + 1 + 1 + 1 : Nat) : Int))] 67] ?_ ?_
  · rintro _ _
    dsimp only [List.cons_append, List.nil_append]
    refine XK.seq ?_
    refine XK.seq ?_
    refine XK.region rfl ?_
    refine XO.q (Q.move rfl) ?_
    refine XO.call Try.call26 rfl rfl rfl (next_spec vx hx x b10 (0 + 1 + 1 + 1 + 1 + 1 + 1 + 1) pz7 (8) (by decide) (by decide)) fun v45 s45 R45 => ?_
    obtain ⟨rfl, rfl⟩ := R45
    dsimp only [List.cons_append, List.nil_append]
    refine XO.q (Q.add rfl rfl ⟨by omega, by omega⟩) ?_
    refine XO.q (Q.move rfl) ?_
    refine XO.done ?_
    refine XK.block ?_
    refine XK.while (X := Nat × Value × PHeap) [5, 47, 48, 49, 50, 51, 52, 53, 54, 55, 56, 57, 58, 59, 60, 61, 62, 63, 64, 65, 66, 67, 68, 69, 70, 71, 72, 73, 74, 75, 76] (fun ⟨k, vh, kh⟩ => [(47, some (.int .i64 (k : Nat)))]) (fun ⟨k, vh, kh⟩ => [blk b4 [vh, .int .i64 (dg x (0 + 1 + 1 + 1) ((dg x (0 + 1 + 1) (7)) + 1)), .int .i64 (dg x (0 + 1 + 1) (7)), .int .i64 (dg x (0 + 1 + 1 + 1 + 1 + 1 + 1) (5)), .int .i64 ((dg x (0 + 1 + 1 + 1 + 1) ((dg x (0 + 1 + 1) (7)) + 1)) * (dg x (0 + 1 + 1 + 1 + 1 + 1) (2))), .slice none 0 0, .int .i64 (4 + dg x 0 14), .int .i64 (dg x (0 + 1) (30))] 28, blk b10 [vx, .int .i64 (((8 + 8 * k : Nat) : Int))] 67, kh]) (fun ⟨k, vh, kh⟩ => k ≤ madeN x ∧ OArr vh encHour 6 39 kh (madeHours x k)) (fun ⟨k, vh, kh⟩ => madeN x - k) (0, .slice none 0 0, emp) [blk b4 [.slice none 0 0, .int .i64 (dg x (0 + 1 + 1 + 1) ((dg x (0 + 1 + 1) (7)) + 1)), .int .i64 (dg x (0 + 1 + 1) (7)), .int .i64 (dg x (0 + 1 + 1 + 1 + 1 + 1 + 1) (5)), .int .i64 ((dg x (0 + 1 + 1 + 1 + 1) ((dg x (0 + 1 + 1) (7)) + 1)) * (dg x (0 + 1 + 1 + 1 + 1 + 1) (2))), .slice none 0 0, .int .i64 (4 + dg x 0 14), .int .i64 (dg x (0 + 1) (30))] 28, blk b10 [vx, .int .i64 (((0 + 1 + 1 + 1 + 1 + 1 + 1 + 1 + 1 : Nat) : Int))] 67, emp] rfl ⟨by omega, nH⟩ (.c rfl (.base 0 rfl rfl)) ?_
    rintro ⟨k, vh, kh⟩ ⟨hk, OH⟩ ih0
    dsimp only [List.cons_append, List.nil_append] at ih0 ⊢
    have hl := madeHours_len x k
    refine XK.seq ?_
    refine XK.region rfl ?_
    refine XO.q (Q.lss rfl rfl) ?_
    refine XO.done ?_
    refine XK.seq ?_
    refine XK.if rfl (fun c0 => ?_) (fun c0 => ?_)
    · have _t0 := True.intro
      have pk0 : 8 + 8 * k ≤ 1000000 := by omega
      have pk1 : 8 + 8 * k + 1 ≤ 1000000 := by omega
      have pk2 : 8 + 8 * k + 1 + 1 ≤ 1000000 := by omega
      have pk3 : 8 + 8 * k + 1 + 1 + 1 ≤ 1000000 := by omega
      have pk4 : 8 + 8 * k + 1 + 1 + 1 + 1 ≤ 1000000 := by omega
      have pk5 : 8 + 8 * k + 1 + 1 + 1 + 1 + 1 ≤ 1000000 := by omega
      have pk6 : 8 + 8 * k + 1 + 1 + 1 + 1 + 1 + 1 ≤ 1000000 := by omega
      have pk7 : 8 + 8 * k + 1 + 1 + 1 + 1 + 1 + 1 + 1 ≤ 1000000 := by omega
      have pk8 : 8 + 8 * k + 1 + 1 + 1 + 1 + 1 + 1 + 1 + 1 ≤ 1000000 := by omega
      clear pz0 pz1 pz2 pz3 pz4 pz5 pz6 pz7 pz8
      have q0 := dg_rng x (8 + 8 * k) (n := 50) (by omega)
      have fb : 0 < (dg x (8 + 8 * k) (50)) + 1 ∧ (dg x (8 + 8 * k) (50)) + 1 ≤ 1000000 := by omega
      have q1 := dg_rng x (8 + 8 * k + 1) (n := dg x (8 + 8 * k) 50 + 1) (by omega)
      have q2 := dg_rng x (8 + 8 * k + 1 + 1) (n := 2) (by omega)
      have q3 := dg_rng x (8 + 8 * k + 1 + 1 + 1) (n := 9) (by omega)
      have q4 := dg_rng x (8 + 8 * k + 1 + 1 + 1 + 1) (n := 2) (by omega)
      have mm1 := bit_mul (m := 50) q1.1 (by omega) q2.1 q2.2
      have mm2 := bit_mul (m := 9) q3.1 (by omega) q4.1 q4.2
      refine XK.skip ?_
      refine XK.seq ?_
      refine XK.block ?_
      refine XK.seq ?_
      refine XK.region rfl ?_
      refine XO.q (Q.move rfl) ?_
      refine XO.call Try.call26 rfl rfl rfl (next_spec vx hx x b10 (8 + 8 * k) pk0 (50) (by decide) (by decide)) fun v50 s50 R50 => ?_
      obtain ⟨rfl, rfl⟩ := R50
      dsimp only [List.cons_append, List.nil_append]
      refine XO.q (Q.assign rfl) ?_
      refine XO.done ?_
      refine XK.meet (X := Value × PHeap) [51, 52, 53, 54, 55, 56, 57, 58, 59, 60, 61, 62, 63, 64, 65, 66, 67, 68, 69, 70, 71, 72, 73, 74, 75] (fun ⟨v74, h74⟩ => []) (fun ⟨v74, h74⟩ => [blk b4 [v74, .int .i64 (dg x (0 + 1 + 1 + 1) ((dg x (0 + 1 + 1) (7)) + 1)), .int .i64 (dg x (0 + 1 + 1) (7)), .int .i64 (dg x (0 + 1 + 1 + 1 + 1 + 1 + 1) (5)), .int .i64 ((dg x (0 + 1 + 1 + 1 + 1) ((dg x (0 + 1 + 1) (7)) + 1)) * (dg x (0 + 1 + 1 + 1 + 1 + 1) (2))), .slice none 0 0, .int .i64 (4 + dg x 0 14), .int .i64 (dg x (0 + 1) (30))] 28, blk b10 [vx, .int .i64 (((8 + 8 * k + 1 + 1 + 1 + 1 + 1 + 1 + 1 + 1 : Nat) : Int))] 67, h74]) (fun ⟨v74, h74⟩ => OArr v74 encHour 6 39 h74 (madeHours x k ++ [madeHour x (8 + 8 * k)])) [blk b4 [vh, .int .i64 (dg x (0 + 1 + 1 + 1) ((dg x (0 + 1 + 1) (7)) + 1)), .int .i64 (dg x (0 + 1 + 1) (7)), .int .i64 (dg x (0 + 1 + 1 + 1 + 1 + 1 + 1) (5)), .int .i64 ((dg x (0 + 1 + 1 + 1 + 1) ((dg x (0 + 1 + 1) (7)) + 1)) * (dg x (0 + 1 + 1 + 1 + 1 + 1) (2))), .slice none 0 0, .int .i64 (4 + dg x 0 14), .int .i64 (dg x (0 + 1) (30))] 28, blk b10 [vx, .int .i64 (((8 + 8 * k + 1 : Nat) : Int))] 67, kh] ?_ ?_
      · rintro ⟨v74, h74⟩ O74
        dsimp only [List.cons_append, List.nil_append]
        refine XK.inBlock ?_
        refine XK.region rfl ?_
        refine XO.q (Q.add rfl rfl ⟨by omega, by omega⟩) ?_
        refine XO.q (Q.move rfl) ?_
        refine XO.done ?_
        exact ih0 (k + 1, v74, h74) _ _ ⟨by dsimp only; omega, by dsimp only; rw [madeHours_succ]; exact O74⟩ (by first | omega | (dsimp only; omega)) (.c rfl (.base 63 rfl rfl)) inferInstance
      · intro mtr8
        dsimp only [List.cons_append, List.nil_append] at mtr8
        refine XK.drawn [0, 2, 3, 4, 5, 7, 10, 12, 15, 17, 19, 9, 14, 21, 24] [] [] (.q 0 (.q 2 (.q 3 (.q 4 (.q 5 (.q 7 (.q 10 (.q 12 (.q 15 (.q 17 (.q 19 (.br 1 true (.br 6 true (.br 8 true (.q 9 (.br 11 true (.br 13 true (.q 14 (.br 16 true (.br 18 true (.br 20 true (.q 21 (.br 22 true (.br 23 true (.q 24 (.br 25 false .done .stop)) .stop) .stop)) .stop) .stop) .stop)) .stop) .stop)) .stop) .stop) (.br 6 true (.br 1 true (.br 8 true (.q 9 (.br 11 true (.br 13 true (.q 14 (.br 16 true (.br 18 true (.br 20 true (.q 21 (.br 22 true (.br 23 true (.q 24 (.br 25 false .done .stop)) .stop) .stop)) .stop) .stop) .stop)) .stop) .stop)) .stop) (.br 8 true (.q 9 (.br 1 true (.br 11 true (.br 13 true (.q 14 (.br 16 true (.br 18 true (.br 20 true (.q 21 (.br 22 true (.br 23 true (.q 24 (.br 25 false .done .stop)) .stop) .stop)) .stop) .stop) .stop)) .stop) .stop) (.br 11 true (.br 1 true (.br 13 true (.q 14 (.br 16 true (.br 18 true (.br 20 true (.q 21 (.br 22 true (.br 23 true (.q 24 (.br 25 false .done .stop)) .stop) .stop)) .stop) .stop) .stop)) .stop) (.br 13 true (.q 14 (.br 1 true (.br 16 true (.br 18 true (.br 20 true (.q 21 (.br 22 true (.br 23 true (.q 24 (.br 25 false .done .stop)) .stop) .stop)) .stop) .stop) .stop) (.br 16 true (.br 1 true (.br 18 true (.br 20 true (.q 21 (.br 22 true (.br 23 true (.q 24 (.br 25 false .done .stop)) .stop) .stop)) .stop) .stop) (.br 18 true (.br 1 true (.br 20 true (.q 21 (.br 22 true (.br 23 true (.q 24 (.br 25 false .done .stop)) .stop) .stop)) .stop) (.br 20 true (.q 21 (.br 1 true (.br 22 true (.br 23 true (.q 24 (.br 25 false .done .stop)) .stop) .stop) (.br 22 true (.br 1 true (.br 23 true (.q 24 (.br 25 false .done .stop)) .stop) .stop) .stop))) .stop)) .stop)) .stop))) .stop)) .stop))) .stop)) .stop))))))))))))) Try.mixed rfl (by kernel_rfl) ?_
        refine XT.q rfl rfl (Q.fieldAddr rfl) ?_
        refine XT.q rfl rfl (Q.move rfl) ?_
        refine XT.q rfl rfl (Q.move rfl) ?_
        refine XT.q rfl rfl (Q.move rfl) ?_
        refine XT.q rfl rfl (Q.add rfl rfl ⟨by omega, by omega⟩) ?_
        refine XT.q rfl rfl (Q.move rfl) ?_
        refine XT.q rfl rfl (Q.move rfl) ?_
        refine XT.q rfl rfl (Q.move rfl) ?_
        refine XT.q rfl rfl (Q.move rfl) ?_
        refine XT.q rfl rfl (Q.move rfl) ?_
        refine XT.q rfl rfl (Q.move rfl) ?_
        refine XT.qs rfl rfl (Q.ld rfl rfl) ⟨inferInstance, ?_⟩ ?_
        · skip
          refine XT.call rfl rfl Try.call26 rfl rfl rfl (next_spec vx hx x b10 (8 + 8 * k + 1) pk1 ((dg x (8 + 8 * k) (50)) + 1) fb.1 fb.2) (fun v57 s57 R57 => ?_) XT.stop
          obtain ⟨rfl, rfl⟩ := R57
          dsimp only [List.cons_append, List.nil_append]
          refine ⟨inferInstance, ?_⟩
          refine XT.call rfl rfl Try.call26 rfl rfl rfl (next_spec vx hx x b10 (8 + 8 * k + 1 + 1) pk2 (2) (by decide) (by decide)) (fun v59 s59 R59 => ?_) XT.stop
          obtain ⟨rfl, rfl⟩ := R59
          dsimp only [List.cons_append, List.nil_append]
          refine ⟨inferInstance, ?_⟩
          refine XT.q rfl rfl (Q.mul rfl rfl ⟨by omega, by omega⟩) ?_
          refine XT.call rfl rfl Try.call26 rfl rfl rfl (next_spec vx hx x b10 (8 + 8 * k + 1 + 1 + 1) pk3 (9) (by decide) (by decide)) (fun v62 s62 R62 => ?_) XT.stop
          obtain ⟨rfl, rfl⟩ := R62
          dsimp only [List.cons_append, List.nil_append]
          refine ⟨inferInstance, ?_⟩
          refine XT.call rfl rfl Try.call26 rfl rfl rfl (next_spec vx hx x b10 (8 + 8 * k + 1 + 1 + 1 + 1) pk4 (2) (by decide) (by decide)) (fun v64 s64 R64 => ?_) XT.stop
          obtain ⟨rfl, rfl⟩ := R64
          dsimp only [List.cons_append, List.nil_append]
          refine ⟨inferInstance, ?_⟩
          refine XT.q rfl rfl (Q.mul rfl rfl ⟨by omega, by omega⟩) ?_
          refine XT.call rfl rfl Try.call26 rfl rfl rfl (next_spec vx hx x b10 (8 + 8 * k + 1 + 1 + 1 + 1 + 1) pk5 (7) (by decide) (by decide)) (fun v67 s67 R67 => ?_) XT.stop
          obtain ⟨rfl, rfl⟩ := R67
          dsimp only [List.cons_append, List.nil_append]
          refine ⟨inferInstance, ?_⟩
          refine XT.call rfl rfl Try.call26 rfl rfl rfl (next_spec vx hx x b10 (8 + 8 * k + 1 + 1 + 1 + 1 + 1 + 1) pk6 (256) (by decide) (by decide)) (fun v69 s69 R69 => ?_) XT.stop
          obtain ⟨rfl, rfl⟩ := R69
          dsimp only [List.cons_append, List.nil_append]
          refine ⟨inferInstance, ?_⟩
          refine XT.call rfl rfl Try.call26 rfl rfl rfl (next_spec vx hx x b10 (8 + 8 * k + 1 + 1 + 1 + 1 + 1 + 1 + 1) pk7 (20) (by decide) (by decide)) (fun v71 s71 R71 => ?_) XT.stop
          obtain ⟨rfl, rfl⟩ := R71
          dsimp only [List.cons_append, List.nil_append]
          refine ⟨inferInstance, ?_⟩
          refine XT.q rfl rfl (Q.build [_, _, _, _, _, _] (.c 0 1 rfl rfl rfl (.c 1 1 rfl rfl rfl (.c 2 1 rfl rfl rfl (.c 3 1 rfl rfl rfl (.c 4 1 rfl rfl rfl (.c 5 1 rfl rfl rfl (.n _)))))))) ?_
          refine XT.lit [_, _, _, _, _, _] [_, _, _, _, _, _] [madeHour x (8 + 8 * k)] encHour rfl rfl (by rfl) (by rfl) rfl (by rfl) (by exact .c 0 6 rfl rfl rfl (.n _)) (fun _ => rfl) (by rfl) rfl (by infer_instance) rfl (fun v73 h73 O73 => ⟨inferInstance, ?_⟩) XT.stop
          refine XT.append rfl rfl rfl rfl rfl rfl (by simp only [List.length_cons, List.length_nil]; omega) (fun v74 h74 O74 => ⟨inferInstance, ?_⟩) XT.stop
          refine XT.q rfl rfl (Q.fieldAddr rfl) ?_
          refine XT.st rfl rfl rfl rfl rfl ⟨inferInstance, ?_⟩ XT.stop
          refine XT.done ?_
          exact mtr8 ((v74, h74)) _ _ O74 (.base 25 rfl rfl) inferInstance
        · skip
          refine XT.call rfl rfl Try.call26 rfl rfl rfl (next_spec vx hx x b10 (8 + 8 * k + 1) pk1 ((dg x (8 + 8 * k) (50)) + 1) fb.1 fb.2) (fun v57 s57 R57 => ?_) XT.stop
          obtain ⟨rfl, rfl⟩ := R57
          dsimp only [List.cons_append, List.nil_append]
          refine ⟨inferInstance, ?_⟩
          refine XT.qs rfl rfl (Q.ld rfl rfl) ⟨inferInstance, ?_⟩ ?_
          · skip
            refine XT.call rfl rfl Try.call26 rfl rfl rfl (next_spec vx hx x b10 (8 + 8 * k + 1 + 1) pk2 (2) (by decide) (by decide)) (fun v59 s59 R59 => ?_) XT.stop
            obtain ⟨rfl, rfl⟩ := R59
            dsimp only [List.cons_append, List.nil_append]
            refine ⟨inferInstance, ?_⟩
            refine XT.q rfl rfl (Q.mul rfl rfl ⟨by omega, by omega⟩) ?_
            refine XT.call rfl rfl Try.call26 rfl rfl rfl (next_spec vx hx x b10 (8 + 8 * k + 1 + 1 + 1) pk3 (9) (by decide) (by decide)) (fun v62 s62 R62 => ?_) XT.stop
            obtain ⟨rfl, rfl⟩ := R62
            dsimp only [List.cons_append, List.nil_append]
            refine ⟨inferInstance, ?_⟩
            refine XT.call rfl rfl Try.call26 rfl rfl rfl (next_spec vx hx x b10 (8 + 8 * k + 1 + 1 + 1 + 1) pk4 (2) (by decide) (by decide)) (fun v64 s64 R64 => ?_) XT.stop
            obtain ⟨rfl, rfl⟩ := R64
            dsimp only [List.cons_append, List.nil_append]
            refine ⟨inferInstance, ?_⟩
            refine XT.q rfl rfl (Q.mul rfl rfl ⟨by omega, by omega⟩) ?_
            refine XT.call rfl rfl Try.call26 rfl rfl rfl (next_spec vx hx x b10 (8 + 8 * k + 1 + 1 + 1 + 1 + 1) pk5 (7) (by decide) (by decide)) (fun v67 s67 R67 => ?_) XT.stop
            obtain ⟨rfl, rfl⟩ := R67
            dsimp only [List.cons_append, List.nil_append]
            refine ⟨inferInstance, ?_⟩
            refine XT.call rfl rfl Try.call26 rfl rfl rfl (next_spec vx hx x b10 (8 + 8 * k + 1 + 1 + 1 + 1 + 1 + 1) pk6 (256) (by decide) (by decide)) (fun v69 s69 R69 => ?_) XT.stop
            obtain ⟨rfl, rfl⟩ := R69
            dsimp only [List.cons_append, List.nil_append]
            refine ⟨inferInstance, ?_⟩
            refine XT.call rfl rfl Try.call26 rfl rfl rfl (next_spec vx hx x b10 (8 + 8 * k + 1 + 1 + 1 + 1 + 1 + 1 + 1) pk7 (20) (by decide) (by decide)) (fun v71 s71 R71 => ?_) XT.stop
            obtain ⟨rfl, rfl⟩ := R71
            dsimp only [List.cons_append, List.nil_append]
            refine ⟨inferInstance, ?_⟩
            refine XT.q rfl rfl (Q.build [_, _, _, _, _, _] (.c 0 1 rfl rfl rfl (.c 1 1 rfl rfl rfl (.c 2 1 rfl rfl rfl (.c 3 1 rfl rfl rfl (.c 4 1 rfl rfl rfl (.c 5 1 rfl rfl rfl (.n _)))))))) ?_
            refine XT.lit [_, _, _, _, _, _] [_, _, _, _, _, _] [madeHour x (8 + 8 * k)] encHour rfl rfl (by rfl) (by rfl) rfl (by rfl) (by exact .c 0 6 rfl rfl rfl (.n _)) (fun _ => rfl) (by rfl) rfl (by infer_instance) rfl (fun v73 h73 O73 => ⟨inferInstance, ?_⟩) XT.stop
            refine XT.append rfl rfl rfl rfl rfl rfl (by simp only [List.length_cons, List.length_nil]; omega) (fun v74 h74 O74 => ⟨inferInstance, ?_⟩) XT.stop
            refine XT.q rfl rfl (Q.fieldAddr rfl) ?_
            refine XT.st rfl rfl rfl rfl rfl ⟨inferInstance, ?_⟩ XT.stop
            refine XT.done ?_
            exact mtr8 ((v74, h74)) _ _ O74 (.base 25 rfl rfl) inferInstance
          · skip
            refine XT.call rfl rfl Try.call26 rfl rfl rfl (next_spec vx hx x b10 (8 + 8 * k + 1 + 1) pk2 (2) (by decide) (by decide)) (fun v59 s59 R59 => ?_) XT.stop
            obtain ⟨rfl, rfl⟩ := R59
            dsimp only [List.cons_append, List.nil_append]
            refine ⟨inferInstance, ?_⟩
            refine XT.q rfl rfl (Q.mul rfl rfl ⟨by omega, by omega⟩) ?_
            refine XT.qs rfl rfl (Q.ld rfl rfl) ⟨inferInstance, ?_⟩ ?_
            · skip
              refine XT.call rfl rfl Try.call26 rfl rfl rfl (next_spec vx hx x b10 (8 + 8 * k + 1 + 1 + 1) pk3 (9) (by decide) (by decide)) (fun v62 s62 R62 => ?_) XT.stop
              obtain ⟨rfl, rfl⟩ := R62
              dsimp only [List.cons_append, List.nil_append]
              refine ⟨inferInstance, ?_⟩
              refine XT.call rfl rfl Try.call26 rfl rfl rfl (next_spec vx hx x b10 (8 + 8 * k + 1 + 1 + 1 + 1) pk4 (2) (by decide) (by decide)) (fun v64 s64 R64 => ?_) XT.stop
              obtain ⟨rfl, rfl⟩ := R64
              dsimp only [List.cons_append, List.nil_append]
              refine ⟨inferInstance, ?_⟩
              refine XT.q rfl rfl (Q.mul rfl rfl ⟨by omega, by omega⟩) ?_
              refine XT.call rfl rfl Try.call26 rfl rfl rfl (next_spec vx hx x b10 (8 + 8 * k + 1 + 1 + 1 + 1 + 1) pk5 (7) (by decide) (by decide)) (fun v67 s67 R67 => ?_) XT.stop
              obtain ⟨rfl, rfl⟩ := R67
              dsimp only [List.cons_append, List.nil_append]
              refine ⟨inferInstance, ?_⟩
              refine XT.call rfl rfl Try.call26 rfl rfl rfl (next_spec vx hx x b10 (8 + 8 * k + 1 + 1 + 1 + 1 + 1 + 1) pk6 (256) (by decide) (by decide)) (fun v69 s69 R69 => ?_) XT.stop
              obtain ⟨rfl, rfl⟩ := R69
              dsimp only [List.cons_append, List.nil_append]
              refine ⟨inferInstance, ?_⟩
              refine XT.call rfl rfl Try.call26 rfl rfl rfl (next_spec vx hx x b10 (8 + 8 * k + 1 + 1 + 1 + 1 + 1 + 1 + 1) pk7 (20) (by decide) (by decide)) (fun v71 s71 R71 => ?_) XT.stop
              obtain ⟨rfl, rfl⟩ := R71
              dsimp only [List.cons_append, List.nil_append]
              refine ⟨inferInstance, ?_⟩
              refine XT.q rfl rfl (Q.build [_, _, _, _, _, _] (.c 0 1 rfl rfl rfl (.c 1 1 rfl rfl rfl (.c 2 1 rfl rfl rfl (.c 3 1 rfl rfl rfl (.c 4 1 rfl rfl rfl (.c 5 1 rfl rfl rfl (.n _)))))))) ?_
              refine XT.lit [_, _, _, _, _, _] [_, _, _, _, _, _] [madeHour x (8 + 8 * k)] encHour rfl rfl (by rfl) (by rfl) rfl (by rfl) (by exact .c 0 6 rfl rfl rfl (.n _)) (fun _ => rfl) (by rfl) rfl (by infer_instance) rfl (fun v73 h73 O73 => ⟨inferInstance, ?_⟩) XT.stop
              refine XT.append rfl rfl rfl rfl rfl rfl (by simp only [List.length_cons, List.length_nil]; omega) (fun v74 h74 O74 => ⟨inferInstance, ?_⟩) XT.stop
              refine XT.q rfl rfl (Q.fieldAddr rfl) ?_
              refine XT.st rfl rfl rfl rfl rfl ⟨inferInstance, ?_⟩ XT.stop
              refine XT.done ?_
              exact mtr8 ((v74, h74)) _ _ O74 (.base 25 rfl rfl) inferInstance
            · skip
              refine XT.call rfl rfl Try.call26 rfl rfl rfl (next_spec vx hx x b10 (8 + 8 * k + 1 + 1 + 1) pk3 (9) (by decide) (by decide)) (fun v62 s62 R62 => ?_) XT.stop
              obtain ⟨rfl, rfl⟩ := R62
              dsimp only [List.cons_append, List.nil_append]
              refine ⟨inferInstance, ?_⟩
              refine XT.qs rfl rfl (Q.ld rfl rfl) ⟨inferInstance, ?_⟩ ?_
              · skip
                refine XT.call rfl rfl Try.call26 rfl rfl rfl (next_spec vx hx x b10 (8 + 8 * k + 1 + 1 + 1 + 1) pk4 (2) (by decide) (by decide)) (fun v64 s64 R64 => ?_) XT.stop
                obtain ⟨rfl, rfl⟩ := R64
                dsimp only [List.cons_append, List.nil_append]
                refine ⟨inferInstance, ?_⟩
                refine XT.q rfl rfl (Q.mul rfl rfl ⟨by omega, by omega⟩) ?_
                refine XT.call rfl rfl Try.call26 rfl rfl rfl (next_spec vx hx x b10 (8 + 8 * k + 1 + 1 + 1 + 1 + 1) pk5 (7) (by decide) (by decide)) (fun v67 s67 R67 => ?_) XT.stop
                obtain ⟨rfl, rfl⟩ := R67
                dsimp only [List.cons_append, List.nil_append]
                refine ⟨inferInstance, ?_⟩
                refine XT.call rfl rfl Try.call26 rfl rfl rfl (next_spec vx hx x b10 (8 + 8 * k + 1 + 1 + 1 + 1 + 1 + 1) pk6 (256) (by decide) (by decide)) (fun v69 s69 R69 => ?_) XT.stop
                obtain ⟨rfl, rfl⟩ := R69
                dsimp only [List.cons_append, List.nil_append]
                refine ⟨inferInstance, ?_⟩
                refine XT.call rfl rfl Try.call26 rfl rfl rfl (next_spec vx hx x b10 (8 + 8 * k + 1 + 1 + 1 + 1 + 1 + 1 + 1) pk7 (20) (by decide) (by decide)) (fun v71 s71 R71 => ?_) XT.stop
                obtain ⟨rfl, rfl⟩ := R71
                dsimp only [List.cons_append, List.nil_append]
                refine ⟨inferInstance, ?_⟩
                refine XT.q rfl rfl (Q.build [_, _, _, _, _, _] (.c 0 1 rfl rfl rfl (.c 1 1 rfl rfl rfl (.c 2 1 rfl rfl rfl (.c 3 1 rfl rfl rfl (.c 4 1 rfl rfl rfl (.c 5 1 rfl rfl rfl (.n _)))))))) ?_
                refine XT.lit [_, _, _, _, _, _] [_, _, _, _, _, _] [madeHour x (8 + 8 * k)] encHour rfl rfl (by rfl) (by rfl) rfl (by rfl) (by exact .c 0 6 rfl rfl rfl (.n _)) (fun _ => rfl) (by rfl) rfl (by infer_instance) rfl (fun v73 h73 O73 => ⟨inferInstance, ?_⟩) XT.stop
                refine XT.append rfl rfl rfl rfl rfl rfl (by simp only [List.length_cons, List.length_nil]; omega) (fun v74 h74 O74 => ⟨inferInstance, ?_⟩) XT.stop
                refine XT.q rfl rfl (Q.fieldAddr rfl) ?_
                refine XT.st rfl rfl rfl rfl rfl ⟨inferInstance, ?_⟩ XT.stop
                refine XT.done ?_
                exact mtr8 ((v74, h74)) _ _ O74 (.base 25 rfl rfl) inferInstance
              · skip
                refine XT.call rfl rfl Try.call26 rfl rfl rfl (next_spec vx hx x b10 (8 + 8 * k + 1 + 1 + 1 + 1) pk4 (2) (by decide) (by decide)) (fun v64 s64 R64 => ?_) XT.stop
                obtain ⟨rfl, rfl⟩ := R64
                dsimp only [List.cons_append, List.nil_append]
                refine ⟨inferInstance, ?_⟩
                refine XT.q rfl rfl (Q.mul rfl rfl ⟨by omega, by omega⟩) ?_
                refine XT.qs rfl rfl (Q.ld rfl rfl) ⟨inferInstance, ?_⟩ ?_
                · skip
                  refine XT.call rfl rfl Try.call26 rfl rfl rfl (next_spec vx hx x b10 (8 + 8 * k + 1 + 1 + 1 + 1 + 1) pk5 (7) (by decide) (by decide)) (fun v67 s67 R67 => ?_) XT.stop
                  obtain ⟨rfl, rfl⟩ := R67
                  dsimp only [List.cons_append, List.nil_append]
                  refine ⟨inferInstance, ?_⟩
                  refine XT.call rfl rfl Try.call26 rfl rfl rfl (next_spec vx hx x b10 (8 + 8 * k + 1 + 1 + 1 + 1 + 1 + 1) pk6 (256) (by decide) (by decide)) (fun v69 s69 R69 => ?_) XT.stop
                  obtain ⟨rfl, rfl⟩ := R69
                  dsimp only [List.cons_append, List.nil_append]
                  refine ⟨inferInstance, ?_⟩
                  refine XT.call rfl rfl Try.call26 rfl rfl rfl (next_spec vx hx x b10 (8 + 8 * k + 1 + 1 + 1 + 1 + 1 + 1 + 1) pk7 (20) (by decide) (by decide)) (fun v71 s71 R71 => ?_) XT.stop
                  obtain ⟨rfl, rfl⟩ := R71
                  dsimp only [List.cons_append, List.nil_append]
                  refine ⟨inferInstance, ?_⟩
                  refine XT.q rfl rfl (Q.build [_, _, _, _, _, _] (.c 0 1 rfl rfl rfl (.c 1 1 rfl rfl rfl (.c 2 1 rfl rfl rfl (.c 3 1 rfl rfl rfl (.c 4 1 rfl rfl rfl (.c 5 1 rfl rfl rfl (.n _)))))))) ?_
                  refine XT.lit [_, _, _, _, _, _] [_, _, _, _, _, _] [madeHour x (8 + 8 * k)] encHour rfl rfl (by rfl) (by rfl) rfl (by rfl) (by exact .c 0 6 rfl rfl rfl (.n _)) (fun _ => rfl) (by rfl) rfl (by infer_instance) rfl (fun v73 h73 O73 => ⟨inferInstance, ?_⟩) XT.stop
                  refine XT.append rfl rfl rfl rfl rfl rfl (by simp only [List.length_cons, List.length_nil]; omega) (fun v74 h74 O74 => ⟨inferInstance, ?_⟩) XT.stop
                  refine XT.q rfl rfl (Q.fieldAddr rfl) ?_
                  refine XT.st rfl rfl rfl rfl rfl ⟨inferInstance, ?_⟩ XT.stop
                  refine XT.done ?_
                  exact mtr8 ((v74, h74)) _ _ O74 (.base 25 rfl rfl) inferInstance
                · skip
                  refine XT.call rfl rfl Try.call26 rfl rfl rfl (next_spec vx hx x b10 (8 + 8 * k + 1 + 1 + 1 + 1 + 1) pk5 (7) (by decide) (by decide)) (fun v67 s67 R67 => ?_) XT.stop
                  obtain ⟨rfl, rfl⟩ := R67
                  dsimp only [List.cons_append, List.nil_append]
                  refine ⟨inferInstance, ?_⟩
                  refine XT.qs rfl rfl (Q.ld rfl rfl) ⟨inferInstance, ?_⟩ ?_
                  · skip
                    refine XT.call rfl rfl Try.call26 rfl rfl rfl (next_spec vx hx x b10 (8 + 8 * k + 1 + 1 + 1 + 1 + 1 + 1) pk6 (256) (by decide) (by decide)) (fun v69 s69 R69 => ?_) XT.stop
                    obtain ⟨rfl, rfl⟩ := R69
                    dsimp only [List.cons_append, List.nil_append]
                    refine ⟨inferInstance, ?_⟩
                    refine XT.call rfl rfl Try.call26 rfl rfl rfl (next_spec vx hx x b10 (8 + 8 * k + 1 + 1 + 1 + 1 + 1 + 1 + 1) pk7 (20) (by decide) (by decide)) (fun v71 s71 R71 => ?_) XT.stop
                    obtain ⟨rfl, rfl⟩ := R71
                    dsimp only [List.cons_append, List.nil_append]
                    refine ⟨inferInstance, ?_⟩
                    refine XT.q rfl rfl (Q.build [_, _, _, _, _, _] (.c 0 1 rfl rfl rfl (.c 1 1 rfl rfl rfl (.c 2 1 rfl rfl rfl (.c 3 1 rfl rfl rfl (.c 4 1 rfl rfl rfl (.c 5 1 rfl rfl rfl (.n _)))))))) ?_
                    refine XT.lit [_, _, _, _, _, _] [_, _, _, _, _, _] [madeHour x (8 + 8 * k)] encHour rfl rfl (by rfl) (by rfl) rfl (by rfl) (by exact .c 0 6 rfl rfl rfl (.n _)) (fun _ => rfl) (by rfl) rfl (by infer_instance) rfl (fun v73 h73 O73 => ⟨inferInstance, ?_⟩) XT.stop
                    refine XT.append rfl rfl rfl rfl rfl rfl (by simp only [List.length_cons, List.length_nil]; omega) (fun v74 h74 O74 => ⟨inferInstance, ?_⟩) XT.stop
                    refine XT.q rfl rfl (Q.fieldAddr rfl) ?_
                    refine XT.st rfl rfl rfl rfl rfl ⟨inferInstance, ?_⟩ XT.stop
                    refine XT.done ?_
                    exact mtr8 ((v74, h74)) _ _ O74 (.base 25 rfl rfl) inferInstance
                  · skip
                    refine XT.call rfl rfl Try.call26 rfl rfl rfl (next_spec vx hx x b10 (8 + 8 * k + 1 + 1 + 1 + 1 + 1 + 1) pk6 (256) (by decide) (by decide)) (fun v69 s69 R69 => ?_) XT.stop
                    obtain ⟨rfl, rfl⟩ := R69
                    dsimp only [List.cons_append, List.nil_append]
                    refine ⟨inferInstance, ?_⟩
                    refine XT.qs rfl rfl (Q.ld rfl rfl) ⟨inferInstance, ?_⟩ ?_
                    · skip
                      refine XT.call rfl rfl Try.call26 rfl rfl rfl (next_spec vx hx x b10 (8 + 8 * k + 1 + 1 + 1 + 1 + 1 + 1 + 1) pk7 (20) (by decide) (by decide)) (fun v71 s71 R71 => ?_) XT.stop
                      obtain ⟨rfl, rfl⟩ := R71
                      dsimp only [List.cons_append, List.nil_append]
                      refine ⟨inferInstance, ?_⟩
                      refine XT.q rfl rfl (Q.build [_, _, _, _, _, _] (.c 0 1 rfl rfl rfl (.c 1 1 rfl rfl rfl (.c 2 1 rfl rfl rfl (.c 3 1 rfl rfl rfl (.c 4 1 rfl rfl rfl (.c 5 1 rfl rfl rfl (.n _)))))))) ?_
                      refine XT.lit [_, _, _, _, _, _] [_, _, _, _, _, _] [madeHour x (8 + 8 * k)] encHour rfl rfl (by rfl) (by rfl) rfl (by rfl) (by exact .c 0 6 rfl rfl rfl (.n _)) (fun _ => rfl) (by rfl) rfl (by infer_instance) rfl (fun v73 h73 O73 => ⟨inferInstance, ?_⟩) XT.stop
                      refine XT.append rfl rfl rfl rfl rfl rfl (by simp only [List.length_cons, List.length_nil]; omega) (fun v74 h74 O74 => ⟨inferInstance, ?_⟩) XT.stop
                      refine XT.q rfl rfl (Q.fieldAddr rfl) ?_
                      refine XT.st rfl rfl rfl rfl rfl ⟨inferInstance, ?_⟩ XT.stop
                      refine XT.done ?_
                      exact mtr8 ((v74, h74)) _ _ O74 (.base 25 rfl rfl) inferInstance
                    · skip
                      refine XT.call rfl rfl Try.call26 rfl rfl rfl (next_spec vx hx x b10 (8 + 8 * k + 1 + 1 + 1 + 1 + 1 + 1 + 1) pk7 (20) (by decide) (by decide)) (fun v71 s71 R71 => ?_) XT.stop
                      obtain ⟨rfl, rfl⟩ := R71
                      dsimp only [List.cons_append, List.nil_append]
                      refine ⟨inferInstance, ?_⟩
                      refine XT.q rfl rfl (Q.build [_, _, _, _, _, _] (.c 0 1 rfl rfl rfl (.c 1 1 rfl rfl rfl (.c 2 1 rfl rfl rfl (.c 3 1 rfl rfl rfl (.c 4 1 rfl rfl rfl (.c 5 1 rfl rfl rfl (.n _)))))))) ?_
                      refine XT.qs rfl rfl (Q.ld rfl rfl) ⟨inferInstance, ?_⟩ ?_
                      · skip
                        refine XT.lit [_, _, _, _, _, _] [_, _, _, _, _, _] [madeHour x (8 + 8 * k)] encHour rfl rfl (by rfl) (by rfl) rfl (by rfl) (by exact .c 0 6 rfl rfl rfl (.n _)) (fun _ => rfl) (by rfl) rfl (by infer_instance) rfl (fun v73 h73 O73 => ⟨inferInstance, ?_⟩) XT.stop
                        refine XT.append rfl rfl rfl rfl rfl rfl (by simp only [List.length_cons, List.length_nil]; omega) (fun v74 h74 O74 => ⟨inferInstance, ?_⟩) XT.stop
                        refine XT.q rfl rfl (Q.fieldAddr rfl) ?_
                        refine XT.st rfl rfl rfl rfl rfl ⟨inferInstance, ?_⟩ XT.stop
                        refine XT.done ?_
                        exact mtr8 ((v74, h74)) _ _ O74 (.base 25 rfl rfl) inferInstance
                      · skip
                        refine XT.lit [_, _, _, _, _, _] [_, _, _, _, _, _] [madeHour x (8 + 8 * k)] encHour rfl rfl (by rfl) (by rfl) rfl (by rfl) (by exact .c 0 6 rfl rfl rfl (.n _)) (fun _ => rfl) (by rfl) rfl (by infer_instance) rfl (fun v73 h73 O73 => ⟨inferInstance, ?_⟩) XT.stop
                        refine XT.qs rfl rfl (Q.ld rfl rfl) ⟨inferInstance, ?_⟩ XT.stop
                        refine XT.append rfl rfl rfl rfl rfl rfl (by simp only [List.length_cons, List.length_nil]; omega) (fun v74 h74 O74 => ⟨inferInstance, ?_⟩) XT.stop
                        refine XT.q rfl rfl (Q.fieldAddr rfl) ?_
                        refine XT.st rfl rfl rfl rfl rfl ⟨inferInstance, ?_⟩ XT.stop
                        refine XT.done ?_
                        exact mtr8 ((v74, h74)) _ _ O74 (.base 25 rfl rfl) inferInstance
    · have _t0 := True.intro
      have hkn : k = madeN x := by omega
      subst hkn
      have pm0 : 8 + 8 * madeN x ≤ 1000000 := by omega
      have pm1 : 8 + 8 * madeN x + 1 ≤ 1000000 := by omega
      have pm2 : 8 + 8 * madeN x + 1 + 1 ≤ 1000000 := by omega
      have pm3 : 8 + 8 * madeN x + 1 + 1 + 1 ≤ 1000000 := by omega
      have pm4 : 8 + 8 * madeN x + 1 + 1 + 1 + 1 ≤ 1000000 := by omega
      have pm5 : 8 + 8 * madeN x + 1 + 1 + 1 + 1 + 1 ≤ 1000000 := by omega
      clear pz0 pz1 pz2 pz3 pz4 pz5 pz6 pz7 pz8
      refine XK.exit rfl ?_
      refine XK.seq ?_
      refine XK.seq ?_
      refine XK.region rfl ?_
      refine XO.q (Q.move rfl) ?_
      refine XO.call Try.call26 rfl rfl rfl (next_spec vx hx x b10 (8 + 8 * madeN x) pm0 (2) (by decide) (by decide)) fun v78 s78 R78 => ?_
      obtain ⟨rfl, rfl⟩ := R78
      dsimp only [List.cons_append, List.nil_append]
      refine XO.q (Q.eql rfl rfl) ?_
      refine XO.done ?_
      refine XK.if rfl (fun c1 => ?_) (fun c1 => ?_)
      · have _t1 := True.intro
        have j0 := dg_rng x (8 + 8 * madeN x + 1) (n := (madeN x : Int)) (by omega)
        have fj : 0 < min ((madeN x : Int) - (dg x (8 + 8 * madeN x + 1) ((madeN x : Int)))) 3 ∧ min ((madeN x : Int) - (dg x (8 + 8 * madeN x + 1) ((madeN x : Int)))) 3 ≤ 1000000 := by omega
        have j2 := dg_rng x (8 + 8 * madeN x + 1 + 1 + 1) (n := min ((madeN x : Int) - (dg x (8 + 8 * madeN x + 1) ((madeN x : Int)))) 3) (by omega)
        have fl : 0 < min ((madeN x : Int) - (dg x (8 + 8 * madeN x + 1) ((madeN x : Int))) - (1 + (dg x (8 + 8 * madeN x + 1 + 1 + 1) (min ((madeN x : Int) - (dg x (8 + 8 * madeN x + 1) ((madeN x : Int)))) 3))) + 1) 4 ∧ min ((madeN x : Int) - (dg x (8 + 8 * madeN x + 1) ((madeN x : Int))) - (1 + (dg x (8 + 8 * madeN x + 1 + 1 + 1) (min ((madeN x : Int) - (dg x (8 + 8 * madeN x + 1) ((madeN x : Int)))) 3))) + 1) 4 ≤ 1000000 := by omega
        have j3 := dg_rng x (8 + 8 * madeN x + 1 + 1 + 1 + 1) (n := min ((madeN x : Int) - (dg x (8 + 8 * madeN x + 1) ((madeN x : Int))) - (1 + (dg x (8 + 8 * madeN x + 1 + 1 + 1) (min ((madeN x : Int) - (dg x (8 + 8 * madeN x + 1) ((madeN x : Int)))) 3))) + 1) 4) (by omega)
        refine XK.seq ?_
        refine XK.region rfl ?_
        refine XO.q (Q.fieldAddr rfl) ?_
        refine XO.q (Q.ld rfl rfl) ?_
        refine XO.len rfl fun l82 => ?_
        rw [madeHours_len]
        refine XO.q (Q.assign rfl) ?_
        refine XO.done ?_
        refine XK.seq ?_
        refine XK.region rfl ?_
        refine XO.q (Q.move rfl) ?_
        refine XO.q (Q.move rfl) ?_
        refine XO.call Try.call26 rfl rfl rfl (next_spec vx hx x b10 (8 + 8 * madeN x + 1) pm1 ((madeN x : Int)) fn.1 fn.2) fun v85 s85 R85 => ?_
        obtain ⟨rfl, rfl⟩ := R85
        dsimp only [List.cons_append, List.nil_append]
        refine XO.q (Q.move rfl) ?_
        refine XO.call Try.call26 rfl rfl rfl (next_spec vx hx x b10 (8 + 8 * madeN x + 1 + 1) pm2 (6) (by decide) (by decide)) fun v87 s87 R87 => ?_
        obtain ⟨rfl, rfl⟩ := R87
        dsimp only [List.cons_append, List.nil_append]
        refine XO.q (Q.build [_, _, _, _] (.c 0 1 rfl rfl rfl (.c 3 1 rfl rfl rfl (.n _)))) ?_
        refine XO.alloc fun b7 => ?_
        refine XO.st rfl rfl rfl ?_
        refine XO.done ?_
        refine XK.seq ?_
        refine XK.region rfl ?_
        refine XO.q (Q.move rfl) ?_
        refine XO.q (Q.move rfl) ?_
        refine XO.q (Q.fieldAddr rfl) ?_
        refine XO.q (Q.ld rfl rfl) ?_
        refine XO.q (Q.sub rfl rfl ⟨by omega, by omega⟩) ?_
        refine XO.q (Q.min rfl rfl) ?_
        refine XO.call Try.call26 rfl rfl rfl (next_spec vx hx x b10 (8 + 8 * madeN x + 1 + 1 + 1) pm3 (min ((madeN x : Int) - (dg x (8 + 8 * madeN x + 1) ((madeN x : Int)))) 3) fj.1 fj.2) fun v95 s95 R95 => ?_
        obtain ⟨rfl, rfl⟩ := R95
        dsimp only [List.cons_append, List.nil_append]
        refine XO.q (Q.add rfl rfl ⟨by omega, by omega⟩) ?_
        refine XO.q (Q.fieldAddr rfl) ?_
        refine XO.st rfl rfl rfl ?_
        refine XO.done ?_
        refine XK.seq ?_
        refine XK.meet (X := Unit) [98, 99, 100, 101, 102, 103, 104, 105, 106, 107, 108, 109, 110, 111, 112, 113, 114, 115] (fun _ => []) (fun _ => [blk b7 [.int .i64 ((dg x (8 + 8 * madeN x + 1) ((madeN x : Int)))), .int .i64 (((dg x (8 + 8 * madeN x + 1) ((madeN x : Int))) + (1 + (dg x (8 + 8 * madeN x + 1 + 1 + 1) (min ((madeN x : Int) - (dg x (8 + 8 * madeN x + 1) ((madeN x : Int)))) 3))) + (dg x (8 + 8 * madeN x + 1 + 1 + 1 + 1) (min ((madeN x : Int) - (dg x (8 + 8 * madeN x + 1) ((madeN x : Int))) - (1 + (dg x (8 + 8 * madeN x + 1 + 1 + 1) (min ((madeN x : Int) - (dg x (8 + 8 * madeN x + 1) ((madeN x : Int)))) 3))) + 1) 4)))), .int .i64 (1 + (dg x (8 + 8 * madeN x + 1 + 1 + 1) (min ((madeN x : Int) - (dg x (8 + 8 * madeN x + 1) ((madeN x : Int)))) 3))), .int .i64 (dg x (8 + 8 * madeN x + 1 + 1) (6))] 77, blk b10 [vx, .int .i64 (((8 + 8 * madeN x + 1 + 1 + 1 + 1 + 1 : Nat) : Int))] 67]) (fun _ => True) [blk b7 [.int .i64 ((dg x (8 + 8 * madeN x + 1) ((madeN x : Int)))), .int .i64 (0), .int .i64 (1 + (dg x (8 + 8 * madeN x + 1 + 1 + 1) (min ((madeN x : Int) - (dg x (8 + 8 * madeN x + 1) ((madeN x : Int)))) 3))), .int .i64 (dg x (8 + 8 * madeN x + 1 + 1) (6))] 77, blk b10 [vx, .int .i64 (((8 + 8 * madeN x + 1 + 1 + 1 + 1 : Nat) : Int))] 67] ?_ ?_
        · rintro _ _
          dsimp only [List.cons_append, List.nil_append]
          refine XK.region rfl ?_
          refine XO.q (Q.ldA [_, _, _, _] rfl rfl rfl) ?_
          refine XO.lit [_, _, _, _] [_, _, _, _] [madeJob x (madeN x) (8 + 8 * madeN x + 1)] encJob (by rfl) (by rfl) rfl (by rfl) (by exact .c 0 4 rfl rfl rfl (.n _)) (fun _ => rfl) (by rfl) rfl (by infer_instance) rfl fun v117 h117 O117 => ?_
          refine XO.q (Q.fieldAddr rfl) ?_
          refine XO.st rfl rfl rfl ?_
          refine XO.done ?_
          refine XK.seq ?_
          refine XK.region rfl ?_
          refine XO.q (Q.ldA [_, _, _, _, _, _, _, _] rfl rfl rfl) ?_
          refine XO.st rfl rfl rfl ?_
          refine XO.done ?_
          refine XK.rt [kh, h117] Try.func9 Try.results9 (.cell [_, _, _, _, _, _, _, _] rfl rfl rfl (.n)) ?_
          exact ⟨vh, v117, kh, h117, rfl, rfl, OH, by rw [show (madeD x).jobs = [madeJob x (madeN x) (8 + 8 * madeN x + 1)] from if_pos c1]; exact O117⟩
        · intro mtr14
          dsimp only [List.cons_append, List.nil_append] at mtr14
          refine XK.drawn [0, 2, 5, 6, 7, 10, 4, 9, 12, 13, 14, 16, 17] [] [] (.q 0 (.q 2 (.q 5 (.q 6 (.q 7 (.q 10 (.br 1 true (.br 3 true (.q 4 (.br 8 true (.q 9 (.br 11 true (.q 12 (.q 13 (.q 14 (.br 15 true (.q 16 (.q 17 (.br 18 false .done .stop))) .stop)))) .stop)) (.br 11 true (.br 8 true (.q 9 (.q 12 (.q 13 (.q 14 (.br 15 true (.q 16 (.q 17 (.br 18 false .done .stop))) .stop))))) .stop) .stop))) (.br 8 true (.q 9 (.br 3 true (.q 4 (.br 11 true (.q 12 (.q 13 (.q 14 (.br 15 true (.q 16 (.q 17 (.br 18 false .done .stop))) .stop)))) .stop)) (.br 11 true (.q 12 (.q 13 (.q 14 (.br 3 true (.q 4 (.br 15 true (.q 16 (.q 17 (.br 18 false .done .stop))) .stop)) (.br 15 true (.br 3 true (.q 4 (.q 16 (.q 17 (.br 18 false .done .stop)))) .stop) .stop))))) .stop))) (.br 11 true (.br 3 true (.q 4 (.br 8 true (.q 9 (.q 12 (.q 13 (.q 14 (.br 15 true (.q 16 (.q 17 (.br 18 false .done .stop))) .stop))))) .stop)) (.br 8 true (.q 9 (.q 12 (.q 13 (.q 14 (.br 3 true (.q 4 (.br 15 true (.q 16 (.q 17 (.br 18 false .done .stop))) .stop)) (.br 15 true (.br 3 true (.q 4 (.q 16 (.q 17 (.br 18 false .done .stop)))) .stop) .stop)))))) .stop)) .stop))) (.br 3 true (.br 1 true (.q 4 (.br 8 true (.q 9 (.br 11 true (.q 12 (.q 13 (.q 14 (.br 15 true (.q 16 (.q 17 (.br 18 false .done .stop))) .stop)))) .stop)) (.br 11 true (.br 8 true (.q 9 (.q 12 (.q 13 (.q 14 (.br 15 true (.q 16 (.q 17 (.br 18 false .done .stop))) .stop))))) .stop) .stop))) (.br 8 true (.q 9 (.br 1 true (.q 4 (.br 11 true (.q 12 (.q 13 (.q 14 (.br 15 true (.q 16 (.q 17 (.br 18 false .done .stop))) .stop)))) .stop)) (.br 11 true (.q 12 (.q 13 (.q 14 (.br 1 true (.q 4 (.br 15 true (.q 16 (.q 17 (.br 18 false .done .stop))) .stop)) (.br 15 true (.br 1 true (.q 4 (.q 16 (.q 17 (.br 18 false .done .stop)))) .stop) .stop))))) .stop))) (.br 11 true (.br 1 true (.q 4 (.br 8 true (.q 9 (.q 12 (.q 13 (.q 14 (.br 15 true (.q 16 (.q 17 (.br 18 false .done .stop))) .stop))))) .stop)) (.br 8 true (.q 9 (.q 12 (.q 13 (.q 14 (.br 1 true (.q 4 (.br 15 true (.q 16 (.q 17 (.br 18 false .done .stop))) .stop)) (.br 15 true (.br 1 true (.q 4 (.q 16 (.q 17 (.br 18 false .done .stop)))) .stop) .stop)))))) .stop)) .stop))) (.br 8 true (.q 9 (.br 1 true (.br 3 true (.q 4 (.br 11 true (.q 12 (.q 13 (.q 14 (.br 15 true (.q 16 (.q 17 (.br 18 false .done .stop))) .stop)))) .stop)) (.br 11 true (.q 12 (.q 13 (.q 14 (.br 3 true (.q 4 (.br 15 true (.q 16 (.q 17 (.br 18 false .done .stop))) .stop)) (.br 15 true (.br 3 true (.q 4 (.q 16 (.q 17 (.br 18 false .done .stop)))) .stop) .stop))))) .stop)) (.br 3 true (.br 1 true (.q 4 (.br 11 true (.q 12 (.q 13 (.q 14 (.br 15 true (.q 16 (.q 17 (.br 18 false .done .stop))) .stop)))) .stop)) (.br 11 true (.q 12 (.q 13 (.q 14 (.br 1 true (.q 4 (.br 15 true (.q 16 (.q 17 (.br 18 false .done .stop))) .stop)) (.br 15 true (.br 1 true (.q 4 (.q 16 (.q 17 (.br 18 false .done .stop)))) .stop) .stop))))) .stop)) (.br 11 true (.q 12 (.q 13 (.q 14 (.br 1 true (.br 3 true (.q 4 (.br 15 true (.q 16 (.q 17 (.br 18 false .done .stop))) .stop)) (.br 15 true (.br 3 true (.q 4 (.q 16 (.q 17 (.br 18 false .done .stop)))) .stop) .stop)) (.br 3 true (.br 1 true (.q 4 (.br 15 true (.q 16 (.q 17 (.br 18 false .done .stop))) .stop)) (.br 15 true (.br 1 true (.q 4 (.q 16 (.q 17 (.br 18 false .done .stop)))) .stop) .stop)) (.br 15 true (.br 1 true (.br 3 true (.q 4 (.q 16 (.q 17 (.br 18 false .done .stop)))) .stop) (.br 3 true (.br 1 true (.q 4 (.q 16 (.q 17 (.br 18 false .done .stop)))) .stop) .stop)) .stop)))))) .stop)))) (.br 11 true (.br 1 true (.br 3 true (.q 4 (.br 8 true (.q 9 (.q 12 (.q 13 (.q 14 (.br 15 true (.q 16 (.q 17 (.br 18 false .done .stop))) .stop))))) .stop)) (.br 8 true (.q 9 (.q 12 (.q 13 (.q 14 (.br 3 true (.q 4 (.br 15 true (.q 16 (.q 17 (.br 18 false .done .stop))) .stop)) (.br 15 true (.br 3 true (.q 4 (.q 16 (.q 17 (.br 18 false .done .stop)))) .stop) .stop)))))) .stop)) (.br 3 true (.br 1 true (.q 4 (.br 8 true (.q 9 (.q 12 (.q 13 (.q 14 (.br 15 true (.q 16 (.q 17 (.br 18 false .done .stop))) .stop))))) .stop)) (.br 8 true (.q 9 (.q 12 (.q 13 (.q 14 (.br 1 true (.q 4 (.br 15 true (.q 16 (.q 17 (.br 18 false .done .stop))) .stop)) (.br 15 true (.br 1 true (.q 4 (.q 16 (.q 17 (.br 18 false .done .stop)))) .stop) .stop)))))) .stop)) (.br 8 true (.q 9 (.q 12 (.q 13 (.q 14 (.br 1 true (.br 3 true (.q 4 (.br 15 true (.q 16 (.q 17 (.br 18 false .done .stop))) .stop)) (.br 15 true (.br 3 true (.q 4 (.q 16 (.q 17 (.br 18 false .done .stop)))) .stop) .stop)) (.br 3 true (.br 1 true (.q 4 (.br 15 true (.q 16 (.q 17 (.br 18 false .done .stop))) .stop)) (.br 15 true (.br 1 true (.q 4 (.q 16 (.q 17 (.br 18 false .done .stop)))) .stop) .stop)) (.br 15 true (.br 1 true (.br 3 true (.q 4 (.q 16 (.q 17 (.br 18 false .done .stop)))) .stop) (.br 3 true (.br 1 true (.q 4 (.q 16 (.q 17 (.br 18 false .done .stop)))) .stop) .stop)) .stop))))))) .stop))) .stop)))))))))) Try.mixed rfl (by kernel_rfl) ?_
          refine XT.q rfl rfl (Q.fieldAddr rfl) ?_
          refine XT.q rfl rfl (Q.fieldAddr rfl) ?_
          refine XT.q rfl rfl (Q.move rfl) ?_
          refine XT.q rfl rfl (Q.move rfl) ?_
          refine XT.q rfl rfl (Q.fieldAddr rfl) ?_
          refine XT.q rfl rfl (Q.fieldAddr rfl) ?_
          refine XT.qs rfl rfl (Q.ld rfl rfl) ⟨inferInstance, ?_⟩ ?_
          · skip
            refine XT.qs rfl rfl (Q.ld rfl rfl) ⟨inferInstance, ?_⟩ ?_
            · skip
              refine XT.q rfl rfl (Q.add rfl rfl ⟨by omega, by omega⟩) ?_
              refine XT.qs rfl rfl (Q.ld rfl rfl) ⟨inferInstance, ?_⟩ ?_
              · skip
                refine XT.q rfl rfl (Q.sub rfl rfl ⟨by omega, by omega⟩) ?_
                refine XT.qs rfl rfl (Q.ld rfl rfl) ⟨inferInstance, ?_⟩ XT.stop
                refine XT.q rfl rfl (Q.sub rfl rfl ⟨by omega, by omega⟩) ?_
                refine XT.q rfl rfl (Q.add rfl rfl ⟨by omega, by omega⟩) ?_
                refine XT.q rfl rfl (Q.min rfl rfl) ?_
                refine XT.call rfl rfl Try.call26 rfl rfl rfl (next_spec vx hx x b10 (8 + 8 * madeN x + 1 + 1 + 1 + 1) pm4 (min ((madeN x : Int) - (dg x (8 + 8 * madeN x + 1) ((madeN x : Int))) - (1 + (dg x (8 + 8 * madeN x + 1 + 1 + 1) (min ((madeN x : Int) - (dg x (8 + 8 * madeN x + 1) ((madeN x : Int)))) 3))) + 1) 4) fl.1 fl.2) (fun v113 s113 R113 => ?_) XT.stop
                obtain ⟨rfl, rfl⟩ := R113
                dsimp only [List.cons_append, List.nil_append]
                refine ⟨inferInstance, ?_⟩
                refine XT.q rfl rfl (Q.add rfl rfl ⟨by omega, by omega⟩) ?_
                refine XT.q rfl rfl (Q.fieldAddr rfl) ?_
                refine XT.st rfl rfl rfl rfl rfl ⟨inferInstance, ?_⟩ XT.stop
                refine XT.done ?_
                exact mtr14 (()) _ _ trivial (.base 18 rfl rfl) inferInstance
              · skip
                refine XT.qs rfl rfl (Q.ld rfl rfl) ⟨inferInstance, ?_⟩ XT.stop
                refine XT.qs rfl rfl (Q.ld rfl rfl) ⟨inferInstance, ?_⟩ XT.stop
                refine XT.q rfl rfl (Q.sub rfl rfl ⟨by omega, by omega⟩) ?_
                refine XT.q rfl rfl (Q.sub rfl rfl ⟨by omega, by omega⟩) ?_
                refine XT.q rfl rfl (Q.add rfl rfl ⟨by omega, by omega⟩) ?_
                refine XT.q rfl rfl (Q.min rfl rfl) ?_
                refine XT.call rfl rfl Try.call26 rfl rfl rfl (next_spec vx hx x b10 (8 + 8 * madeN x + 1 + 1 + 1 + 1) pm4 (min ((madeN x : Int) - (dg x (8 + 8 * madeN x + 1) ((madeN x : Int))) - (1 + (dg x (8 + 8 * madeN x + 1 + 1 + 1) (min ((madeN x : Int) - (dg x (8 + 8 * madeN x + 1) ((madeN x : Int)))) 3))) + 1) 4) fl.1 fl.2) (fun v113 s113 R113 => ?_) XT.stop
                obtain ⟨rfl, rfl⟩ := R113
                dsimp only [List.cons_append, List.nil_append]
                refine ⟨inferInstance, ?_⟩
                refine XT.q rfl rfl (Q.add rfl rfl ⟨by omega, by omega⟩) ?_
                refine XT.q rfl rfl (Q.fieldAddr rfl) ?_
                refine XT.st rfl rfl rfl rfl rfl ⟨inferInstance, ?_⟩ XT.stop
                refine XT.done ?_
                exact mtr14 (()) _ _ trivial (.base 18 rfl rfl) inferInstance
            · skip
              refine XT.qs rfl rfl (Q.ld rfl rfl) ⟨inferInstance, ?_⟩ ?_
              · skip
                refine XT.q rfl rfl (Q.sub rfl rfl ⟨by omega, by omega⟩) ?_
                refine XT.qs rfl rfl (Q.ld rfl rfl) ⟨inferInstance, ?_⟩ ?_
                · skip
                  refine XT.q rfl rfl (Q.add rfl rfl ⟨by omega, by omega⟩) ?_
                  refine XT.qs rfl rfl (Q.ld rfl rfl) ⟨inferInstance, ?_⟩ XT.stop
                  refine XT.q rfl rfl (Q.sub rfl rfl ⟨by omega, by omega⟩) ?_
                  refine XT.q rfl rfl (Q.add rfl rfl ⟨by omega, by omega⟩) ?_
                  refine XT.q rfl rfl (Q.min rfl rfl) ?_
                  refine XT.call rfl rfl Try.call26 rfl rfl rfl (next_spec vx hx x b10 (8 + 8 * madeN x + 1 + 1 + 1 + 1) pm4 (min ((madeN x : Int) - (dg x (8 + 8 * madeN x + 1) ((madeN x : Int))) - (1 + (dg x (8 + 8 * madeN x + 1 + 1 + 1) (min ((madeN x : Int) - (dg x (8 + 8 * madeN x + 1) ((madeN x : Int)))) 3))) + 1) 4) fl.1 fl.2) (fun v113 s113 R113 => ?_) XT.stop
                  obtain ⟨rfl, rfl⟩ := R113
                  dsimp only [List.cons_append, List.nil_append]
                  refine ⟨inferInstance, ?_⟩
                  refine XT.q rfl rfl (Q.add rfl rfl ⟨by omega, by omega⟩) ?_
                  refine XT.q rfl rfl (Q.fieldAddr rfl) ?_
                  refine XT.st rfl rfl rfl rfl rfl ⟨inferInstance, ?_⟩ XT.stop
                  refine XT.done ?_
                  exact mtr14 (()) _ _ trivial (.base 18 rfl rfl) inferInstance
                · skip
                  refine XT.qs rfl rfl (Q.ld rfl rfl) ⟨inferInstance, ?_⟩ XT.stop
                  refine XT.q rfl rfl (Q.sub rfl rfl ⟨by omega, by omega⟩) ?_
                  refine XT.q rfl rfl (Q.add rfl rfl ⟨by omega, by omega⟩) ?_
                  refine XT.q rfl rfl (Q.min rfl rfl) ?_
                  refine XT.qs rfl rfl (Q.ld rfl rfl) ⟨inferInstance, ?_⟩ ?_
                  · skip
                    refine XT.q rfl rfl (Q.add rfl rfl ⟨by omega, by omega⟩) ?_
                    refine XT.call rfl rfl Try.call26 rfl rfl rfl (next_spec vx hx x b10 (8 + 8 * madeN x + 1 + 1 + 1 + 1) pm4 (min ((madeN x : Int) - (dg x (8 + 8 * madeN x + 1) ((madeN x : Int))) - (1 + (dg x (8 + 8 * madeN x + 1 + 1 + 1) (min ((madeN x : Int) - (dg x (8 + 8 * madeN x + 1) ((madeN x : Int)))) 3))) + 1) 4) fl.1 fl.2) (fun v113 s113 R113 => ?_) XT.stop
                    obtain ⟨rfl, rfl⟩ := R113
                    dsimp only [List.cons_append, List.nil_append]
                    refine ⟨inferInstance, ?_⟩
                    refine XT.q rfl rfl (Q.add rfl rfl ⟨by omega, by omega⟩) ?_
                    refine XT.q rfl rfl (Q.fieldAddr rfl) ?_
                    refine XT.st rfl rfl rfl rfl rfl ⟨inferInstance, ?_⟩ XT.stop
                    refine XT.done ?_
                    exact mtr14 (()) _ _ trivial (.base 18 rfl rfl) inferInstance
                  · skip
                    refine XT.call rfl rfl Try.call26 rfl rfl rfl (next_spec vx hx x b10 (8 + 8 * madeN x + 1 + 1 + 1 + 1) pm4 (min ((madeN x : Int) - (dg x (8 + 8 * madeN x + 1) ((madeN x : Int))) - (1 + (dg x (8 + 8 * madeN x + 1 + 1 + 1) (min ((madeN x : Int) - (dg x (8 + 8 * madeN x + 1) ((madeN x : Int)))) 3))) + 1) 4) fl.1 fl.2) (fun v113 s113 R113 => ?_) XT.stop
                    obtain ⟨rfl, rfl⟩ := R113
                    dsimp only [List.cons_append, List.nil_append]
                    refine ⟨inferInstance, ?_⟩
                    refine XT.qs rfl rfl (Q.ld rfl rfl) ⟨inferInstance, ?_⟩ XT.stop
                    refine XT.q rfl rfl (Q.add rfl rfl ⟨by omega, by omega⟩) ?_
                    refine XT.q rfl rfl (Q.add rfl rfl ⟨by omega, by omega⟩) ?_
                    refine XT.q rfl rfl (Q.fieldAddr rfl) ?_
                    refine XT.st rfl rfl rfl rfl rfl ⟨inferInstance, ?_⟩ XT.stop
                    refine XT.done ?_
                    exact mtr14 (()) _ _ trivial (.base 18 rfl rfl) inferInstance
              · skip
                refine XT.qs rfl rfl (Q.ld rfl rfl) ⟨inferInstance, ?_⟩ XT.stop
                refine XT.qs rfl rfl (Q.ld rfl rfl) ⟨inferInstance, ?_⟩ ?_
                · skip
                  refine XT.q rfl rfl (Q.add rfl rfl ⟨by omega, by omega⟩) ?_
                  refine XT.qs rfl rfl (Q.ld rfl rfl) ⟨inferInstance, ?_⟩ XT.stop
                  refine XT.q rfl rfl (Q.sub rfl rfl ⟨by omega, by omega⟩) ?_
                  refine XT.q rfl rfl (Q.sub rfl rfl ⟨by omega, by omega⟩) ?_
                  refine XT.q rfl rfl (Q.add rfl rfl ⟨by omega, by omega⟩) ?_
                  refine XT.q rfl rfl (Q.min rfl rfl) ?_
                  refine XT.call rfl rfl Try.call26 rfl rfl rfl (next_spec vx hx x b10 (8 + 8 * madeN x + 1 + 1 + 1 + 1) pm4 (min ((madeN x : Int) - (dg x (8 + 8 * madeN x + 1) ((madeN x : Int))) - (1 + (dg x (8 + 8 * madeN x + 1 + 1 + 1) (min ((madeN x : Int) - (dg x (8 + 8 * madeN x + 1) ((madeN x : Int)))) 3))) + 1) 4) fl.1 fl.2) (fun v113 s113 R113 => ?_) XT.stop
                  obtain ⟨rfl, rfl⟩ := R113
                  dsimp only [List.cons_append, List.nil_append]
                  refine ⟨inferInstance, ?_⟩
                  refine XT.q rfl rfl (Q.add rfl rfl ⟨by omega, by omega⟩) ?_
                  refine XT.q rfl rfl (Q.fieldAddr rfl) ?_
                  refine XT.st rfl rfl rfl rfl rfl ⟨inferInstance, ?_⟩ XT.stop
                  refine XT.done ?_
                  exact mtr14 (()) _ _ trivial (.base 18 rfl rfl) inferInstance
                · skip
                  refine XT.qs rfl rfl (Q.ld rfl rfl) ⟨inferInstance, ?_⟩ XT.stop
                  refine XT.q rfl rfl (Q.sub rfl rfl ⟨by omega, by omega⟩) ?_
                  refine XT.q rfl rfl (Q.sub rfl rfl ⟨by omega, by omega⟩) ?_
                  refine XT.q rfl rfl (Q.add rfl rfl ⟨by omega, by omega⟩) ?_
                  refine XT.q rfl rfl (Q.min rfl rfl) ?_
                  refine XT.qs rfl rfl (Q.ld rfl rfl) ⟨inferInstance, ?_⟩ ?_
                  · skip
                    refine XT.q rfl rfl (Q.add rfl rfl ⟨by omega, by omega⟩) ?_
                    refine XT.call rfl rfl Try.call26 rfl rfl rfl (next_spec vx hx x b10 (8 + 8 * madeN x + 1 + 1 + 1 + 1) pm4 (min ((madeN x : Int) - (dg x (8 + 8 * madeN x + 1) ((madeN x : Int))) - (1 + (dg x (8 + 8 * madeN x + 1 + 1 + 1) (min ((madeN x : Int) - (dg x (8 + 8 * madeN x + 1) ((madeN x : Int)))) 3))) + 1) 4) fl.1 fl.2) (fun v113 s113 R113 => ?_) XT.stop
                    obtain ⟨rfl, rfl⟩ := R113
                    dsimp only [List.cons_append, List.nil_append]
                    refine ⟨inferInstance, ?_⟩
                    refine XT.q rfl rfl (Q.add rfl rfl ⟨by omega, by omega⟩) ?_
                    refine XT.q rfl rfl (Q.fieldAddr rfl) ?_
                    refine XT.st rfl rfl rfl rfl rfl ⟨inferInstance, ?_⟩ XT.stop
                    refine XT.done ?_
                    exact mtr14 (()) _ _ trivial (.base 18 rfl rfl) inferInstance
                  · skip
                    refine XT.call rfl rfl Try.call26 rfl rfl rfl (next_spec vx hx x b10 (8 + 8 * madeN x + 1 + 1 + 1 + 1) pm4 (min ((madeN x : Int) - (dg x (8 + 8 * madeN x + 1) ((madeN x : Int))) - (1 + (dg x (8 + 8 * madeN x + 1 + 1 + 1) (min ((madeN x : Int) - (dg x (8 + 8 * madeN x + 1) ((madeN x : Int)))) 3))) + 1) 4) fl.1 fl.2) (fun v113 s113 R113 => ?_) XT.stop
                    obtain ⟨rfl, rfl⟩ := R113
                    dsimp only [List.cons_append, List.nil_append]
                    refine ⟨inferInstance, ?_⟩
                    refine XT.qs rfl rfl (Q.ld rfl rfl) ⟨inferInstance, ?_⟩ XT.stop
                    refine XT.q rfl rfl (Q.add rfl rfl ⟨by omega, by omega⟩) ?_
                    refine XT.q rfl rfl (Q.add rfl rfl ⟨by omega, by omega⟩) ?_
                    refine XT.q rfl rfl (Q.fieldAddr rfl) ?_
                    refine XT.st rfl rfl rfl rfl rfl ⟨inferInstance, ?_⟩ XT.stop
                    refine XT.done ?_
                    exact mtr14 (()) _ _ trivial (.base 18 rfl rfl) inferInstance
          · skip
            refine XT.qs rfl rfl (Q.ld rfl rfl) ⟨inferInstance, ?_⟩ ?_
            · skip
              refine XT.qs rfl rfl (Q.ld rfl rfl) ⟨inferInstance, ?_⟩ ?_
              · skip
                refine XT.q rfl rfl (Q.add rfl rfl ⟨by omega, by omega⟩) ?_
                refine XT.qs rfl rfl (Q.ld rfl rfl) ⟨inferInstance, ?_⟩ ?_
                · skip
                  refine XT.q rfl rfl (Q.sub rfl rfl ⟨by omega, by omega⟩) ?_
                  refine XT.qs rfl rfl (Q.ld rfl rfl) ⟨inferInstance, ?_⟩ XT.stop
                  refine XT.q rfl rfl (Q.sub rfl rfl ⟨by omega, by omega⟩) ?_
                  refine XT.q rfl rfl (Q.add rfl rfl ⟨by omega, by omega⟩) ?_
                  refine XT.q rfl rfl (Q.min rfl rfl) ?_
                  refine XT.call rfl rfl Try.call26 rfl rfl rfl (next_spec vx hx x b10 (8 + 8 * madeN x + 1 + 1 + 1 + 1) pm4 (min ((madeN x : Int) - (dg x (8 + 8 * madeN x + 1) ((madeN x : Int))) - (1 + (dg x (8 + 8 * madeN x + 1 + 1 + 1) (min ((madeN x : Int) - (dg x (8 + 8 * madeN x + 1) ((madeN x : Int)))) 3))) + 1) 4) fl.1 fl.2) (fun v113 s113 R113 => ?_) XT.stop
                  obtain ⟨rfl, rfl⟩ := R113
                  dsimp only [List.cons_append, List.nil_append]
                  refine ⟨inferInstance, ?_⟩
                  refine XT.q rfl rfl (Q.add rfl rfl ⟨by omega, by omega⟩) ?_
                  refine XT.q rfl rfl (Q.fieldAddr rfl) ?_
                  refine XT.st rfl rfl rfl rfl rfl ⟨inferInstance, ?_⟩ XT.stop
                  refine XT.done ?_
                  exact mtr14 (()) _ _ trivial (.base 18 rfl rfl) inferInstance
                · skip
                  refine XT.qs rfl rfl (Q.ld rfl rfl) ⟨inferInstance, ?_⟩ XT.stop
                  refine XT.qs rfl rfl (Q.ld rfl rfl) ⟨inferInstance, ?_⟩ XT.stop
                  refine XT.q rfl rfl (Q.sub rfl rfl ⟨by omega, by omega⟩) ?_
                  refine XT.q rfl rfl (Q.sub rfl rfl ⟨by omega, by omega⟩) ?_
                  refine XT.q rfl rfl (Q.add rfl rfl ⟨by omega, by omega⟩) ?_
                  refine XT.q rfl rfl (Q.min rfl rfl) ?_
                  refine XT.call rfl rfl Try.call26 rfl rfl rfl (next_spec vx hx x b10 (8 + 8 * madeN x + 1 + 1 + 1 + 1) pm4 (min ((madeN x : Int) - (dg x (8 + 8 * madeN x + 1) ((madeN x : Int))) - (1 + (dg x (8 + 8 * madeN x + 1 + 1 + 1) (min ((madeN x : Int) - (dg x (8 + 8 * madeN x + 1) ((madeN x : Int)))) 3))) + 1) 4) fl.1 fl.2) (fun v113 s113 R113 => ?_) XT.stop
                  obtain ⟨rfl, rfl⟩ := R113
                  dsimp only [List.cons_append, List.nil_append]
                  refine ⟨inferInstance, ?_⟩
                  refine XT.q rfl rfl (Q.add rfl rfl ⟨by omega, by omega⟩) ?_
                  refine XT.q rfl rfl (Q.fieldAddr rfl) ?_
                  refine XT.st rfl rfl rfl rfl rfl ⟨inferInstance, ?_⟩ XT.stop
                  refine XT.done ?_
                  exact mtr14 (()) _ _ trivial (.base 18 rfl rfl) inferInstance
              · skip
                refine XT.qs rfl rfl (Q.ld rfl rfl) ⟨inferInstance, ?_⟩ ?_
                · skip
                  refine XT.q rfl rfl (Q.sub rfl rfl ⟨by omega, by omega⟩) ?_
                  refine XT.qs rfl rfl (Q.ld rfl rfl) ⟨inferInstance, ?_⟩ ?_
                  · skip
                    refine XT.q rfl rfl (Q.add rfl rfl ⟨by omega, by omega⟩) ?_
                    refine XT.qs rfl rfl (Q.ld rfl rfl) ⟨inferInstance, ?_⟩ XT.stop
                    refine XT.q rfl rfl (Q.sub rfl rfl ⟨by omega, by omega⟩) ?_
                    refine XT.q rfl rfl (Q.add rfl rfl ⟨by omega, by omega⟩) ?_
                    refine XT.q rfl rfl (Q.min rfl rfl) ?_
                    refine XT.call rfl rfl Try.call26 rfl rfl rfl (next_spec vx hx x b10 (8 + 8 * madeN x + 1 + 1 + 1 + 1) pm4 (min ((madeN x : Int) - (dg x (8 + 8 * madeN x + 1) ((madeN x : Int))) - (1 + (dg x (8 + 8 * madeN x + 1 + 1 + 1) (min ((madeN x : Int) - (dg x (8 + 8 * madeN x + 1) ((madeN x : Int)))) 3))) + 1) 4) fl.1 fl.2) (fun v113 s113 R113 => ?_) XT.stop
                    obtain ⟨rfl, rfl⟩ := R113
                    dsimp only [List.cons_append, List.nil_append]
                    refine ⟨inferInstance, ?_⟩
                    refine XT.q rfl rfl (Q.add rfl rfl ⟨by omega, by omega⟩) ?_
                    refine XT.q rfl rfl (Q.fieldAddr rfl) ?_
                    refine XT.st rfl rfl rfl rfl rfl ⟨inferInstance, ?_⟩ XT.stop
                    refine XT.done ?_
                    exact mtr14 (()) _ _ trivial (.base 18 rfl rfl) inferInstance
                  · skip
                    refine XT.qs rfl rfl (Q.ld rfl rfl) ⟨inferInstance, ?_⟩ XT.stop
                    refine XT.q rfl rfl (Q.sub rfl rfl ⟨by omega, by omega⟩) ?_
                    refine XT.q rfl rfl (Q.add rfl rfl ⟨by omega, by omega⟩) ?_
                    refine XT.q rfl rfl (Q.min rfl rfl) ?_
                    refine XT.qs rfl rfl (Q.ld rfl rfl) ⟨inferInstance, ?_⟩ ?_
                    · skip
                      refine XT.q rfl rfl (Q.add rfl rfl ⟨by omega, by omega⟩) ?_
                      refine XT.call rfl rfl Try.call26 rfl rfl rfl (next_spec vx hx x b10 (8 + 8 * madeN x + 1 + 1 + 1 + 1) pm4 (min ((madeN x : Int) - (dg x (8 + 8 * madeN x + 1) ((madeN x : Int))) - (1 + (dg x (8 + 8 * madeN x + 1 + 1 + 1) (min ((madeN x : Int) - (dg x (8 + 8 * madeN x + 1) ((madeN x : Int)))) 3))) + 1) 4) fl.1 fl.2) (fun v113 s113 R113 => ?_) XT.stop
                      obtain ⟨rfl, rfl⟩ := R113
                      dsimp only [List.cons_append, List.nil_append]
                      refine ⟨inferInstance, ?_⟩
                      refine XT.q rfl rfl (Q.add rfl rfl ⟨by omega, by omega⟩) ?_
                      refine XT.q rfl rfl (Q.fieldAddr rfl) ?_
                      refine XT.st rfl rfl rfl rfl rfl ⟨inferInstance, ?_⟩ XT.stop
                      refine XT.done ?_
                      exact mtr14 (()) _ _ trivial (.base 18 rfl rfl) inferInstance
                    · skip
                      refine XT.call rfl rfl Try.call26 rfl rfl rfl (next_spec vx hx x b10 (8 + 8 * madeN x + 1 + 1 + 1 + 1) pm4 (min ((madeN x : Int) - (dg x (8 + 8 * madeN x + 1) ((madeN x : Int))) - (1 + (dg x (8 + 8 * madeN x + 1 + 1 + 1) (min ((madeN x : Int) - (dg x (8 + 8 * madeN x + 1) ((madeN x : Int)))) 3))) + 1) 4) fl.1 fl.2) (fun v113 s113 R113 => ?_) XT.stop
                      obtain ⟨rfl, rfl⟩ := R113
                      dsimp only [List.cons_append, List.nil_append]
                      refine ⟨inferInstance, ?_⟩
                      refine XT.qs rfl rfl (Q.ld rfl rfl) ⟨inferInstance, ?_⟩ XT.stop
                      refine XT.q rfl rfl (Q.add rfl rfl ⟨by omega, by omega⟩) ?_
                      refine XT.q rfl rfl (Q.add rfl rfl ⟨by omega, by omega⟩) ?_
                      refine XT.q rfl rfl (Q.fieldAddr rfl) ?_
                      refine XT.st rfl rfl rfl rfl rfl ⟨inferInstance, ?_⟩ XT.stop
                      refine XT.done ?_
                      exact mtr14 (()) _ _ trivial (.base 18 rfl rfl) inferInstance
                · skip
                  refine XT.qs rfl rfl (Q.ld rfl rfl) ⟨inferInstance, ?_⟩ XT.stop
                  refine XT.qs rfl rfl (Q.ld rfl rfl) ⟨inferInstance, ?_⟩ ?_
                  · skip
                    refine XT.q rfl rfl (Q.add rfl rfl ⟨by omega, by omega⟩) ?_
                    refine XT.qs rfl rfl (Q.ld rfl rfl) ⟨inferInstance, ?_⟩ XT.stop
                    refine XT.q rfl rfl (Q.sub rfl rfl ⟨by omega, by omega⟩) ?_
                    refine XT.q rfl rfl (Q.sub rfl rfl ⟨by omega, by omega⟩) ?_
                    refine XT.q rfl rfl (Q.add rfl rfl ⟨by omega, by omega⟩) ?_
                    refine XT.q rfl rfl (Q.min rfl rfl) ?_
                    refine XT.call rfl rfl Try.call26 rfl rfl rfl (next_spec vx hx x b10 (8 + 8 * madeN x + 1 + 1 + 1 + 1) pm4 (min ((madeN x : Int) - (dg x (8 + 8 * madeN x + 1) ((madeN x : Int))) - (1 + (dg x (8 + 8 * madeN x + 1 + 1 + 1) (min ((madeN x : Int) - (dg x (8 + 8 * madeN x + 1) ((madeN x : Int)))) 3))) + 1) 4) fl.1 fl.2) (fun v113 s113 R113 => ?_) XT.stop
                    obtain ⟨rfl, rfl⟩ := R113
                    dsimp only [List.cons_append, List.nil_append]
                    refine ⟨inferInstance, ?_⟩
                    refine XT.q rfl rfl (Q.add rfl rfl ⟨by omega, by omega⟩) ?_
                    refine XT.q rfl rfl (Q.fieldAddr rfl) ?_
                    refine XT.st rfl rfl rfl rfl rfl ⟨inferInstance, ?_⟩ XT.stop
                    refine XT.done ?_
                    exact mtr14 (()) _ _ trivial (.base 18 rfl rfl) inferInstance
                  · skip
                    refine XT.qs rfl rfl (Q.ld rfl rfl) ⟨inferInstance, ?_⟩ XT.stop
                    refine XT.q rfl rfl (Q.sub rfl rfl ⟨by omega, by omega⟩) ?_
                    refine XT.q rfl rfl (Q.sub rfl rfl ⟨by omega, by omega⟩) ?_
                    refine XT.q rfl rfl (Q.add rfl rfl ⟨by omega, by omega⟩) ?_
                    refine XT.q rfl rfl (Q.min rfl rfl) ?_
                    refine XT.qs rfl rfl (Q.ld rfl rfl) ⟨inferInstance, ?_⟩ ?_
                    · skip
                      refine XT.q rfl rfl (Q.add rfl rfl ⟨by omega, by omega⟩) ?_
                      refine XT.call rfl rfl Try.call26 rfl rfl rfl (next_spec vx hx x b10 (8 + 8 * madeN x + 1 + 1 + 1 + 1) pm4 (min ((madeN x : Int) - (dg x (8 + 8 * madeN x + 1) ((madeN x : Int))) - (1 + (dg x (8 + 8 * madeN x + 1 + 1 + 1) (min ((madeN x : Int) - (dg x (8 + 8 * madeN x + 1) ((madeN x : Int)))) 3))) + 1) 4) fl.1 fl.2) (fun v113 s113 R113 => ?_) XT.stop
                      obtain ⟨rfl, rfl⟩ := R113
                      dsimp only [List.cons_append, List.nil_append]
                      refine ⟨inferInstance, ?_⟩
                      refine XT.q rfl rfl (Q.add rfl rfl ⟨by omega, by omega⟩) ?_
                      refine XT.q rfl rfl (Q.fieldAddr rfl) ?_
                      refine XT.st rfl rfl rfl rfl rfl ⟨inferInstance, ?_⟩ XT.stop
                      refine XT.done ?_
                      exact mtr14 (()) _ _ trivial (.base 18 rfl rfl) inferInstance
                    · skip
                      refine XT.call rfl rfl Try.call26 rfl rfl rfl (next_spec vx hx x b10 (8 + 8 * madeN x + 1 + 1 + 1 + 1) pm4 (min ((madeN x : Int) - (dg x (8 + 8 * madeN x + 1) ((madeN x : Int))) - (1 + (dg x (8 + 8 * madeN x + 1 + 1 + 1) (min ((madeN x : Int) - (dg x (8 + 8 * madeN x + 1) ((madeN x : Int)))) 3))) + 1) 4) fl.1 fl.2) (fun v113 s113 R113 => ?_) XT.stop
                      obtain ⟨rfl, rfl⟩ := R113
                      dsimp only [List.cons_append, List.nil_append]
                      refine ⟨inferInstance, ?_⟩
                      refine XT.qs rfl rfl (Q.ld rfl rfl) ⟨inferInstance, ?_⟩ XT.stop
                      refine XT.q rfl rfl (Q.add rfl rfl ⟨by omega, by omega⟩) ?_
                      refine XT.q rfl rfl (Q.add rfl rfl ⟨by omega, by omega⟩) ?_
                      refine XT.q rfl rfl (Q.fieldAddr rfl) ?_
                      refine XT.st rfl rfl rfl rfl rfl ⟨inferInstance, ?_⟩ XT.stop
                      refine XT.done ?_
                      exact mtr14 (()) _ _ trivial (.base 18 rfl rfl) inferInstance
            · skip
              refine XT.qs rfl rfl (Q.ld rfl rfl) ⟨inferInstance, ?_⟩ ?_
              · skip
                refine XT.q rfl rfl (Q.sub rfl rfl ⟨by omega, by omega⟩) ?_
                refine XT.qs rfl rfl (Q.ld rfl rfl) ⟨inferInstance, ?_⟩ ?_
                · skip
                  refine XT.qs rfl rfl (Q.ld rfl rfl) ⟨inferInstance, ?_⟩ ?_
                  · skip
                    refine XT.q rfl rfl (Q.add rfl rfl ⟨by omega, by omega⟩) ?_
                    refine XT.qs rfl rfl (Q.ld rfl rfl) ⟨inferInstance, ?_⟩ XT.stop
                    refine XT.q rfl rfl (Q.sub rfl rfl ⟨by omega, by omega⟩) ?_
                    refine XT.q rfl rfl (Q.add rfl rfl ⟨by omega, by omega⟩) ?_
                    refine XT.q rfl rfl (Q.min rfl rfl) ?_
                    refine XT.call rfl rfl Try.call26 rfl rfl rfl (next_spec vx hx x b10 (8 + 8 * madeN x + 1 + 1 + 1 + 1) pm4 (min ((madeN x : Int) - (dg x (8 + 8 * madeN x + 1) ((madeN x : Int))) - (1 + (dg x (8 + 8 * madeN x + 1 + 1 + 1) (min ((madeN x : Int) - (dg x (8 + 8 * madeN x + 1) ((madeN x : Int)))) 3))) + 1) 4) fl.1 fl.2) (fun v113 s113 R113 => ?_) XT.stop
                    obtain ⟨rfl, rfl⟩ := R113
                    dsimp only [List.cons_append, List.nil_append]
                    refine ⟨inferInstance, ?_⟩
                    refine XT.q rfl rfl (Q.add rfl rfl ⟨by omega, by omega⟩) ?_
                    refine XT.q rfl rfl (Q.fieldAddr rfl) ?_
                    refine XT.st rfl rfl rfl rfl rfl ⟨inferInstance, ?_⟩ XT.stop
                    refine XT.done ?_
                    exact mtr14 (()) _ _ trivial (.base 18 rfl rfl) inferInstance
                  · skip
                    refine XT.qs rfl rfl (Q.ld rfl rfl) ⟨inferInstance, ?_⟩ XT.stop
                    refine XT.q rfl rfl (Q.sub rfl rfl ⟨by omega, by omega⟩) ?_
                    refine XT.q rfl rfl (Q.add rfl rfl ⟨by omega, by omega⟩) ?_
                    refine XT.q rfl rfl (Q.min rfl rfl) ?_
                    refine XT.qs rfl rfl (Q.ld rfl rfl) ⟨inferInstance, ?_⟩ ?_
                    · skip
                      refine XT.q rfl rfl (Q.add rfl rfl ⟨by omega, by omega⟩) ?_
                      refine XT.call rfl rfl Try.call26 rfl rfl rfl (next_spec vx hx x b10 (8 + 8 * madeN x + 1 + 1 + 1 + 1) pm4 (min ((madeN x : Int) - (dg x (8 + 8 * madeN x + 1) ((madeN x : Int))) - (1 + (dg x (8 + 8 * madeN x + 1 + 1 + 1) (min ((madeN x : Int) - (dg x (8 + 8 * madeN x + 1) ((madeN x : Int)))) 3))) + 1) 4) fl.1 fl.2) (fun v113 s113 R113 => ?_) XT.stop
                      obtain ⟨rfl, rfl⟩ := R113
                      dsimp only [List.cons_append, List.nil_append]
                      refine ⟨inferInstance, ?_⟩
                      refine XT.q rfl rfl (Q.add rfl rfl ⟨by omega, by omega⟩) ?_
                      refine XT.q rfl rfl (Q.fieldAddr rfl) ?_
                      refine XT.st rfl rfl rfl rfl rfl ⟨inferInstance, ?_⟩ XT.stop
                      refine XT.done ?_
                      exact mtr14 (()) _ _ trivial (.base 18 rfl rfl) inferInstance
                    · skip
                      refine XT.call rfl rfl Try.call26 rfl rfl rfl (next_spec vx hx x b10 (8 + 8 * madeN x + 1 + 1 + 1 + 1) pm4 (min ((madeN x : Int) - (dg x (8 + 8 * madeN x + 1) ((madeN x : Int))) - (1 + (dg x (8 + 8 * madeN x + 1 + 1 + 1) (min ((madeN x : Int) - (dg x (8 + 8 * madeN x + 1) ((madeN x : Int)))) 3))) + 1) 4) fl.1 fl.2) (fun v113 s113 R113 => ?_) XT.stop
                      obtain ⟨rfl, rfl⟩ := R113
                      dsimp only [List.cons_append, List.nil_append]
                      refine ⟨inferInstance, ?_⟩
                      refine XT.qs rfl rfl (Q.ld rfl rfl) ⟨inferInstance, ?_⟩ XT.stop
                      refine XT.q rfl rfl (Q.add rfl rfl ⟨by omega, by omega⟩) ?_
                      refine XT.q rfl rfl (Q.add rfl rfl ⟨by omega, by omega⟩) ?_
                      refine XT.q rfl rfl (Q.fieldAddr rfl) ?_
                      refine XT.st rfl rfl rfl rfl rfl ⟨inferInstance, ?_⟩ XT.stop
                      refine XT.done ?_
                      exact mtr14 (()) _ _ trivial (.base 18 rfl rfl) inferInstance
                · skip
                  refine XT.qs rfl rfl (Q.ld rfl rfl) ⟨inferInstance, ?_⟩ ?_
                  · skip
                    refine XT.qs rfl rfl (Q.ld rfl rfl) ⟨inferInstance, ?_⟩ ?_
                    · skip
                      refine XT.q rfl rfl (Q.add rfl rfl ⟨by omega, by omega⟩) ?_
                      refine XT.qs rfl rfl (Q.ld rfl rfl) ⟨inferInstance, ?_⟩ XT.stop
                      refine XT.q rfl rfl (Q.sub rfl rfl ⟨by omega, by omega⟩) ?_
                      refine XT.q rfl rfl (Q.add rfl rfl ⟨by omega, by omega⟩) ?_
                      refine XT.q rfl rfl (Q.min rfl rfl) ?_
                      refine XT.call rfl rfl Try.call26 rfl rfl rfl (next_spec vx hx x b10 (8 + 8 * madeN x + 1 + 1 + 1 + 1) pm4 (min ((madeN x : Int) - (dg x (8 + 8 * madeN x + 1) ((madeN x : Int))) - (1 + (dg x (8 + 8 * madeN x + 1 + 1 + 1) (min ((madeN x : Int) - (dg x (8 + 8 * madeN x + 1) ((madeN x : Int)))) 3))) + 1) 4) fl.1 fl.2) (fun v113 s113 R113 => ?_) XT.stop
                      obtain ⟨rfl, rfl⟩ := R113
                      dsimp only [List.cons_append, List.nil_append]
                      refine ⟨inferInstance, ?_⟩
                      refine XT.q rfl rfl (Q.add rfl rfl ⟨by omega, by omega⟩) ?_
                      refine XT.q rfl rfl (Q.fieldAddr rfl) ?_
                      refine XT.st rfl rfl rfl rfl rfl ⟨inferInstance, ?_⟩ XT.stop
                      refine XT.done ?_
                      exact mtr14 (()) _ _ trivial (.base 18 rfl rfl) inferInstance
                    · skip
                      refine XT.qs rfl rfl (Q.ld rfl rfl) ⟨inferInstance, ?_⟩ XT.stop
                      refine XT.q rfl rfl (Q.sub rfl rfl ⟨by omega, by omega⟩) ?_
                      refine XT.q rfl rfl (Q.add rfl rfl ⟨by omega, by omega⟩) ?_
                      refine XT.q rfl rfl (Q.min rfl rfl) ?_
                      refine XT.qs rfl rfl (Q.ld rfl rfl) ⟨inferInstance, ?_⟩ ?_
                      · skip
                        refine XT.q rfl rfl (Q.add rfl rfl ⟨by omega, by omega⟩) ?_
                        refine XT.call rfl rfl Try.call26 rfl rfl rfl (next_spec vx hx x b10 (8 + 8 * madeN x + 1 + 1 + 1 + 1) pm4 (min ((madeN x : Int) - (dg x (8 + 8 * madeN x + 1) ((madeN x : Int))) - (1 + (dg x (8 + 8 * madeN x + 1 + 1 + 1) (min ((madeN x : Int) - (dg x (8 + 8 * madeN x + 1) ((madeN x : Int)))) 3))) + 1) 4) fl.1 fl.2) (fun v113 s113 R113 => ?_) XT.stop
                        obtain ⟨rfl, rfl⟩ := R113
                        dsimp only [List.cons_append, List.nil_append]
                        refine ⟨inferInstance, ?_⟩
                        refine XT.q rfl rfl (Q.add rfl rfl ⟨by omega, by omega⟩) ?_
                        refine XT.q rfl rfl (Q.fieldAddr rfl) ?_
                        refine XT.st rfl rfl rfl rfl rfl ⟨inferInstance, ?_⟩ XT.stop
                        refine XT.done ?_
                        exact mtr14 (()) _ _ trivial (.base 18 rfl rfl) inferInstance
                      · skip
                        refine XT.call rfl rfl Try.call26 rfl rfl rfl (next_spec vx hx x b10 (8 + 8 * madeN x + 1 + 1 + 1 + 1) pm4 (min ((madeN x : Int) - (dg x (8 + 8 * madeN x + 1) ((madeN x : Int))) - (1 + (dg x (8 + 8 * madeN x + 1 + 1 + 1) (min ((madeN x : Int) - (dg x (8 + 8 * madeN x + 1) ((madeN x : Int)))) 3))) + 1) 4) fl.1 fl.2) (fun v113 s113 R113 => ?_) XT.stop
                        obtain ⟨rfl, rfl⟩ := R113
                        dsimp only [List.cons_append, List.nil_append]
                        refine ⟨inferInstance, ?_⟩
                        refine XT.qs rfl rfl (Q.ld rfl rfl) ⟨inferInstance, ?_⟩ XT.stop
                        refine XT.q rfl rfl (Q.add rfl rfl ⟨by omega, by omega⟩) ?_
                        refine XT.q rfl rfl (Q.add rfl rfl ⟨by omega, by omega⟩) ?_
                        refine XT.q rfl rfl (Q.fieldAddr rfl) ?_
                        refine XT.st rfl rfl rfl rfl rfl ⟨inferInstance, ?_⟩ XT.stop
                        refine XT.done ?_
                        exact mtr14 (()) _ _ trivial (.base 18 rfl rfl) inferInstance
                  · skip
                    refine XT.qs rfl rfl (Q.ld rfl rfl) ⟨inferInstance, ?_⟩ XT.stop
                    refine XT.q rfl rfl (Q.sub rfl rfl ⟨by omega, by omega⟩) ?_
                    refine XT.q rfl rfl (Q.add rfl rfl ⟨by omega, by omega⟩) ?_
                    refine XT.q rfl rfl (Q.min rfl rfl) ?_
                    refine XT.qs rfl rfl (Q.ld rfl rfl) ⟨inferInstance, ?_⟩ ?_
                    · skip
                      refine XT.qs rfl rfl (Q.ld rfl rfl) ⟨inferInstance, ?_⟩ ?_
                      · skip
                        refine XT.q rfl rfl (Q.add rfl rfl ⟨by omega, by omega⟩) ?_
                        refine XT.call rfl rfl Try.call26 rfl rfl rfl (next_spec vx hx x b10 (8 + 8 * madeN x + 1 + 1 + 1 + 1) pm4 (min ((madeN x : Int) - (dg x (8 + 8 * madeN x + 1) ((madeN x : Int))) - (1 + (dg x (8 + 8 * madeN x + 1 + 1 + 1) (min ((madeN x : Int) - (dg x (8 + 8 * madeN x + 1) ((madeN x : Int)))) 3))) + 1) 4) fl.1 fl.2) (fun v113 s113 R113 => ?_) XT.stop
                        obtain ⟨rfl, rfl⟩ := R113
                        dsimp only [List.cons_append, List.nil_append]
                        refine ⟨inferInstance, ?_⟩
                        refine XT.q rfl rfl (Q.add rfl rfl ⟨by omega, by omega⟩) ?_
                        refine XT.q rfl rfl (Q.fieldAddr rfl) ?_
                        refine XT.st rfl rfl rfl rfl rfl ⟨inferInstance, ?_⟩ XT.stop
                        refine XT.done ?_
                        exact mtr14 (()) _ _ trivial (.base 18 rfl rfl) inferInstance
                      · skip
                        refine XT.call rfl rfl Try.call26 rfl rfl rfl (next_spec vx hx x b10 (8 + 8 * madeN x + 1 + 1 + 1 + 1) pm4 (min ((madeN x : Int) - (dg x (8 + 8 * madeN x + 1) ((madeN x : Int))) - (1 + (dg x (8 + 8 * madeN x + 1 + 1 + 1) (min ((madeN x : Int) - (dg x (8 + 8 * madeN x + 1) ((madeN x : Int)))) 3))) + 1) 4) fl.1 fl.2) (fun v113 s113 R113 => ?_) XT.stop
                        obtain ⟨rfl, rfl⟩ := R113
                        dsimp only [List.cons_append, List.nil_append]
                        refine ⟨inferInstance, ?_⟩
                        refine XT.qs rfl rfl (Q.ld rfl rfl) ⟨inferInstance, ?_⟩ XT.stop
                        refine XT.q rfl rfl (Q.add rfl rfl ⟨by omega, by omega⟩) ?_
                        refine XT.q rfl rfl (Q.add rfl rfl ⟨by omega, by omega⟩) ?_
                        refine XT.q rfl rfl (Q.fieldAddr rfl) ?_
                        refine XT.st rfl rfl rfl rfl rfl ⟨inferInstance, ?_⟩ XT.stop
                        refine XT.done ?_
                        exact mtr14 (()) _ _ trivial (.base 18 rfl rfl) inferInstance
                    · skip
                      refine XT.qs rfl rfl (Q.ld rfl rfl) ⟨inferInstance, ?_⟩ ?_
                      · skip
                        refine XT.qs rfl rfl (Q.ld rfl rfl) ⟨inferInstance, ?_⟩ ?_
                        · skip
                          refine XT.q rfl rfl (Q.add rfl rfl ⟨by omega, by omega⟩) ?_
                          refine XT.call rfl rfl Try.call26 rfl rfl rfl (next_spec vx hx x b10 (8 + 8 * madeN x + 1 + 1 + 1 + 1) pm4 (min ((madeN x : Int) - (dg x (8 + 8 * madeN x + 1) ((madeN x : Int))) - (1 + (dg x (8 + 8 * madeN x + 1 + 1 + 1) (min ((madeN x : Int) - (dg x (8 + 8 * madeN x + 1) ((madeN x : Int)))) 3))) + 1) 4) fl.1 fl.2) (fun v113 s113 R113 => ?_) XT.stop
                          obtain ⟨rfl, rfl⟩ := R113
                          dsimp only [List.cons_append, List.nil_append]
                          refine ⟨inferInstance, ?_⟩
                          refine XT.q rfl rfl (Q.add rfl rfl ⟨by omega, by omega⟩) ?_
                          refine XT.q rfl rfl (Q.fieldAddr rfl) ?_
                          refine XT.st rfl rfl rfl rfl rfl ⟨inferInstance, ?_⟩ XT.stop
                          refine XT.done ?_
                          exact mtr14 (()) _ _ trivial (.base 18 rfl rfl) inferInstance
                        · skip
                          refine XT.call rfl rfl Try.call26 rfl rfl rfl (next_spec vx hx x b10 (8 + 8 * madeN x + 1 + 1 + 1 + 1) pm4 (min ((madeN x : Int) - (dg x (8 + 8 * madeN x + 1) ((madeN x : Int))) - (1 + (dg x (8 + 8 * madeN x + 1 + 1 + 1) (min ((madeN x : Int) - (dg x (8 + 8 * madeN x + 1) ((madeN x : Int)))) 3))) + 1) 4) fl.1 fl.2) (fun v113 s113 R113 => ?_) XT.stop
                          obtain ⟨rfl, rfl⟩ := R113
                          dsimp only [List.cons_append, List.nil_append]
                          refine ⟨inferInstance, ?_⟩
                          refine XT.qs rfl rfl (Q.ld rfl rfl) ⟨inferInstance, ?_⟩ XT.stop
                          refine XT.q rfl rfl (Q.add rfl rfl ⟨by omega, by omega⟩) ?_
                          refine XT.q rfl rfl (Q.add rfl rfl ⟨by omega, by omega⟩) ?_
                          refine XT.q rfl rfl (Q.fieldAddr rfl) ?_
                          refine XT.st rfl rfl rfl rfl rfl ⟨inferInstance, ?_⟩ XT.stop
                          refine XT.done ?_
                          exact mtr14 (()) _ _ trivial (.base 18 rfl rfl) inferInstance
                      · skip
                        refine XT.call rfl rfl Try.call26 rfl rfl rfl (next_spec vx hx x b10 (8 + 8 * madeN x + 1 + 1 + 1 + 1) pm4 (min ((madeN x : Int) - (dg x (8 + 8 * madeN x + 1) ((madeN x : Int))) - (1 + (dg x (8 + 8 * madeN x + 1 + 1 + 1) (min ((madeN x : Int) - (dg x (8 + 8 * madeN x + 1) ((madeN x : Int)))) 3))) + 1) 4) fl.1 fl.2) (fun v113 s113 R113 => ?_) XT.stop
                        obtain ⟨rfl, rfl⟩ := R113
                        dsimp only [List.cons_append, List.nil_append]
                        refine ⟨inferInstance, ?_⟩
                        refine XT.qs rfl rfl (Q.ld rfl rfl) ⟨inferInstance, ?_⟩ ?_
                        · skip
                          refine XT.qs rfl rfl (Q.ld rfl rfl) ⟨inferInstance, ?_⟩ XT.stop
                          refine XT.q rfl rfl (Q.add rfl rfl ⟨by omega, by omega⟩) ?_
                          refine XT.q rfl rfl (Q.add rfl rfl ⟨by omega, by omega⟩) ?_
                          refine XT.q rfl rfl (Q.fieldAddr rfl) ?_
                          refine XT.st rfl rfl rfl rfl rfl ⟨inferInstance, ?_⟩ XT.stop
                          refine XT.done ?_
                          exact mtr14 (()) _ _ trivial (.base 18 rfl rfl) inferInstance
                        · skip
                          refine XT.qs rfl rfl (Q.ld rfl rfl) ⟨inferInstance, ?_⟩ XT.stop
                          refine XT.qs rfl rfl (Q.ld rfl rfl) ⟨inferInstance, ?_⟩ XT.stop
                          refine XT.q rfl rfl (Q.add rfl rfl ⟨by omega, by omega⟩) ?_
                          refine XT.q rfl rfl (Q.add rfl rfl ⟨by omega, by omega⟩) ?_
                          refine XT.q rfl rfl (Q.fieldAddr rfl) ?_
                          refine XT.st rfl rfl rfl rfl rfl ⟨inferInstance, ?_⟩ XT.stop
                          refine XT.done ?_
                          exact mtr14 (()) _ _ trivial (.base 18 rfl rfl) inferInstance
              · skip
                refine XT.qs rfl rfl (Q.ld rfl rfl) ⟨inferInstance, ?_⟩ XT.stop
                refine XT.qs rfl rfl (Q.ld rfl rfl) ⟨inferInstance, ?_⟩ ?_
                · skip
                  refine XT.qs rfl rfl (Q.ld rfl rfl) ⟨inferInstance, ?_⟩ ?_
                  · skip
                    refine XT.q rfl rfl (Q.add rfl rfl ⟨by omega, by omega⟩) ?_
                    refine XT.qs rfl rfl (Q.ld rfl rfl) ⟨inferInstance, ?_⟩ XT.stop
                    refine XT.q rfl rfl (Q.sub rfl rfl ⟨by omega, by omega⟩) ?_
                    refine XT.q rfl rfl (Q.sub rfl rfl ⟨by omega, by omega⟩) ?_
                    refine XT.q rfl rfl (Q.add rfl rfl ⟨by omega, by omega⟩) ?_
                    refine XT.q rfl rfl (Q.min rfl rfl) ?_
                    refine XT.call rfl rfl Try.call26 rfl rfl rfl (next_spec vx hx x b10 (8 + 8 * madeN x + 1 + 1 + 1 + 1) pm4 (min ((madeN x : Int) - (dg x (8 + 8 * madeN x + 1) ((madeN x : Int))) - (1 + (dg x (8 + 8 * madeN x + 1 + 1 + 1) (min ((madeN x : Int) - (dg x (8 + 8 * madeN x + 1) ((madeN x : Int)))) 3))) + 1) 4) fl.1 fl.2) (fun v113 s113 R113 => ?_) XT.stop
                    obtain ⟨rfl, rfl⟩ := R113
                    dsimp only [List.cons_append, List.nil_append]
                    refine ⟨inferInstance, ?_⟩
                    refine XT.q rfl rfl (Q.add rfl rfl ⟨by omega, by omega⟩) ?_
                    refine XT.q rfl rfl (Q.fieldAddr rfl) ?_
                    refine XT.st rfl rfl rfl rfl rfl ⟨inferInstance, ?_⟩ XT.stop
                    refine XT.done ?_
                    exact mtr14 (()) _ _ trivial (.base 18 rfl rfl) inferInstance
                  · skip
                    refine XT.qs rfl rfl (Q.ld rfl rfl) ⟨inferInstance, ?_⟩ XT.stop
                    refine XT.q rfl rfl (Q.sub rfl rfl ⟨by omega, by omega⟩) ?_
                    refine XT.q rfl rfl (Q.sub rfl rfl ⟨by omega, by omega⟩) ?_
                    refine XT.q rfl rfl (Q.add rfl rfl ⟨by omega, by omega⟩) ?_
                    refine XT.q rfl rfl (Q.min rfl rfl) ?_
                    refine XT.qs rfl rfl (Q.ld rfl rfl) ⟨inferInstance, ?_⟩ ?_
                    · skip
                      refine XT.q rfl rfl (Q.add rfl rfl ⟨by omega, by omega⟩) ?_
                      refine XT.call rfl rfl Try.call26 rfl rfl rfl (next_spec vx hx x b10 (8 + 8 * madeN x + 1 + 1 + 1 + 1) pm4 (min ((madeN x : Int) - (dg x (8 + 8 * madeN x + 1) ((madeN x : Int))) - (1 + (dg x (8 + 8 * madeN x + 1 + 1 + 1) (min ((madeN x : Int) - (dg x (8 + 8 * madeN x + 1) ((madeN x : Int)))) 3))) + 1) 4) fl.1 fl.2) (fun v113 s113 R113 => ?_) XT.stop
                      obtain ⟨rfl, rfl⟩ := R113
                      dsimp only [List.cons_append, List.nil_append]
                      refine ⟨inferInstance, ?_⟩
                      refine XT.q rfl rfl (Q.add rfl rfl ⟨by omega, by omega⟩) ?_
                      refine XT.q rfl rfl (Q.fieldAddr rfl) ?_
                      refine XT.st rfl rfl rfl rfl rfl ⟨inferInstance, ?_⟩ XT.stop
                      refine XT.done ?_
                      exact mtr14 (()) _ _ trivial (.base 18 rfl rfl) inferInstance
                    · skip
                      refine XT.call rfl rfl Try.call26 rfl rfl rfl (next_spec vx hx x b10 (8 + 8 * madeN x + 1 + 1 + 1 + 1) pm4 (min ((madeN x : Int) - (dg x (8 + 8 * madeN x + 1) ((madeN x : Int))) - (1 + (dg x (8 + 8 * madeN x + 1 + 1 + 1) (min ((madeN x : Int) - (dg x (8 + 8 * madeN x + 1) ((madeN x : Int)))) 3))) + 1) 4) fl.1 fl.2) (fun v113 s113 R113 => ?_) XT.stop
                      obtain ⟨rfl, rfl⟩ := R113
                      dsimp only [List.cons_append, List.nil_append]
                      refine ⟨inferInstance, ?_⟩
                      refine XT.qs rfl rfl (Q.ld rfl rfl) ⟨inferInstance, ?_⟩ XT.stop
                      refine XT.q rfl rfl (Q.add rfl rfl ⟨by omega, by omega⟩) ?_
                      refine XT.q rfl rfl (Q.add rfl rfl ⟨by omega, by omega⟩) ?_
                      refine XT.q rfl rfl (Q.fieldAddr rfl) ?_
                      refine XT.st rfl rfl rfl rfl rfl ⟨inferInstance, ?_⟩ XT.stop
                      refine XT.done ?_
                      exact mtr14 (()) _ _ trivial (.base 18 rfl rfl) inferInstance
                · skip
                  refine XT.qs rfl rfl (Q.ld rfl rfl) ⟨inferInstance, ?_⟩ ?_
                  · skip
                    refine XT.qs rfl rfl (Q.ld rfl rfl) ⟨inferInstance, ?_⟩ ?_
                    · skip
                      refine XT.q rfl rfl (Q.add rfl rfl ⟨by omega, by omega⟩) ?_
                      refine XT.qs rfl rfl (Q.ld rfl rfl) ⟨inferInstance, ?_⟩ XT.stop
                      refine XT.q rfl rfl (Q.sub rfl rfl ⟨by omega, by omega⟩) ?_
                      refine XT.q rfl rfl (Q.sub rfl rfl ⟨by omega, by omega⟩) ?_
                      refine XT.q rfl rfl (Q.add rfl rfl ⟨by omega, by omega⟩) ?_
                      refine XT.q rfl rfl (Q.min rfl rfl) ?_
                      refine XT.call rfl rfl Try.call26 rfl rfl rfl (next_spec vx hx x b10 (8 + 8 * madeN x + 1 + 1 + 1 + 1) pm4 (min ((madeN x : Int) - (dg x (8 + 8 * madeN x + 1) ((madeN x : Int))) - (1 + (dg x (8 + 8 * madeN x + 1 + 1 + 1) (min ((madeN x : Int) - (dg x (8 + 8 * madeN x + 1) ((madeN x : Int)))) 3))) + 1) 4) fl.1 fl.2) (fun v113 s113 R113 => ?_) XT.stop
                      obtain ⟨rfl, rfl⟩ := R113
                      dsimp only [List.cons_append, List.nil_append]
                      refine ⟨inferInstance, ?_⟩
                      refine XT.q rfl rfl (Q.add rfl rfl ⟨by omega, by omega⟩) ?_
                      refine XT.q rfl rfl (Q.fieldAddr rfl) ?_
                      refine XT.st rfl rfl rfl rfl rfl ⟨inferInstance, ?_⟩ XT.stop
                      refine XT.done ?_
                      exact mtr14 (()) _ _ trivial (.base 18 rfl rfl) inferInstance
                    · skip
                      refine XT.qs rfl rfl (Q.ld rfl rfl) ⟨inferInstance, ?_⟩ XT.stop
                      refine XT.q rfl rfl (Q.sub rfl rfl ⟨by omega, by omega⟩) ?_
                      refine XT.q rfl rfl (Q.sub rfl rfl ⟨by omega, by omega⟩) ?_
                      refine XT.q rfl rfl (Q.add rfl rfl ⟨by omega, by omega⟩) ?_
                      refine XT.q rfl rfl (Q.min rfl rfl) ?_
                      refine XT.qs rfl rfl (Q.ld rfl rfl) ⟨inferInstance, ?_⟩ ?_
                      · skip
                        refine XT.q rfl rfl (Q.add rfl rfl ⟨by omega, by omega⟩) ?_
                        refine XT.call rfl rfl Try.call26 rfl rfl rfl (next_spec vx hx x b10 (8 + 8 * madeN x + 1 + 1 + 1 + 1) pm4 (min ((madeN x : Int) - (dg x (8 + 8 * madeN x + 1) ((madeN x : Int))) - (1 + (dg x (8 + 8 * madeN x + 1 + 1 + 1) (min ((madeN x : Int) - (dg x (8 + 8 * madeN x + 1) ((madeN x : Int)))) 3))) + 1) 4) fl.1 fl.2) (fun v113 s113 R113 => ?_) XT.stop
                        obtain ⟨rfl, rfl⟩ := R113
                        dsimp only [List.cons_append, List.nil_append]
                        refine ⟨inferInstance, ?_⟩
                        refine XT.q rfl rfl (Q.add rfl rfl ⟨by omega, by omega⟩) ?_
                        refine XT.q rfl rfl (Q.fieldAddr rfl) ?_
                        refine XT.st rfl rfl rfl rfl rfl ⟨inferInstance, ?_⟩ XT.stop
                        refine XT.done ?_
                        exact mtr14 (()) _ _ trivial (.base 18 rfl rfl) inferInstance
                      · skip
                        refine XT.call rfl rfl Try.call26 rfl rfl rfl (next_spec vx hx x b10 (8 + 8 * madeN x + 1 + 1 + 1 + 1) pm4 (min ((madeN x : Int) - (dg x (8 + 8 * madeN x + 1) ((madeN x : Int))) - (1 + (dg x (8 + 8 * madeN x + 1 + 1 + 1) (min ((madeN x : Int) - (dg x (8 + 8 * madeN x + 1) ((madeN x : Int)))) 3))) + 1) 4) fl.1 fl.2) (fun v113 s113 R113 => ?_) XT.stop
                        obtain ⟨rfl, rfl⟩ := R113
                        dsimp only [List.cons_append, List.nil_append]
                        refine ⟨inferInstance, ?_⟩
                        refine XT.qs rfl rfl (Q.ld rfl rfl) ⟨inferInstance, ?_⟩ XT.stop
                        refine XT.q rfl rfl (Q.add rfl rfl ⟨by omega, by omega⟩) ?_
                        refine XT.q rfl rfl (Q.add rfl rfl ⟨by omega, by omega⟩) ?_
                        refine XT.q rfl rfl (Q.fieldAddr rfl) ?_
                        refine XT.st rfl rfl rfl rfl rfl ⟨inferInstance, ?_⟩ XT.stop
                        refine XT.done ?_
                        exact mtr14 (()) _ _ trivial (.base 18 rfl rfl) inferInstance
                  · skip
                    refine XT.qs rfl rfl (Q.ld rfl rfl) ⟨inferInstance, ?_⟩ XT.stop
                    refine XT.q rfl rfl (Q.sub rfl rfl ⟨by omega, by omega⟩) ?_
                    refine XT.q rfl rfl (Q.sub rfl rfl ⟨by omega, by omega⟩) ?_
                    refine XT.q rfl rfl (Q.add rfl rfl ⟨by omega, by omega⟩) ?_
                    refine XT.q rfl rfl (Q.min rfl rfl) ?_
                    refine XT.qs rfl rfl (Q.ld rfl rfl) ⟨inferInstance, ?_⟩ ?_
                    · skip
                      refine XT.qs rfl rfl (Q.ld rfl rfl) ⟨inferInstance, ?_⟩ ?_
                      · skip
                        refine XT.q rfl rfl (Q.add rfl rfl ⟨by omega, by omega⟩) ?_
                        refine XT.call rfl rfl Try.call26 rfl rfl rfl (next_spec vx hx x b10 (8 + 8 * madeN x + 1 + 1 + 1 + 1) pm4 (min ((madeN x : Int) - (dg x (8 + 8 * madeN x + 1) ((madeN x : Int))) - (1 + (dg x (8 + 8 * madeN x + 1 + 1 + 1) (min ((madeN x : Int) - (dg x (8 + 8 * madeN x + 1) ((madeN x : Int)))) 3))) + 1) 4) fl.1 fl.2) (fun v113 s113 R113 => ?_) XT.stop
                        obtain ⟨rfl, rfl⟩ := R113
                        dsimp only [List.cons_append, List.nil_append]
                        refine ⟨inferInstance, ?_⟩
                        refine XT.q rfl rfl (Q.add rfl rfl ⟨by omega, by omega⟩) ?_
                        refine XT.q rfl rfl (Q.fieldAddr rfl) ?_
                        refine XT.st rfl rfl rfl rfl rfl ⟨inferInstance, ?_⟩ XT.stop
                        refine XT.done ?_
                        exact mtr14 (()) _ _ trivial (.base 18 rfl rfl) inferInstance
                      · skip
                        refine XT.call rfl rfl Try.call26 rfl rfl rfl (next_spec vx hx x b10 (8 + 8 * madeN x + 1 + 1 + 1 + 1) pm4 (min ((madeN x : Int) - (dg x (8 + 8 * madeN x + 1) ((madeN x : Int))) - (1 + (dg x (8 + 8 * madeN x + 1 + 1 + 1) (min ((madeN x : Int) - (dg x (8 + 8 * madeN x + 1) ((madeN x : Int)))) 3))) + 1) 4) fl.1 fl.2) (fun v113 s113 R113 => ?_) XT.stop
                        obtain ⟨rfl, rfl⟩ := R113
                        dsimp only [List.cons_append, List.nil_append]
                        refine ⟨inferInstance, ?_⟩
                        refine XT.qs rfl rfl (Q.ld rfl rfl) ⟨inferInstance, ?_⟩ XT.stop
                        refine XT.q rfl rfl (Q.add rfl rfl ⟨by omega, by omega⟩) ?_
                        refine XT.q rfl rfl (Q.add rfl rfl ⟨by omega, by omega⟩) ?_
                        refine XT.q rfl rfl (Q.fieldAddr rfl) ?_
                        refine XT.st rfl rfl rfl rfl rfl ⟨inferInstance, ?_⟩ XT.stop
                        refine XT.done ?_
                        exact mtr14 (()) _ _ trivial (.base 18 rfl rfl) inferInstance
                    · skip
                      refine XT.qs rfl rfl (Q.ld rfl rfl) ⟨inferInstance, ?_⟩ ?_
                      · skip
                        refine XT.qs rfl rfl (Q.ld rfl rfl) ⟨inferInstance, ?_⟩ ?_
                        · skip
                          refine XT.q rfl rfl (Q.add rfl rfl ⟨by omega, by omega⟩) ?_
                          refine XT.call rfl rfl Try.call26 rfl rfl rfl (next_spec vx hx x b10 (8 + 8 * madeN x + 1 + 1 + 1 + 1) pm4 (min ((madeN x : Int) - (dg x (8 + 8 * madeN x + 1) ((madeN x : Int))) - (1 + (dg x (8 + 8 * madeN x + 1 + 1 + 1) (min ((madeN x : Int) - (dg x (8 + 8 * madeN x + 1) ((madeN x : Int)))) 3))) + 1) 4) fl.1 fl.2) (fun v113 s113 R113 => ?_) XT.stop
                          obtain ⟨rfl, rfl⟩ := R113
                          dsimp only [List.cons_append, List.nil_append]
                          refine ⟨inferInstance, ?_⟩
                          refine XT.q rfl rfl (Q.add rfl rfl ⟨by omega, by omega⟩) ?_
                          refine XT.q rfl rfl (Q.fieldAddr rfl) ?_
                          refine XT.st rfl rfl rfl rfl rfl ⟨inferInstance, ?_⟩ XT.stop
                          refine XT.done ?_
                          exact mtr14 (()) _ _ trivial (.base 18 rfl rfl) inferInstance
                        · skip
                          refine XT.call rfl rfl Try.call26 rfl rfl rfl (next_spec vx hx x b10 (8 + 8 * madeN x + 1 + 1 + 1 + 1) pm4 (min ((madeN x : Int) - (dg x (8 + 8 * madeN x + 1) ((madeN x : Int))) - (1 + (dg x (8 + 8 * madeN x + 1 + 1 + 1) (min ((madeN x : Int) - (dg x (8 + 8 * madeN x + 1) ((madeN x : Int)))) 3))) + 1) 4) fl.1 fl.2) (fun v113 s113 R113 => ?_) XT.stop
                          obtain ⟨rfl, rfl⟩ := R113
                          dsimp only [List.cons_append, List.nil_append]
                          refine ⟨inferInstance, ?_⟩
                          refine XT.qs rfl rfl (Q.ld rfl rfl) ⟨inferInstance, ?_⟩ XT.stop
                          refine XT.q rfl rfl (Q.add rfl rfl ⟨by omega, by omega⟩) ?_
                          refine XT.q rfl rfl (Q.add rfl rfl ⟨by omega, by omega⟩) ?_
                          refine XT.q rfl rfl (Q.fieldAddr rfl) ?_
                          refine XT.st rfl rfl rfl rfl rfl ⟨inferInstance, ?_⟩ XT.stop
                          refine XT.done ?_
                          exact mtr14 (()) _ _ trivial (.base 18 rfl rfl) inferInstance
                      · skip
                        refine XT.call rfl rfl Try.call26 rfl rfl rfl (next_spec vx hx x b10 (8 + 8 * madeN x + 1 + 1 + 1 + 1) pm4 (min ((madeN x : Int) - (dg x (8 + 8 * madeN x + 1) ((madeN x : Int))) - (1 + (dg x (8 + 8 * madeN x + 1 + 1 + 1) (min ((madeN x : Int) - (dg x (8 + 8 * madeN x + 1) ((madeN x : Int)))) 3))) + 1) 4) fl.1 fl.2) (fun v113 s113 R113 => ?_) XT.stop
                        obtain ⟨rfl, rfl⟩ := R113
                        dsimp only [List.cons_append, List.nil_append]
                        refine ⟨inferInstance, ?_⟩
                        refine XT.qs rfl rfl (Q.ld rfl rfl) ⟨inferInstance, ?_⟩ ?_
                        · skip
                          refine XT.qs rfl rfl (Q.ld rfl rfl) ⟨inferInstance, ?_⟩ XT.stop
                          refine XT.q rfl rfl (Q.add rfl rfl ⟨by omega, by omega⟩) ?_
                          refine XT.q rfl rfl (Q.add rfl rfl ⟨by omega, by omega⟩) ?_
                          refine XT.q rfl rfl (Q.fieldAddr rfl) ?_
                          refine XT.st rfl rfl rfl rfl rfl ⟨inferInstance, ?_⟩ XT.stop
                          refine XT.done ?_
                          exact mtr14 (()) _ _ trivial (.base 18 rfl rfl) inferInstance
                        · skip
                          refine XT.qs rfl rfl (Q.ld rfl rfl) ⟨inferInstance, ?_⟩ XT.stop
                          refine XT.qs rfl rfl (Q.ld rfl rfl) ⟨inferInstance, ?_⟩ XT.stop
                          refine XT.q rfl rfl (Q.add rfl rfl ⟨by omega, by omega⟩) ?_
                          refine XT.q rfl rfl (Q.add rfl rfl ⟨by omega, by omega⟩) ?_
                          refine XT.q rfl rfl (Q.fieldAddr rfl) ?_
                          refine XT.st rfl rfl rfl rfl rfl ⟨inferInstance, ?_⟩ XT.stop
                          refine XT.done ?_
                          exact mtr14 (()) _ _ trivial (.base 18 rfl rfl) inferInstance
      · have _t1 := True.intro
        refine XK.skip ?_
        refine XK.seq ?_
        refine XK.region rfl ?_
        refine XO.q (Q.ldA [_, _, _, _, _, _, _, _] rfl rfl rfl) ?_
        refine XO.st rfl rfl rfl ?_
        refine XO.done ?_
        refine XK.rt [kh, emp] Try.func9 Try.results9 (.cell [_, _, _, _, _, _, _, _] rfl rfl rfl (.n)) ?_
        exact ⟨vh, _, kh, emp, rfl, rfl, OH, by rw [show (madeD x).jobs = [] from if_neg c1]; exact nJ⟩
  · intro mtr4
    dsimp only [List.cons_append, List.nil_append] at mtr4
    refine XK.drawn [0, 1, 2, 6, 7, 8, 12, 15, 4, 10, 17, 18, 14, 20, 21, 23, 24] [] [] (.q 0 (.q 1 (.q 2 (.q 6 (.q 7 (.q 8 (.q 12 (.q 15 (.br 3 true (.q 4 (.br 5 true (.br 9 true (.q 10 (.q 17 (.q 18 (.br 11 true (.br 13 true (.q 14 (.br 16 true (.br 19 true (.q 20 (.q 21 (.br 22 true (.q 23 (.q 24 (.br 25 true .done .stop))) .stop))) .stop) .stop)) .stop) .stop)))) .stop) (.br 9 true (.q 10 (.br 5 true (.q 17 (.q 18 (.br 11 true (.br 13 true (.q 14 (.br 16 true (.br 19 true (.q 20 (.q 21 (.br 22 true (.q 23 (.q 24 (.br 25 true .done .stop))) .stop))) .stop) .stop)) .stop) .stop))) .stop)) .stop))) (.br 9 true (.q 10 (.br 3 true (.q 4 (.br 5 true (.q 17 (.q 18 (.br 11 true (.br 13 true (.q 14 (.br 16 true (.br 19 true (.q 20 (.q 21 (.br 22 true (.q 23 (.q 24 (.br 25 true .done .stop))) .stop))) .stop) .stop)) .stop) .stop))) .stop)) .stop)) .stop)))))))))) Try.mixed rfl (by kernel_rfl) ?_
    refine XT.q rfl rfl (Q.move rfl) ?_
    refine XT.q rfl rfl (Q.fieldAddr rfl) ?_
    refine XT.q rfl rfl (Q.fieldAddr rfl) ?_
    refine XT.q rfl rfl (Q.move rfl) ?_
    refine XT.q rfl rfl (Q.fieldAddr rfl) ?_
    refine XT.q rfl rfl (Q.fieldAddr rfl) ?_
    refine XT.q rfl rfl (Q.move rfl) ?_
    refine XT.q rfl rfl (Q.move rfl) ?_
    refine XT.qs rfl rfl (Q.ld rfl rfl) ⟨inferInstance, ?_⟩ ?_
    · skip
      refine XT.q rfl rfl (Q.add rfl rfl ⟨by omega, by omega⟩) ?_
      refine XT.call rfl rfl Try.call26 rfl rfl rfl (next_spec vx hx x b10 (0 + 1 + 1 + 1) pz3 ((dg x (0 + 1 + 1) (7)) + 1) f7.1 f7.2) (fun v26 s26 R26 => ?_) ?_
      · skip
        obtain ⟨rfl, rfl⟩ := R26
        dsimp only [List.cons_append, List.nil_append]
        refine ⟨inferInstance, ?_⟩
        refine XT.qs rfl rfl (Q.ld rfl rfl) ⟨inferInstance, ?_⟩ XT.stop
        refine XT.q rfl rfl (Q.add rfl rfl ⟨by omega, by omega⟩) ?_
        refine XT.q rfl rfl (Q.fieldAddr rfl) ?_
        refine XT.q rfl rfl (Q.fieldAddr rfl) ?_
        refine XT.call rfl rfl Try.call26 rfl rfl rfl (next_spec vx hx x b10 (0 + 1 + 1 + 1 + 1) pz4 ((dg x (0 + 1 + 1) (7)) + 1) f7.1 f7.2) (fun v32 s32 R32 => ?_) XT.stop
        obtain ⟨rfl, rfl⟩ := R32
        dsimp only [List.cons_append, List.nil_append]
        refine ⟨inferInstance, ?_⟩
        refine XT.call rfl rfl Try.call26 rfl rfl rfl (next_spec vx hx x b10 (0 + 1 + 1 + 1 + 1 + 1) pz5 (2) (by decide) (by decide)) (fun v34 s34 R34 => ?_) XT.stop
        obtain ⟨rfl, rfl⟩ := R34
        dsimp only [List.cons_append, List.nil_append]
        refine ⟨inferInstance, ?_⟩
        refine XT.q rfl rfl (Q.mul rfl rfl ⟨by omega, by omega⟩) ?_
        refine XT.call rfl rfl Try.call26 rfl rfl rfl (next_spec vx hx x b10 (0 + 1 + 1 + 1 + 1 + 1 + 1) pz6 (5) (by decide) (by decide)) (fun v37 s37 R37 => ?_) XT.stop
        obtain ⟨rfl, rfl⟩ := R37
        dsimp only [List.cons_append, List.nil_append]
        refine ⟨inferInstance, ?_⟩
        refine XT.st rfl rfl rfl rfl rfl ⟨inferInstance, ?_⟩ XT.stop
        refine XT.q rfl rfl (Q.fieldAddr rfl) ?_
        refine XT.q rfl rfl (Q.fieldAddr rfl) ?_
        refine XT.st rfl rfl rfl rfl rfl ⟨inferInstance, ?_⟩ XT.stop
        refine XT.q rfl rfl (Q.fieldAddr rfl) ?_
        refine XT.q rfl rfl (Q.fieldAddr rfl) ?_
        refine XT.st rfl rfl rfl rfl rfl ⟨inferInstance, ?_⟩ XT.stop
        refine XT.done ?_
        exact mtr4 (()) _ _ trivial (.base 23 rfl rfl) inferInstance
      · skip
        refine XT.qs rfl rfl (Q.ld rfl rfl) ⟨inferInstance, ?_⟩ XT.stop
        refine XT.q rfl rfl (Q.add rfl rfl ⟨by omega, by omega⟩) ?_
        refine XT.call rfl rfl Try.call26 rfl rfl rfl (next_spec vx hx x b10 (0 + 1 + 1 + 1) pz3 ((dg x (0 + 1 + 1) (7)) + 1) f7.1 f7.2) (fun v26 s26 R26 => ?_) XT.stop
        obtain ⟨rfl, rfl⟩ := R26
        dsimp only [List.cons_append, List.nil_append]
        refine ⟨inferInstance, ?_⟩
        refine XT.q rfl rfl (Q.fieldAddr rfl) ?_
        refine XT.q rfl rfl (Q.fieldAddr rfl) ?_
        refine XT.call rfl rfl Try.call26 rfl rfl rfl (next_spec vx hx x b10 (0 + 1 + 1 + 1 + 1) pz4 ((dg x (0 + 1 + 1) (7)) + 1) f7.1 f7.2) (fun v32 s32 R32 => ?_) XT.stop
        obtain ⟨rfl, rfl⟩ := R32
        dsimp only [List.cons_append, List.nil_append]
        refine ⟨inferInstance, ?_⟩
        refine XT.call rfl rfl Try.call26 rfl rfl rfl (next_spec vx hx x b10 (0 + 1 + 1 + 1 + 1 + 1) pz5 (2) (by decide) (by decide)) (fun v34 s34 R34 => ?_) XT.stop
        obtain ⟨rfl, rfl⟩ := R34
        dsimp only [List.cons_append, List.nil_append]
        refine ⟨inferInstance, ?_⟩
        refine XT.q rfl rfl (Q.mul rfl rfl ⟨by omega, by omega⟩) ?_
        refine XT.call rfl rfl Try.call26 rfl rfl rfl (next_spec vx hx x b10 (0 + 1 + 1 + 1 + 1 + 1 + 1) pz6 (5) (by decide) (by decide)) (fun v37 s37 R37 => ?_) XT.stop
        obtain ⟨rfl, rfl⟩ := R37
        dsimp only [List.cons_append, List.nil_append]
        refine ⟨inferInstance, ?_⟩
        refine XT.st rfl rfl rfl rfl rfl ⟨inferInstance, ?_⟩ XT.stop
        refine XT.q rfl rfl (Q.fieldAddr rfl) ?_
        refine XT.q rfl rfl (Q.fieldAddr rfl) ?_
        refine XT.st rfl rfl rfl rfl rfl ⟨inferInstance, ?_⟩ XT.stop
        refine XT.q rfl rfl (Q.fieldAddr rfl) ?_
        refine XT.q rfl rfl (Q.fieldAddr rfl) ?_
        refine XT.st rfl rfl rfl rfl rfl ⟨inferInstance, ?_⟩ XT.stop
        refine XT.done ?_
        exact mtr4 (()) _ _ trivial (.base 23 rfl rfl) inferInstance
    · skip
      refine XT.qs rfl rfl (Q.ld rfl rfl) ⟨inferInstance, ?_⟩ XT.stop
      refine XT.q rfl rfl (Q.add rfl rfl ⟨by omega, by omega⟩) ?_
      refine XT.qs rfl rfl (Q.ld rfl rfl) ⟨inferInstance, ?_⟩ XT.stop
      refine XT.q rfl rfl (Q.add rfl rfl ⟨by omega, by omega⟩) ?_
      refine XT.call rfl rfl Try.call26 rfl rfl rfl (next_spec vx hx x b10 (0 + 1 + 1 + 1) pz3 ((dg x (0 + 1 + 1) (7)) + 1) f7.1 f7.2) (fun v26 s26 R26 => ?_) XT.stop
      obtain ⟨rfl, rfl⟩ := R26
      dsimp only [List.cons_append, List.nil_append]
      refine ⟨inferInstance, ?_⟩
      refine XT.q rfl rfl (Q.fieldAddr rfl) ?_
      refine XT.q rfl rfl (Q.fieldAddr rfl) ?_
      refine XT.call rfl rfl Try.call26 rfl rfl rfl (next_spec vx hx x b10 (0 + 1 + 1 + 1 + 1) pz4 ((dg x (0 + 1 + 1) (7)) + 1) f7.1 f7.2) (fun v32 s32 R32 => ?_) XT.stop
      obtain ⟨rfl, rfl⟩ := R32
      dsimp only [List.cons_append, List.nil_append]
      refine ⟨inferInstance, ?_⟩
      refine XT.call rfl rfl Try.call26 rfl rfl rfl (next_spec vx hx x b10 (0 + 1 + 1 + 1 + 1 + 1) pz5 (2) (by decide) (by decide)) (fun v34 s34 R34 => ?_) XT.stop
      obtain ⟨rfl, rfl⟩ := R34
      dsimp only [List.cons_append, List.nil_append]
      refine ⟨inferInstance, ?_⟩
      refine XT.q rfl rfl (Q.mul rfl rfl ⟨by omega, by omega⟩) ?_
      refine XT.call rfl rfl Try.call26 rfl rfl rfl (next_spec vx hx x b10 (0 + 1 + 1 + 1 + 1 + 1 + 1) pz6 (5) (by decide) (by decide)) (fun v37 s37 R37 => ?_) XT.stop
      obtain ⟨rfl, rfl⟩ := R37
      dsimp only [List.cons_append, List.nil_append]
      refine ⟨inferInstance, ?_⟩
      refine XT.st rfl rfl rfl rfl rfl ⟨inferInstance, ?_⟩ XT.stop
      refine XT.q rfl rfl (Q.fieldAddr rfl) ?_
      refine XT.q rfl rfl (Q.fieldAddr rfl) ?_
      refine XT.st rfl rfl rfl rfl rfl ⟨inferInstance, ?_⟩ XT.stop
      refine XT.q rfl rfl (Q.fieldAddr rfl) ?_
      refine XT.q rfl rfl (Q.fieldAddr rfl) ?_
      refine XT.st rfl rfl rfl rfl rfl ⟨inferInstance, ?_⟩ XT.stop
      refine XT.done ?_
      exact mtr4 (()) _ _ trivial (.base 23 rfl rfl) inferInstance
end Go.X

set_option linter.unusedSimpArgs false
set_option linter.unusedVariables false
set_option maxRecDepth 20000
namespace Go.X
open Go.Proofs
set_option maxHeartbeats 2000000 in
theorem Offered_spec (d : KDay) (vh vj : Value) (hh hj : PHeap) [ih : Arr vh encHour 6 hh d.hours] [ij : Arr vj encJob 4 hj d.jobs] (vx : Value) (hx : PHeap) (x : List UInt8) [jx : Arr vx encU8 1 hx x] (h1 : 1 ≤ d.hours.length) (h24 : d.hours.length ≤ 24) : Spec Try.prog 19 #[.agg #[vh, .int .i64 d.store.energy, .int .i64 d.store.full, .int .i64 d.store.power, .int .i64 d.store.fin, vj, .int .i64 d.most, .int .i64 d.peak], vx] [] [hh, hj, hx] (fun v hs => v = .agg #[.int .i64 (offO d x).beg, .int .i64 (offO d x).fin, .int .i64 (offO d x).power, .int .i64 (offO d x).hours, .int .i64 (offO d x).calls, .int .i64 (offO d x).pause] ∧ hs = []) := by
  have r0 := dg_rng x 0 (n := (d.hours.length : Int)) (by omega)
  have fn : (0 : Int) < (d.hours.length : Int) ∧ (d.hours.length : Int) ≤ 1000000 := by omega
  have fo : (0 : Int) < (d.hours.length : Int) - (dg x (0) ((d.hours.length : Int))) + 1 ∧ (d.hours.length : Int) - (dg x (0) ((d.hours.length : Int))) + 1 ≤ 1000000 := by omega
  have r1 := dg_rng x (0 + 1) (n := 4) (by omega)
  have r2 := dg_rng x (0 + 1 + 1) (n := 3) (by omega)
  have r5 := dg_rng x (0 + 1 + 1 + 1 + 1 + 1) (n := (d.hours.length : Int) - (dg x (0) ((d.hours.length : Int))) + 1) (by omega)
  have pz0 : 0 ≤ 1000000 := by omega
  have pz1 : 0 + 1 ≤ 1000000 := by omega
  have pz2 : 0 + 1 + 1 ≤ 1000000 := by omega
  have pz3 : 0 + 1 + 1 + 1 ≤ 1000000 := by omega
  have pz4 : 0 + 1 + 1 + 1 + 1 ≤ 1000000 := by omega
  have pz5 : 0 + 1 + 1 + 1 + 1 + 1 ≤ 1000000 := by omega
  refine Spec.intro (fn := Try.f19) (N := 40) Try.func19 rfl Try.ntmps19 rfl fun B => ?_
  refine XK.seq ?_
  refine XK.region rfl ?_
  refine XO.box rfl fun b2 => ?_
  refine XO.alloc fun b4 => ?_
  refine XO.done ?_
  refine XK.seq ?_
  refine XK.region rfl ?_
  refine XO.q (Q.move rfl) ?_
  refine XO.q (Q.build [_, _] (.c 0 1 rfl rfl rfl (.n _))) ?_
  refine XO.box rfl fun b10 => ?_
  refine XO.q (Q.assign rfl) ?_
  refine XO.done ?_
  refine XK.seq ?_
  refine XK.region rfl ?_
  refine XO.q (Q.fieldAddr rfl) ?_
  refine XO.q (Q.ld rfl rfl) ?_
  refine XO.len rfl fun l13 => ?_
  refine XO.q (Q.assign rfl) ?_
  refine XO.done ?_
  refine XK.seq ?_
  refine XK.region rfl ?_
  refine XO.q (Q.move rfl) ?_
  refine XO.q (Q.move rfl) ?_
  refine XO.call Try.call26 rfl rfl rfl (next_spec vx hx x b10 (0) pz0 ((d.hours.length : Int)) fn.1 fn.2) fun v16 s16 R16 => ?_
  obtain ⟨rfl, rfl⟩ := R16
  dsimp only [List.cons_append, List.nil_append]
  refine XO.q (Q.move rfl) ?_
  refine XO.call Try.call26 rfl rfl rfl (next_spec vx hx x b10 (0 + 1) pz1 (4) (by decide) (by decide)) fun v18 s18 R18 => ?_
  obtain ⟨rfl, rfl⟩ := R18
  dsimp only [List.cons_append, List.nil_append]
  refine XO.q (Q.add rfl rfl ⟨by omega, by omega⟩) ?_
  refine XO.q (Q.move rfl) ?_
  refine XO.call Try.call26 rfl rfl rfl (next_spec vx hx x b10 (0 + 1 + 1) pz2 (3) (by decide) (by decide)) fun v21 s21 R21 => ?_
  obtain ⟨rfl, rfl⟩ := R21
  dsimp only [List.cons_append, List.nil_append]
  refine XO.q (Q.add rfl rfl ⟨by omega, by omega⟩) ?_
  refine XO.q (Q.move rfl) ?_
  refine XO.call Try.call26 rfl rfl rfl (next_spec vx hx x b10 (0 + 1 + 1 + 1) pz3 (4) (by decide) (by decide)) fun v24 s24 R24 => ?_
  obtain ⟨rfl, rfl⟩ := R24
  dsimp only [List.cons_append, List.nil_append]
  refine XO.q (Q.move rfl) ?_
  refine XO.call Try.call26 rfl rfl rfl (next_spec vx hx x b10 (0 + 1 + 1 + 1 + 1) pz4 (3) (by decide) (by decide)) fun v26 s26 R26 => ?_
  obtain ⟨rfl, rfl⟩ := R26
  dsimp only [List.cons_append, List.nil_append]
  refine XO.q (Q.build [_, _, _, _, _, _] (.c 0 1 rfl rfl rfl (.c 2 1 rfl rfl rfl (.c 3 1 rfl rfl rfl (.c 4 1 rfl rfl rfl (.c 5 1 rfl rfl rfl (.n _))))))) ?_
  refine XO.alloc fun b7 => ?_
  refine XO.st rfl rfl rfl ?_
  refine XO.done ?_
  refine XK.seq ?_
  refine XK.drawn [0, 1, 2, 3, 4, 5, 6, 7, 9, 10] [b7] [] (.q 0 (.q 1 (.q 2 (.q 3 (.q 4 (.q 5 (.q 6 (.q 7 (.br 8 true (.q 9 (.q 10 (.br 11 false .done .stop))) .stop))))))))) Try.mixed rfl (by kernel_rfl) ?_
  refine XT.q rfl rfl (Q.fieldAddr rfl) ?_
  refine XT.q rfl rfl (Q.ld rfl rfl) ?_
  refine XT.q rfl rfl (Q.move rfl) ?_
  refine XT.q rfl rfl (Q.move rfl) ?_
  refine XT.q rfl rfl (Q.fieldAddr rfl) ?_
  refine XT.q rfl rfl (Q.ld rfl rfl) ?_
  refine XT.q rfl rfl (Q.sub rfl rfl ⟨by omega, by omega⟩) ?_
  refine XT.q rfl rfl (Q.add rfl rfl ⟨by omega, by omega⟩) ?_
  refine XT.call rfl rfl Try.call26 rfl rfl rfl (next_spec vx hx x b10 (0 + 1 + 1 + 1 + 1 + 1) pz5 ((d.hours.length : Int) - (dg x (0) ((d.hours.length : Int))) + 1) fo.1 fo.2) (fun v36 s36 R36 => ?_) XT.stop
  obtain ⟨rfl, rfl⟩ := R36
  dsimp only [List.cons_append, List.nil_append]
  refine ⟨inferInstance, ?_⟩
  refine XT.q rfl rfl (Q.add rfl rfl ⟨by omega, by omega⟩) ?_
  refine XT.q rfl rfl (Q.fieldAddr rfl) ?_
  refine XT.st rfl rfl rfl rfl rfl ⟨inferInstance, ?_⟩ XT.stop
  refine XT.done ?_
  refine XK.seq ?_
  refine XK.region rfl ?_
  refine XO.q (Q.ldA [_, _, _, _, _, _] rfl rfl rfl) ?_
  refine XO.st rfl rfl rfl ?_
  refine XO.done ?_
  refine XK.rt [] Try.func19 Try.results19 (.cell [_, _, _, _, _, _] rfl rfl rfl (.n)) ?_
  exact ⟨rfl, rfl⟩
end Go.X

set_option linter.unusedSimpArgs false
set_option linter.unusedVariables false
set_option maxRecDepth 20000
namespace Go.X
open Go.Proofs
theorem lneeds_spec (d : KDay) (vh vj : Value) (hh hj : PHeap) [ih : Arr vh encHour 6 hh d.hours] [ij : Arr vj encJob 4 hj d.jobs] (p : KPlan) (vs vc : Value) (hs_ hc : PHeap) [js : Arr vs encI 1 hs_ p.starts] [jc : Arr vc encI 1 hc p.charge] (ok : DayOk d) (so : SOk d p.starts) : Spec Try.prog 55 #[.agg #[vh, .int .i64 d.store.energy, .int .i64 d.store.full, .int .i64 d.store.power, .int .i64 d.store.fin, vj, .int .i64 d.most, .int .i64 d.peak], .agg #[vs, vc, .int .i64 p.cost]] [] [hh, hj, hs_, hc] (fun v hs => ∃ k, hs = [k] ∧ OArr v encI 1 3 k (needsL d p.starts)) := by
  have nI : OArr (.slice none 0 0) encI 1 3 emp ([] : List Int) := OArr.nil (fun _ => rfl)
  have lh := ih.le
  have lj := ij.le
  have sl := so.len
  have s1 := ok.store.f0
  have s2 := ok.store.f1
  have s3 := ok.store.p0
  have s4 := ok.store.p1
  have s5 := ok.store.e0
  have s6 := ok.store.e1
  have h1 := ok.h1
  have h24 := ok.h2
  have m0 := ok.m0
  have m1 := ok.m1
  have j2 := ok.j2
  refine Spec.intro (fn := Try.f55) (N := 62) Try.func55 rfl Try.ntmps55 rfl fun B => ?_
  refine XK.seq ?_
  refine XK.region rfl ?_
  refine XO.box rfl fun b2 => ?_
  refine XO.box rfl fun b3 => ?_
  refine XO.q (Q.assign rfl) ?_
  refine XO.done ?_
  refine XK.seq ?_
  refine XK.region rfl ?_
  refine XO.q (Q.assign rfl) ?_
  refine XO.done ?_
  refine XK.seq ?_
  refine XK.seq ?_
  refine XK.region rfl ?_
  refine XO.q (Q.fieldAddr rfl) ?_
  refine XO.q (Q.ld rfl rfl) ?_
  refine XO.len rfl fun l13 => ?_
  refine XO.q (Q.move rfl) ?_
  refine XO.done ?_
  refine XK.block ?_
  refine XK.while (X := Nat × Value × PHeap) [5, 6, 7, 8, 9, 10, 14, 15, 16, 17, 18, 19, 20, 21, 22, 23, 24, 25, 26, 27, 28, 29, 30, 31, 32, 33, 34, 35, 36, 37, 38, 39, 40, 41, 42, 43, 44, 45, 46, 47, 48, 49, 50, 51, 52, 53, 54, 55, 56, 57, 58, 59, 60] (fun ⟨i, vo, ko⟩ => [(14, some (.int .i64 (i : Nat))), (5, some (vo))]) (fun ⟨i, vo, ko⟩ => [ko]) (fun ⟨i, vo, ko⟩ => i ≤ d.hours.length ∧ OArr vo encI 1 3 ko ((List.range (i)).map fun i => usedAt d p.starts i d.jobs.length - (d.hours.getD i default).sun)) (fun ⟨i, vo, ko⟩ => d.hours.length - i) (0, .slice none 0 0, emp) [emp] rfl ⟨by omega, nI⟩ (.c rfl (.c rfl (.base 0 rfl rfl))) ?_
  rintro ⟨i, vo, ko⟩ ⟨hi, OO⟩ ih0
  dsimp only [List.cons_append, List.nil_append] at ih0 ⊢
  refine XK.seq ?_
  refine XK.region rfl ?_
  refine XO.q (Q.lss rfl rfl) ?_
  refine XO.done ?_
  refine XK.seq ?_
  refine XK.if rfl (fun c0 => ?_) (fun c0 => ?_)
  · have _t0 := True.intro
    have hr := ok.hour i (by omega)
    have hr1 := hr.u0
    have hr2 := hr.u1
    have hr3 := hr.l0
    have hr4 := hr.l1
    have ur := fun k hk => used_rng ok p.starts (show i < d.hours.length by omega) k hk
    have nl : ((List.range (i)).map fun i => usedAt d p.starts i d.jobs.length - (d.hours.getD i default).sun).length = i := range_len
    refine XK.skip ?_
    refine XK.seq ?_
    refine XK.block ?_
    refine XK.seq ?_
    refine XK.region rfl ?_
    refine XO.q (Q.move rfl) ?_
    refine XO.ix rfl rfl (by omega) (by omega) fun i17 => ?_
    refine XO.q (Q.ldEA [_, _, _, _, _, _] rfl (by first | assumption | omega) rfl rfl) ?_
    refine XO.alloc fun b7 => ?_
    refine XO.q (Q.assign rfl) ?_
    refine XO.st rfl rfl rfl ?_
    refine XO.done ?_
    refine XK.seq ?_
    refine XK.region rfl ?_
    refine XO.q (Q.fieldAddr rfl) ?_
    refine XO.q (Q.ld rfl rfl) ?_
    refine XO.q (Q.fieldAddr rfl) ?_
    refine XO.q (Q.ld rfl rfl) ?_
    refine XO.q (Q.sub rfl rfl ⟨by omega, by omega⟩) ?_
    refine XO.q (Q.assign rfl) ?_
    refine XO.done ?_
    refine XK.seq ?_
    refine XK.seq ?_
    refine XK.region rfl ?_
    refine XO.q (Q.fieldAddr rfl) ?_
    refine XO.q (Q.ld rfl rfl) ?_
    refine XO.len rfl fun l26 => ?_
    refine XO.q (Q.move rfl) ?_
    refine XO.done ?_
    refine XK.block ?_
    refine XK.while (X := Nat × Int) [8, 9, 10, 27, 28, 29, 30, 31, 32, 33, 34, 35, 36, 37, 38, 39, 40, 41, 42, 43, 44, 45, 46, 47, 48, 49, 50, 51, 52, 53, 54, 55] (fun ⟨k, u⟩ => [(27, some (.int .i64 (k : Nat))), (8, some (.int .i64 u))]) (fun ⟨k, u⟩ => []) (fun ⟨k, u⟩ => k ≤ d.jobs.length ∧ u = usedAt d p.starts i k - (d.hours.getD i default).sun) (fun ⟨k, u⟩ => d.jobs.length - k) (0, _) [] rfl ⟨by omega, rfl⟩ (.c rfl (.c rfl (.base 0 rfl rfl))) ?_
    rintro ⟨k, u⟩ ⟨hk, hu⟩ ih1
    dsimp only [List.cons_append, List.nil_append] at ih1 ⊢
    refine XK.seq ?_
    refine XK.region rfl ?_
    refine XO.q (Q.lss rfl rfl) ?_
    refine XO.done ?_
    refine XK.seq ?_
    refine XK.if rfl (fun c1 => ?_) (fun c1 => ?_)
    · have _t1 := True.intro
      have jk := ok.job k (by omega)
      have jk1 := jk.b0
      have jk2 := jk.b1
      have jk3 := jk.t1
      have jk4 := jk.h0
      have jk5 := jk.p0
      have jk6 := jk.p1
      have sk := so.at' k (by omega)
      have urk := ur k (by omega)
      have ue : usedAt d p.starts i (k + 1) = usedAt d p.starts i k + busy (d.jobs.getD k default) (p.starts.getD k default) i := rfl
      have bu : busy (d.jobs.getD k default) (p.starts.getD k default) i = if p.starts.getD k default ≤ (i : Int) ∧ (i : Int) < p.starts.getD k default + (d.jobs.getD k default).hours then (d.jobs.getD k default).power else 0 := rfl
      refine XK.skip ?_
      refine XK.seq ?_
      refine XK.block ?_
      refine XK.seq ?_
      refine XK.region rfl ?_
      refine XO.q (Q.move rfl) ?_
      refine XO.ix rfl rfl (by omega) (by omega) fun i30 => ?_
      refine XO.q (Q.ldEA [_, _, _, _] rfl (by first | assumption | omega) rfl rfl) ?_
      refine XO.alloc fun b10 => ?_
      refine XO.q (Q.assign rfl) ?_
      refine XO.st rfl rfl rfl ?_
      refine XO.done ?_
      refine XK.seq ?_
      refine XK.drawn [0, 1, 2, 3, 4, 5, 6, 7, 8, 9, 10, 11, 12, 13, 14, 15, 16, 17, 18] [b3, b10] [] (.q 0 (.q 1 (.q 2 (.q 3 (.q 4 (.q 5 (.q 6 (.q 7 (.q 8 (.q 9 (.q 10 (.q 11 (.q 12 (.q 13 (.q 14 (.q 15 (.q 16 (.q 17 (.q 18 .done))))))))))))))))))) Try.mixed rfl (by kernel_rfl) ?_
      refine XT.q rfl rfl (Q.move rfl) ?_
      refine XT.q rfl rfl (Q.fieldAddr rfl) ?_
      refine XT.q rfl rfl (Q.ld rfl rfl) ?_
      refine XT.q rfl rfl (Q.move rfl) ?_
      refine XT.ix rfl rfl rfl rfl (by omega) (by omega) fun i36 => ?_
      refine XT.q rfl rfl (Q.ldE rfl (by first | assumption | omega) rfl) ?_
      refine XT.q rfl rfl (Q.geq rfl rfl) ?_
      refine XT.q rfl rfl (Q.move rfl) ?_
      refine XT.q rfl rfl (Quiet.guardT rfl rfl fun g40 p40 => Q.move rfl) ?_
      refine XT.q rfl rfl (Quiet.guardT rfl rfl fun g41 p41 => Q.fieldAddr rfl) ?_
      refine XT.q rfl rfl (Quiet.guardT rfl rfl fun g42 p42 => Q.ld (lzv g42 rfl) rfl) ?_
      refine XT.q rfl rfl (Quiet.guardT rfl rfl fun g43 p43 => Q.move rfl) ?_
      refine XT.q rfl rfl (Quiet.guardT rfl rfl fun g44 p44 => Q.ix (lzv g44 rfl) (lzv g44 rfl) (by omega) (by omega)) ?_
      refine XT.q rfl rfl (Quiet.guardT rfl rfl fun g45 p45 => Q.ldE (lzv g45 rfl) (by first | assumption | omega) rfl) ?_
      refine XT.q rfl rfl (Quiet.guardT rfl rfl fun g46 p46 => Q.fieldAddr rfl) ?_
      refine XT.q rfl rfl (Quiet.guardT rfl rfl fun g47 p47 => Q.ld (lzv g47 rfl) rfl) ?_
      refine XT.q rfl rfl (Quiet.guardT rfl rfl fun g48 p48 => Q.add (lzv g48 rfl) (lzv g48 rfl) ⟨by omega, by omega⟩) ?_
      refine XT.q rfl rfl (Quiet.guardT rfl rfl fun g49 p49 => Q.lss (lzv g49 rfl) (lzv g49 rfl)) ?_
      refine XT.q rfl rfl (Q.and rfl (fun hp => lzv hp rfl)) ?_
      refine XT.done ?_
      refine XK.if rfl (fun c2 => ?_) (fun c2 => ?_)
      · have _t2 := True.intro
        rw [if_pos (by omega)] at bu
        refine XK.region rfl ?_
        refine XO.q (Q.move rfl) ?_
        refine XO.q (Q.fieldAddr rfl) ?_
        refine XO.q (Q.ld rfl rfl) ?_
        refine XO.q (Q.add rfl rfl ⟨by omega, by omega⟩) ?_
        refine XO.q (Q.assign rfl) ?_
        refine XO.done ?_
        refine XK.inBlock ?_
        refine XK.region rfl ?_
        refine XO.q (Q.add rfl rfl ⟨by omega, by omega⟩) ?_
        refine XO.q (Q.move rfl) ?_
        refine XO.done ?_
        exact ih1 (k + 1, u + (d.jobs.getD k default).power) _ _ ⟨by dsimp only; omega, by dsimp only; omega⟩ (by first | omega | (dsimp only; omega)) (.c rfl (.c rfl (.base 66 rfl rfl))) inferInstance
      · have _t2 := True.intro
        rw [if_neg (by omega)] at bu
        refine XK.skip ?_
        refine XK.inBlock ?_
        refine XK.region rfl ?_
        refine XO.q (Q.add rfl rfl ⟨by omega, by omega⟩) ?_
        refine XO.q (Q.move rfl) ?_
        refine XO.done ?_
        exact ih1 (k + 1, u) _ _ ⟨by dsimp only; omega, by dsimp only; omega⟩ (by first | omega | (dsimp only; omega)) (.c rfl (.c rfl (.base 61 rfl rfl))) inferInstance
    · have _t1 := True.intro
      have hkn : k = d.jobs.length := by omega
      subst hkn
      refine XK.exit rfl ?_
      refine XK.region rfl ?_
      refine XO.q (Q.move rfl) ?_
      refine XO.q (Q.move rfl) ?_
      refine XO.lit [_] [_] [u] encI (by rfl) (by rfl) rfl (by rfl) (by exact .c 0 1 rfl rfl rfl (.n _)) (fun _ => rfl) (by rfl) rfl (by infer_instance) rfl fun v58 h58 O58 => ?_
      refine XO.append rfl rfl rfl rfl (by simp only [List.length_cons, List.length_nil]; omega) fun v59 h59 O59 => ?_
      refine XO.q (Q.assign rfl) ?_
      refine XO.done ?_
      refine XK.inBlock ?_
      refine XK.region rfl ?_
      refine XO.q (Q.add rfl rfl ⟨by omega, by omega⟩) ?_
      refine XO.q (Q.move rfl) ?_
      refine XO.done ?_
      exact ih0 (i + 1, v59, h59) _ _ ⟨by dsimp only; omega, by dsimp only; rw [range_snocI]; subst hu; exact O59⟩ (by first | omega | (dsimp only; omega)) (.c rfl (.c rfl (.base 113 rfl rfl))) inferInstance
  · have _t0 := True.intro
    have hin : i = d.hours.length := by omega
    subst hin
    refine XK.exit rfl ?_
    refine XK.seq ?_
    refine XK.region rfl ?_
    refine XO.q (Q.move rfl) ?_
    refine XO.q (Q.assign rfl) ?_
    refine XO.done ?_
    refine XK.rt [ko] Try.func55 Try.results55 (.t rfl .n) ?_
    exact ⟨ko, rfl, OO⟩
theorem limAt_zero (d : KDay) (o : KOffer) (base ch pat : List Int) (i : Nat) : limAt d o base ch (pat.take 0) i = d.most := by
  rw [List.take_zero, limAt]; rfl
theorem limAt_step {d : KDay} {o : KOffer} {base ch pat : List Int} {k : Nat} (hk : k < pat.length) (i : Nat) : limAt d o base ch (pat.take (k + 1)) i = if pat.getD k default ≤ (i : Int) ∧ (i : Int) < pat.getD k default + o.hours then capH o base ch i else limAt d o base ch (pat.take k) i := by
  rw [take_snocK hk, limAt, limAt]
  unfold called
  rw [List.any_append, List.any_cons, List.any_nil, Bool.or_false]
  by_cases h : pat.getD k default ≤ (i : Int) ∧ (i : Int) < pat.getD k default + o.hours
  · rw [if_pos h, if_pos]
    rw [decide_eq_true h.1, decide_eq_true h.2]; simp
  · rw [if_neg h]
    have : (decide (pat.getD k default ≤ (i : Int)) && decide ((i : Int) < pat.getD k default + o.hours)) = false := Bool.eq_false_iff.2 fun hx => h (by rw [Bool.and_eq_true, decide_eq_true_eq, decide_eq_true_eq] at hx; exact hx)
    rw [this, Bool.or_false]
theorem limited_spec (d : KDay) (vh vj : Value) (hh hj : PHeap) [ih : Arr vh encHour 6 hh d.hours] [ij : Arr vj encJob 4 hj d.jobs] (p : KPlan) (vs vc : Value) (hs_ hc : PHeap) [js : Arr vs encI 1 hs_ p.starts] [jc : Arr vc encI 1 hc p.charge] (o : KOffer) (pat : List Int) (vt : Value) (ht : PHeap) [jt : Arr vt encI 1 ht pat] (ok : DayOk d) (so : SOk d p.starts) (ofk : OfferOk d.hours.length o) (cl : p.charge.length = d.hours.length) (hr : ∀ i, i < d.hours.length → -1000 ≤ p.charge.getD i default ∧ p.charge.getD i default ≤ 1000) (pc : ∀ k, k < pat.length → Call o (pat.getD k default)) : Spec Try.prog 24 #[.agg #[vh, .int .i64 d.store.energy, .int .i64 d.store.full, .int .i64 d.store.power, .int .i64 d.store.fin, vj, .int .i64 d.most, .int .i64 d.peak], .agg #[vs, vc, .int .i64 p.cost], .agg #[.int .i64 o.beg, .int .i64 o.fin, .int .i64 o.power, .int .i64 o.hours, .int .i64 o.calls, .int .i64 o.pause], vt] [] [hh, hj, hs_, hc, ht] (fun v hs => ∃ k, hs = [k] ∧ OArr v encI 1 3 k (limL d o (needsL d p.starts) p.charge pat)) := by
  have nI : OArr (.slice none 0 0) encI 1 3 emp ([] : List Int) := OArr.nil (fun _ => rfl)
  have lh := ih.le
  have lt := jt.le
  have bl := needsL_len d p.starts
  have s1 := ok.store.f0
  have s2 := ok.store.f1
  have s3 := ok.store.p0
  have s4 := ok.store.p1
  have s5 := ok.store.e0
  have s6 := ok.store.e1
  have h1 := ok.h1
  have h24 := ok.h2
  have m0 := ok.m0
  have m1 := ok.m1
  have j2 := ok.j2
  have o1 := ofk.b0
  have o2 := ofk.fn
  have o3 := ofk.h0
  have o4 := ofk.p0
  have o5 := ofk.p1
  refine Spec.intro (fn := Try.f24) (N := 64) Try.func24 rfl Try.ntmps24 rfl fun B => ?_
  refine XK.seq ?_
  refine XK.region rfl ?_
  refine XO.box rfl fun b4 => ?_
  refine XO.box rfl fun b5 => ?_
  refine XO.box rfl fun b6 => ?_
  refine XO.q (Q.assign rfl) ?_
  refine XO.done ?_
  refine XK.seq ?_
  refine XK.region rfl ?_
  refine XO.q (Q.ldA [_, _, _, _, _, _, _, _] rfl rfl rfl) ?_
  refine XO.q (Q.ldA [_, _, _] rfl rfl rfl) ?_
  refine XO.call Try.call55 rfl rfl rfl (lneeds_spec d vh vj hh hj p vs vc hs_ hc ok so) fun v17 s17 R17 => ?_
  obtain ⟨kb, rfl, OB⟩ := R17
  dsimp only [List.cons_append, List.nil_append]
  refine XO.q (Q.assign rfl) ?_
  refine XO.done ?_
  refine XK.seq ?_
  refine XK.region rfl ?_
  refine XO.q (Q.assign rfl) ?_
  refine XO.done ?_
  refine XK.seq ?_
  refine XK.seq ?_
  refine XK.region rfl ?_
  refine XO.q (Q.fieldAddr rfl) ?_
  refine XO.q (Q.ld rfl rfl) ?_
  refine XO.len rfl fun l20 => ?_
  refine XO.q (Q.move rfl) ?_
  refine XO.done ?_
  refine XK.block ?_
  refine XK.while (X := Nat × Value × PHeap) [10, 11, 12, 14, 21, 22, 23, 24, 25, 26, 27, 28, 29, 30, 31, 32, 33, 34, 35, 36, 37, 38, 39, 40, 41, 42, 43, 44, 45, 46, 47, 48, 49, 50, 51, 52, 53, 54, 55, 56, 57, 58, 59, 60, 61, 62] (fun ⟨i, vo, ko⟩ => [(21, some (.int .i64 (i : Nat))), (10, some (vo))]) (fun ⟨i, vo, ko⟩ => [ko]) (fun ⟨i, vo, ko⟩ => i ≤ d.hours.length ∧ OArr vo encI 1 3 ko ((List.range (i)).map (limAt d o (needsL d p.starts) p.charge pat))) (fun ⟨i, vo, ko⟩ => d.hours.length - i) (0, .slice none 0 0, emp) [emp] rfl ⟨by omega, nI⟩ (.c rfl (.c rfl (.base 0 rfl rfl))) ?_
  rintro ⟨i, vo, ko⟩ ⟨hi, OO⟩ ih0
  dsimp only [List.cons_append, List.nil_append] at ih0 ⊢
  refine XK.seq ?_
  refine XK.region rfl ?_
  refine XO.q (Q.lss rfl rfl) ?_
  refine XO.done ?_
  refine XK.seq ?_
  refine XK.if rfl (fun c0 => ?_) (fun c0 => ?_)
  · have _t0 := True.intro
    have nr := needs_rng ok p.starts (show i < d.hours.length by omega)
    have hri := hr i (by omega)
    have nl : ((List.range (i)).map (limAt d o (needsL d p.starts) p.charge pat)).length = i := range_len
    refine XK.skip ?_
    refine XK.seq ?_
    refine XK.block ?_
    refine XK.seq ?_
    refine XK.region rfl ?_
    refine XO.q (Q.move rfl) ?_
    refine XO.q (Q.assign rfl) ?_
    refine XO.done ?_
    refine XK.seq ?_
    refine XK.region rfl ?_
    refine XO.q (Q.fieldAddr rfl) ?_
    refine XO.q (Q.ld rfl rfl) ?_
    refine XO.q (Q.assign rfl) ?_
    refine XO.done ?_
    refine XK.seq ?_
    refine XK.seq ?_
    refine XK.region rfl ?_
    refine XO.q (Q.move rfl) ?_
    refine XO.len rfl fun l27 => ?_
    refine XO.q (Q.move rfl) ?_
    refine XO.done ?_
    refine XK.block ?_
    refine XK.while (X := Nat × Int) [12, 14, 28, 29, 30, 31, 32, 33, 34, 35, 36, 37, 38, 39, 40, 41, 42, 43, 44, 45, 46, 47, 48, 49, 50, 51, 52, 53, 54, 55, 56, 57] (fun ⟨k, u⟩ => [(28, some (.int .i64 (k : Nat))), (12, some (.int .i64 u))]) (fun ⟨k, u⟩ => []) (fun ⟨k, u⟩ => k ≤ pat.length ∧ u = (limAt d o (needsL d p.starts) p.charge (pat.take k) i)) (fun ⟨k, u⟩ => pat.length - k) (0, _) [] rfl ⟨by omega, (limAt_zero ..).symm⟩ (.c rfl (.c rfl (.base 0 rfl rfl))) ?_
    rintro ⟨k, u⟩ ⟨hk, hu⟩ ih1
    dsimp only [List.cons_append, List.nil_append] at ih1 ⊢
    refine XK.seq ?_
    refine XK.region rfl ?_
    refine XO.q (Q.lss rfl rfl) ?_
    refine XO.done ?_
    refine XK.seq ?_
    refine XK.if rfl (fun c1 => ?_) (fun c1 => ?_)
    · have _t1 := True.intro
      have pk := pc k (by omega)
      have pk1 := pk.1
      have pk2 := pk.2
      have ls := limAt_step (d := d) (o := o) (base := (needsL d p.starts)) (ch := p.charge) (pat := pat) (k := k) (by omega) i
      refine XK.skip ?_
      refine XK.seq ?_
      refine XK.block ?_
      refine XK.seq ?_
      refine XK.region rfl ?_
      refine XO.ix rfl rfl (by omega) (by omega) fun i30 => ?_
      refine XO.q (Q.ldE rfl (by first | assumption | omega) rfl) ?_
      refine XO.q (Q.assign rfl) ?_
      refine XO.done ?_
      refine XK.seq ?_
      refine XK.region rfl ?_
      refine XO.q (Q.move rfl) ?_
      refine XO.q (Q.move rfl) ?_
      refine XO.q (Q.geq rfl rfl) ?_
      refine XO.q (Q.move rfl) ?_
      refine XO.q (Quiet.guardT rfl rfl fun g36 p36 => Q.move rfl) ?_
      refine XO.q (Quiet.guardT rfl rfl fun g37 p37 => Q.move rfl) ?_
      refine XO.q (Quiet.guardT rfl rfl fun g38 p38 => Q.fieldAddr rfl) ?_
      refine XO.q (Quiet.guardT rfl rfl fun g39 p39 => Q.ld (lzv g39 rfl) rfl) ?_
      refine XO.q (Quiet.guardT rfl rfl fun g40 p40 => Q.add (lzv g40 rfl) (lzv g40 rfl) ⟨by omega, by omega⟩) ?_
      refine XO.q (Quiet.guardT rfl rfl fun g41 p41 => Q.lss (lzv g41 rfl) (lzv g41 rfl)) ?_
      refine XO.q (Q.and rfl (fun hp => lzv hp rfl)) ?_
      refine XO.done ?_
      refine XK.if rfl (fun c2 => ?_) (fun c2 => ?_)
      · have _t2 := True.intro
        rw [if_pos (by omega)] at ls
        refine XK.drawn [0, 1, 2, 3, 4, 5, 6, 7, 8, 9, 10, 11, 12, 13, 14] [b5, b6] [kb] (.q 0 (.q 1 (.q 2 (.q 3 (.q 4 (.q 5 (.q 6 (.q 7 (.q 8 (.q 9 (.q 10 (.q 11 (.q 12 (.q 13 (.q 14 .done))))))))))))))) Try.mixed rfl (by kernel_rfl) ?_
        refine XT.q rfl rfl (Q.move rfl) ?_
        refine XT.q rfl rfl (Q.move rfl) ?_
        refine XT.ix rfl rfl rfl rfl (by omega) (by omega) fun i45 => ?_
        refine XT.q rfl rfl (Q.ldE rfl (by first | assumption | omega) rfl) ?_
        refine XT.q rfl rfl (Q.fieldAddr rfl) ?_
        refine XT.q rfl rfl (Q.ld rfl rfl) ?_
        refine XT.q rfl rfl (Q.move rfl) ?_
        refine XT.ix rfl rfl rfl rfl (by omega) (by omega) fun i50 => ?_
        refine XT.q rfl rfl (Q.ldE rfl (by first | assumption | omega) rfl) ?_
        refine XT.q rfl rfl (Q.add rfl rfl ⟨by omega, by omega⟩) ?_
        refine XT.q rfl rfl (Q.max rfl rfl) ?_
        refine XT.q rfl rfl (Q.fieldAddr rfl) ?_
        refine XT.q rfl rfl (Q.ld rfl rfl) ?_
        refine XT.q rfl rfl (Q.sub rfl rfl ⟨by omega, by omega⟩) ?_
        refine XT.q rfl rfl (Q.assign rfl) ?_
        refine XT.done ?_
        refine XK.inBlock ?_
        refine XK.region rfl ?_
        refine XO.q (Q.add rfl rfl ⟨by omega, by omega⟩) ?_
        refine XO.q (Q.move rfl) ?_
        refine XO.done ?_
        exact ih1 (k + 1, _) _ _ ⟨by dsimp only; omega, ls.symm⟩ (by first | omega | (dsimp only; omega)) (.c rfl (.c rfl (.base 66 rfl rfl))) inferInstance
      · have _t2 := True.intro
        rw [if_neg (by omega)] at ls
        refine XK.skip ?_
        refine XK.inBlock ?_
        refine XK.region rfl ?_
        refine XO.q (Q.add rfl rfl ⟨by omega, by omega⟩) ?_
        refine XO.q (Q.move rfl) ?_
        refine XO.done ?_
        exact ih1 (k + 1, u) _ _ ⟨by dsimp only; omega, by dsimp only; rw [ls]; exact hu⟩ (by first | omega | (dsimp only; omega)) (.c rfl (.c rfl (.base 51 rfl rfl))) inferInstance
    · have _t1 := True.intro
      have hkn : k = pat.length := by omega
      subst hkn
      rw [List.take_length] at hu
      refine XK.exit rfl ?_
      refine XK.region rfl ?_
      refine XO.q (Q.move rfl) ?_
      refine XO.q (Q.move rfl) ?_
      refine XO.lit [_] [_] [u] encI (by rfl) (by rfl) rfl (by rfl) (by exact .c 0 1 rfl rfl rfl (.n _)) (fun _ => rfl) (by rfl) rfl (by infer_instance) rfl fun v60 h60 O60 => ?_
      refine XO.append rfl rfl rfl rfl (by simp only [List.length_cons, List.length_nil]; omega) fun v61 h61 O61 => ?_
      refine XO.q (Q.assign rfl) ?_
      refine XO.done ?_
      refine XK.inBlock ?_
      refine XK.region rfl ?_
      refine XO.q (Q.add rfl rfl ⟨by omega, by omega⟩) ?_
      refine XO.q (Q.move rfl) ?_
      refine XO.done ?_
      exact ih0 (i + 1, v61, h61) _ _ ⟨by dsimp only; omega, by dsimp only; rw [range_snocI]; subst hu; exact O61⟩ (by first | omega | (dsimp only; omega)) (.c rfl (.c rfl (.base 99 rfl rfl))) inferInstance
  · have _t0 := True.intro
    have hin : i = d.hours.length := by omega
    subst hin
    refine XK.exit rfl ?_
    refine XK.seq ?_
    refine XK.region rfl ?_
    refine XO.q (Q.move rfl) ?_
    refine XO.q (Q.assign rfl) ?_
    refine XO.done ?_
    refine XK.rt [ko] Try.func24 Try.results24 (.t rfl .n) ?_
    refine ⟨ko, rfl, ?_⟩
    rw [limL, bl]; exact OO
theorem keeps_bad {d : KDay} {base lim c : List Int} {i : Nat} (hi : i < c.length) (h : keepAt d base lim c i = false) : keepsB d base lim c = false := by
  rw [keepsB, Bool.and_eq_false_iff]
  left
  rw [Bool.eq_false_iff]
  intro ha
  rw [allTo_iff.1 ha i hi] at h; cases h
theorem keeps_spec (d : KDay) (vh vj : Value) (hh hj : PHeap) [ih : Arr vh encHour 6 hh d.hours] [ij : Arr vj encJob 4 hj d.jobs] (p : KPlan) (vs vc : Value) (hs_ hc : PHeap) [js : Arr vs encI 1 hs_ p.starts] [jc : Arr vc encI 1 hc p.charge] (lim : List Int) (vl : Value) (hl : PHeap) [jl : Arr vl encI 1 hl lim] (c : List Int) (vd : Value) (hd : PHeap) [jd : Arr vd encI 1 hd c] (ok : DayOk d) (so : SOk d p.starts) (ll : lim.length = d.hours.length) (cl : c.length = d.hours.length) (cr : ∀ i, i < d.hours.length → -1000 ≤ c.getD i default ∧ c.getD i default ≤ 1000) : Spec Try.prog 25 #[.agg #[vh, .int .i64 d.store.energy, .int .i64 d.store.full, .int .i64 d.store.power, .int .i64 d.store.fin, vj, .int .i64 d.most, .int .i64 d.peak], .agg #[vs, vc, .int .i64 p.cost], vl, vd] [] [hh, hj, hs_, hc, hl, hd] (fun v hs => v = .bool (keepsB d (needsL d p.starts) lim c) ∧ hs = []) := by
  have lc := jd.le
  have bl := needsL_len d p.starts
  have s1 := ok.store.f0
  have s2 := ok.store.f1
  have s3 := ok.store.p0
  have s4 := ok.store.p1
  have s5 := ok.store.e0
  have s6 := ok.store.e1
  have h1 := ok.h1
  have h24 := ok.h2
  have m0 := ok.m0
  have m1 := ok.m1
  have j2 := ok.j2
  refine Spec.intro (fn := Try.f25) (N := 72) Try.func25 rfl Try.ntmps25 rfl fun B => ?_
  refine XK.seq ?_
  refine XK.region rfl ?_
  refine XO.box rfl fun b4 => ?_
  refine XO.box rfl fun b5 => ?_
  refine XO.q (Q.assign rfl) ?_
  refine XO.done ?_
  refine XK.seq ?_
  refine XK.region rfl ?_
  refine XO.q (Q.ldA [_, _, _, _, _, _, _, _] rfl rfl rfl) ?_
  refine XO.q (Q.ldA [_, _, _] rfl rfl rfl) ?_
  refine XO.call Try.call55 rfl rfl rfl (lneeds_spec d vh vj hh hj p vs vc hs_ hc ok so) fun v15 s15 R15 => ?_
  obtain ⟨kb, rfl, OB⟩ := R15
  dsimp only [List.cons_append, List.nil_append]
  refine XO.q (Q.assign rfl) ?_
  refine XO.done ?_
  refine XK.seq ?_
  refine XK.region rfl ?_
  refine XO.q (Q.fieldAddr rfl) ?_
  refine XO.q (Q.fieldAddr rfl) ?_
  refine XO.q (Q.ld rfl rfl) ?_
  refine XO.q (Q.assign rfl) ?_
  refine XO.done ?_
  refine XK.seq ?_
  refine XK.seq ?_
  refine XK.region rfl ?_
  refine XO.q (Q.move rfl) ?_
  refine XO.len rfl fun l20 => ?_
  refine XO.q (Q.move rfl) ?_
  refine XO.done ?_
  refine XK.block ?_
  refine XK.while (X := Nat × Int) [8, 10, 11, 12, 21, 22, 23, 24, 25, 26, 27, 28, 29, 30, 31, 32, 33, 34, 35, 36, 37, 38, 39, 40, 41, 42, 43, 44, 45, 46, 47, 48, 49, 50, 51, 52, 53, 54, 55, 56, 57, 58, 59, 60, 61, 62, 63, 64, 65, 66] (fun ⟨i, e⟩ => [(21, some (.int .i64 (i : Nat))), (10, some (.int .i64 e))]) (fun ⟨i, e⟩ => []) (fun ⟨i, e⟩ => i ≤ c.length ∧ e = (energyTo d c i) ∧ (0 ≤ e ∧ e ≤ d.store.full) ∧ ∀ j, j < i → keepAt d (needsL d p.starts) lim c j = true) (fun ⟨i, e⟩ => c.length - i) (0, _) [] rfl ⟨by omega, rfl, ⟨s5, s6⟩, fun j hj => by omega⟩ (.c rfl (.c rfl (.base 0 rfl rfl))) ?_
  rintro ⟨i, e⟩ ⟨hi, he, er, ka⟩ ih0
  dsimp only [List.cons_append, List.nil_append] at ih0 ⊢
  refine XK.seq ?_
  refine XK.region rfl ?_
  refine XO.q (Q.lss rfl rfl) ?_
  refine XO.done ?_
  refine XK.seq ?_
  refine XK.if rfl (fun c0 => ?_) (fun c0 => ?_)
  · have _t0 := True.intro
    have nr := needs_rng ok p.starts (show i < d.hours.length by omega)
    have cri := cr i (by omega)
    have es : energyTo d c (i + 1) = energyTo d c i + c.getD i default := rfl
    refine XK.skip ?_
    refine XK.seq ?_
    refine XK.block ?_
    refine XK.seq ?_
    refine XK.region rfl ?_
    refine XO.q (Q.move rfl) ?_
    refine XO.ix rfl rfl (by omega) (by omega) fun i24 => ?_
    refine XO.q (Q.ldE rfl (by first | assumption | omega) rfl) ?_
    refine XO.q (Q.assign rfl) ?_
    refine XO.q (Q.assign rfl) ?_
    refine XO.done ?_
    refine XK.seq ?_
    refine XK.region rfl ?_
    refine XO.q (Q.move rfl) ?_
    refine XO.q (Q.move rfl) ?_
    refine XO.q (Q.add rfl rfl ⟨by omega, by omega⟩) ?_
    refine XO.q (Q.assign rfl) ?_
    refine XO.done ?_
    refine XK.seq ?_
    refine XK.drawn [0, 1, 2, 3, 4, 5, 6, 7, 8, 9, 10, 11, 12, 13, 14, 15, 16, 17, 18, 19, 20, 21, 22, 23, 24, 25, 26, 27, 28, 29, 30, 31, 32, 33, 34, 35, 36] [b4] [kb] (.q 0 (.q 1 (.q 2 (.q 3 (.q 4 (.q 5 (.q 6 (.q 7 (.q 8 (.q 9 (.q 10 (.q 11 (.q 12 (.q 13 (.q 14 (.q 15 (.q 16 (.q 17 (.q 18 (.q 19 (.q 20 (.q 21 (.q 22 (.q 23 (.q 24 (.q 25 (.q 26 (.q 27 (.q 28 (.q 29 (.q 30 (.q 31 (.q 32 (.q 33 (.q 34 (.q 35 (.q 36 .done))))))))))))))))))))))))))))))))))))) Try.mixed rfl (by kernel_rfl) ?_
    refine XT.q rfl rfl (Q.move rfl) ?_
    refine XT.q rfl rfl (Q.fieldAddr rfl) ?_
    refine XT.q rfl rfl (Q.fieldAddr rfl) ?_
    refine XT.q rfl rfl (Q.ld rfl rfl) ?_
    refine XT.q rfl rfl (Q.neg rfl ⟨by omega, by omega⟩) ?_
    rw [show (0 : Int) - d.store.power = -d.store.power by omega]
    refine XT.q rfl rfl (Q.lss rfl rfl) ?_
    refine XT.q rfl rfl (Q.move rfl) ?_
    refine XT.q rfl rfl (Quiet.guardF rfl rfl fun g36 p36 => Q.move rfl) ?_
    refine XT.q rfl rfl (Quiet.guardF rfl rfl fun g37 p37 => Q.fieldAddr rfl) ?_
    refine XT.q rfl rfl (Quiet.guardF rfl rfl fun g38 p38 => Q.fieldAddr (lzv g38 rfl)) ?_
    refine XT.q rfl rfl (Quiet.guardF rfl rfl fun g39 p39 => Q.ld (lzv g39 rfl) rfl) ?_
    refine XT.q rfl rfl (Quiet.guardF rfl rfl fun g40 p40 => Q.gtr (lzv g40 rfl) (lzv g40 rfl)) ?_
    refine XT.q rfl rfl (Q.or rfl (fun hp => lzv hp rfl)) ?_
    refine XT.q rfl rfl (Q.move rfl) ?_
    refine XT.q rfl rfl (Quiet.guardF rfl rfl fun g43 p43 => Q.move rfl) ?_
    refine XT.q rfl rfl (Quiet.guardF rfl rfl fun g44 p44 => Q.lss (lzv g44 rfl) rfl) ?_
    refine XT.q rfl rfl (Q.or rfl (fun hp => lzv hp rfl)) ?_
    refine XT.q rfl rfl (Q.move rfl) ?_
    refine XT.q rfl rfl (Quiet.guardF rfl rfl fun g47 p47 => Q.move rfl) ?_
    refine XT.q rfl rfl (Quiet.guardF rfl rfl fun g48 p48 => Q.fieldAddr rfl) ?_
    refine XT.q rfl rfl (Quiet.guardF rfl rfl fun g49 p49 => Q.fieldAddr (lzv g49 rfl)) ?_
    refine XT.q rfl rfl (Quiet.guardF rfl rfl fun g50 p50 => Q.ld (lzv g50 rfl) rfl) ?_
    refine XT.q rfl rfl (Quiet.guardF rfl rfl fun g51 p51 => Q.gtr (lzv g51 rfl) (lzv g51 rfl)) ?_
    refine XT.q rfl rfl (Q.or rfl (fun hp => lzv hp rfl)) ?_
    refine XT.q rfl rfl (Q.move rfl) ?_
    refine XT.q rfl rfl (Quiet.guardF rfl rfl fun g54 p54 => Q.move rfl) ?_
    refine XT.q rfl rfl (Quiet.guardF rfl rfl fun g55 p55 => Q.move rfl) ?_
    refine XT.q rfl rfl (Quiet.guardF rfl rfl fun g56 p56 => Q.ix (lzv g56 rfl) (lzv g56 rfl) (by omega) (by omega)) ?_
    refine XT.q rfl rfl (Quiet.guardF rfl rfl fun g57 p57 => Q.ldE (lzv g57 rfl) (by first | assumption | omega) rfl) ?_
    refine XT.q rfl rfl (Quiet.guardF rfl rfl fun g58 p58 => Q.move rfl) ?_
    refine XT.q rfl rfl (Quiet.guardF rfl rfl fun g59 p59 => Q.add (lzv g59 rfl) (lzv g59 rfl) ⟨by omega, by omega⟩) ?_
    refine XT.q rfl rfl (Quiet.guardF rfl rfl fun g60 p60 => Q.move rfl) ?_
    refine XT.q rfl rfl (Quiet.guardF rfl rfl fun g61 p61 => Q.move rfl) ?_
    refine XT.q rfl rfl (Quiet.guardF rfl rfl fun g62 p62 => Q.ix (lzv g62 rfl) (lzv g62 rfl) (by omega) (by omega)) ?_
    refine XT.q rfl rfl (Quiet.guardF rfl rfl fun g63 p63 => Q.ldE (lzv g63 rfl) (by first | assumption | omega) rfl) ?_
    refine XT.q rfl rfl (Quiet.guardF rfl rfl fun g64 p64 => Q.gtr (lzv g64 rfl) (lzv g64 rfl)) ?_
    refine XT.q rfl rfl (Q.or rfl (fun hp => lzv hp rfl)) ?_
    refine XT.done ?_
    refine XK.if rfl (fun c1 => ?_) (fun c1 => ?_)
    · have _t1 := True.intro
      have kb : keepAt d (needsL d p.starts) lim c i = false := by rw [Bool.eq_false_iff, Ne, keepAt_iff]; omega
      refine XK.seq ?_
      refine XK.region rfl ?_
      refine XO.q (Q.assign rfl) ?_
      refine XO.done ?_
      refine XK.rt [] Try.func25 Try.results25 (.t rfl .n) ?_
      refine ⟨?_, rfl⟩
      rw [keeps_bad (by omega) kb]
    · have _t1 := True.intro
      have kb : keepAt d (needsL d p.starts) lim c i = true := by rw [keepAt_iff]; omega
      refine XK.skip ?_
      refine XK.inBlock ?_
      refine XK.region rfl ?_
      refine XO.q (Q.add rfl rfl ⟨by omega, by omega⟩) ?_
      refine XO.q (Q.move rfl) ?_
      refine XO.done ?_
      exact ih0 (i + 1, _) _ _ ⟨by dsimp only; omega, by dsimp only; rw [es, he], by dsimp only; have := keepAt_iff.1 kb; omega, fun j hj => by
        by_cases h : j < i
        · exact ka j h
        · rw [show j = i by omega]; exact kb⟩ (by first | omega | (dsimp only; omega)) (.c rfl (.c rfl (.base 101 rfl rfl))) inferInstance
  · have _t0 := True.intro
    have hin : i = c.length := by omega
    subst hin
    refine XK.exit rfl ?_
    refine XK.seq ?_
    refine XK.region rfl ?_
    refine XO.q (Q.move rfl) ?_
    refine XO.q (Q.fieldAddr rfl) ?_
    refine XO.q (Q.fieldAddr rfl) ?_
    refine XO.q (Q.ld rfl rfl) ?_
    refine XO.q (Q.geq rfl rfl) ?_
    refine XO.q (Q.assign rfl) ?_
    refine XO.done ?_
    refine XK.rt [] Try.func25 Try.results25 (.t rfl .n) ?_
    refine ⟨?_, rfl⟩
    rw [keepsB, allTo_iff.2 ka, Bool.true_and, ← he]
end Go.X
