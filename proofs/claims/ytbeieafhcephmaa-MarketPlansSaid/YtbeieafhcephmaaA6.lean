/- A part of the proof: a small program logic, plain laws and contracts of functions, each proved by a walk through its operations. No condition but those that stand in each theorem. -/
import Derived.Test.YtbeieafhcephmaaA5
set_option linter.unusedSimpArgs false
set_option linter.unusedVariables false
set_option maxRecDepth 20000
namespace Go.X
open Go.Proofs
set_option maxHeartbeats 2000000 in
theorem some_spec (d : KDay) (vh vj : Value) (hh hj : PHeap) [ih : Arr vh encHour 6 hh d.hours] [ij : Arr vj encJob 4 hj d.jobs] (s : List Int) (vs : Value) (hs_ : PHeap) [js : Arr vs encI 1 hs_ s] (vx : Value) (hx : PHeap) (x : List UInt8) [jx : Arr vx encU8 1 hx x] (ok : DayOk d) (so : SOk d s) : Spec Try.prog 16 #[.agg #[vh, .int .i64 d.store.energy, .int .i64 d.store.full, .int .i64 d.store.power, .int .i64 d.store.fin, vj, .int .i64 d.most, .int .i64 d.peak], vs, vx] [] [hh, hj, hs_, hx] (fun v hs => ∃ vc kc, v = .tuple #[.agg #[vs, vc, .int .i64 0], .bool (someP d s x).2] ∧ hs = [kc] ∧ OArr vc encI 1 3 kc (someP d s x).1.charge) := by
  have nI : OArr (.slice none 0 0) encI 1 3 emp ([] : List Int) := OArr.nil (fun _ => rfl)
  have lh := ih.le
  have lj := ij.le
  have sl := so.len
  have s1 := ok.store.f0
  have s2 := ok.store.f1
  have s3 := ok.store.p0
  have s4 := ok.store.p1
  have s5 := ok.store.e0
  have s6 := ok.store.e1
  have h1 := ok.h1
  have h24 := ok.h2
  have m0 := ok.m0
  have m1 := ok.m1
  have j2 := ok.j2
  refine Spec.intro (fn := Try.f16) (N := 113) Try.func16 rfl Try.ntmps16 rfl fun B => ?_
  refine XK.seq ?_
  refine XK.region rfl ?_
  refine XO.box rfl fun b3 => ?_
  refine XO.alloc fun b6 => ?_
  refine XO.q (Q.assign rfl) ?_
  refine XO.done ?_
  refine XK.seq ?_
  refine XK.region rfl ?_
  refine XO.q (Q.move rfl) ?_
  refine XO.q (Q.build [_, _] (.c 0 1 rfl rfl rfl (.n _))) ?_
  refine XO.box rfl fun b21 => ?_
  refine XO.q (Q.assign rfl) ?_
  refine XO.done ?_
  refine XK.seq ?_
  refine XK.region rfl ?_
  refine XO.q (Q.move rfl) ?_
  refine XO.q (Q.build [_, _, _] (.c 0 1 rfl rfl rfl (.n _))) ?_
  refine XO.alloc fun b9 => ?_
  refine XO.st rfl rfl rfl ?_
  refine XO.done ?_
  refine XK.seq ?_
  refine XK.region rfl ?_
  refine XO.q (Q.fieldAddr rfl) ?_
  refine XO.q (Q.fieldAddr rfl) ?_
  refine XO.q (Q.ld rfl rfl) ?_
  refine XO.q (Q.assign rfl) ?_
  refine XO.done ?_
  refine XK.seq ?_
  refine XK.seq ?_
  refine XK.region rfl ?_
  refine XO.q (Q.fieldAddr rfl) ?_
  refine XO.q (Q.ld rfl rfl) ?_
  refine XO.len rfl fun l29 => ?_
  refine XO.q (Q.move rfl) ?_
  refine XO.done ?_
  refine XK.block ?_
  refine XK.while (X := Nat × Value × PHeap) [7, 10, 11, 12, 13, 14, 15, 16, 17, 18, 30, 31, 32, 33, 34, 35, 36, 37, 38, 39, 40, 41, 42, 43, 44, 45, 46, 47, 48, 49, 50, 51, 52, 53, 54, 55, 56, 57, 58, 59, 60, 61, 62, 63, 64, 65, 66, 67, 68, 69, 70, 71, 72, 73, 74, 75, 76, 77, 78, 79, 80, 81, 82, 83, 84, 85, 86, 87, 88, 89, 90, 91, 92, 93, 94, 95, 96, 97, 98, 99, 100, 101, 102, 103, 104, 105, 106, 107, 108, 109, 110, 111] (fun ⟨i, vc, kc⟩ => [(30, some (.int .i64 (i : Nat))), (10, some (.int .i64 (someTo d s x i).e))]) (fun ⟨i, vc, kc⟩ => [blk b9 [vs, vc, .int .i64 0] 32, blk b21 [vx, .int .i64 (((i : Nat) : Int))] 67, kc]) (fun ⟨i, vc, kc⟩ => i ≤ d.hours.length ∧ (someTo d s x i).ok = true ∧ OArr vc encI 1 3 kc (someTo d s x i).l) (fun ⟨i, vc, kc⟩ => d.hours.length - i) (0, .slice none 0 0, emp) [blk b9 [vs, .slice none 0 0, .int .i64 0] 32, blk b21 [vx, .int .i64 (((0 : Nat) : Int))] 67, emp] rfl ⟨by omega, rfl, nI⟩ (.c rfl (.c rfl (.base 0 rfl rfl))) ?_
  rintro ⟨i, vc, kc⟩ ⟨hi, hok, OC⟩ ih0
  dsimp only [List.cons_append, List.nil_append] at ih0 ⊢
  refine XK.seq ?_
  refine XK.region rfl ?_
  refine XO.q (Q.lss rfl rfl) ?_
  refine XO.done ?_
  refine XK.seq ?_
  refine XK.if rfl (fun c0 => ?_) (fun c0 => ?_)
  · have _t0 := True.intro
    have hr := ok.hour i (by omega)
    have hr1 := hr.u0
    have hr2 := hr.u1
    have hr3 := hr.l0
    have hr4 := hr.l1
    have ur := fun k hk => used_rng ok s (show i < d.hours.length by omega) k hk
    obtain ⟨⟨pl, _, _⟩, e0, e1⟩ := some_to ok i hok
    refine XK.skip ?_
    refine XK.seq ?_
    refine XK.block ?_
    refine XK.seq ?_
    refine XK.region rfl ?_
    refine XO.q (Q.move rfl) ?_
    refine XO.ix rfl rfl (by omega) (by omega) fun i33 => ?_
    refine XO.q (Q.ldEA [_, _, _, _, _, _] rfl (by first | assumption | omega) rfl rfl) ?_
    refine XO.alloc fun b12 => ?_
    refine XO.q (Q.assign rfl) ?_
    refine XO.st rfl rfl rfl ?_
    refine XO.done ?_
    refine XK.seq ?_
    refine XK.region rfl ?_
    refine XO.q (Q.fieldAddr rfl) ?_
    refine XO.q (Q.ld rfl rfl) ?_
    refine XO.q (Q.fieldAddr rfl) ?_
    refine XO.q (Q.ld rfl rfl) ?_
    refine XO.q (Q.sub rfl rfl ⟨by omega, by omega⟩) ?_
    refine XO.q (Q.assign rfl) ?_
    refine XO.done ?_
    refine XK.seq ?_
    refine XK.seq ?_
    refine XK.region rfl ?_
    refine XO.q (Q.fieldAddr rfl) ?_
    refine XO.q (Q.ld rfl rfl) ?_
    refine XO.len rfl fun l42 => ?_
    refine XO.q (Q.move rfl) ?_
    refine XO.done ?_
    refine XK.block ?_
    refine XK.while (X := Nat × Int) [13, 14, 15, 43, 44, 45, 46, 47, 48, 49, 50, 51, 52, 53, 54, 55, 56, 57, 58, 59, 60, 61, 62, 63, 64, 65, 66, 67, 68, 69] (fun ⟨k, u⟩ => [(43, some (.int .i64 (k : Nat))), (13, some (.int .i64 u))]) (fun ⟨k, u⟩ => []) (fun ⟨k, u⟩ => k ≤ d.jobs.length ∧ u = usedAt d s i k - (d.hours.getD i default).sun) (fun ⟨k, u⟩ => d.jobs.length - k) (0, _) [] rfl ⟨by omega, rfl⟩ (.c rfl (.c rfl (.base 0 rfl rfl))) ?_
    rintro ⟨k, u⟩ ⟨hk, hu⟩ ih1
    dsimp only [List.cons_append, List.nil_append] at ih1 ⊢
    refine XK.seq ?_
    refine XK.region rfl ?_
    refine XO.q (Q.lss rfl rfl) ?_
    refine XO.done ?_
    refine XK.seq ?_
    refine XK.if rfl (fun c1 => ?_) (fun c1 => ?_)
    · have _t1 := True.intro
      have jk := ok.job k (by omega)
      have jk1 := jk.b0
      have jk2 := jk.b1
      have jk3 := jk.t1
      have jk4 := jk.h0
      have jk5 := jk.p0
      have jk6 := jk.p1
      have sk := so.at' k (by omega)
      have urk := ur k (by omega)
      have ue : usedAt d s i (k + 1) = usedAt d s i k + busy (d.jobs.getD k default) (s.getD k default) i := rfl
      have bu : busy (d.jobs.getD k default) (s.getD k default) i = if s.getD k default ≤ (i : Int) ∧ (i : Int) < s.getD k default + (d.jobs.getD k default).hours then (d.jobs.getD k default).power else 0 := rfl
      refine XK.skip ?_
      refine XK.seq ?_
      refine XK.block ?_
      refine XK.seq ?_
      refine XK.region rfl ?_
      refine XO.q (Q.move rfl) ?_
      refine XO.ix rfl rfl (by omega) (by omega) fun i46 => ?_
      refine XO.q (Q.ldEA [_, _, _, _] rfl (by first | assumption | omega) rfl rfl) ?_
      refine XO.alloc fun b15 => ?_
      refine XO.q (Q.assign rfl) ?_
      refine XO.st rfl rfl rfl ?_
      refine XO.done ?_
      refine XK.seq ?_
      refine XK.drawn [0, 1, 2, 3, 4, 5, 6, 7, 8, 9, 10, 11, 12, 13, 14, 15, 16] [b15] [] (.q 0 (.q 1 (.q 2 (.q 3 (.q 4 (.q 5 (.q 6 (.q 7 (.q 8 (.q 9 (.q 10 (.q 11 (.q 12 (.q 13 (.q 14 (.q 15 (.q 16 .done))))))))))))))))) Try.mixed rfl (by kernel_rfl) ?_
      refine XT.q rfl rfl (Q.move rfl) ?_
      refine XT.q rfl rfl (Q.move rfl) ?_
      refine XT.q rfl rfl (Q.move rfl) ?_
      refine XT.ix rfl rfl rfl rfl (by omega) (by omega) fun i51 => ?_
      refine XT.q rfl rfl (Q.ldE rfl (by first | assumption | omega) rfl) ?_
      refine XT.q rfl rfl (Q.geq rfl rfl) ?_
      refine XT.q rfl rfl (Q.move rfl) ?_
      refine XT.q rfl rfl (Quiet.guardT rfl rfl fun g55 p55 => Q.move rfl) ?_
      refine XT.q rfl rfl (Quiet.guardT rfl rfl fun g56 p56 => Q.move rfl) ?_
      refine XT.q rfl rfl (Quiet.guardT rfl rfl fun g57 p57 => Q.move rfl) ?_
      refine XT.q rfl rfl (Quiet.guardT rfl rfl fun g58 p58 => Q.ix (lzv g58 rfl) (lzv g58 rfl) (by omega) (by omega)) ?_
      refine XT.q rfl rfl (Quiet.guardT rfl rfl fun g59 p59 => Q.ldE (lzv g59 rfl) (by first | assumption | omega) rfl) ?_
      refine XT.q rfl rfl (Quiet.guardT rfl rfl fun g60 p60 => Q.fieldAddr rfl) ?_
      refine XT.q rfl rfl (Quiet.guardT rfl rfl fun g61 p61 => Q.ld (lzv g61 rfl) rfl) ?_
      refine XT.q rfl rfl (Quiet.guardT rfl rfl fun g62 p62 => Q.add (lzv g62 rfl) (lzv g62 rfl) ⟨by omega, by omega⟩) ?_
      refine XT.q rfl rfl (Quiet.guardT rfl rfl fun g63 p63 => Q.lss (lzv g63 rfl) (lzv g63 rfl)) ?_
      refine XT.q rfl rfl (Q.and rfl (fun hp => lzv hp rfl)) ?_
      refine XT.done ?_
      refine XK.if rfl (fun c2 => ?_) (fun c2 => ?_)
      · have _t2 := True.intro
        rw [if_pos (by omega)] at bu
        refine XK.region rfl ?_
        refine XO.q (Q.move rfl) ?_
        refine XO.q (Q.fieldAddr rfl) ?_
        refine XO.q (Q.ld rfl rfl) ?_
        refine XO.q (Q.add rfl rfl ⟨by omega, by omega⟩) ?_
        refine XO.q (Q.assign rfl) ?_
        refine XO.done ?_
        refine XK.inBlock ?_
        refine XK.region rfl ?_
        refine XO.q (Q.add rfl rfl ⟨by omega, by omega⟩) ?_
        refine XO.q (Q.move rfl) ?_
        refine XO.done ?_
        exact ih1 (k + 1, u + (d.jobs.getD k default).power) _ _ ⟨by dsimp only; omega, by dsimp only; omega⟩ (by first | omega | (dsimp only; omega)) (.c rfl (.c rfl (.base 62 rfl rfl))) inferInstance
      · have _t2 := True.intro
        rw [if_neg (by omega)] at bu
        refine XK.skip ?_
        refine XK.inBlock ?_
        refine XK.region rfl ?_
        refine XO.q (Q.add rfl rfl ⟨by omega, by omega⟩) ?_
        refine XO.q (Q.move rfl) ?_
        refine XO.done ?_
        exact ih1 (k + 1, u) _ _ ⟨by dsimp only; omega, by dsimp only; omega⟩ (by first | omega | (dsimp only; omega)) (.c rfl (.c rfl (.base 57 rfl rfl))) inferInstance
    · have _t1 := True.intro
      have hkn : k = d.jobs.length := by omega
      subst hkn
      have hu2 : u = ((needsL d s).getD i default) := by rw [needs_at (by omega)]; exact hu
      subst hu2
      have nr := needs_rng ok s (show i < d.hours.length by omega)
      refine XK.exit rfl ?_
      refine XK.seq ?_
      refine XK.drawn [0, 1, 2, 3, 4, 5, 6, 7, 8, 9, 10, 11, 12, 13, 14, 15, 16, 17, 18, 19, 20, 21] [b3] [] (.q 0 (.q 1 (.q 2 (.q 3 (.q 4 (.q 5 (.q 6 (.q 7 (.q 8 (.q 9 (.q 10 (.q 11 (.q 12 (.q 13 (.q 14 (.q 15 (.q 16 (.q 17 (.q 18 (.q 19 (.q 20 (.q 21 .done)))))))))))))))))))))) Try.mixed rfl (by kernel_rfl) ?_
      refine XT.q rfl rfl (Q.fieldAddr rfl) ?_
      refine XT.q rfl rfl (Q.fieldAddr rfl) ?_
      refine XT.q rfl rfl (Q.ld rfl rfl) ?_
      refine XT.q rfl rfl (Q.neg rfl ⟨by omega, by omega⟩) ?_
      rw [show (0 : Int) - d.store.power = -d.store.power by omega]
      refine XT.q rfl rfl (Q.move rfl) ?_
      refine XT.q rfl rfl (Q.neg rfl ⟨by omega, by omega⟩) ?_
      rw [show (0 : Int) - (someTo d s x i).e = -(someTo d s x i).e by omega]
      refine XT.q rfl rfl (Q.max rfl rfl) ?_
      rw [show max (-d.store.power) (-(someTo d s x i).e) = (lowC d (someTo d s x i).e) from rfl]
      refine XT.q rfl rfl (Q.fieldAddr rfl) ?_
      refine XT.q rfl rfl (Q.fieldAddr rfl) ?_
      refine XT.q rfl rfl (Q.ld rfl rfl) ?_
      refine XT.q rfl rfl (Q.fieldAddr rfl) ?_
      refine XT.q rfl rfl (Q.fieldAddr rfl) ?_
      refine XT.q rfl rfl (Q.ld rfl rfl) ?_
      refine XT.q rfl rfl (Q.move rfl) ?_
      refine XT.q rfl rfl (Q.sub rfl rfl ⟨by omega, by omega⟩) ?_
      refine XT.q rfl rfl (Q.fieldAddr rfl) ?_
      refine XT.q rfl rfl (Q.ld rfl rfl) ?_
      refine XT.q rfl rfl (Q.move rfl) ?_
      refine XT.q rfl rfl (Q.sub rfl rfl ⟨by omega, by omega⟩) ?_
      refine XT.q rfl rfl (Q.min3 rfl rfl rfl) ?_
      rw [show min (min d.store.power (d.store.full - (someTo d s x i).e)) (d.most - ((needsL d s).getD i default)) = (highC d ((needsL d s).getD i default) (someTo d s x i).e) from rfl]
      refine XT.q rfl rfl (Q.assign rfl) ?_
      refine XT.q rfl rfl (Q.assign rfl) ?_
      refine XT.done ?_
      refine XK.seq ?_
      refine XK.seq ?_
      refine XK.region rfl ?_
      refine XO.q (Q.move rfl) ?_
      refine XO.q (Q.move rfl) ?_
      refine XO.q (Q.gtr rfl rfl) ?_
      refine XO.done ?_
      refine XK.if rfl (fun c3 => ?_) (fun c3 => ?_)
      · have _t3 := True.intro
        have he : (someTo d s x (i + 1)) = ⟨(someTo d s x i).l, (someTo d s x i).e, false⟩ := by rw [someTo, if_pos hok, if_pos c3]
        have hs : (someTo d s x d.hours.length) = (someTo d s x (i + 1)) := someTo_stay (by rw [he]) _ (by omega)
        refine XK.seq ?_
        refine XK.region rfl ?_
        refine XO.q (Q.ldA [_, _, _] rfl rfl rfl) ?_
        refine XO.st rfl rfl rfl ?_
        refine XO.q (Q.assign rfl) ?_
        refine XO.done ?_
        refine XK.rt [kc] Try.func16 Try.results16 (.cell [_, _, _] rfl rfl rfl (.t rfl .n)) ?_
        rw [someP, hs, he]
        exact ⟨vc, kc, rfl, rfl, OC⟩
      · have _t3 := True.intro
        have he : (someTo d s x (i + 1)) = ⟨(someTo d s x i).l ++ [((lowC d (someTo d s x i).e) + dg x i ((highC d ((needsL d s).getD i default) (someTo d s x i).e) - (lowC d (someTo d s x i).e) + 1))], (someTo d s x i).e + ((lowC d (someTo d s x i).e) + dg x i ((highC d ((needsL d s).getD i default) (someTo d s x i).e) - (lowC d (someTo d s x i).e) + 1)), true⟩ := by rw [someTo, if_pos hok, if_neg c3]
        have hl : -d.store.power ≤ (lowC d (someTo d s x i).e) ∧ (lowC d (someTo d s x i).e) ≤ 0 := by unfold lowC; omega
        have hh2 : (highC d ((needsL d s).getD i default) (someTo d s x i).e) ≤ d.store.power := by unfold highC; omega
        have rd := dg_rng x i (n := (highC d ((needsL d s).getD i default) (someTo d s x i).e) - (lowC d (someTo d s x i).e) + 1) (by omega)
        refine XK.skip ?_
        refine XK.seq ?_
        refine XK.region rfl ?_
        refine XO.q (Q.move rfl) ?_
        refine XO.q (Q.move rfl) ?_
        refine XO.q (Q.move rfl) ?_
        refine XO.q (Q.move rfl) ?_
        refine XO.q (Q.sub rfl rfl ⟨by omega, by omega⟩) ?_
        refine XO.q (Q.add rfl rfl ⟨by omega, by omega⟩) ?_
        refine XO.call Try.call26 rfl rfl rfl (next_spec vx hx x b21 i (by omega) ((highC d ((needsL d s).getD i default) (someTo d s x i).e) - (lowC d (someTo d s x i).e) + 1) (by omega) (by omega)) fun v100 s100 R100 => ?_
        obtain ⟨rfl, rfl⟩ := R100
        dsimp only [List.cons_append, List.nil_append]
        refine XO.q (Q.add rfl rfl ⟨by omega, by omega⟩) ?_
        refine XO.q (Q.assign rfl) ?_
        refine XO.done ?_
        refine XK.seq ?_
        refine XK.region rfl ?_
        refine XO.q (Q.fieldAddr rfl) ?_
        refine XO.q (Q.ld rfl rfl) ?_
        refine XO.q (Q.move rfl) ?_
        refine XO.lit [_] [_] [((lowC d (someTo d s x i).e) + dg x i ((highC d ((needsL d s).getD i default) (someTo d s x i).e) - (lowC d (someTo d s x i).e) + 1))] encI (by rfl) (by rfl) rfl (by rfl) (by exact .c 0 1 rfl rfl rfl (.n _)) (fun _ => rfl) (by rfl) rfl (by infer_instance) rfl fun v105 h105 O105 => ?_
        refine XO.append rfl rfl rfl rfl (by simp only [List.length_cons, List.length_nil]; omega) fun v106 h106 O106 => ?_
        refine XO.q (Q.fieldAddr rfl) ?_
        refine XO.st rfl rfl rfl ?_
        refine XO.done ?_
        refine XK.region rfl ?_
        refine XO.q (Q.move rfl) ?_
        refine XO.q (Q.move rfl) ?_
        refine XO.q (Q.add rfl rfl ⟨by omega, by omega⟩) ?_
        refine XO.q (Q.assign rfl) ?_
        refine XO.done ?_
        refine XK.inBlock ?_
        refine XK.region rfl ?_
        refine XO.q (Q.add rfl rfl ⟨by omega, by omega⟩) ?_
        refine XO.q (Q.move rfl) ?_
        refine XO.done ?_
        rw [show (someTo d s x i).e + ((lowC d (someTo d s x i).e) + dg x i ((highC d ((needsL d s).getD i default) (someTo d s x i).e) - (lowC d (someTo d s x i).e) + 1)) = (someTo d s x (i + 1)).e by rw [he]]
        exact ih0 (i + 1, v106, h106) _ _ ⟨by dsimp only; omega, by dsimp only; rw [he], by dsimp only; rw [he]; exact O106⟩ (by first | omega | (dsimp only; omega)) (.c rfl (.c rfl (.base 189 rfl rfl))) inferInstance
  · have _t0 := True.intro
    have hin : i = d.hours.length := by omega
    subst hin
    refine XK.exit rfl ?_
    refine XK.seq ?_
    refine XK.region rfl ?_
    refine XO.q (Q.ldA [_, _, _] rfl rfl rfl) ?_
    refine XO.st rfl rfl rfl ?_
    refine XO.q (Q.assign rfl) ?_
    refine XO.done ?_
    refine XK.rt [kc] Try.func16 Try.results16 (.cell [_, _, _] rfl rfl rfl (.t rfl .n)) ?_
    rw [someP, hok]
    exact ⟨vc, kc, rfl, rfl, OC⟩
end Go.X

set_option linter.unusedSimpArgs false
set_option linter.unusedVariables false
set_option maxRecDepth 20000
namespace Go.X
open Go.Proofs
theorem example10 (n : Int) : Spec Try.prog 34 #[.int .i64 n] [] [] (fun v hs => ∃ vh kh, v = .agg #[vh, .int .i64 0, .int .i64 2, .int .i64 2, .int .i64 0, .slice none 0 0, .int .i64 10, .int .i64 n] ∧ hs = [kh, emp] ∧ OArr vh encHour 6 39 kh (exDay n).hours) := by
  refine Spec.intro (fn := Try.f34) (N := 9) Try.func34 rfl Try.ntmps34 rfl fun B => ?_
  refine XK.seq ?_
  refine XK.region rfl ?_
  refine XO.alloc fun b2 => ?_
  refine XO.done ?_
  refine XK.seq ?_
  refine XK.region rfl ?_
  refine XO.q (Q.build [_, _, _, _, _, _] (.c 0 1 rfl rfl rfl (.c 3 1 rfl rfl rfl (.n _)))) ?_
  refine XO.q (Q.build [_, _, _, _, _, _] (.c 0 1 rfl rfl rfl (.c 3 1 rfl rfl rfl (.n _)))) ?_
  refine XO.lit [_, _, _, _, _, _, _, _, _, _, _, _] [_, _, _, _, _, _, _, _, _, _, _, _] [⟨10, 0, 0, 2, 0, 0⟩, ⟨30, 0, 0, 2, 0, 0⟩] encHour (by rfl) (by rfl) rfl (by rfl) (by exact .c 0 6 rfl rfl rfl (.c 6 6 rfl rfl rfl (.n _))) (fun _ => rfl) (by rfl) rfl (by infer_instance) rfl fun v5 h5 O5 => ?_
  refine XO.q (Q.build [_, _, _, _] (.c 1 1 rfl rfl rfl (.c 2 1 rfl rfl rfl (.n _)))) ?_
  refine XO.q (Q.move rfl) ?_
  refine XO.q (Q.build [_, _, _, _, _, _, _, _] (.c 0 1 rfl rfl rfl (.c 1 4 rfl rfl rfl (.c 6 1 rfl rfl rfl (.c 7 1 rfl rfl rfl (.n _)))))) ?_
  refine XO.st rfl rfl rfl ?_
  refine XO.done ?_
  refine XK.rt [h5, emp] Try.func34 Try.results34 (.cell [_, _, _, _, _, _, _, _] rfl rfl rfl (.n)) ?_
  exact ⟨v5, h5, rfl, rfl, O5⟩
set_option maxHeartbeats 4000000 in
theorem awake10 : Spec Try.prog 12 #[] [] [] (fun v hs => v = .bool true ∧ hs = []) := by
  have nJ : OArr (.slice none 0 0) encJob 4 77 emp ([] : List KJob) := OArr.nil (fun _ => rfl)
  refine Spec.intro (fn := Try.f12) (N := 97) Try.func12 rfl Try.ntmps12 rfl fun B => ?_
  refine XK.seq ?_
  refine XK.region rfl ?_
  refine XO.q (Q.assign rfl) ?_
  refine XO.done ?_
  refine XK.seq ?_
  refine XK.region rfl ?_
  refine XO.call Try.call34 rfl rfl rfl (example10 0) fun v14 s14 R14 => ?_
  obtain ⟨vh1, kh1, rfl, rfl, OH1⟩ := R14
  dsimp only [List.cons_append, List.nil_append]
  refine XO.call Try.call10 rfl rfl rfl (Best_spec (exDay 0) vh1 (.slice none 0 0) kh1 emp) fun v15 s15 R15 => ?_
  obtain ⟨vs1, vc1, vp1, K1, kc1, kp1, pus1, KP1, tabs1, rfl, rfl, ow1, AS1, OC1, OP1, RP1, HT1, _⟩ := R15
  dsimp only [List.cons_append, List.nil_append]
  rw [ex_best0] at AS1 OC1 HT1
  rw [ex_best0]
  have HT1 := HT1 rfl
  dsimp only [exPlan] at AS1 OC1
  dsimp only [exPlan]
  refine XO.q (Q.move rfl) ?_
  refine XO.q (Q.extract rfl rfl) ?_
  refine XO.q (Q.extract rfl rfl) ?_
  refine XO.q (Q.extract rfl rfl) ?_
  refine XO.alloc fun b1 => ?_
  refine XO.st rfl rfl rfl ?_
  refine XO.q (Q.assign rfl) ?_
  refine XO.q (Q.assign rfl) ?_
  refine XO.done ?_
  refine XK.seq ?_
  refine XK.region rfl ?_
  refine XO.call Try.call34 rfl rfl rfl (example10 10) fun v20 s20 R20 => ?_
  obtain ⟨vh2, kh2, rfl, rfl, OH2⟩ := R20
  dsimp only [List.cons_append, List.nil_append]
  refine XO.call Try.call10 rfl rfl rfl (Best_spec (exDay 10) vh2 (.slice none 0 0) kh2 emp) fun v21 s21 R21 => ?_
  obtain ⟨vs2, vc2, vp2, K2, kc2, kp2, pus2, KP2, tabs2, rfl, rfl, ow2, AS2, OC2, OP2, RP2, HT2, _⟩ := R21
  dsimp only [List.cons_append, List.nil_append]
  rw [ex_best10] at AS2 OC2 HT2
  rw [ex_best10]
  have HT2 := HT2 rfl
  dsimp only [exPlan] at AS2 OC2
  dsimp only [exPlan]
  refine XO.q (Q.move rfl) ?_
  refine XO.q (Q.extract rfl rfl) ?_
  refine XO.q (Q.extract rfl rfl) ?_
  refine XO.q (Q.extract rfl rfl) ?_
  refine XO.alloc fun b4 => ?_
  refine XO.st rfl rfl rfl ?_
  refine XO.q (Q.assign rfl) ?_
  refine XO.q (Q.assign rfl) ?_
  refine XO.done ?_
  refine XK.seq ?_
  refine XK.drawn [1, 2, 4, 5, 6, 7, 8, 9, 10] [b1] [] (.q 1 (.q 2 (.br 0 true (.br 3 true (.q 4 (.q 5 (.q 6 (.q 7 (.q 8 (.q 9 (.q 10 .done))))))) .stop) .stop))) Try.mixed rfl (by kernel_rfl) ?_
  refine XT.q rfl rfl (Q.ldA [_, _, _] rfl rfl rfl) ?_
  refine XT.q rfl rfl (Q.build [_, _, _, _, _, _] (.c 0 1 rfl rfl rfl (.c 1 1 rfl rfl rfl (.c 2 1 rfl rfl rfl (.c 3 1 rfl rfl rfl (.c 4 1 rfl rfl rfl (.n _))))))) ?_
  refine XT.call rfl rfl Try.call34 rfl rfl rfl (example10 0) (fun v26 s26 R26 => ?_) XT.stop
  obtain ⟨vh3, kh3, rfl, rfl, OH3⟩ := R26
  dsimp only [List.cons_append, List.nil_append]
  refine ⟨inferInstance, ?_⟩
  refine XT.call rfl rfl Try.call21 rfl rfl rfl (Deliver_spec (exDay 0) vh3 (.slice none 0 0) kh3 emp (exPlan 40) vs1 vc1 K1 kc1 ⟨0, 1, 2, 1, 1, 0⟩) (fun v29 s29 R29 => ?_) XT.stop
  obtain ⟨vd3, kd3, rfl, rfl, od3, AD3⟩ := R29
  dsimp only [List.cons_append, List.nil_append]
  refine ⟨inferInstance, ?_⟩
  rw [ex_yes] at AD3
  rw [ex_yes]
  dsimp only
  dsimp only at AD3
  refine XT.q rfl rfl (Q.move rfl) ?_
  refine XT.q rfl rfl (Q.extract rfl rfl) ?_
  refine XT.q rfl rfl (Q.extract rfl rfl) ?_
  refine XT.q rfl rfl (Q.extract rfl rfl) ?_
  refine XT.q rfl rfl (Q.assign rfl) ?_
  refine XT.q rfl rfl (Q.assign rfl) ?_
  refine XT.q rfl rfl (Q.assign rfl) ?_
  refine XT.done ?_
  refine XK.seq ?_
  refine XK.drawn [1, 2, 4, 5, 6, 7, 8, 9, 10] [b1] [] (.q 1 (.q 2 (.br 0 true (.br 3 true (.q 4 (.q 5 (.q 6 (.q 7 (.q 8 (.q 9 (.q 10 .done))))))) .stop) .stop))) Try.mixed rfl (by kernel_rfl) ?_
  refine XT.q rfl rfl (Q.ldA [_, _, _] rfl rfl rfl) ?_
  refine XT.q rfl rfl (Q.build [_, _, _, _, _, _] (.c 0 1 rfl rfl rfl (.c 1 1 rfl rfl rfl (.c 2 1 rfl rfl rfl (.c 3 1 rfl rfl rfl (.c 4 1 rfl rfl rfl (.n _))))))) ?_
  refine XT.call rfl rfl Try.call34 rfl rfl rfl (example10 0) (fun v34 s34 R34 => ?_) XT.stop
  obtain ⟨vh4, kh4, rfl, rfl, OH4⟩ := R34
  dsimp only [List.cons_append, List.nil_append]
  refine ⟨inferInstance, ?_⟩
  refine XT.call rfl rfl Try.call21 rfl rfl rfl (Deliver_spec (exDay 0) vh4 (.slice none 0 0) kh4 emp (exPlan 40) vs1 vc1 K1 kc1 ⟨1, 2, 2, 1, 1, 0⟩) (fun v37 s37 R37 => ?_) XT.stop
  obtain ⟨vd4, kd4, rfl, rfl, od4, AD4⟩ := R37
  dsimp only [List.cons_append, List.nil_append]
  refine ⟨inferInstance, ?_⟩
  rw [ex_no] at AD4
  rw [ex_no]
  dsimp only
  dsimp only at AD4
  refine XT.q rfl rfl (Q.move rfl) ?_
  refine XT.q rfl rfl (Q.extract rfl rfl) ?_
  refine XT.q rfl rfl (Q.extract rfl rfl) ?_
  refine XT.q rfl rfl (Q.extract rfl rfl) ?_
  refine XT.q rfl rfl (Q.assign rfl) ?_
  refine XT.q rfl rfl (Q.assign rfl) ?_
  refine XT.q rfl rfl (Q.assign rfl) ?_
  refine XT.done ?_
  refine XK.seq ?_
  refine XK.drawn [0, 1, 2, 3, 4, 5, 6, 7, 8, 9, 10, 11, 12, 13, 14, 15, 16, 17, 18, 19, 20, 21, 22, 23, 24, 25, 26, 29, 30, 31, 32, 33, 34, 36, 37, 39, 40, 42, 43, 44, 45, 46, 47, 48, 49, 50, 51, 52, 55, 56] [b1, b4] [] (.q 0 (.q 1 (.q 2 (.q 3 (.q 4 (.q 5 (.q 6 (.q 7 (.q 8 (.q 9 (.q 10 (.q 11 (.q 12 (.q 13 (.q 14 (.q 15 (.q 16 (.q 17 (.q 18 (.q 19 (.q 20 (.q 21 (.q 22 (.q 23 (.q 24 (.q 25 (.q 26 (.br 27 true (.br 28 true (.q 29 (.q 30 (.q 31 (.q 32 (.q 33 (.q 34 (.br 35 true (.q 36 (.q 37 (.q 39 (.q 40 (.br 38 true (.br 41 true (.q 42 (.q 43 (.q 44 (.q 45 (.q 46 (.q 47 (.q 48 (.q 49 (.q 50 (.q 51 (.q 52 (.br 53 true (.br 54 true (.q 55 (.q 56 .done)) .stop) .stop)))))))))))) .stop) .stop))))) .stop))))))) .stop) .stop)))))))))))))))))))))))))))) Try.mixed rfl (by kernel_rfl) ?_
  refine XT.q rfl rfl (Q.move rfl) ?_
  refine XT.q rfl rfl (Q.eql rfl rfl) ?_
  refine XT.q rfl rfl (Q.move rfl) ?_
  refine XT.q rfl rfl (Quiet.guardT rfl rfl fun g44 p44 => Q.move rfl) ?_
  refine XT.q rfl rfl (Quiet.guardT rfl rfl fun g45 p45 => Q.eql (lzv rfl rfl) rfl) ?_
  refine XT.q rfl rfl (Q.and rfl (fun hp => lzv hp rfl)) ?_
  refine XT.q rfl rfl (Q.move rfl) ?_
  refine XT.q rfl rfl (Quiet.guardT rfl rfl fun g48 p48 => Q.move rfl) ?_
  refine XT.q rfl rfl (Quiet.guardT rfl rfl fun g49 p49 => Q.eql (lzv rfl rfl) rfl) ?_
  refine XT.q rfl rfl (Q.and rfl (fun hp => lzv hp rfl)) ?_
  refine XT.q rfl rfl (Q.move rfl) ?_
  refine XT.q rfl rfl (Quiet.guardT rfl rfl fun g52 p52 => Q.move rfl) ?_
  refine XT.q rfl rfl (Quiet.guardT rfl rfl fun g53 p53 => Q.eql (lzv rfl rfl) rfl) ?_
  refine XT.q rfl rfl (Q.and rfl (fun hp => lzv hp rfl)) ?_
  refine XT.q rfl rfl (Q.move rfl) ?_
  refine XT.q rfl rfl (Quiet.guardT rfl rfl fun g56 p56 => Q.fieldAddr rfl) ?_
  refine XT.q rfl rfl (Quiet.guardT rfl rfl fun g57 p57 => Q.ld (lzv rfl rfl) rfl) ?_
  refine XT.q rfl rfl (Quiet.guardT rfl rfl fun g58 p58 => Q.eql (lzv rfl rfl) rfl) ?_
  refine XT.q rfl rfl (Q.and rfl (fun hp => lzv hp rfl)) ?_
  refine XT.q rfl rfl (Q.move rfl) ?_
  refine XT.q rfl rfl (Quiet.guardT rfl rfl fun g61 p61 => Q.fieldAddr rfl) ?_
  refine XT.q rfl rfl (Quiet.guardT rfl rfl fun g62 p62 => Q.ld (lzv rfl rfl) rfl) ?_
  refine XT.q rfl rfl (Quiet.guardT rfl rfl fun g63 p63 => Q.eql (lzv rfl rfl) rfl) ?_
  refine XT.q rfl rfl (Q.and rfl (fun hp => lzv hp rfl)) ?_
  refine XT.q rfl rfl (Q.move rfl) ?_
  refine XT.q rfl rfl (Quiet.guardT rfl rfl fun g66 p66 => Q.fieldAddr rfl) ?_
  refine XT.q rfl rfl (Quiet.guardT rfl rfl fun g67 p67 => Q.ld (lzv rfl rfl) rfl) ?_
  refine XT.litS [_, _] [_, _] [2, -2] encI rfl rfl rfl rfl rfl (by rfl) (by rfl) rfl (by rfl) (by exact .c 0 1 rfl rfl rfl (.c 1 1 rfl rfl rfl (.n _))) (fun _ => rfl) (by rfl) rfl (by infer_instance) rfl (fun v68 h68 O68 => ⟨inferInstance, ?_⟩) XT.stop
  refine XT.callS rfl rfl rfl rfl rfl Try.call23 rfl (.c (lzv rfl rfl) (.c rfl .n)) rfl (equalI vc1 v68 kc1 h68 [2, -2] [2, -2]) (fun v69 s69 R69 => ?_) XT.stop
  obtain ⟨rfl, rfl⟩ := R69
  dsimp only [List.cons_append, List.nil_append]
  refine ⟨inferInstance, ?_⟩
  refine XT.q rfl rfl (Q.and rfl (fun _ => rfl)) ?_
  refine XT.q rfl rfl (Q.move rfl) ?_
  refine XT.q rfl rfl (Quiet.guardT rfl rfl fun g72 p72 => Q.fieldAddr rfl) ?_
  refine XT.q rfl rfl (Quiet.guardT rfl rfl fun g73 p73 => Q.ld (lzv rfl rfl) rfl) ?_
  refine XT.q rfl rfl (Quiet.guardT rfl rfl fun g74 p74 => Q.fieldAddr rfl) ?_
  refine XT.q rfl rfl (Quiet.guardT rfl rfl fun g75 p75 => Q.ld (lzv rfl rfl) rfl) ?_
  refine XT.callS rfl rfl rfl rfl rfl Try.call23 rfl (.c (lzv rfl rfl) (.c (lzv rfl rfl) .n)) rfl (equalI vc2 vc1 kc2 kc1 [2, -2] [2, -2]) (fun v76 s76 R76 => ?_) XT.stop
  obtain ⟨rfl, rfl⟩ := R76
  dsimp only [List.cons_append, List.nil_append]
  refine ⟨inferInstance, ?_⟩
  refine XT.q rfl rfl (Q.and rfl (fun _ => rfl)) ?_
  refine XT.q rfl rfl (Q.move rfl) ?_
  refine XT.q rfl rfl (Quiet.guardT rfl rfl fun g80 p80 => Q.ldA [_, _, _] rfl rfl rfl) ?_
  refine XT.q rfl rfl (Quiet.guardT rfl rfl fun g81 p81 => Q.move rfl) ?_
  refine XT.callS rfl rfl rfl rfl rfl Try.call34 rfl (.c rfl .n) rfl (example10 0) (fun v79 s79 R79 => ?_) XT.stop
  obtain ⟨vh5, kh5, rfl, rfl, OH5⟩ := R79
  dsimp only [List.cons_append, List.nil_append]
  refine ⟨inferInstance, ?_⟩
  refine XT.callS rfl rfl rfl rfl rfl Try.call18 rfl (.c rfl (.c (lzv rfl rfl) (.c (lzv rfl rfl) .n))) rfl (Verify_spec (exDay 0) vh5 (.slice none 0 0) kh5 emp (exPlan 40) vs1 vc1 K1 kc1 vp1 kp1 KP1 pus1 tabs1 RP1) (fun v82 s82 R82 => ?_) XT.stop
  obtain ⟨rfl, rfl⟩ := R82
  dsimp only [List.cons_append, List.nil_append]
  refine ⟨inferInstance, ?_⟩
  rw [ex_verify HT1.len HT1.tab]
  refine XT.q rfl rfl (Quiet.guardT rfl rfl fun g83 p83 => Q.eql rfl rfl) ?_
  refine XT.q rfl rfl (Q.and rfl (fun hp => lzv hp rfl)) ?_
  refine XT.q rfl rfl (Q.move rfl) ?_
  refine XT.q rfl rfl (Quiet.guardT rfl rfl fun g86 p86 => Q.move rfl) ?_
  refine XT.q rfl rfl (Q.and rfl (fun hp => lzv hp rfl)) ?_
  refine XT.q rfl rfl (Q.move rfl) ?_
  refine XT.q rfl rfl (Quiet.guardT rfl rfl fun g89 p89 => Q.move rfl) ?_
  refine XT.q rfl rfl (Quiet.guardT rfl rfl fun g90 p90 => Q.not (lzv rfl rfl)) ?_
  refine XT.q rfl rfl (Q.and rfl (fun hp => lzv hp rfl)) ?_
  refine XT.q rfl rfl (Q.move rfl) ?_
  refine XT.q rfl rfl (Quiet.guardT rfl rfl fun g93 p93 => Q.move rfl) ?_
  refine XT.litS [_] [_] [1] encI rfl rfl rfl rfl rfl (by rfl) (by rfl) rfl (by rfl) (by exact .c 0 1 rfl rfl rfl (.n _)) (fun _ => rfl) (by rfl) rfl (by infer_instance) rfl (fun v94 h94 O94 => ⟨inferInstance, ?_⟩) XT.stop
  refine XT.callS rfl rfl rfl rfl rfl Try.call23 rfl (.c (lzv rfl rfl) (.c rfl .n)) rfl (equalI vd4 v94 kd4 h94 [1] [1]) (fun v95 s95 R95 => ?_) XT.stop
  obtain ⟨rfl, rfl⟩ := R95
  dsimp only [List.cons_append, List.nil_append]
  refine ⟨inferInstance, ?_⟩
  refine XT.q rfl rfl (Q.and rfl (fun _ => rfl)) ?_
  refine XT.q rfl rfl (Q.assign rfl) ?_
  refine XT.done ?_
  refine XK.rt [] Try.func12 Try.results12 (.t rfl .n) ?_
  exact ⟨rfl, rfl⟩
end Go.X

set_option linter.unusedSimpArgs false
set_option linter.unusedVariables false
set_option maxRecDepth 20000
namespace Go.X
open Go.Proofs
theorem rin_spec (a m b : Int) : Spec Try.prog 81 #[.int .i64 a, .int .i64 m, .int .i64 b] [] [] (fun v hs => v = .bool (decide (m ≤ a) && decide (a ≤ b)) ∧ hs = []) := by
  refine Spec.intro (fn := Try.f81) (N := 15) Try.func81 rfl Try.ntmps81 rfl fun B => ?_
  refine XK.seq ?_
  refine XK.region rfl ?_
  refine XO.q (Q.assign rfl) ?_
  refine XO.done ?_
  refine XK.seq ?_
  refine XK.region rfl ?_
  refine XO.q (Q.move rfl) ?_
  refine XO.q (Q.move rfl) ?_
  refine XO.q (Q.geq rfl rfl) ?_
  refine XO.q (Q.move rfl) ?_
  refine XO.q (Quiet.guardT rfl rfl fun g11 p11 => Q.move rfl) ?_
  refine XO.q (Quiet.guardT rfl rfl fun g12 p12 => Q.move rfl) ?_
  refine XO.q (Quiet.guardT rfl rfl fun g13 p13 => Q.leq (lzv g13 rfl) (lzv g13 rfl)) ?_
  refine XO.q (Q.and rfl (fun hp => lzv hp rfl)) ?_
  refine XO.q (Q.assign rfl) ?_
  refine XO.done ?_
  refine XK.rt [] Try.func81 Try.results81 (.t rfl .n) ?_
  exact ⟨rfl, rfl⟩
theorem check_two {d : KDay} (h : ((d.hours.length : Int) < 1 ∨ (24 : Int) < d.hours.length) ∨ (2 : Int) < d.jobs.length) : kcheck d = 2 := by rw [kcheck, if_pos h]
theorem check_six {d : KDay} (h : ¬ (((d.hours.length : Int) < 1 ∨ (24 : Int) < d.hours.length) ∨ (2 : Int) < d.jobs.length)) (hb : ¬ ((∀ i, i < d.hours.length → HourOk (d.hours.getD i default)) ∧ StoreOk d.store ∧ (∀ i, i < d.jobs.length → JobOk d.hours.length (d.jobs.getD i default)) ∧ (0 ≤ d.most ∧ d.most ≤ 40) ∧ 0 ≤ d.peak ∧ d.peak ≤ 1000)) : kcheck d = 6 := by
  rw [kcheck, if_neg h, if_pos]
  cases e : kbad d
  · exact absurd (kbad_false.1 e) hb
  · rfl
theorem check_eight {d : KDay} (h : ¬ (((d.hours.length : Int) < 1 ∨ (24 : Int) < d.hours.length) ∨ (2 : Int) < d.jobs.length)) (hb : (∀ i, i < d.hours.length → HourOk (d.hours.getD i default)) ∧ StoreOk d.store ∧ (∀ i, i < d.jobs.length → JobOk d.hours.length (d.jobs.getD i default)) ∧ (0 ≤ d.most ∧ d.most ≤ 40) ∧ 0 ≤ d.peak ∧ d.peak ≤ 1000) : kcheck d = if 8 < prodS d.jobs d.jobs.length then 8 else 0 := by
  rw [kcheck, if_neg h, if_neg (by rw [kbad_false.2 hb]; decide)]
theorem prod_part {js : List KJob} {n : Nat} (hn : n ≤ 24) {i : Nat} (hi : i ≤ 2) (h : ∀ k, k < i → JobOk n (js.getD k default)) : 1 ≤ prodS js i ∧ prodS js i ≤ 576 := by
  have sp : ∀ k, k < i → 1 ≤ spanS (js.getD k default) ∧ spanS (js.getD k default) ≤ 24 := fun k hk => by
    have := (h k hk).b0; have := (h k hk).b1; have := (h k hk).t1; have := (h k hk).h0
    unfold spanS; omega
  match i, hi with
  | 0, _ => exact ⟨Int.le_refl _, by show (1 : Int) ≤ 576; decide⟩
  | 1, hi => have := sp 0 (by omega); simp only [prodS]; omega
  | 2, hi =>
    have h0 := sp 0 (by omega)
    have h1 := sp 1 (by omega)
    simp only [prodS, Int.one_mul]
    have a : 1 * 1 ≤ spanS (js.getD 0 default) * spanS (js.getD 1 default) := Int.mul_le_mul h0.1 h1.1 (by omega) (by omega)
    have b : spanS (js.getD 0 default) * spanS (js.getD 1 default) ≤ 24 * 24 := Int.mul_le_mul h0.2 h1.2 (by omega) (by omega)
    omega
  | n + 3, hi => omega
set_option maxHeartbeats 2000000 in
theorem rCheck_spec (d : KDay) (vh vj : Value) (hh hj : PHeap) [ih : Arr vh encHour 6 hh d.hours] [ij : Arr vj encJob 4 hj d.jobs] : Spec Try.prog 58 #[.agg #[vh, .int .i64 d.store.energy, .int .i64 d.store.full, .int .i64 d.store.power, .int .i64 d.store.fin, vj, .int .i64 d.most, .int .i64 d.peak]] [] [hh, hj] (fun v hs => v = .int .i64 (kcheck d) ∧ hs = []) := by
  have lh := ih.le
  have lj := ij.le
  refine Spec.intro (fn := Try.f58) (N := 162) Try.func58 rfl Try.ntmps58 rfl fun B => ?_
  refine XK.seq ?_
  refine XK.region rfl ?_
  refine XO.box rfl fun b1 => ?_
  refine XO.q (Q.assign rfl) ?_
  refine XO.done ?_
  refine XK.seq ?_
  refine XK.region rfl ?_
  refine XO.q (Q.fieldAddr rfl) ?_
  refine XO.q (Q.ld rfl rfl) ?_
  refine XO.len rfl fun l12 => ?_
  refine XO.q (Q.assign rfl) ?_
  refine XO.done ?_
  refine XK.seq ?_
  refine XK.seq ?_
  refine XK.region rfl ?_
  refine XO.q (Q.move rfl) ?_
  refine XO.call Try.call81 rfl rfl rfl (rin_spec (d.hours.length) (1) (24)) fun v14 s14 R14 => ?_
  obtain ⟨rfl, rfl⟩ := R14
  dsimp only [List.cons_append, List.nil_append]
  refine XO.q (Q.not rfl) ?_
  refine XO.q (Q.move rfl) ?_
  refine XO.q (Quiet.guardF rfl rfl fun g17 p17 => Q.fieldAddr rfl) ?_
  refine XO.q (Quiet.guardF rfl rfl fun g18 p18 => Q.ld (lzv g18 rfl) rfl) ?_
  refine XO.q (Quiet.guardF rfl rfl fun g19 p19 => Q.len (lzv g19 rfl)) ?_
  refine XO.q (Quiet.guardF rfl rfl fun g20 p20 => Q.gtr (lzv g20 rfl) rfl) ?_
  refine XO.q (Q.or rfl (fun hp => lzv hp rfl)) ?_
  refine XO.done ?_
  refine XK.if rfl (fun c0 => ?_) (fun c0 => ?_)
  · have _t0 := True.intro
    refine XK.seq ?_
    refine XK.region rfl ?_
    refine XO.q (Q.assign rfl) ?_
    refine XO.done ?_
    refine XK.rt [] Try.func58 Try.results58 (.t rfl .n) ?_
    exact ⟨by rw [check_two (by omega)], rfl⟩
  · have _t0 := True.intro
    refine XK.skip ?_
    refine XK.seq ?_
    refine XK.seq ?_
    refine XK.region rfl ?_
    refine XO.q (Q.assign rfl) ?_
    refine XO.done ?_
    refine XK.block ?_
    refine XK.while (X := Nat) [2, 4, 5, 22, 23, 24, 25, 26, 27, 28, 29, 30, 31, 32, 33, 34, 35, 36, 37, 38, 39, 40, 41, 42, 43, 44, 45, 46, 47, 48, 49, 50, 51, 52, 53, 54, 55, 56, 57, 58, 59, 60, 61, 62, 63, 64, 65, 66, 67] (fun i => [(4, some (.int .i64 (i : Nat)))]) (fun i => []) (fun i => i ≤ d.hours.length ∧ ∀ k, k < i → HourOk (d.hours.getD k default)) (fun i => d.hours.length - i) (0) [] rfl ⟨by omega, fun k hk => by omega⟩ (.c rfl (.base 0 rfl rfl)) ?_
    rintro i ⟨hi, hok⟩ ih0
    dsimp only [List.cons_append, List.nil_append] at ih0 ⊢
    refine XK.seq ?_
    refine XK.seq ?_
    refine XK.region rfl ?_
    refine XO.q (Q.move rfl) ?_
    refine XO.q (Q.move rfl) ?_
    refine XO.q (Q.lss rfl rfl) ?_
    refine XO.done ?_
    refine XK.if rfl (fun c1 => ?_) (fun c1 => ?_)
    · have _t1 := True.intro
      refine XK.skip ?_
      refine XK.seq ?_
      refine XK.block ?_
      refine XK.seq ?_
      refine XK.region rfl ?_
      refine XO.q (Q.fieldAddr rfl) ?_
      refine XO.q (Q.ld rfl rfl) ?_
      refine XO.q (Q.move rfl) ?_
      refine XO.ix rfl rfl (by omega) (by omega) fun i30 => ?_
      refine XO.q (Q.ldEA [_, _, _, _, _, _] rfl (by first | assumption | omega) rfl rfl) ?_
      refine XO.alloc fun b5 => ?_
      refine XO.st rfl rfl rfl ?_
      refine XO.done ?_
      refine XK.seq ?_
      refine XK.region rfl ?_
      refine XO.q (Q.fieldAddr rfl) ?_
      refine XO.q (Q.ld rfl rfl) ?_
      refine XO.call Try.call81 rfl rfl rfl (rin_spec ((d.hours.getD i default).buy) (0) (1000)) fun v34 s34 R34 => ?_
      obtain ⟨rfl, rfl⟩ := R34
      dsimp only [List.cons_append, List.nil_append]
      refine XO.q (Q.not rfl) ?_
      refine XO.q (Q.move rfl) ?_
      refine XO.q (Quiet.guardF rfl rfl fun g37 p37 => Q.fieldAddr rfl) ?_
      refine XO.q (Quiet.guardF rfl rfl fun g38 p38 => Q.ld (lzv g38 rfl) rfl) ?_
      refine XO.q (Quiet.guardF rfl rfl fun g39 p39 => Q.fieldAddr rfl) ?_
      refine XO.q (Quiet.guardF rfl rfl fun g40 p40 => Q.ld (lzv g40 rfl) rfl) ?_
      refine XO.gcallF rfl rfl Try.call81 rfl (fun g41 => .c (lzv g41 rfl) (.c rfl (.c (lzv g41 rfl) .n))) rfl (fun g41 p41 => rin_spec ((d.hours.getD i default).sell) (0) ((d.hours.getD i default).buy)) ?_
      refine XO.q (Quiet.guardF rfl rfl fun g42 p42 => Q.not (lzv g42 rfl)) ?_
      refine XO.q (Q.or rfl (fun hp => lzv hp rfl)) ?_
      refine XO.q (Q.move rfl) ?_
      refine XO.q (Quiet.guardF rfl rfl fun g45 p45 => Q.fieldAddr rfl) ?_
      refine XO.q (Quiet.guardF rfl rfl fun g46 p46 => Q.ld (lzv g46 rfl) rfl) ?_
      refine XO.gcallF rfl rfl Try.call81 rfl (fun g47 => .c (lzv g47 rfl) (.c rfl (.c rfl .n))) rfl (fun g47 p47 => rin_spec ((d.hours.getD i default).sun) (0) (40)) ?_
      refine XO.q (Quiet.guardF rfl rfl fun g48 p48 => Q.not (lzv g48 rfl)) ?_
      refine XO.q (Q.or rfl (fun hp => lzv hp rfl)) ?_
      refine XO.q (Q.move rfl) ?_
      refine XO.q (Quiet.guardF rfl rfl fun g51 p51 => Q.fieldAddr rfl) ?_
      refine XO.q (Quiet.guardF rfl rfl fun g52 p52 => Q.ld (lzv g52 rfl) rfl) ?_
      refine XO.gcallF rfl rfl Try.call81 rfl (fun g53 => .c (lzv g53 rfl) (.c rfl (.c rfl .n))) rfl (fun g53 p53 => rin_spec ((d.hours.getD i default).load) (0) (40)) ?_
      refine XO.q (Quiet.guardF rfl rfl fun g54 p54 => Q.not (lzv g54 rfl)) ?_
      refine XO.q (Q.or rfl (fun hp => lzv hp rfl)) ?_
      refine XO.q (Q.move rfl) ?_
      refine XO.q (Quiet.guardF rfl rfl fun g57 p57 => Q.fieldAddr rfl) ?_
      refine XO.q (Quiet.guardF rfl rfl fun g58 p58 => Q.ld (lzv g58 rfl) rfl) ?_
      refine XO.gcallF rfl rfl Try.call81 rfl (fun g59 => .c (lzv g59 rfl) (.c rfl (.c rfl .n))) rfl (fun g59 p59 => rin_spec ((d.hours.getD i default).carbon) (0) (10000)) ?_
      refine XO.q (Quiet.guardF rfl rfl fun g60 p60 => Q.not (lzv g60 rfl)) ?_
      refine XO.q (Q.or rfl (fun hp => lzv hp rfl)) ?_
      refine XO.q (Q.move rfl) ?_
      refine XO.q (Quiet.guardF rfl rfl fun g63 p63 => Q.fieldAddr rfl) ?_
      refine XO.q (Quiet.guardF rfl rfl fun g64 p64 => Q.ld (lzv g64 rfl) rfl) ?_
      refine XO.gcallF rfl rfl Try.call81 rfl (fun g65 => .c (lzv g65 rfl) (.c rfl (.c rfl .n))) rfl (fun g65 p65 => rin_spec ((d.hours.getD i default).water) (0) (10000)) ?_
      refine XO.q (Quiet.guardF rfl rfl fun g66 p66 => Q.not (lzv g66 rfl)) ?_
      refine XO.q (Q.or rfl (fun hp => lzv hp rfl)) ?_
      refine XO.done ?_
      refine XK.if rfl (fun c2 => ?_) (fun c2 => ?_)
      · have _t2 := True.intro
        refine XK.seq ?_
        refine XK.region rfl ?_
        refine XO.q (Q.assign rfl) ?_
        refine XO.done ?_
        refine XK.rt [] Try.func58 Try.results58 (.t rfl .n) ?_
        refine ⟨?_, rfl⟩
        rw [check_six (by omega)]
        rintro ⟨a1, a2, a3, a4, a5⟩
        have q := a1 i (by omega)
        have := q.b0; have := q.b1; have := q.s0; have := q.s1; have := q.u0; have := q.u1; have := q.l0; have := q.l1; have := q.c0; have := q.c1; have := q.w0; have := q.w1
        omega
      · have _t2 := True.intro
        refine XK.skip ?_
        refine XK.inBlock ?_
        refine XK.region rfl ?_
        refine XO.q (Q.move rfl) ?_
        refine XO.q (Q.add rfl rfl ⟨by omega, by omega⟩) ?_
        refine XO.q (Q.assign rfl) ?_
        refine XO.done ?_
        exact ih0 (i + 1) _ _ ⟨by omega, fun k hk => by
          by_cases h : k < i
          · exact hok k h
          · obtain rfl : k = i := by omega
            exact ⟨by omega, by omega, by omega, by omega, by omega, by omega, by omega, by omega, by omega, by omega, by omega, by omega⟩⟩ (by first | omega | (dsimp only; omega)) (.c rfl (.base 98 rfl rfl)) inferInstance
    · have _t1 := True.intro
      have hin : i = d.hours.length := by omega
      subst hin
      refine XK.exit rfl ?_
      refine XK.seq ?_
      refine XK.region rfl ?_
      refine XO.q (Q.fieldAddr rfl) ?_
      refine XO.q (Q.ldA [_, _, _, _] rfl rfl rfl) ?_
      refine XO.alloc fun b6 => ?_
      refine XO.st rfl rfl rfl ?_
      refine XO.done ?_
      refine XK.seq ?_
      refine XK.seq ?_
      refine XK.region rfl ?_
      refine XO.q (Q.fieldAddr rfl) ?_
      refine XO.q (Q.ld rfl rfl) ?_
      refine XO.call Try.call81 rfl rfl rfl (rin_spec (d.store.full) (0) (10)) fun v72 s72 R72 => ?_
      obtain ⟨rfl, rfl⟩ := R72
      dsimp only [List.cons_append, List.nil_append]
      refine XO.q (Q.not rfl) ?_
      refine XO.q (Q.move rfl) ?_
      refine XO.q (Quiet.guardF rfl rfl fun g75 p75 => Q.fieldAddr rfl) ?_
      refine XO.q (Quiet.guardF rfl rfl fun g76 p76 => Q.ld (lzv g76 rfl) rfl) ?_
      refine XO.q (Quiet.guardF rfl rfl fun g77 p77 => Q.fieldAddr rfl) ?_
      refine XO.q (Quiet.guardF rfl rfl fun g78 p78 => Q.ld (lzv g78 rfl) rfl) ?_
      refine XO.gcallF rfl rfl Try.call81 rfl (fun g79 => .c (lzv g79 rfl) (.c rfl (.c (lzv g79 rfl) .n))) rfl (fun g79 p79 => rin_spec (d.store.energy) (0) (d.store.full)) ?_
      refine XO.q (Quiet.guardF rfl rfl fun g80 p80 => Q.not (lzv g80 rfl)) ?_
      refine XO.q (Q.or rfl (fun hp => lzv hp rfl)) ?_
      refine XO.q (Q.move rfl) ?_
      refine XO.q (Quiet.guardF rfl rfl fun g83 p83 => Q.fieldAddr rfl) ?_
      refine XO.q (Quiet.guardF rfl rfl fun g84 p84 => Q.ld (lzv g84 rfl) rfl) ?_
      refine XO.gcallF rfl rfl Try.call81 rfl (fun g85 => .c (lzv g85 rfl) (.c rfl (.c rfl .n))) rfl (fun g85 p85 => rin_spec (d.store.power) (0) (10)) ?_
      refine XO.q (Quiet.guardF rfl rfl fun g86 p86 => Q.not (lzv g86 rfl)) ?_
      refine XO.q (Q.or rfl (fun hp => lzv hp rfl)) ?_
      refine XO.q (Q.move rfl) ?_
      refine XO.q (Quiet.guardF rfl rfl fun g89 p89 => Q.fieldAddr rfl) ?_
      refine XO.q (Quiet.guardF rfl rfl fun g90 p90 => Q.ld (lzv g90 rfl) rfl) ?_
      refine XO.q (Quiet.guardF rfl rfl fun g91 p91 => Q.fieldAddr rfl) ?_
      refine XO.q (Quiet.guardF rfl rfl fun g92 p92 => Q.ld (lzv g92 rfl) rfl) ?_
      refine XO.gcallF rfl rfl Try.call81 rfl (fun g93 => .c (lzv g93 rfl) (.c rfl (.c (lzv g93 rfl) .n))) rfl (fun g93 p93 => rin_spec (d.store.fin) (0) (d.store.full)) ?_
      refine XO.q (Quiet.guardF rfl rfl fun g94 p94 => Q.not (lzv g94 rfl)) ?_
      refine XO.q (Q.or rfl (fun hp => lzv hp rfl)) ?_
      refine XO.done ?_
      refine XK.if rfl (fun c3 => ?_) (fun c3 => ?_)
      · have _t3 := True.intro
        refine XK.seq ?_
        refine XK.region rfl ?_
        refine XO.q (Q.assign rfl) ?_
        refine XO.done ?_
        refine XK.rt [] Try.func58 Try.results58 (.t rfl .n) ?_
        refine ⟨?_, rfl⟩
        rw [check_six (by omega)]
        rintro ⟨a1, a2, a3, a4, a5⟩
        have := a2.f0; have := a2.f1; have := a2.p0; have := a2.p1; have := a2.e0; have := a2.e1; have := a2.n0; have := a2.n1
        omega
      · have _t3 := True.intro
        have sk : StoreOk d.store := ⟨by omega, by omega, by omega, by omega, by omega, by omega, by omega, by omega⟩
        refine XK.skip ?_
        refine XK.seq ?_
        refine XK.region rfl ?_
        refine XO.q (Q.assign rfl) ?_
        refine XO.done ?_
        refine XK.seq ?_
        refine XK.seq ?_
        refine XK.region rfl ?_
        refine XO.q (Q.assign rfl) ?_
        refine XO.done ?_
        refine XK.block ?_
        refine XK.while (X := Nat × Int) [2, 7, 8, 9, 96, 97, 98, 99, 100, 101, 102, 103, 104, 105, 106, 107, 108, 109, 110, 111, 112, 113, 114, 115, 116, 117, 118, 119, 120, 121, 122, 123, 124, 125, 126, 127, 128, 129, 130, 131, 132, 133, 134, 135, 136, 137, 138, 139, 140, 141, 142, 143, 144, 145, 146, 147, 148, 149] (fun ⟨i, p⟩ => [(8, some (.int .i64 (i : Nat))), (7, some (.int .i64 p))]) (fun ⟨i, p⟩ => []) (fun ⟨i, p⟩ => (i ≤ d.jobs.length ∧ p = prodS d.jobs i) ∧ ∀ k, k < i → JobOk d.hours.length (d.jobs.getD k default)) (fun ⟨i, p⟩ => d.jobs.length - i) (0, 1) [] rfl ⟨⟨by omega, rfl⟩, fun k hk => by (try dsimp only at hk); omega⟩ (.c rfl (.c rfl (.base 0 rfl rfl))) ?_
        rintro ⟨i, p⟩ ⟨⟨hi, hp⟩, jok⟩ ih1
        dsimp only [List.cons_append, List.nil_append] at ih1 ⊢
        refine XK.seq ?_
        refine XK.seq ?_
        refine XK.region rfl ?_
        refine XO.q (Q.move rfl) ?_
        refine XO.q (Q.fieldAddr rfl) ?_
        refine XO.q (Q.ld rfl rfl) ?_
        refine XO.len rfl fun l99 => ?_
        refine XO.q (Q.lss rfl rfl) ?_
        refine XO.done ?_
        refine XK.if rfl (fun c4 => ?_) (fun c4 => ?_)
        · have _t4 := True.intro
          refine XK.skip ?_
          refine XK.seq ?_
          refine XK.block ?_
          refine XK.seq ?_
          refine XK.region rfl ?_
          refine XO.q (Q.fieldAddr rfl) ?_
          refine XO.q (Q.ld rfl rfl) ?_
          refine XO.q (Q.move rfl) ?_
          refine XO.ix rfl rfl (by omega) (by omega) fun i106 => ?_
          refine XO.q (Q.ldEA [_, _, _, _] rfl (by first | assumption | omega) rfl rfl) ?_
          refine XO.alloc fun b9 => ?_
          refine XO.st rfl rfl rfl ?_
          refine XO.done ?_
          refine XK.seq ?_
          refine XK.seq ?_
          refine XK.region rfl ?_
          refine XO.q (Q.fieldAddr rfl) ?_
          refine XO.q (Q.ld rfl rfl) ?_
          refine XO.q (Q.move rfl) ?_
          refine XO.call Try.call81 rfl rfl rfl (rin_spec ((d.jobs.getD i default).beg) (0) (d.hours.length)) fun v111 s111 R111 => ?_
          obtain ⟨rfl, rfl⟩ := R111
          dsimp only [List.cons_append, List.nil_append]
          refine XO.q (Q.not rfl) ?_
          refine XO.q (Q.move rfl) ?_
          refine XO.q (Quiet.guardF rfl rfl fun g114 p114 => Q.fieldAddr rfl) ?_
          refine XO.q (Quiet.guardF rfl rfl fun g115 p115 => Q.ld (lzv g115 rfl) rfl) ?_
          refine XO.q (Quiet.guardF rfl rfl fun g116 p116 => Q.fieldAddr rfl) ?_
          refine XO.q (Quiet.guardF rfl rfl fun g117 p117 => Q.ld (lzv g117 rfl) rfl) ?_
          refine XO.q (Quiet.guardF rfl rfl fun g118 p118 => Q.move rfl) ?_
          refine XO.gcallF rfl rfl Try.call81 rfl (fun g119 => .c (lzv g119 rfl) (.c (lzv g119 rfl) (.c (lzv g119 rfl) .n))) rfl (fun g119 p119 => rin_spec ((d.jobs.getD i default).fin) ((d.jobs.getD i default).beg) (d.hours.length)) ?_
          refine XO.q (Quiet.guardF rfl rfl fun g120 p120 => Q.not (lzv g120 rfl)) ?_
          refine XO.q (Q.or rfl (fun hp => lzv hp rfl)) ?_
          refine XO.q (Q.move rfl) ?_
          refine XO.q (Quiet.guardF rfl rfl fun g123 p123 => Q.fieldAddr rfl) ?_
          refine XO.q (Quiet.guardF rfl rfl fun g124 p124 => Q.ld (lzv g124 rfl) rfl) ?_
          refine XO.q (Quiet.guardF rfl rfl fun g125 p125 => Q.fieldAddr rfl) ?_
          refine XO.q (Quiet.guardF rfl rfl fun g126 p126 => Q.ld (lzv g126 rfl) rfl) ?_
          refine XO.q (Quiet.guardF rfl rfl fun g127 p127 => Q.fieldAddr rfl) ?_
          refine XO.q (Quiet.guardF rfl rfl fun g128 p128 => Q.ld (lzv g128 rfl) rfl) ?_
          refine XO.q (Quiet.guardF rfl rfl fun g129 p129 => Q.sub (lzv g129 rfl) (lzv g129 rfl) ⟨by omega, by omega⟩) ?_
          refine XO.gcallF rfl rfl Try.call81 rfl (fun g130 => .c (lzv g130 rfl) (.c rfl (.c (lzv g130 rfl) .n))) rfl (fun g130 p130 => rin_spec ((d.jobs.getD i default).hours) (1) ((d.jobs.getD i default).fin - (d.jobs.getD i default).beg)) ?_
          refine XO.q (Quiet.guardF rfl rfl fun g131 p131 => Q.not (lzv g131 rfl)) ?_
          refine XO.q (Q.or rfl (fun hp => lzv hp rfl)) ?_
          refine XO.q (Q.move rfl) ?_
          refine XO.q (Quiet.guardF rfl rfl fun g134 p134 => Q.fieldAddr rfl) ?_
          refine XO.q (Quiet.guardF rfl rfl fun g135 p135 => Q.ld (lzv g135 rfl) rfl) ?_
          refine XO.gcallF rfl rfl Try.call81 rfl (fun g136 => .c (lzv g136 rfl) (.c rfl (.c rfl .n))) rfl (fun g136 p136 => rin_spec ((d.jobs.getD i default).power) (0) (20)) ?_
          refine XO.q (Quiet.guardF rfl rfl fun g137 p137 => Q.not (lzv g137 rfl)) ?_
          refine XO.q (Q.or rfl (fun hp => lzv hp rfl)) ?_
          refine XO.done ?_
          refine XK.if rfl (fun c5 => ?_) (fun c5 => ?_)
          · have _t5 := True.intro
            refine XK.seq ?_
            refine XK.region rfl ?_
            refine XO.q (Q.assign rfl) ?_
            refine XO.done ?_
            refine XK.rt [] Try.func58 Try.results58 (.t rfl .n) ?_
            refine ⟨?_, rfl⟩
            rw [check_six (by omega)]
            rintro ⟨a1, a2, a3, a4, a5⟩
            have q := a3 i (by omega)
            have := q.b0; have := q.b1; have := q.t1; have := q.h0; have := q.p0; have := q.p1
            omega
          · have _t5 := True.intro
            have jok2 : ∀ k, k < i + 1 → JobOk d.hours.length (d.jobs.getD k default) := fun k hk => by
              by_cases h : k < i
              · exact jok k h
              · obtain rfl : k = i := by omega
                exact ⟨by omega, by omega, by omega, by omega, by omega, by omega⟩
            have pp := prod_part (js := d.jobs) (n := d.hours.length) (by omega) (show i + 1 ≤ 2 by omega) jok2
            have ps : prodS d.jobs (i + 1) = prodS d.jobs i * spanS (d.jobs.getD i default) := rfl
            have e1 : (d.jobs.getD i default).fin - (d.jobs.getD i default).beg - (d.jobs.getD i default).hours + 1 = spanS (d.jobs.getD i default) := by unfold spanS; omega
            rw [ps, ← hp] at pp
            refine XK.skip ?_
            refine XK.region rfl ?_
            refine XO.q (Q.move rfl) ?_
            refine XO.q (Q.fieldAddr rfl) ?_
            refine XO.q (Q.ld rfl rfl) ?_
            refine XO.q (Q.fieldAddr rfl) ?_
            refine XO.q (Q.ld rfl rfl) ?_
            refine XO.q (Q.sub rfl rfl ⟨by omega, by omega⟩) ?_
            refine XO.q (Q.fieldAddr rfl) ?_
            refine XO.q (Q.ld rfl rfl) ?_
            refine XO.q (Q.sub rfl rfl ⟨by omega, by omega⟩) ?_
            refine XO.q (Q.add rfl rfl ⟨by omega, by omega⟩) ?_
            rw [e1]
            refine XO.q (Q.mul rfl rfl ⟨by omega, by omega⟩) ?_
            refine XO.q (Q.assign rfl) ?_
            refine XO.done ?_
            refine XK.inBlock ?_
            refine XK.region rfl ?_
            refine XO.q (Q.move rfl) ?_
            refine XO.q (Q.add rfl rfl ⟨by omega, by omega⟩) ?_
            refine XO.q (Q.assign rfl) ?_
            refine XO.done ?_
            exact ih1 (i + 1, _) _ _ ⟨⟨by dsimp only; omega, by dsimp only; rw [hp]; rfl⟩, jok2⟩ (by first | omega | (dsimp only; omega)) (.c rfl (.c rfl (.base 117 rfl rfl))) inferInstance
        · have _t4 := True.intro
          have hij : i = d.jobs.length := by omega
          subst hij
          refine XK.exit rfl ?_
          refine XK.seq ?_
          refine XK.seq ?_
          refine XK.region rfl ?_
          refine XO.q (Q.fieldAddr rfl) ?_
          refine XO.q (Q.ld rfl rfl) ?_
          refine XO.call Try.call81 rfl rfl rfl (rin_spec (d.most) (0) (40)) fun v152 s152 R152 => ?_
          obtain ⟨rfl, rfl⟩ := R152
          dsimp only [List.cons_append, List.nil_append]
          refine XO.q (Q.not rfl) ?_
          refine XO.q (Q.move rfl) ?_
          refine XO.q (Quiet.guardF rfl rfl fun g155 p155 => Q.fieldAddr rfl) ?_
          refine XO.q (Quiet.guardF rfl rfl fun g156 p156 => Q.ld (lzv g156 rfl) rfl) ?_
          refine XO.gcallF rfl rfl Try.call81 rfl (fun g157 => .c (lzv g157 rfl) (.c rfl (.c rfl .n))) rfl (fun g157 p157 => rin_spec (d.peak) (0) (1000)) ?_
          refine XO.q (Quiet.guardF rfl rfl fun g158 p158 => Q.not (lzv g158 rfl)) ?_
          refine XO.q (Q.or rfl (fun hp => lzv hp rfl)) ?_
          refine XO.done ?_
          refine XK.if rfl (fun c6 => ?_) (fun c6 => ?_)
          · have _t6 := True.intro
            refine XK.seq ?_
            refine XK.region rfl ?_
            refine XO.q (Q.assign rfl) ?_
            refine XO.done ?_
            refine XK.rt [] Try.func58 Try.results58 (.t rfl .n) ?_
            refine ⟨?_, rfl⟩
            rw [check_six (by omega)]
            rintro ⟨a1, a2, a3, a4, a5⟩
            omega
          · have _t6 := True.intro
            refine XK.skip ?_
            refine XK.seq ?_
            refine XK.seq ?_
            refine XK.region rfl ?_
            refine XO.q (Q.move rfl) ?_
            refine XO.q (Q.gtr rfl rfl) ?_
            refine XO.done ?_
            refine XK.if rfl (fun c7 => ?_) (fun c7 => ?_)
            · have _t7 := True.intro
              refine XK.seq ?_
              refine XK.region rfl ?_
              refine XO.q (Q.assign rfl) ?_
              refine XO.done ?_
              refine XK.rt [] Try.func58 Try.results58 (.t rfl .n) ?_
              refine ⟨?_, rfl⟩
              rw [check_eight (by omega) ⟨hok, sk, jok, by omega, by omega⟩, if_pos (by omega)]
            · have _t7 := True.intro
              refine XK.skip ?_
              refine XK.seq ?_
              refine XK.region rfl ?_
              refine XO.q (Q.assign rfl) ?_
              refine XO.done ?_
              refine XK.rt [] Try.func58 Try.results58 (.t rfl .n) ?_
              refine ⟨?_, rfl⟩
              rw [check_eight (by omega) ⟨hok, sk, jok, by omega, by omega⟩, if_neg (by omega)]
theorem rused_spec (d : KDay) (vh vj : Value) (hh hj : PHeap) [ih : Arr vh encHour 6 hh d.hours] [ij : Arr vj encJob 4 hj d.jobs] (s : List Int) (vs : Value) (hs_ : PHeap) [js : Arr vs encI 1 hs_ s] (ok : DayOk d) (so : SOk d s) (i : Nat) (hi : i < d.hours.length) : Spec Try.prog 102 #[.agg #[vh, .int .i64 d.store.energy, .int .i64 d.store.full, .int .i64 d.store.power, .int .i64 d.store.fin, vj, .int .i64 d.most, .int .i64 d.peak], vs, .int .i64 (i : Nat)] [] [hh, hj, hs_] (fun v hs => v = .int .i64 (usedAt d s i d.jobs.length) ∧ hs = []) := by
  have sl := so.len
  have s1 := ok.store.f0
  have s2 := ok.store.f1
  have s3 := ok.store.p0
  have s4 := ok.store.p1
  have s5 := ok.store.e0
  have s6 := ok.store.e1
  have h1 := ok.h1
  have h24 := ok.h2
  have m0 := ok.m0
  have m1 := ok.m1
  have j2 := ok.j2
  have hr := ok.hour i (by omega)
  have hr1 := hr.u0
  have hr2 := hr.u1
  have hr3 := hr.l0
  have hr4 := hr.l1
  have ur := fun k hk => used_rng ok s (show i < d.hours.length by omega) k hk
  refine Spec.intro (fn := Try.f102) (N := 51) Try.func102 rfl Try.ntmps102 rfl fun B => ?_
  refine XK.seq ?_
  refine XK.region rfl ?_
  refine XO.box rfl fun b3 => ?_
  refine XO.q (Q.assign rfl) ?_
  refine XO.done ?_
  refine XK.seq ?_
  refine XK.region rfl ?_
  refine XO.q (Q.fieldAddr rfl) ?_
  refine XO.q (Q.ld rfl rfl) ?_
  refine XO.q (Q.move rfl) ?_
  refine XO.ix rfl rfl (by omega) (by omega) fun i12 => ?_
  refine XO.q (Q.fieldQ rfl (by first | assumption | omega)) ?_
  refine XO.q (Q.ldE rfl (by first | assumption | omega) rfl) ?_
  refine XO.q (Q.assign rfl) ?_
  refine XO.done ?_
  refine XK.seq ?_
  refine XK.seq ?_
  refine XK.region rfl ?_
  refine XO.q (Q.assign rfl) ?_
  refine XO.done ?_
  refine XK.block ?_
  refine XK.while (X := Nat × Int) [7, 8, 15, 16, 17, 18, 19, 20, 21, 22, 23, 24, 25, 26, 27, 28, 29, 30, 31, 32, 33, 34, 35, 36, 37, 38, 39, 40, 41, 42, 43, 44, 45, 46, 47, 48, 49] (fun ⟨k, u⟩ => [(8, some (.int .i64 (k : Nat))), (7, some (.int .i64 u))]) (fun ⟨k, u⟩ => []) (fun ⟨k, u⟩ => k ≤ d.jobs.length ∧ u = usedAt d s i k) (fun ⟨k, u⟩ => d.jobs.length - k) (0, _) [] rfl ⟨by omega, rfl⟩ (.c rfl (.c rfl (.base 0 rfl rfl))) ?_
  rintro ⟨k, u⟩ ⟨hk, hu⟩ ih0
  dsimp only [List.cons_append, List.nil_append] at ih0 ⊢
  refine XK.seq ?_
  refine XK.seq ?_
  refine XK.region rfl ?_
  refine XO.q (Q.move rfl) ?_
  refine XO.q (Q.move rfl) ?_
  refine XO.len rfl fun l17 => ?_
  refine XO.q (Q.lss rfl rfl) ?_
  refine XO.done ?_
  refine XK.if rfl (fun c0 => ?_) (fun c0 => ?_)
  · have _t0 := True.intro
    have jk := ok.job k (by omega)
    have jk1 := jk.b0
    have jk2 := jk.b1
    have jk3 := jk.t1
    have jk4 := jk.h0
    have jk5 := jk.p0
    have jk6 := jk.p1
    have sk := so.at' k (by omega)
    have urk := ur k (by omega)
    have ue : usedAt d s i (k + 1) = usedAt d s i k + busy (d.jobs.getD k default) (s.getD k default) i := rfl
    have bu : busy (d.jobs.getD k default) (s.getD k default) i = if s.getD k default ≤ (i : Int) ∧ (i : Int) < s.getD k default + (d.jobs.getD k default).hours then (d.jobs.getD k default).power else 0 := rfl
    refine XK.skip ?_
    refine XK.seq ?_
    refine XK.block ?_
    refine XK.seq ?_
    refine XK.drawn [0, 1, 2, 3, 4, 5, 6, 7, 8, 9, 10, 11, 12, 13, 14, 15, 16, 17, 18, 19, 20] [b3] [] (.q 0 (.q 1 (.q 2 (.q 3 (.q 4 (.q 5 (.q 6 (.q 7 (.q 8 (.q 9 (.q 10 (.q 11 (.q 12 (.q 13 (.q 14 (.q 15 (.q 16 (.q 17 (.q 18 (.q 19 (.q 20 .done))))))))))))))))))))) Try.mixed rfl (by kernel_rfl) ?_
    refine XT.q rfl rfl (Q.move rfl) ?_
    refine XT.q rfl rfl (Q.move rfl) ?_
    refine XT.q rfl rfl (Q.move rfl) ?_
    refine XT.ix rfl rfl rfl rfl (by omega) (by omega) fun i24 => ?_
    refine XT.q rfl rfl (Q.ldE rfl (by first | assumption | omega) rfl) ?_
    refine XT.q rfl rfl (Q.geq rfl rfl) ?_
    refine XT.q rfl rfl (Q.move rfl) ?_
    refine XT.q rfl rfl (Quiet.guardT rfl rfl fun g28 p28 => Q.move rfl) ?_
    refine XT.q rfl rfl (Quiet.guardT rfl rfl fun g29 p29 => Q.move rfl) ?_
    refine XT.q rfl rfl (Quiet.guardT rfl rfl fun g30 p30 => Q.move rfl) ?_
    refine XT.q rfl rfl (Quiet.guardT rfl rfl fun g31 p31 => Q.ix (lzv g31 rfl) (lzv g31 rfl) (by omega) (by omega)) ?_
    refine XT.q rfl rfl (Quiet.guardT rfl rfl fun g32 p32 => Q.ldE (lzv g32 rfl) (by first | assumption | omega) rfl) ?_
    refine XT.q rfl rfl (Quiet.guardT rfl rfl fun g33 p33 => Q.fieldAddr rfl) ?_
    refine XT.q rfl rfl (Quiet.guardT rfl rfl fun g34 p34 => Q.ld (lzv g34 rfl) rfl) ?_
    refine XT.q rfl rfl (Quiet.guardT rfl rfl fun g35 p35 => Q.move rfl) ?_
    refine XT.q rfl rfl (Quiet.guardT rfl rfl fun g36 p36 => Q.ix (lzv g36 rfl) (lzv g36 rfl) (by omega) (by omega)) ?_
    refine XT.q rfl rfl (Quiet.guardT rfl rfl fun g37 p37 => Q.fieldQ (lzv g37 rfl) (by first | assumption | omega)) ?_
    refine XT.q rfl rfl (Quiet.guardT rfl rfl fun g38 p38 => Q.ldE (lzv g38 rfl) (by first | assumption | omega) rfl) ?_
    refine XT.q rfl rfl (Quiet.guardT rfl rfl fun g39 p39 => Q.add (lzv g39 rfl) (lzv g39 rfl) ⟨by omega, by omega⟩) ?_
    refine XT.q rfl rfl (Quiet.guardT rfl rfl fun g40 p40 => Q.lss (lzv g40 rfl) (lzv g40 rfl)) ?_
    refine XT.q rfl rfl (Q.and rfl (fun hp => lzv hp rfl)) ?_
    refine XT.done ?_
    refine XK.if rfl (fun c1 => ?_) (fun c1 => ?_)
    · have _t1 := True.intro
      rw [if_pos (by omega)] at bu
      refine XK.region rfl ?_
      refine XO.q (Q.move rfl) ?_
      refine XO.q (Q.fieldAddr rfl) ?_
      refine XO.q (Q.ld rfl rfl) ?_
      refine XO.q (Q.move rfl) ?_
      refine XO.ix rfl rfl (by omega) (by omega) fun i46 => ?_
      refine XO.q (Q.fieldQ rfl (by first | assumption | omega)) ?_
      refine XO.q (Q.ldE rfl (by first | assumption | omega) rfl) ?_
      refine XO.q (Q.add rfl rfl ⟨by omega, by omega⟩) ?_
      refine XO.q (Q.assign rfl) ?_
      refine XO.done ?_
      refine XK.inBlock ?_
      refine XK.region rfl ?_
      refine XO.q (Q.move rfl) ?_
      refine XO.q (Q.add rfl rfl ⟨by omega, by omega⟩) ?_
      refine XO.q (Q.assign rfl) ?_
      refine XO.done ?_
      exact ih0 (k + 1, u + (d.jobs.getD k default).power) _ _ ⟨by dsimp only; omega, by dsimp only; omega⟩ (by first | omega | (dsimp only; omega)) (.c rfl (.c rfl (.base 76 rfl rfl))) inferInstance
    · have _t1 := True.intro
      rw [if_neg (by omega)] at bu
      refine XK.skip ?_
      refine XK.inBlock ?_
      refine XK.region rfl ?_
      refine XO.q (Q.move rfl) ?_
      refine XO.q (Q.add rfl rfl ⟨by omega, by omega⟩) ?_
      refine XO.q (Q.assign rfl) ?_
      refine XO.done ?_
      exact ih0 (k + 1, u) _ _ ⟨by dsimp only; omega, by dsimp only; omega⟩ (by first | omega | (dsimp only; omega)) (.c rfl (.c rfl (.base 67 rfl rfl))) inferInstance
  · have _t0 := True.intro
    have hkn : k = d.jobs.length := by omega
    subst hkn
    subst hu
    refine XK.exit rfl ?_
    refine XK.seq ?_
    refine XK.region rfl ?_
    refine XO.q (Q.move rfl) ?_
    refine XO.q (Q.assign rfl) ?_
    refine XO.done ?_
    refine XK.rt [] Try.func102 Try.results102 (.t rfl .n) ?_
    exact ⟨rfl, rfl⟩
theorem rneed_spec (d : KDay) (vh vj : Value) (hh hj : PHeap) [ih : Arr vh encHour 6 hh d.hours] [ij : Arr vj encJob 4 hj d.jobs] (s : List Int) (vs : Value) (hs_ : PHeap) [js : Arr vs encI 1 hs_ s] (ok : DayOk d) (so : SOk d s) (i : Nat) (hi : i < d.hours.length) (c : Int) (c0 : -2000 ≤ c) (c1 : c ≤ 2000) : Spec Try.prog 100 #[.agg #[vh, .int .i64 d.store.energy, .int .i64 d.store.full, .int .i64 d.store.power, .int .i64 d.store.fin, vj, .int .i64 d.most, .int .i64 d.peak], vs, .int .i64 (i : Nat), .int .i64 c] [] [hh, hj, hs_] (fun v hs => v = .int .i64 (((needsL d s).getD i default) + c) ∧ hs = []) := by
  have na := needs_at (s := s) hi
  have s1 := ok.store.f0
  have s2 := ok.store.f1
  have s3 := ok.store.p0
  have s4 := ok.store.p1
  have s5 := ok.store.e0
  have s6 := ok.store.e1
  have h1 := ok.h1
  have h24 := ok.h2
  have m0 := ok.m0
  have m1 := ok.m1
  have j2 := ok.j2
  have hr := ok.hour i (by omega)
  have hr1 := hr.u0
  have hr2 := hr.u1
  have hr3 := hr.l0
  have hr4 := hr.l1
  have ur := fun k hk => used_rng ok s (show i < d.hours.length by omega) k hk
  have ur2 := ur d.jobs.length (Nat.le_refl _)
  refine Spec.intro (fn := Try.f100) (N := 22) Try.func100 rfl Try.ntmps100 rfl fun B => ?_
  refine XK.seq ?_
  refine XK.region rfl ?_
  refine XO.box rfl fun b4 => ?_
  refine XO.q (Q.assign rfl) ?_
  refine XO.done ?_
  refine XK.seq ?_
  refine XK.drawn [0, 1, 2, 4, 6, 7, 8, 9, 10, 11, 5, 12, 13] [b4] [] (.q 0 (.q 1 (.q 2 (.q 4 (.q 6 (.q 7 (.q 8 (.q 9 (.q 10 (.q 11 (.br 3 true (.q 5 (.q 12 (.q 13 .done))) .stop))))))))))) Try.mixed rfl (by kernel_rfl) ?_
  refine XT.q rfl rfl (Q.ldA [_, _, _, _, _, _, _, _] rfl rfl rfl) ?_
  refine XT.q rfl rfl (Q.move rfl) ?_
  refine XT.q rfl rfl (Q.move rfl) ?_
  refine XT.q rfl rfl (Q.move rfl) ?_
  refine XT.q rfl rfl (Q.fieldAddr rfl) ?_
  refine XT.q rfl rfl (Q.ld rfl rfl) ?_
  refine XT.q rfl rfl (Q.move rfl) ?_
  refine XT.ix rfl rfl rfl rfl (by omega) (by omega) fun i18 => ?_
  refine XT.q rfl rfl (Q.fieldQ rfl (by first | assumption | omega)) ?_
  refine XT.q rfl rfl (Q.ldE rfl (by first | assumption | omega) rfl) ?_
  refine XT.call rfl rfl Try.call102 rfl rfl rfl (rused_spec d vh vj hh hj s vs hs_ ok so i hi) (fun v12 s12 R12 => ?_) XT.stop
  obtain ⟨rfl, rfl⟩ := R12
  dsimp only [List.cons_append, List.nil_append]
  refine ⟨inferInstance, ?_⟩
  refine XT.q rfl rfl (Q.add rfl rfl ⟨by omega, by omega⟩) ?_
  refine XT.q rfl rfl (Q.sub rfl rfl ⟨by omega, by omega⟩) ?_
  refine XT.q rfl rfl (Q.assign rfl) ?_
  refine XT.done ?_
  refine XK.rt [] Try.func100 Try.results100 (.t rfl .n) ?_
  exact ⟨by rw [na]; congr 1; omega, rfl⟩
theorem price_pos {h : KHour} {n : Int} (hn : 0 ≤ n) : priceH h n = n * h.buy := by
  rw [priceH, show max n 0 = n by omega, show max (-n) 0 = 0 by omega]; omega
theorem price_neg {h : KHour} {n : Int} (hn : n < 0) : priceH h n = n * h.sell := by
  rw [priceH, show max n 0 = 0 by omega, show max (-n) 0 = -n by omega, Int.neg_mul]; omega
theorem rbill_spec (d : KDay) (vh vj : Value) (hh hj : PHeap) [ih : Arr vh encHour 6 hh d.hours] [ij : Arr vj encJob 4 hj d.jobs] (ok : DayOk d) (i : Nat) (hi : i < d.hours.length) (n : Int) (n0 : -1000 ≤ n) (n1 : n ≤ 1000) : Spec Try.prog 101 #[.agg #[vh, .int .i64 d.store.energy, .int .i64 d.store.full, .int .i64 d.store.power, .int .i64 d.store.fin, vj, .int .i64 d.most, .int .i64 d.peak], .int .i64 (i : Nat), .int .i64 n] [] [hh, hj] (fun v hs => v = .int .i64 (priceH (d.hours.getD i default) n) ∧ hs = []) := by
  have pr := price_rng (ok.hour i hi) n0 n1
  refine Spec.intro (fn := Try.f101) (N := 25) Try.func101 rfl Try.ntmps101 rfl fun B => ?_
  refine XK.seq ?_
  refine XK.region rfl ?_
  refine XO.box rfl fun b3 => ?_
  refine XO.q (Q.assign rfl) ?_
  refine XO.done ?_
  refine XK.seq ?_
  refine XK.seq ?_
  refine XK.region rfl ?_
  refine XO.q (Q.move rfl) ?_
  refine XO.q (Q.geq rfl rfl) ?_
  refine XO.done ?_
  refine XK.if rfl (fun c0 => ?_) (fun c0 => ?_)
  · have _t0 := True.intro
    rw [price_pos (by omega)] at pr
    refine XK.seq ?_
    refine XK.region rfl ?_
    refine XO.q (Q.move rfl) ?_
    refine XO.q (Q.fieldAddr rfl) ?_
    refine XO.q (Q.ld rfl rfl) ?_
    refine XO.q (Q.move rfl) ?_
    refine XO.ix rfl rfl (by omega) (by omega) fun i13 => ?_
    refine XO.q (Q.fieldQ rfl (by first | assumption | omega)) ?_
    refine XO.q (Q.ldE rfl (by first | assumption | omega) rfl) ?_
    refine XO.q (Q.mul rfl rfl ⟨by omega, by omega⟩) ?_
    refine XO.q (Q.assign rfl) ?_
    refine XO.done ?_
    refine XK.rt [] Try.func101 Try.results101 (.t rfl .n) ?_
    exact ⟨by rw [price_pos (by omega)], rfl⟩
  · have _t0 := True.intro
    rw [price_neg (by omega)] at pr
    refine XK.skip ?_
    refine XK.seq ?_
    refine XK.region rfl ?_
    refine XO.q (Q.move rfl) ?_
    refine XO.q (Q.fieldAddr rfl) ?_
    refine XO.q (Q.ld rfl rfl) ?_
    refine XO.q (Q.move rfl) ?_
    refine XO.ix rfl rfl (by omega) (by omega) fun i21 => ?_
    refine XO.q (Q.fieldQ rfl (by first | assumption | omega)) ?_
    refine XO.q (Q.ldE rfl (by first | assumption | omega) rfl) ?_
    refine XO.q (Q.mul rfl rfl ⟨by omega, by omega⟩) ?_
    refine XO.q (Q.assign rfl) ?_
    refine XO.done ?_
    refine XK.rt [] Try.func101 Try.results101 (.t rfl .n) ?_
    exact ⟨by rw [price_neg (by omega)], rfl⟩
def posB (d : KDay) (n e c : Int) : Bool := ((decide (-d.store.power ≤ c) && decide (c ≤ d.store.power)) && (decide (0 ≤ e + c) && decide (e + c ≤ d.store.full))) && decide (n + c ≤ d.most)
theorem rpossible_spec (d : KDay) (vh vj : Value) (hh hj : PHeap) [ih : Arr vh encHour 6 hh d.hours] [ij : Arr vj encJob 4 hj d.jobs] (s : List Int) (vs : Value) (hs_ : PHeap) [js : Arr vs encI 1 hs_ s] (ok : DayOk d) (so : SOk d s) (i : Nat) (hi : i < d.hours.length) (e c : Int) (e0 : -1000 ≤ e) (e1 : e ≤ 1000) : Spec Try.prog 113 #[.agg #[vh, .int .i64 d.store.energy, .int .i64 d.store.full, .int .i64 d.store.power, .int .i64 d.store.fin, vj, .int .i64 d.most, .int .i64 d.peak], vs, .int .i64 (i : Nat), .int .i64 e, .int .i64 c] [] [hh, hj, hs_] (fun v hs => v = .bool (posB d ((needsL d s).getD i default) e c) ∧ hs = []) := by
  have s1 := ok.store.f0
  have s2 := ok.store.f1
  have s3 := ok.store.p0
  have s4 := ok.store.p1
  have s5 := ok.store.e0
  have s6 := ok.store.e1
  have h1 := ok.h1
  have h24 := ok.h2
  have m0 := ok.m0
  have m1 := ok.m1
  have j2 := ok.j2
  refine Spec.intro (fn := Try.f113) (N := 39) Try.func113 rfl Try.ntmps113 rfl fun B => ?_
  refine XK.seq ?_
  refine XK.region rfl ?_
  refine XO.box rfl fun b5 => ?_
  refine XO.q (Q.assign rfl) ?_
  refine XO.done ?_
  refine XK.seq ?_
  refine XK.drawn [0, 1, 2, 3, 4, 5, 6, 7, 9, 10, 11, 12, 13, 14, 15, 17, 18, 19, 20, 21, 22, 24, 25, 26, 27, 28] [b5] [] (.q 0 (.q 1 (.q 2 (.q 3 (.q 4 (.q 5 (.q 6 (.q 7 (.br 8 true (.q 9 (.q 10 (.q 11 (.q 12 (.q 13 (.q 14 (.q 15 (.br 16 true (.q 17 (.q 18 (.q 19 (.q 20 (.q 21 (.q 22 (.q 24 (.q 25 (.br 23 true (.q 26 (.q 27 (.q 28 .done))) .stop))))))))) .stop)))))))) .stop))))))))) Try.mixed rfl (by kernel_rfl) ?_
  refine XT.q rfl rfl (Q.move rfl) ?_
  refine XT.q rfl rfl (Q.fieldAddr rfl) ?_
  refine XT.q rfl rfl (Q.fieldAddr rfl) ?_
  refine XT.q rfl rfl (Q.ld rfl rfl) ?_
  refine XT.q rfl rfl (Q.neg rfl ⟨by omega, by omega⟩) ?_
  rw [show (0 : Int) - d.store.power = -d.store.power by omega]
  refine XT.q rfl rfl (Q.fieldAddr rfl) ?_
  refine XT.q rfl rfl (Q.fieldAddr rfl) ?_
  refine XT.q rfl rfl (Q.ld rfl rfl) ?_
  refine XT.call rfl rfl Try.call81 rfl rfl rfl (rin_spec (c) (-d.store.power) (d.store.power)) (fun v19 s19 R19 => ?_) XT.stop
  obtain ⟨rfl, rfl⟩ := R19
  dsimp only [List.cons_append, List.nil_append]
  refine ⟨inferInstance, ?_⟩
  refine XT.q rfl rfl (Q.move rfl) ?_
  refine XT.q rfl rfl (Quiet.guardT rfl rfl fun g21 p21 => Q.move rfl) ?_
  refine XT.q rfl rfl (Quiet.guardT rfl rfl fun g22 p22 => Q.move rfl) ?_
  refine XT.q rfl rfl (Quiet.guardT rfl rfl fun g23 p23 => Q.add (lzv g23 rfl) (lzv g23 rfl) ⟨by omega, by omega⟩) ?_
  refine XT.q rfl rfl (Quiet.guardT rfl rfl fun g24 p24 => Q.fieldAddr rfl) ?_
  refine XT.q rfl rfl (Quiet.guardT rfl rfl fun g25 p25 => Q.fieldAddr (lzv g25 rfl)) ?_
  refine XT.q rfl rfl (Quiet.guardT rfl rfl fun g26 p26 => Q.ld (lzv g26 rfl) rfl) ?_
  refine XT.gcallT rfl rfl rfl rfl Try.call81 rfl (fun g27 => .c (lzv g27 rfl) (.c rfl (.c (lzv g27 rfl) .n))) rfl (fun g27 p27 => rin_spec (e + c) (0) (d.store.full)) ⟨inferInstance, ?_⟩ XT.stop
  refine XT.q rfl rfl (Q.and rfl (fun hp => lzv hp rfl)) ?_
  refine XT.q rfl rfl (Q.move rfl) ?_
  refine XT.q rfl rfl (Quiet.guardT rfl rfl fun g30 p30 => Q.ldA [_, _, _, _, _, _, _, _] rfl rfl rfl) ?_
  refine XT.q rfl rfl (Quiet.guardT rfl rfl fun g31 p31 => Q.move rfl) ?_
  refine XT.q rfl rfl (Quiet.guardT rfl rfl fun g32 p32 => Q.move rfl) ?_
  refine XT.q rfl rfl (Quiet.guardT rfl rfl fun g33 p33 => Q.move rfl) ?_
  refine XT.q rfl rfl (Quiet.guardT rfl rfl fun g35 p35 => Q.fieldAddr rfl) ?_
  refine XT.q rfl rfl (Quiet.guardT rfl rfl fun g36 p36 => Q.ld (lzv g36 rfl) rfl) ?_
  refine XT.gcallT rfl rfl rfl rfl Try.call100 rfl (fun g34 => .c (lzv g34 rfl) (.c (lzv g34 rfl) (.c (lzv g34 rfl) (.c (lzv g34 rfl) .n)))) rfl (fun g34 p34 => rneed_spec d vh vj hh hj s vs hs_ ok so i hi c (by omega) (by omega)) ⟨inferInstance, ?_⟩ XT.stop
  refine XT.q rfl rfl (Quiet.guardT rfl rfl fun g37 p37 => Q.leq (lzv g37 rfl) (lzv g37 rfl)) ?_
  refine XT.q rfl rfl (Q.and rfl (fun hp => lzv hp rfl)) ?_
  refine XT.q rfl rfl (Q.assign rfl) ?_
  refine XT.done ?_
  refine XK.rt [] Try.func113 Try.results113 (.t rfl .n) ?_
  exact ⟨rfl, rfl⟩
end Go.X

/- Ledgers and costs of plans, as the statements use them. No condition. -/
set_option linter.unusedVariables false
namespace Go.X
theorem led_err (d : KDay) (p : KPlan) : (ledgerG d p).2.2 = (formG d p).2 := by
  unfold ledgerG; split
  · rfl
  · rename_i h; exact (Decidable.of_not_not h).symm
theorem cost_err (d : KDay) (p : KPlan) : (costG d p).2 = (formG d p).2 := by
  unfold costG; split
  · rfl
  · rename_i h; exact (Decidable.of_not_not h).symm
theorem led_yes {d : KDay} {s ch : List Int} {c : Int} (h : formG d ⟨s, ch, c⟩ = (needsL d s, 0)) : ledgerG d ⟨s, ch, c⟩ = ((List.range d.hours.length).map (rowA d s ch), sumRow (rowA d s ch) d.hours.length, 0) := by
  rw [ledgerG, h]; rfl
theorem cost_yes {d : KDay} {s ch : List Int} {c : Int} (h : formG d ⟨s, ch, c⟩ = (needsL d s, 0)) : costG d ⟨s, ch, c⟩ = (costL d (needsL d s) ch, 0) := by
  rw [costG, h]; rfl
theorem cost_no {d : KDay} {p : KPlan} (h : (formG d p).2 ≠ 0) : costG d p = (0, (formG d p).2) := by
  rw [costG, if_pos h]
structure RowIs (d : KDay) (s ch : List Int) (i : Nat) (r : KRow) : Prop where
  bal : r.bought + r.made = r.sold + r.used + r.stored
  one : r.bought ≤ 0 ∨ r.sold ≤ 0
  b0 : 0 ≤ r.bought
  s0 : 0 ≤ r.sold
  made : r.made = (d.hours.getD i default).sun
  used : (d.hours.getD i default).load ≤ r.used
  carbon : r.carbon = r.bought * (d.hours.getD i default).carbon
  water : r.water = r.used * (d.hours.getD i default).water
  energy : energyTo d ch (i + 1) = energyTo d ch i + r.stored
  peak : peakTo (needsL d s) ch (i + 1) = max (peakTo (needsL d s) ch i) r.bought
  cost : costTo d (needsL d s) ch (i + 1) = costTo d (needsL d s) ch i + (r.bought * (d.hours.getD i default).buy - r.sold * (d.hours.getD i default).sell)
  small : RowSmall 1000000 r
  buy : 0 ≤ r.bought * (d.hours.getD i default).buy ∧ r.bought * (d.hours.getD i default).buy ≤ 1000000000
  sell : 0 ≤ r.sold * (d.hours.getD i default).sell ∧ r.sold * (d.hours.getD i default).sell ≤ 1000000000
theorem row_is {d : KDay} {s ch : List Int} {c : Int} (h : formG d ⟨s, ch, c⟩ = (needsL d s, 0)) {i : Nat} (hi : i < d.hours.length) : RowIs d s ch i (rowA d s ch i) := by
  have h0 : (formG d ⟨s, ch, c⟩).2 = 0 := by rw [h]
  have ok := (form_fine h0).1
  have r := row_law (s := s) (ch := ch) ok hi
  have sm := row_small h0 hi
  rw [h] at sm
  have sm : RowSmall 1000000 (rowA d s ch i) := sm
  have hk := ok.hour i hi
  have a := sm.a; have b := sm.b
  exact ⟨r.bal, r.one, r.b0, r.s0, r.made, r.used, r.carbon, r.water, r.energy, r.peak, r.cost, sm,
    mul_rng r.b0 a.2 hk.b0 hk.b1 (by omega), mul_rng r.s0 b.2 hk.s0 (Int.le_trans hk.s1 hk.b1) (by omega)⟩
theorem some_plan {d : KDay} (ok : DayOk d) {s : List Int} (hs : s ∈ startsL d) {x : List UInt8} {ch : List Int} (e : (someP d s x).1.charge = ch) (h : (someP d s x).2 = true) : formG d ⟨s, ch, 0⟩ = (needsL d s, 0) ∨ formG d ⟨s, ch, 0⟩ = ([], 120) := by
  subst e; exact some_form ok hs h
theorem plan_rng {d : KDay} {s ch : List Int} {c : Int} (h : formG d ⟨s, ch, c⟩ = (needsL d s, 0)) : Poss d (needsL d s) ch ∧ s ∈ startsL d ∧ DayOk d ∧ ch.length = d.hours.length ∧ (∀ i, i ≤ d.hours.length → StateOk d (energyTo d ch i) (peakTo (needsL d s) ch i)) ∧ ∀ i, i ≤ d.hours.length → -100000000 ≤ costTo d (needsL d s) ch i ∧ costTo d (needsL d s) ch i ≤ 100000000 := by
  have h0 : (formG d ⟨s, ch, c⟩).2 = 0 := by rw [h]
  obtain ⟨kc, sm, po⟩ := form_poss h0
  have ok := kcheck_iff.1 kc
  have po : Poss d (needsL d s) ch := po
  refine ⟨po, sm, ok, po.len, poss_state ok po.ok, fun i hi => ?_⟩
  have h24 := ok.h2
  have := (cost_rng (d := d) (base := needsL d s) (ch := ch) ok.hour (by rw [po.len]; exact Nat.le_refl _) (fun j hj => by
    have o := okAt_iffK.1 (po.ok j (by rw [← po.len]; exact hj))
    have b := needs_rng ok s (show j < d.hours.length by rw [← po.len]; exact hj)
    have := ok.store.p1; have := ok.m1
    omega) i (by rw [po.len]; exact hi)).1
  omega
end Go.X

/- What Best returns is accepted, and no possible plan costs less. No condition. -/
set_option linter.unusedVariables false
namespace Go.X
structure TabsR (d : KDay) (tabs : List (List Int)) : Prop where
  len : tabs.length = (startsL d).length
  tab : ∀ j, j < (startsL d).length → TabOk d (needsL d ((startsL d).getD j default)) (tabs.getD j default)
theorem cost_best {d : KDay} (ok : DayOk d) (b0 : (bestG d).2 = 0) : costG d (bestG d).1 = ((bestG d).1.cost, 0) := by
  have bf := best_form ok b0
  rw [costG, bf, if_neg (by simp)]
  rw [(best_law ok b0).cost]
theorem verify_best {d : KDay} (ok : DayOk d) (b0 : (bestG d).2 = 0) {tabs : List (List Int)} (t : TabsR d tabs) : verifyG d (bestG d).1 tabs = 0 := by
  have bf := best_form ok b0
  have bl := best_law ok b0
  rcases verify_tabs ok (p := (bestG d).1) (by rw [bf]) t.len t.tab with h | h
  · exact h.1
  · rcases h.2 with h | ⟨j, hj, h⟩
    · rw [bf] at h; exact absurd bl.cost h
    · have := bl.le j hj; omega
theorem least_law {d : KDay} (ok : DayOk d) (b0 : (bestG d).2 = 0) {s ch : List Int} {c : Int} (h : formG d ⟨s, ch, 0⟩ = (needsL d s, 0)) (hc : c = costL d (needsL d s) ch) {tabs : List (List Int)} (t : TabsR d tabs) :
    (bestG d).1.cost ≤ c ∧ ((verifyG d ⟨s, ch, c⟩ tabs = 0 ∧ c = (bestG d).1.cost) ∨ (verifyG d ⟨s, ch, c⟩ tabs = 7 ∧ c ≠ (bestG d).1.cost)) := by
  have h : formG d ⟨s, ch, c⟩ = (needsL d s, 0) := h
  have bl := best_law ok b0
  obtain ⟨j, hj, h1, _⟩ := poss_first ok (p := ⟨s, ch, c⟩) (by rw [h])
  rw [h] at h1
  have h1 : firstV d j ≤ costL d (needsL d s) ch := h1
  have h2 := bl.le j hj
  refine ⟨by omega, ?_⟩
  rcases verify_tabs ok (p := ⟨s, ch, c⟩) (by rw [h]) t.len t.tab with hv | hv
  · left
    obtain ⟨k, hk, ek⟩ := bl.at'
    have h3 : c ≤ firstV d k := hv.2.2 k hk
    exact ⟨hv.1, by omega⟩
  · right
    refine ⟨hv.1, ?_⟩
    rcases hv.2 with h4 | ⟨k, hk, h4⟩
    · rw [h] at h4; exact absurd hc.symm h4
    · have h4 : firstV d k < c := h4
      have := bl.le k hk
      omega
end Go.X

set_option linter.unusedSimpArgs false
set_option linter.unusedVariables false
set_option maxRecDepth 20000
namespace Go.X
open Go.Proofs
theorem any_takeS {α : Type} [Inhabited α] {p : α → Bool} {l : List α} {i : Nat} (h : i < l.length) : (l.take (i + 1)).any p = ((l.take i).any p || p (l.getD i default)) := by
  rw [take_snocK h, List.any_append, List.any_cons, List.any_nil, Bool.or_false]
theorem posB_ok (d : KDay) (base ch : List Int) (i : Nat) : posB d (base.getD i default) (energyTo d ch i) (ch.getD i default) = okAt d base ch i := by
  rw [Bool.eq_iff_iff, okAt_iffK]
  unfold posB
  simp only [Bool.and_eq_true, decide_eq_true_eq]
  exact and_assoc
theorem mem_getD {α : Type} [Inhabited α] {l : List α} {x : α} (h : x ∈ l) : ∃ i, ∃ (_ : i < l.length), l.getD i default = x := by
  obtain ⟨i, hi, e⟩ := List.mem_iff_getElem.1 h
  exact ⟨i, hi, by rw [List.getD_eq_getElem?_getD, List.getElem?_eq_getElem hi]; exact e⟩
theorem sameInts (va vb : Value) (ha hb : PHeap) (a b : List Int) [ia : Arr va encI 1 ha a] [ib : Arr vb encI 1 hb b] : Spec Try.prog 85 #[va, vb] [] [ha, hb] (fun v hs => v = .bool (decide (a = b)) ∧ hs = []) := by
  have la := ia.le
  refine Spec.intro (fn := Try.f85) (N := 26) Try.func85 rfl Try.ntmps85 rfl fun B => ?_
  refine XK.seq ?_
  refine XK.region rfl ?_
  refine XO.q (Q.assign rfl) ?_
  refine XO.done ?_
  refine XK.seq ?_
  refine XK.seq ?_
  refine XK.region rfl ?_
  refine XO.q (Q.move rfl) ?_
  refine XO.len rfl fun l7 => ?_
  refine XO.q (Q.move rfl) ?_
  refine XO.len rfl fun l9 => ?_
  refine XO.q (Q.neq rfl rfl) ?_
  refine XO.done ?_
  refine XK.if rfl (fun c0 => ?_) (fun c0 => ?_)
  · have _t0 := True.intro
    refine XK.seq ?_
    refine XK.region rfl ?_
    refine XO.q (Q.assign rfl) ?_
    refine XO.done ?_
    refine XK.rt [] Try.func85 Try.results85 (.t rfl .n) ?_
    exact ⟨by rw [decide_eq_false (fun h => c0 (by rw [h]))], rfl⟩
  · have _t0 := True.intro
    refine XK.skip ?_
    refine XK.seq ?_
    refine XK.seq ?_
    refine XK.region rfl ?_
    refine XO.q (Q.assign rfl) ?_
    refine XO.done ?_
    refine XK.block ?_
    refine XK.while (X := Nat) [4, 5, 11, 12, 13, 14, 15, 16, 17, 18, 19, 20, 21, 22, 23, 24, 25] (fun i => [(5, some (.int .i64 (i : Nat)))]) (fun i => []) (fun i => i ≤ a.length ∧ a.take i = b.take i) (fun i => a.length - i) (0) [] rfl ⟨by omega, rfl⟩ (.c rfl (.base 0 rfl rfl)) ?_
    rintro i ⟨hi, ht⟩ ih0
    dsimp only [List.cons_append, List.nil_append] at ih0 ⊢
    refine XK.seq ?_
    refine XK.seq ?_
    refine XK.region rfl ?_
    refine XO.q (Q.move rfl) ?_
    refine XO.q (Q.move rfl) ?_
    refine XO.len rfl fun l13 => ?_
    refine XO.q (Q.lss rfl rfl) ?_
    refine XO.done ?_
    refine XK.if rfl (fun c1 => ?_) (fun c1 => ?_)
    · have _t1 := True.intro
      refine XK.skip ?_
      refine XK.seq ?_
      refine XK.block ?_
      refine XK.seq ?_
      refine XK.drawn [0, 1, 2, 3, 4, 5, 6, 7, 8] [] [] (.q 0 (.q 1 (.q 2 (.q 3 (.q 4 (.q 5 (.q 6 (.q 7 (.q 8 .done))))))))) Try.mixed rfl (by kernel_rfl) ?_
      refine XT.q rfl rfl (Q.move rfl) ?_
      refine XT.q rfl rfl (Q.move rfl) ?_
      refine XT.ix rfl rfl rfl rfl (by omega) (by omega) fun i19 => ?_
      refine XT.q rfl rfl (Q.ldE rfl (by first | assumption | omega) rfl) ?_
      refine XT.q rfl rfl (Q.move rfl) ?_
      refine XT.q rfl rfl (Q.move rfl) ?_
      refine XT.ix rfl rfl rfl rfl (by omega) (by omega) fun i23 => ?_
      refine XT.q rfl rfl (Q.ldE rfl (by first | assumption | omega) rfl) ?_
      refine XT.q rfl rfl (Q.neq rfl rfl) ?_
      refine XT.done ?_
      refine XK.if rfl (fun c2 => ?_) (fun c2 => ?_)
      · have _t2 := True.intro
        refine XK.seq ?_
        refine XK.region rfl ?_
        refine XO.q (Q.assign rfl) ?_
        refine XO.done ?_
        refine XK.rt [] Try.func85 Try.results85 (.t rfl .n) ?_
        exact ⟨by rw [decide_eq_false (fun h => c2 (by rw [h]))], rfl⟩
      · have _t2 := True.intro
        refine XK.skip ?_
        refine XK.inBlock ?_
        refine XK.region rfl ?_
        refine XO.q (Q.move rfl) ?_
        refine XO.q (Q.add rfl rfl ⟨by omega, by omega⟩) ?_
        refine XO.q (Q.assign rfl) ?_
        refine XO.done ?_
        exact ih0 (i + 1) _ _ ⟨by omega, take_step ht (by omega) (by omega) (Decidable.of_not_not c2)⟩ (by first | omega | (dsimp only; omega)) (.c rfl (.base 34 rfl rfl)) inferInstance
    · have _t1 := True.intro
      refine XK.exit rfl ?_
      refine XK.seq ?_
      refine XK.region rfl ?_
      refine XO.q (Q.assign rfl) ?_
      refine XO.done ?_
      refine XK.rt [] Try.func85 Try.results85 (.t rfl .n) ?_
      exact ⟨by rw [decide_eq_true (take_all ht c1 (by omega))], rfl⟩
set_option maxHeartbeats 2000000 in
theorem rstarts_spec (d : KDay) (vh vj : Value) (hh hj : PHeap) [ih : Arr vh encHour 6 hh d.hours] [ij : Arr vj encJob 4 hj d.jobs] (ok : DayOk d) (m : Nat) : ∀ (k : Nat), k + m = d.jobs.length → Spec Try.prog 99 #[.agg #[vh, .int .i64 d.store.energy, .int .i64 d.store.full, .int .i64 d.store.power, .int .i64 d.store.fin, vj, .int .i64 d.most, .int .i64 d.peak], .int .i64 (k : Nat)] [] [hh, hj] (fun v hs => ∃ ho us K, hs = [ho, K] ∧ OArr v encV 1 30 ho us ∧ RowsK us K (rowsR (d.jobs.drop k))) := by
  induction m using Nat.strongRecOn with
  | ind m IH =>
    intro k hk
    have lj := ij.le
    have j2 := ok.j2
    have h24 := ok.h2
    have nV : OArr (.slice none 0 0) encV 1 30 emp ([] : List Value) := OArr.nil (fun _ => rfl)
    refine Spec.intro (fn := Try.f99) (N := 61) Try.func99 rfl Try.ntmps99 rfl fun B => ?_
    refine XK.seq ?_
    refine XK.region rfl ?_
    refine XO.box rfl fun b2 => ?_
    refine XO.q (Q.assign rfl) ?_
    refine XO.done ?_
    refine XK.seq ?_
    refine XK.seq ?_
    refine XK.region rfl ?_
    refine XO.q (Q.move rfl) ?_
    refine XO.q (Q.fieldAddr rfl) ?_
    refine XO.q (Q.ld rfl rfl) ?_
    refine XO.len rfl fun l13 => ?_
    refine XO.q (Q.eql rfl rfl) ?_
    refine XO.done ?_
    refine XK.if rfl (fun c0 => ?_) (fun c0 => ?_)
    · have _t0 := True.intro
      obtain rfl : k = d.jobs.length := by omega
      refine XK.seq ?_
      refine XK.region rfl ?_
      refine XO.lit [_] [_] [.slice none 0 0] encV (by rfl) (by rfl) rfl (by rfl) (by exact .c 0 1 rfl rfl rfl (.n _)) (fun _ => rfl) (by rfl) rfl (by infer_instance) rfl fun v15 h15 O15 => ?_
      refine XO.q (Q.assign rfl) ?_
      refine XO.done ?_
      refine XK.rt [h15, emp] Try.func99 Try.results99 (.t rfl .n) ?_
      refine ⟨h15, [.slice none 0 0], emp, rfl, O15, ?_⟩
      rw [List.drop_length]
      exact ⟨rfl, fun i hi => by
        have h0 : i = 0 := (by simpa using hi)
        subst h0; exact Arr.nil (fun _ => rfl)⟩
    · have _t0 := True.intro
      refine XK.skip ?_
      refine XK.seq ?_
      refine XK.region rfl ?_
      refine XO.q (Q.assign rfl) ?_
      refine XO.done ?_
      refine XK.seq ?_
      refine XK.region rfl ?_
      refine XO.q (Q.ldA [_, _, _, _, _, _, _, _] rfl rfl rfl) ?_
      refine XO.q (Q.move rfl) ?_
      refine XO.q (Q.add rfl rfl ⟨by omega, by omega⟩) ?_
      refine XO.call Try.call99 rfl rfl rfl (IH (m - 1) (by omega) (k + 1) (by omega)) fun v19 s19 R19 => ?_
      obtain ⟨hr, ur, Kr, rfl, OR, RR⟩ := R19
      dsimp only [List.cons_append, List.nil_append]
      obtain ⟨rest, er⟩ : ∃ r, r = rowsR (d.jobs.drop (k + 1)) := ⟨_, rfl⟩
      have rln : rest.length ≤ 576 := by rw [er]; exact rowsR_len (fun j hj => by obtain ⟨i, hi, rfl⟩ := mem_getD (List.mem_of_mem_drop hj); have := span_rng ok hi; omega) (by rw [List.length_drop]; omega)
      have rea : ∀ x ∈ rest, x.length ≤ 2 := fun x hx => by rw [er] at hx; rw [rowsR_each x hx, List.length_drop]; omega
      rw [← er] at RR
      have RRL := RR.1
      have jk := ok.job k (by omega)
      have jk1 := jk.b0
      have jk2 := jk.b1
      have jk3 := jk.t1
      have jk4 := jk.h0
      have sp := span_rng ok (i := k) (by omega)
      refine XO.q (Q.assign rfl) ?_
      refine XO.done ?_
      refine XK.seq ?_
      refine XK.seq ?_
      refine XK.region rfl ?_
      refine XO.q (Q.fieldAddr rfl) ?_
      refine XO.q (Q.ld rfl rfl) ?_
      refine XO.q (Q.move rfl) ?_
      refine XO.ix rfl rfl (by omega) (by omega) fun i23 => ?_
      refine XO.q (Q.fieldQ rfl (by first | assumption | omega)) ?_
      refine XO.q (Q.ldE rfl (by first | assumption | omega) rfl) ?_
      refine XO.q (Q.assign rfl) ?_
      refine XO.done ?_
      refine XK.block ?_
      refine XK.while (X := Nat × Int × Value × PHeap × List Value × PHeap) [5, 7, 8, 9, 26, 27, 28, 29, 30, 31, 32, 33, 34, 35, 36, 37, 38, 39, 40, 41, 42, 43, 44, 45, 46, 47, 48, 49, 50, 51, 52, 53, 54, 55, 56, 57, 58, 59] (fun ⟨q, tt, vo, ko, us, K⟩ => [(7, some (.int .i64 tt)), (5, some (vo))]) (fun ⟨q, tt, vo, ko, us, K⟩ => [ko, K]) (fun ⟨q, tt, vo, ko, us, K⟩ => q ≤ (spanS (d.jobs.getD k default)).toNat ∧ tt = (d.jobs.getD k default).beg + ((q : Nat) : Int) ∧ OArr vo encV 1 30 ko us ∧ RowsK us K (rowsP (d.jobs.getD k default) rest q)) (fun ⟨q, tt, vo, ko, us, K⟩ => (spanS (d.jobs.getD k default)).toNat - q) (0, (d.jobs.getD k default).beg, .slice none 0 0, emp, [], emp) [emp, emp] rfl ⟨by omega, by (try dsimp only); omega, nV, RowsK.nil⟩ (.c rfl (.c rfl (.base 0 rfl rfl))) ?_
      rintro ⟨q, tt, vo, ko, us, K⟩ ⟨hq, htt, OU, RU⟩ ih0
      dsimp only [List.cons_append, List.nil_append] at ih0 ⊢
      refine XK.seq ?_
      refine XK.seq ?_
      refine XK.drawn [0, 1, 2, 3, 4, 5, 6, 7, 8, 9, 10, 11, 12, 13, 14] [b2] [] (.q 0 (.q 1 (.q 2 (.q 3 (.q 4 (.q 5 (.q 6 (.q 7 (.q 8 (.q 9 (.q 10 (.q 11 (.q 12 (.q 13 (.q 14 .done))))))))))))))) Try.mixed rfl (by kernel_rfl) ?_
      refine XT.q rfl rfl (Q.move rfl) ?_
      refine XT.q rfl rfl (Q.fieldAddr rfl) ?_
      refine XT.q rfl rfl (Q.ld rfl rfl) ?_
      refine XT.q rfl rfl (Q.move rfl) ?_
      refine XT.ix rfl rfl rfl rfl (by omega) (by omega) fun i30 => ?_
      refine XT.q rfl rfl (Q.fieldQ rfl (by first | assumption | omega)) ?_
      refine XT.q rfl rfl (Q.ldE rfl (by first | assumption | omega) rfl) ?_
      refine XT.q rfl rfl (Q.add rfl rfl ⟨by omega, by omega⟩) ?_
      refine XT.q rfl rfl (Q.fieldAddr rfl) ?_
      refine XT.q rfl rfl (Q.ld rfl rfl) ?_
      refine XT.q rfl rfl (Q.move rfl) ?_
      refine XT.ix rfl rfl rfl rfl (by omega) (by omega) fun i37 => ?_
      refine XT.q rfl rfl (Q.fieldQ rfl (by first | assumption | omega)) ?_
      refine XT.q rfl rfl (Q.ldE rfl (by first | assumption | omega) rfl) ?_
      refine XT.q rfl rfl (Q.leq rfl rfl) ?_
      refine XT.done ?_
      refine XK.if rfl (fun c1 => ?_) (fun c1 => ?_)
      · have _t1 := True.intro
        have hq2 : q < (spanS (d.jobs.getD k default)).toNat := by unfold spanS; omega
        have UL := RU.1
        have pl := rowsP_len (rest := rest) (show q ≤ (spanS (d.jobs.getD k default)).toNat by omega)
        have mq : q * rest.length ≤ 24 * 576 := Nat.mul_le_mul (by omega) (by omega)
        refine XK.skip ?_
        refine XK.seq ?_
        refine XK.block ?_
        refine XK.seq ?_
        refine XK.region rfl ?_
        refine XO.q (Q.assign rfl) ?_
        refine XO.done ?_
        refine XK.block ?_
        refine XK.while (X := Nat × Value × PHeap × List Value × PHeap) [5, 8, 9, 43, 44, 45, 46, 47, 48, 49, 50, 51, 52, 53, 54, 55, 56, 57, 58, 59] (fun ⟨i, vn, kn, un, K2⟩ => [(8, some (.int .i64 (i : Nat))), (5, some (vn))]) (fun ⟨i, vn, kn, un, K2⟩ => [kn, K2]) (fun ⟨i, vn, kn, un, K2⟩ => i ≤ rest.length ∧ OArr vn encV 1 30 kn un ∧ RowsK un K2 (rowsI (d.jobs.getD k default) rest q i)) (fun ⟨i, vn, kn, un, K2⟩ => rest.length - i) (0, vo, ko, us, K) [ko, K] rfl ⟨by omega, OU, by rw [rowsI_zero]; exact RU⟩ (.c rfl (.c rfl (.base 0 rfl rfl))) ?_
        rintro ⟨i, vn, kn, un, K2⟩ ⟨hi, ON, RN⟩ ih1
        dsimp only [List.cons_append, List.nil_append] at ih1 ⊢
        refine XK.seq ?_
        refine XK.seq ?_
        refine XK.region rfl ?_
        refine XO.q (Q.move rfl) ?_
        refine XO.q (Q.move rfl) ?_
        refine XO.len rfl fun l45 => ?_
        refine XO.q (Q.lss rfl rfl) ?_
        refine XO.done ?_
        refine XK.if rfl (fun c2 => ?_) (fun c2 => ?_)
        · have _t2 := True.intro
          have ai := RR.2 i (by omega)
          have li := rea (rest.getD i default) (getD_mem (by omega))
          have UN := RN.1
          have pli := rowsI_len (rest := rest) (i := i) (show q ≤ (spanS (d.jobs.getD k default)).toNat by omega) (by omega)
          refine XK.skip ?_
          refine XK.seq ?_
          refine XK.block ?_
          refine XK.seq ?_
          refine XK.region rfl ?_
          refine XO.q (Q.move rfl) ?_
          refine XO.lit [_] [_] [tt] encI (by rfl) (by rfl) rfl (by rfl) (by exact .c 0 1 rfl rfl rfl (.n _)) (fun _ => rfl) (by rfl) rfl (by infer_instance) rfl fun v50 h50 O50 => ?_
          refine XO.q (Q.assign rfl) ?_
          refine XO.done ?_
          refine XK.region rfl ?_
          refine XO.q (Q.move rfl) ?_
          refine XO.q (Q.move rfl) ?_
          refine XO.q (Q.move rfl) ?_
          refine XO.q (Q.move rfl) ?_
          refine XO.ix rfl rfl (by omega) (by omega) fun i55 => ?_
          refine XO.q (Q.ldE rfl (by first | assumption | omega) rfl) ?_
          refine XO.append rfl rfl rfl rfl (by simp only [List.length_cons, List.length_nil]; omega) fun v57 h57 O57 => ?_
          refine XO.lit [_] [_] [v57] encV (by rfl) (by rfl) rfl (by rfl) (by exact .c 0 1 rfl rfl rfl (.n _)) (fun _ => rfl) (by rfl) rfl (by infer_instance) rfl fun v58 h58 O58 => ?_
          refine XO.append rfl rfl rfl rfl (by simp only [List.length_cons, List.length_nil]; omega) fun v59 h59 O59 => ?_
          refine XO.q (Q.assign rfl) ?_
          refine XO.done ?_
          refine XK.inBlock ?_
          refine XK.region rfl ?_
          refine XO.q (Q.move rfl) ?_
          refine XO.q (Q.add rfl rfl ⟨by omega, by omega⟩) ?_
          refine XO.q (Q.assign rfl) ?_
          refine XO.done ?_
          refine XK.cat K2 h57 fun l1 l2 => ?_
          exact ih1 (i + 1, v59, h59, un ++ [v57], cat K2 h57) _ _ ⟨by dsimp only; omega, O59, by dsimp only; rw [rowsI_succ (by omega), ← htt]; exact (RN.mono l1).snoc (Arr.le_heap (OArr.arr (s := O57)) l2)⟩ (by first | omega | (dsimp only; omega)) (.c rfl (.c rfl (.base 42 rfl rfl))) inferInstance
        · have _t2 := True.intro
          have hir : i = rest.length := by omega
          subst hir
          refine XK.exit rfl ?_
          refine XK.inBlock ?_
          refine XK.region rfl ?_
          refine XO.q (Q.move rfl) ?_
          refine XO.q (Q.add rfl rfl ⟨by omega, by omega⟩) ?_
          refine XO.q (Q.assign rfl) ?_
          refine XO.done ?_
          exact ih0 (q + 1, tt + 1, vn, kn, un, K2) _ _ ⟨by dsimp only; omega, by dsimp only; omega, ON, by dsimp only; rw [← rowsI_all hq2]; exact RN⟩ (by first | omega | (dsimp only; omega)) (.c rfl (.c rfl (.base 85 rfl rfl))) inferInstance
      · have _t1 := True.intro
        have hqe : q = (spanS (d.jobs.getD k default)).toNat := by unfold spanS at hq ⊢; omega
        refine XK.exit rfl ?_
        refine XK.seq ?_
        refine XK.region rfl ?_
        refine XO.q (Q.move rfl) ?_
        refine XO.q (Q.assign rfl) ?_
        refine XO.done ?_
        refine XK.rt [ko, K] Try.func99 Try.results99 (.t rfl .n) ?_
        refine ⟨ko, us, K, rfl, OU, ?_⟩
        rw [drop_cons (by omega), rowsR, ← er, ← rowsP_all, ← hqe]; exact RU
theorem rstarts0_spec (d : KDay) (vh vj : Value) (hh hj : PHeap) [ih : Arr vh encHour 6 hh d.hours] [ij : Arr vj encJob 4 hj d.jobs] (ok : DayOk d) : Spec Try.prog 99 #[.agg #[vh, .int .i64 d.store.energy, .int .i64 d.store.full, .int .i64 d.store.power, .int .i64 d.store.fin, vj, .int .i64 d.most, .int .i64 d.peak], .int .i64 0] [] [hh, hj] (fun v hs => ∃ ho us K, hs = [ho, K] ∧ OArr v encV 1 30 ho us ∧ RowsK us K (startsL d)) := by
  have h := rstarts_spec d vh vj hh hj ok d.jobs.length 0 (by omega)
  rw [List.drop_zero, ← rowsR_few d.jobs ok.j2] at h
  exact h
theorem rStarts_spec (d : KDay) (vh vj : Value) (hh hj : PHeap) [ih : Arr vh encHour 6 hh d.hours] [ij : Arr vj encJob 4 hj d.jobs] : Spec Try.prog 59 #[.agg #[vh, .int .i64 d.store.energy, .int .i64 d.store.full, .int .i64 d.store.power, .int .i64 d.store.fin, vj, .int .i64 d.most, .int .i64 d.peak]] [] [hh, hj] (fun v hs => ∃ vo ho us K, v = .tuple #[vo, .int .i64 (kcheck d)] ∧ hs = [ho, K] ∧ OArr vo encV 1 30 ho us ∧ RowsK us K (if kcheck d = 0 then startsL d else [])) := by
  have nV : OArr (.slice none 0 0) encV 1 30 emp ([] : List Value) := OArr.nil (fun _ => rfl)
  refine Spec.intro (fn := Try.f59) (N := 12) Try.func59 rfl Try.ntmps59 rfl fun B => ?_
  refine XK.seq ?_
  refine XK.region rfl ?_
  refine XO.box rfl fun b1 => ?_
  refine XO.q (Q.assign rfl) ?_
  refine XO.q (Q.assign rfl) ?_
  refine XO.done ?_
  refine XK.seq ?_
  refine XK.seq ?_
  refine XK.region rfl ?_
  refine XO.q (Q.ldA [_, _, _, _, _, _, _, _] rfl rfl rfl) ?_
  refine XO.call Try.call58 rfl rfl rfl (rCheck_spec d vh vj hh hj) fun v6 s6 R6 => ?_
  obtain ⟨rfl, rfl⟩ := R6
  dsimp only [List.cons_append, List.nil_append]
  refine XO.q (Q.assign rfl) ?_
  refine XO.done ?_
  refine XK.seq ?_
  refine XK.region rfl ?_
  refine XO.q (Q.move rfl) ?_
  refine XO.q (Q.neq rfl rfl) ?_
  refine XO.done ?_
  refine XK.if rfl (fun c0 => ?_) (fun c0 => ?_)
  · have _t0 := True.intro
    refine XK.seq ?_
    refine XK.region rfl ?_
    refine XO.q (Q.move rfl) ?_
    refine XO.q (Q.assign rfl) ?_
    refine XO.q (Q.assign rfl) ?_
    refine XO.done ?_
    refine XK.rt [emp, emp] Try.func59 Try.results59 (.t rfl (.t rfl .n)) ?_
    rw [if_neg c0]
    exact ⟨.slice none 0 0, emp, [], emp, rfl, rfl, nV, RowsK.nil⟩
  · have _t0 := True.intro
    refine XK.skip ?_
    refine XK.seq ?_
    refine XK.region rfl ?_
    refine XO.q (Q.ldA [_, _, _, _, _, _, _, _] rfl rfl rfl) ?_
    refine XO.call Try.call99 rfl rfl rfl (rstarts0_spec d vh vj hh hj (kcheck_iff.1 (Decidable.of_not_not c0))) fun v11 s11 R11 => ?_
    obtain ⟨ho, us, K, rfl, OO, RO⟩ := R11
    dsimp only [List.cons_append, List.nil_append]
    refine XO.q (Q.assign rfl) ?_
    refine XO.q (Q.assign rfl) ?_
    refine XO.done ?_
    refine XK.rt [ho, K] Try.func59 Try.results59 (.t rfl (.t rfl .n)) ?_
    have e := Decidable.of_not_not c0
    rw [if_pos e, e]
    exact ⟨v11, ho, us, K, rfl, rfl, OO, RO⟩
end Go.X

set_option linter.unusedSimpArgs false
set_option linter.unusedVariables false
set_option maxRecDepth 20000
namespace Go.X
open Go.Proofs
theorem form_starts {d : KDay} {p : KPlan} (h0 : ¬ kcheck d ≠ 0) (h : ¬ (¬ (startsL d).any (fun l => decide (l = p.starts)) = true ∨ (p.charge.length : Int) ≠ d.hours.length)) : formG d p = if ¬ allTo (okAt d (needsL d p.starts) p.charge) p.charge.length = true then ([], 120) else if energyTo d p.charge p.charge.length < d.store.fin then ([], 120) else (needsL d p.starts, 0) := by
  rw [formG, if_neg h0, if_neg h]
set_option maxHeartbeats 2000000 in
theorem rForm_spec (d : KDay) (vh vj : Value) (hh hj : PHeap) [ih : Arr vh encHour 6 hh d.hours] [ij : Arr vj encJob 4 hj d.jobs] (p : KPlan) (vs vc : Value) (hs_ hc : PHeap) [js : Arr vs encI 1 hs_ p.starts] [jc : Arr vc encI 1 hc p.charge] : Spec Try.prog 84 #[.agg #[vh, .int .i64 d.store.energy, .int .i64 d.store.full, .int .i64 d.store.power, .int .i64 d.store.fin, vj, .int .i64 d.most, .int .i64 d.peak], .agg #[vs, vc, .int .i64 p.cost]] [] [hh, hj, hs_, hc] (fun v hs => v = .int .i64 (formG d p).2 ∧ hs = []) := by
  have lh := ih.le
  have lc := jc.le
  refine Spec.intro (fn := Try.f84) (N := 79) Try.func84 rfl Try.ntmps84 rfl fun B => ?_
  refine XK.seq ?_
  refine XK.region rfl ?_
  refine XO.box rfl fun b2 => ?_
  refine XO.box rfl fun b3 => ?_
  refine XO.q (Q.assign rfl) ?_
  refine XO.done ?_
  refine XK.seq ?_
  refine XK.seq ?_
  refine XK.region rfl ?_
  refine XO.q (Q.ldA [_, _, _, _, _, _, _, _] rfl rfl rfl) ?_
  refine XO.call Try.call58 rfl rfl rfl (rCheck_spec d vh vj hh hj) fun v12 s12 R12 => ?_
  obtain ⟨rfl, rfl⟩ := R12
  dsimp only [List.cons_append, List.nil_append]
  refine XO.q (Q.assign rfl) ?_
  refine XO.done ?_
  refine XK.seq ?_
  refine XK.region rfl ?_
  refine XO.q (Q.move rfl) ?_
  refine XO.q (Q.neq rfl rfl) ?_
  refine XO.done ?_
  refine XK.if rfl (fun c0 => ?_) (fun c0 => ?_)
  · have _t0 := True.intro
    refine XK.seq ?_
    refine XK.region rfl ?_
    refine XO.q (Q.move rfl) ?_
    refine XO.q (Q.assign rfl) ?_
    refine XO.done ?_
    refine XK.rt [] Try.func84 Try.results84 (.t rfl .n) ?_
    exact ⟨by rw [formG, if_pos c0], rfl⟩
  · have _t0 := True.intro
    have hz := c0
    have ok := kcheck_iff.1 (Decidable.of_not_not c0)
    have s1 := ok.store.f0
    have s2 := ok.store.f1
    have s3 := ok.store.p0
    have s4 := ok.store.p1
    have s5 := ok.store.e0
    have s6 := ok.store.e1
    have h1 := ok.h1
    have h24 := ok.h2
    have m0 := ok.m0
    have m1 := ok.m1
    have j2 := ok.j2
    refine XK.skip ?_
    refine XK.seq ?_
    refine XK.region rfl ?_
    refine XO.q (Q.assign rfl) ?_
    refine XO.done ?_
    refine XK.seq ?_
    refine XK.region rfl ?_
    refine XO.q (Q.ldA [_, _, _, _, _, _, _, _] rfl rfl rfl) ?_
    refine XO.call Try.call99 rfl rfl rfl (rstarts0_spec d vh vj hh hj ok) fun v17 s17 R17 => ?_
    obtain ⟨ho, us, K, rfl, OO, RO⟩ := R17
    dsimp only [List.cons_append, List.nil_append]
    have RL := RO.1
    refine XO.q (Q.assign rfl) ?_
    refine XO.done ?_
    refine XK.seq ?_
    refine XK.seq ?_
    refine XK.region rfl ?_
    refine XO.q (Q.assign rfl) ?_
    refine XO.done ?_
    refine XK.block ?_
    refine XK.while (X := Nat × Bool) [6, 8, 18, 19, 20, 21, 22, 23, 24, 25, 26, 27, 28, 29, 30, 31, 32, 33] (fun ⟨i, fd⟩ => [(8, some (.int .i64 (i : Nat))), (6, some (.bool fd))]) (fun ⟨i, fd⟩ => []) (fun ⟨i, fd⟩ => i ≤ us.length ∧ fd = ((startsL d).take i).any (fun l => decide (l = p.starts))) (fun ⟨i, fd⟩ => us.length - i) (0, false) [] rfl ⟨by omega, rfl⟩ (.c rfl (.c rfl (.base 0 rfl rfl))) ?_
    rintro ⟨i, fd⟩ ⟨hi, hf⟩ ih0
    dsimp only [List.cons_append, List.nil_append] at ih0 ⊢
    refine XK.seq ?_
    refine XK.seq ?_
    refine XK.region rfl ?_
    refine XO.q (Q.move rfl) ?_
    refine XO.q (Q.move rfl) ?_
    refine XO.len rfl fun l20 => ?_
    refine XO.q (Q.lss rfl rfl) ?_
    refine XO.done ?_
    refine XK.if rfl (fun c1 => ?_) (fun c1 => ?_)
    · have _t1 := True.intro
      have ai := RO.2 i (by omega)
      have ats := any_takeS (p := fun l => decide (l = p.starts)) (show i < (startsL d).length by omega)
      refine XK.skip ?_
      refine XK.seq ?_
      refine XK.block ?_
      refine XK.drawn [0, 1, 2, 3, 4, 5, 6, 7, 9, 10] [b3] [ho, K] (.q 0 (.q 1 (.q 2 (.q 3 (.q 4 (.q 5 (.q 6 (.q 7 (.br 8 true (.q 9 (.q 10 .done)) .stop))))))))) Try.mixed rfl (by kernel_rfl) ?_
      refine XT.q rfl rfl (Q.move rfl) ?_
      refine XT.q rfl rfl (Q.move rfl) ?_
      refine XT.q rfl rfl (Quiet.guardF rfl rfl fun g26 p26 => Q.move rfl) ?_
      refine XT.q rfl rfl (Quiet.guardF rfl rfl fun g27 p27 => Q.move rfl) ?_
      refine XT.q rfl rfl (Quiet.guardF rfl rfl fun g28 p28 => Q.ix (lzv g28 rfl) (lzv g28 rfl) (by omega) (by omega)) ?_
      refine XT.q rfl rfl (Quiet.guardF rfl rfl fun g29 p29 => Q.ldE (lzv g29 rfl) (by first | assumption | omega) rfl) ?_
      refine XT.q rfl rfl (Quiet.guardF rfl rfl fun g30 p30 => Q.fieldAddr rfl) ?_
      refine XT.q rfl rfl (Quiet.guardF rfl rfl fun g31 p31 => Q.ld (lzv g31 rfl) rfl) ?_
      refine XT.gcallF rfl rfl rfl rfl Try.call85 rfl (fun g32 => .c (lzv g32 rfl) (.c (lzv g32 rfl) .n)) rfl (fun g32 p32 => sameInts (us.getD i default) vs K hs_ ((startsL d).getD i default) p.starts) ⟨inferInstance, ?_⟩ XT.stop
      refine XT.q rfl rfl (Q.or rfl (fun hp => lzv hp rfl)) ?_
      refine XT.q rfl rfl (Q.assign rfl) ?_
      refine XT.done ?_
      refine XK.inBlock ?_
      refine XK.region rfl ?_
      refine XO.q (Q.move rfl) ?_
      refine XO.q (Q.add rfl rfl ⟨by omega, by omega⟩) ?_
      refine XO.q (Q.assign rfl) ?_
      refine XO.done ?_
      exact ih0 (i + 1, _) _ _ ⟨by dsimp only; omega, by dsimp only; rw [ats, ← hf]; cases fd <;> rfl⟩ (by first | omega | (dsimp only; omega)) (.c rfl (.c rfl (.base 38 rfl rfl))) inferInstance
    · have _t1 := True.intro
      have hin : i = us.length := by omega
      rw [List.take_of_length_le (by omega)] at hf
      subst hf
      refine XK.exit rfl ?_
      refine XK.seq ?_
      refine XK.seq ?_
      refine XK.region rfl ?_
      refine XO.q (Q.move rfl) ?_
      refine XO.q (Q.not rfl) ?_
      refine XO.q (Q.move rfl) ?_
      refine XO.q (Quiet.guardF rfl rfl fun g37 p37 => Q.fieldAddr rfl) ?_
      refine XO.q (Quiet.guardF rfl rfl fun g38 p38 => Q.ld (lzv g38 rfl) rfl) ?_
      refine XO.q (Quiet.guardF rfl rfl fun g39 p39 => Q.len (lzv g39 rfl)) ?_
      refine XO.q (Quiet.guardF rfl rfl fun g40 p40 => Q.fieldAddr rfl) ?_
      refine XO.q (Quiet.guardF rfl rfl fun g41 p41 => Q.ld (lzv g41 rfl) rfl) ?_
      refine XO.q (Quiet.guardF rfl rfl fun g42 p42 => Q.len (lzv g42 rfl)) ?_
      refine XO.q (Quiet.guardF rfl rfl fun g43 p43 => Q.neq (lzv g43 rfl) (lzv g43 rfl)) ?_
      refine XO.q (Q.or rfl (fun hp => lzv hp rfl)) ?_
      refine XO.done ?_
      refine XK.if rfl (fun c2 => ?_) (fun c2 => ?_)
      · have _t2 := True.intro
        have c2b : ¬ (startsL d).any (fun l => decide (l = p.starts)) = true ∨ (p.charge.length : Int) ≠ d.hours.length := by simpa using c2
        refine XK.seq ?_
        refine XK.region rfl ?_
        refine XO.q (Q.assign rfl) ?_
        refine XO.done ?_
        refine XK.rt [] Try.func84 Try.results84 (.t rfl .n) ?_
        exact ⟨by rw [formG, if_neg hz, if_pos c2b], rfl⟩
      · have _t2 := True.intro
        have c2b : ¬ (¬ (startsL d).any (fun l => decide (l = p.starts)) = true ∨ (p.charge.length : Int) ≠ d.hours.length) := by simpa using c2
        have fs := form_starts hz c2b
        have so := starts_any (s := p.starts) (d := d) (Classical.byContradiction fun h => c2b (.inl h))
        have cl : p.charge.length = d.hours.length := Classical.byContradiction fun h => c2b (.inr (by omega))
        clear c2
        refine XK.skip ?_
        refine XK.seq ?_
        refine XK.region rfl ?_
        refine XO.q (Q.fieldAddr rfl) ?_
        refine XO.q (Q.fieldAddr rfl) ?_
        refine XO.q (Q.ld rfl rfl) ?_
        refine XO.q (Q.assign rfl) ?_
        refine XO.done ?_
        refine XK.seq ?_
        refine XK.seq ?_
        refine XK.region rfl ?_
        refine XO.q (Q.assign rfl) ?_
        refine XO.done ?_
        refine XK.block ?_
        refine XK.while (X := Nat × Int) [4, 9, 10, 48, 49, 50, 51, 52, 53, 54, 55, 56, 57, 58, 59, 60, 61, 62, 63, 64, 65, 66, 67, 68, 69, 70, 71, 72, 73] (fun ⟨i, e⟩ => [(10, some (.int .i64 (i : Nat))), (9, some (.int .i64 e))]) (fun ⟨i, e⟩ => []) (fun ⟨i, e⟩ => i ≤ p.charge.length ∧ e = energyTo d p.charge i ∧ (0 ≤ e ∧ e ≤ d.store.full) ∧ ∀ j, j < i → okAt d (needsL d p.starts) p.charge j = true) (fun ⟨i, e⟩ => p.charge.length - i) (0, _) [] rfl ⟨by omega, rfl, ⟨s5, s6⟩, fun j hj => by (try dsimp only at hj); omega⟩ (.c rfl (.c rfl (.base 0 rfl rfl))) ?_
        rintro ⟨i, e⟩ ⟨hi, he, er, ha⟩ ih1
        dsimp only [List.cons_append, List.nil_append] at ih1 ⊢
        refine XK.seq ?_
        refine XK.seq ?_
        refine XK.region rfl ?_
        refine XO.q (Q.move rfl) ?_
        refine XO.q (Q.fieldAddr rfl) ?_
        refine XO.q (Q.ld rfl rfl) ?_
        refine XO.len rfl fun l51 => ?_
        refine XO.q (Q.lss rfl rfl) ?_
        refine XO.done ?_
        refine XK.if rfl (fun c3 => ?_) (fun c3 => ?_)
        · have _t3 := True.intro
          have po := posB_ok d (needsL d p.starts) p.charge i
          rw [← he] at po
          have es : energyTo d p.charge (i + 1) = energyTo d p.charge i + p.charge.getD i default := rfl
          refine XK.skip ?_
          refine XK.seq ?_
          refine XK.block ?_
          refine XK.seq ?_
          refine XK.seq ?_
          refine XK.drawn [0, 1, 2, 3, 4, 5, 6, 7, 8, 9, 11] [b2, b3] [] (.q 0 (.q 1 (.q 2 (.q 3 (.q 4 (.q 5 (.q 6 (.q 7 (.q 8 (.q 9 (.br 10 true (.q 11 .done) .stop))))))))))) Try.mixed rfl (by kernel_rfl) ?_
          refine XT.q rfl rfl (Q.ldA [_, _, _, _, _, _, _, _] rfl rfl rfl) ?_
          refine XT.q rfl rfl (Q.fieldAddr rfl) ?_
          refine XT.q rfl rfl (Q.ld rfl rfl) ?_
          refine XT.q rfl rfl (Q.move rfl) ?_
          refine XT.q rfl rfl (Q.move rfl) ?_
          refine XT.q rfl rfl (Q.fieldAddr rfl) ?_
          refine XT.q rfl rfl (Q.ld rfl rfl) ?_
          refine XT.q rfl rfl (Q.move rfl) ?_
          refine XT.ix rfl rfl rfl rfl (by omega) (by omega) fun i63 => ?_
          refine XT.q rfl rfl (Q.ldE rfl (by first | assumption | omega) rfl) ?_
          refine XT.call rfl rfl Try.call113 rfl rfl rfl (rpossible_spec d vh vj hh hj p.starts vs hs_ ok so i (by omega) e (p.charge.getD i default) (by omega) (by omega)) (fun v65 s65 R65 => ?_) XT.stop
          obtain ⟨rfl, rfl⟩ := R65
          dsimp only [List.cons_append, List.nil_append]
          refine ⟨inferInstance, ?_⟩
          refine XT.q rfl rfl (Q.not rfl) ?_
          refine XT.done ?_
          refine XK.if rfl (fun c4 => ?_) (fun c4 => ?_)
          · have _t4 := True.intro
            have pf : okAt d (needsL d p.starts) p.charge i = false := by rw [← po]; exact Bool.eq_false_iff.2 c4
            refine XK.seq ?_
            refine XK.region rfl ?_
            refine XO.q (Q.assign rfl) ?_
            refine XO.done ?_
            refine XK.rt [] Try.func84 Try.results84 (.t rfl .n) ?_
            exact ⟨by rw [fs, if_pos (fun h => by rw [allTo_iff.1 h i (by omega)] at pf; cases pf)], rfl⟩
          · have _t4 := True.intro
            have pt : okAt d (needsL d p.starts) p.charge i = true := by rw [← po]; exact Decidable.of_not_not c4
            have pr := okAt_iffK.1 pt
            rw [← he] at pr
            refine XK.skip ?_
            refine XK.region rfl ?_
            refine XO.q (Q.move rfl) ?_
            refine XO.q (Q.fieldAddr rfl) ?_
            refine XO.q (Q.ld rfl rfl) ?_
            refine XO.q (Q.move rfl) ?_
            refine XO.ix rfl rfl (by omega) (by omega) fun i71 => ?_
            refine XO.q (Q.ldE rfl (by first | assumption | omega) rfl) ?_
            refine XO.q (Q.add rfl rfl ⟨by omega, by omega⟩) ?_
            refine XO.q (Q.assign rfl) ?_
            refine XO.done ?_
            refine XK.inBlock ?_
            refine XK.region rfl ?_
            refine XO.q (Q.move rfl) ?_
            refine XO.q (Q.add rfl rfl ⟨by omega, by omega⟩) ?_
            refine XO.q (Q.assign rfl) ?_
            refine XO.done ?_
            exact ih1 (i + 1, _) _ _ ⟨by dsimp only; omega, by dsimp only; rw [es, ← he], by dsimp only; omega, fun j hj => by
              by_cases h : j < i
              · exact ha j h
              · rw [show j = i by (try dsimp only at hj); omega]; exact pt⟩ (by first | omega | (dsimp only; omega)) (.c rfl (.c rfl (.base 59 rfl rfl))) inferInstance
        · have _t3 := True.intro
          have hin : i = p.charge.length := by omega
          subst hin
          refine XK.exit rfl ?_
          refine XK.seq ?_
          refine XK.seq ?_
          refine XK.region rfl ?_
          refine XO.q (Q.move rfl) ?_
          refine XO.q (Q.fieldAddr rfl) ?_
          refine XO.q (Q.fieldAddr rfl) ?_
          refine XO.q (Q.ld rfl rfl) ?_
          refine XO.q (Q.lss rfl rfl) ?_
          refine XO.done ?_
          refine XK.if rfl (fun c5 => ?_) (fun c5 => ?_)
          · have _t5 := True.intro
            refine XK.seq ?_
            refine XK.region rfl ?_
            refine XO.q (Q.assign rfl) ?_
            refine XO.done ?_
            refine XK.rt [] Try.func84 Try.results84 (.t rfl .n) ?_
            exact ⟨by rw [fs, if_neg (fun h => h (allTo_iff.2 ha)), if_pos (by omega)], rfl⟩
          · have _t5 := True.intro
            refine XK.skip ?_
            refine XK.seq ?_
            refine XK.region rfl ?_
            refine XO.q (Q.assign rfl) ?_
            refine XO.done ?_
            refine XK.rt [] Try.func84 Try.results84 (.t rfl .n) ?_
            exact ⟨by rw [fs, if_neg (fun h => h (allTo_iff.2 ha)), if_neg (by omega)], rfl⟩
theorem form_needs {d : KDay} {p : KPlan} (h : (formG d p).2 = 0) : formG d ⟨p.starts, p.charge, p.cost⟩ = (needsL d p.starts, 0) := by
  obtain ⟨kc, sm, po⟩ := form_poss h
  exact form_yes kc sm po
set_option maxHeartbeats 2000000 in
theorem rCost_spec (d : KDay) (vh vj : Value) (hh hj : PHeap) [ih : Arr vh encHour 6 hh d.hours] [ij : Arr vj encJob 4 hj d.jobs] (p : KPlan) (vs vc : Value) (hs_ hc : PHeap) [js : Arr vs encI 1 hs_ p.starts] [jc : Arr vc encI 1 hc p.charge] : Spec Try.prog 60 #[.agg #[vh, .int .i64 d.store.energy, .int .i64 d.store.full, .int .i64 d.store.power, .int .i64 d.store.fin, vj, .int .i64 d.most, .int .i64 d.peak], .agg #[vs, vc, .int .i64 p.cost]] [] [hh, hj, hs_, hc] (fun v hs => v = .tuple #[.int .i64 (costG d p).1, .int .i64 (costG d p).2] ∧ hs = []) := by
  have lc := jc.le
  refine Spec.intro (fn := Try.f60) (N := 49) Try.func60 rfl Try.ntmps60 rfl fun B => ?_
  refine XK.seq ?_
  refine XK.region rfl ?_
  refine XO.box rfl fun b2 => ?_
  refine XO.box rfl fun b3 => ?_
  refine XO.q (Q.assign rfl) ?_
  refine XO.q (Q.assign rfl) ?_
  refine XO.done ?_
  refine XK.seq ?_
  refine XK.seq ?_
  refine XK.region rfl ?_
  refine XO.q (Q.ldA [_, _, _, _, _, _, _, _] rfl rfl rfl) ?_
  refine XO.q (Q.ldA [_, _, _] rfl rfl rfl) ?_
  refine XO.call Try.call84 rfl rfl rfl (rForm_spec d vh vj hh hj p vs vc hs_ hc) fun v13 s13 R13 => ?_
  obtain ⟨rfl, rfl⟩ := R13
  dsimp only [List.cons_append, List.nil_append]
  refine XO.q (Q.assign rfl) ?_
  refine XO.done ?_
  refine XK.seq ?_
  refine XK.region rfl ?_
  refine XO.q (Q.move rfl) ?_
  refine XO.q (Q.neq rfl rfl) ?_
  refine XO.done ?_
  refine XK.if rfl (fun c0 => ?_) (fun c0 => ?_)
  · have _t0 := True.intro
    refine XK.seq ?_
    refine XK.region rfl ?_
    refine XO.q (Q.move rfl) ?_
    refine XO.q (Q.assign rfl) ?_
    refine XO.q (Q.assign rfl) ?_
    refine XO.done ?_
    refine XK.rt [] Try.func60 Try.results60 (.t rfl (.t rfl .n)) ?_
    exact ⟨by rw [costG, if_pos c0], rfl⟩
  · have _t0 := True.intro
    have f0 := Decidable.of_not_not c0
    have fy := form_needs f0
    obtain ⟨po, sm, ok, cl, st, cr⟩ := plan_rng fy
    have so := starts_ok sm
    have fg : formG d p = (needsL d p.starts, 0) := fy
    have s1 := ok.store.f0
    have s2 := ok.store.f1
    have s3 := ok.store.p0
    have s4 := ok.store.p1
    have s5 := ok.store.e0
    have s6 := ok.store.e1
    have h1 := ok.h1
    have h24 := ok.h2
    have m0 := ok.m0
    have m1 := ok.m1
    have j2 := ok.j2
    have pk0 := ok.p0
    have pk1 := ok.p1
    refine XK.skip ?_
    refine XK.seq ?_
    refine XK.region rfl ?_
    refine XO.q (Q.assign rfl) ?_
    refine XO.q (Q.assign rfl) ?_
    refine XO.done ?_
    refine XK.seq ?_
    refine XK.seq ?_
    refine XK.region rfl ?_
    refine XO.q (Q.assign rfl) ?_
    refine XO.done ?_
    refine XK.block ?_
    refine XK.while (X := Nat) [7, 8, 9, 10, 17, 18, 19, 20, 21, 22, 23, 24, 25, 26, 27, 28, 29, 30, 31, 32, 33, 34, 35, 36, 37, 38, 39, 40, 41, 42] (fun i => [(9, some (.int .i64 (i : Nat))), (7, some (.int .i64 (costTo d (needsL d p.starts) p.charge i))), (8, some (.int .i64 (peakTo (needsL d p.starts) p.charge i)))]) (fun i => []) (fun i => i ≤ p.charge.length) (fun i => p.charge.length - i) (0) [] rfl (by omega) (.c rfl (.c rfl (.c rfl (.base 0 rfl rfl)))) ?_
    rintro i hi ih0
    dsimp only [List.cons_append, List.nil_append] at ih0 ⊢
    refine XK.seq ?_
    refine XK.seq ?_
    refine XK.region rfl ?_
    refine XO.q (Q.move rfl) ?_
    refine XO.q (Q.fieldAddr rfl) ?_
    refine XO.q (Q.ld rfl rfl) ?_
    refine XO.len rfl fun l20 => ?_
    refine XO.q (Q.lss rfl rfl) ?_
    refine XO.done ?_
    refine XK.if rfl (fun c1 => ?_) (fun c1 => ?_)
    · have _t1 := True.intro
      have oi := okAt_iffK.1 (po.ok i (by omega))
      have nr := needs_rng ok p.starts (show i < d.hours.length by omega)
      have cri := cr i (by omega)
      have cr1 := cr (i + 1) (by omega)
      have es : costTo d (needsL d p.starts) p.charge (i + 1) = costTo d (needsL d p.starts) p.charge i + priceH (d.hours.getD i default) (((needsL d p.starts).getD i default) + (p.charge.getD i default)) := rfl
      have ep : peakTo (needsL d p.starts) p.charge (i + 1) = max (peakTo (needsL d p.starts) p.charge i) (((needsL d p.starts).getD i default) + (p.charge.getD i default)) := rfl
      refine XK.skip ?_
      refine XK.seq ?_
      refine XK.block ?_
      refine XK.seq ?_
      refine XK.drawn [0, 1, 2, 3, 4, 5, 6, 7, 8, 10] [b2, b3] [] (.q 0 (.q 1 (.q 2 (.q 3 (.q 4 (.q 5 (.q 6 (.q 7 (.q 8 (.br 9 true (.q 10 .done) .stop)))))))))) Try.mixed rfl (by kernel_rfl) ?_
      refine XT.q rfl rfl (Q.ldA [_, _, _, _, _, _, _, _] rfl rfl rfl) ?_
      refine XT.q rfl rfl (Q.fieldAddr rfl) ?_
      refine XT.q rfl rfl (Q.ld rfl rfl) ?_
      refine XT.q rfl rfl (Q.move rfl) ?_
      refine XT.q rfl rfl (Q.fieldAddr rfl) ?_
      refine XT.q rfl rfl (Q.ld rfl rfl) ?_
      refine XT.q rfl rfl (Q.move rfl) ?_
      refine XT.ix rfl rfl rfl rfl (by omega) (by omega) fun i31 => ?_
      refine XT.q rfl rfl (Q.ldE rfl (by first | assumption | omega) rfl) ?_
      refine XT.call rfl rfl Try.call100 rfl rfl rfl (rneed_spec d vh vj hh hj p.starts vs hs_ ok so i (by omega) (p.charge.getD i default) (by omega) (by omega)) (fun v33 s33 R33 => ?_) XT.stop
      obtain ⟨rfl, rfl⟩ := R33
      dsimp only [List.cons_append, List.nil_append]
      refine ⟨inferInstance, ?_⟩
      refine XT.q rfl rfl (Q.assign rfl) ?_
      refine XT.done ?_
      refine XK.seq ?_
      refine XK.region rfl ?_
      refine XO.q (Q.move rfl) ?_
      refine XO.q (Q.ldA [_, _, _, _, _, _, _, _] rfl rfl rfl) ?_
      refine XO.q (Q.move rfl) ?_
      refine XO.q (Q.move rfl) ?_
      refine XO.call Try.call101 rfl rfl rfl (rbill_spec d vh vj hh hj ok i (by omega) (((needsL d p.starts).getD i default) + (p.charge.getD i default)) (by omega) (by omega)) fun v38 s38 R38 => ?_
      obtain ⟨rfl, rfl⟩ := R38
      dsimp only [List.cons_append, List.nil_append]
      refine XO.q (Q.add rfl rfl ⟨by omega, by omega⟩) ?_
      refine XO.q (Q.assign rfl) ?_
      refine XO.done ?_
      refine XK.region rfl ?_
      refine XO.q (Q.move rfl) ?_
      refine XO.q (Q.move rfl) ?_
      refine XO.q (Q.max rfl rfl) ?_
      refine XO.q (Q.assign rfl) ?_
      refine XO.done ?_
      refine XK.inBlock ?_
      refine XK.region rfl ?_
      refine XO.q (Q.move rfl) ?_
      refine XO.q (Q.add rfl rfl ⟨by omega, by omega⟩) ?_
      refine XO.q (Q.assign rfl) ?_
      refine XO.done ?_
      rw [← es, ← ep]
      exact ih0 (i + 1) _ _ (by omega) (by first | omega | (dsimp only; omega)) (.c rfl (.c rfl (.c rfl (.base 63 rfl rfl)))) inferInstance
    · have _t1 := True.intro
      have hin : i = p.charge.length := by omega
      subst hin
      have cri := cr _ (show p.charge.length ≤ d.hours.length by omega)
      have sti := st _ (show p.charge.length ≤ d.hours.length by omega)
      have sm0 := sti.m0
      have sm1 := sti.m1
      have pp := mul_rng (a := peakTo (needsL d p.starts) p.charge p.charge.length) (b := d.peak) (m := 40) (n := 1000) sm0 (by omega) pk0 pk1 (by omega)
      refine XK.exit rfl ?_
      refine XK.seq ?_
      refine XK.region rfl ?_
      refine XO.q (Q.move rfl) ?_
      refine XO.q (Q.move rfl) ?_
      refine XO.q (Q.fieldAddr rfl) ?_
      refine XO.q (Q.ld rfl rfl) ?_
      refine XO.q (Q.mul rfl rfl ⟨by omega, by omega⟩) ?_
      refine XO.q (Q.add rfl rfl ⟨by omega, by omega⟩) ?_
      refine XO.q (Q.assign rfl) ?_
      refine XO.q (Q.assign rfl) ?_
      refine XO.done ?_
      refine XK.rt [] Try.func60 Try.results60 (.t rfl (.t rfl .n)) ?_
      refine ⟨?_, rfl⟩
      rw [costG, if_neg c0, fg, costL, Int.mul_comm d.peak]
end Go.X

/- Deliveries of plans, as the statement uses them. No condition. -/
set_option linter.unusedVariables false
namespace Go.X
theorem offered_yes {d : KDay} {o : KOffer} (ok : DayOk d) (ofk : OfferOk d.hours.length o) (h : 1 ≤ (patternsG o).length) : offeredG d o = (patternsG o, 0) := by
  rw [offeredG, if_neg (by rw [kcheck_iff.2 ok]; decide), if_neg (by rw [offerR_iff.2 ofk]; decide), if_neg (by omega)]
theorem ready_yes {d : KDay} {p : KPlan} {o : KOffer} (ho : offeredG d o = (patternsG o, 0)) (h : (formG d p).2 = 0) : readyG d p o = 0 := by
  rw [readyG, ho, if_neg (by simp)]; exact h
theorem deliver_eq {d : KDay} {p : KPlan} {o : KOffer} (ho : offeredG d o = (patternsG o, 0)) (h : (formG d p).2 = 0) : DeliverG d p o = ((deliverL d p o (patternsG o)).1, (deliverL d p o (patternsG o)).2, 0) := by
  rw [DeliverG, ready_yes ho h, if_neg (by decide)]
theorem answer_eq {d : KDay} {s ch : List Int} {c : Int} {o : KOffer} (ho : offeredG d o = (patternsG o, 0)) (h : formG d ⟨s, ch, c⟩ = (needsL d s, 0)) {a : List Int} (ha : a ∈ patternsG o) :
    AnswerG d ⟨s, ch, c⟩ o a = ((answerG d (needsL d s) ch o a).1, (answerG d (needsL d s) ch o a).2, 0) := by
  have h0 : (formG d ⟨s, ch, c⟩).2 = 0 := by rw [h]
  rw [AnswerG, ready_yes ho h0, if_neg (by decide), if_neg (by
    intro hn; exact hn (List.any_eq_true.2 ⟨a, ha, decide_eq_true rfl⟩)), h]
theorem bad_eq {d : KDay} {s ch : List Int} {c : Int} {o : KOffer} (h : formG d ⟨s, ch, c⟩ = (needsL d s, 0)) (a : List Int) : badPat d ⟨s, ch, c⟩ o a = !(answerG d (needsL d s) ch o a).2 := by
  rw [badPat, h]
/-- Which pattern the statement looks at, and what it finds. -/
theorem pick_good {d : KDay} {s ch : List Int} {c : Int} {o : KOffer} (h : formG d ⟨s, ch, c⟩ = (needsL d s, 0)) {a : List Int} {yes : Bool} (hy : (deliverL d ⟨s, ch, c⟩ o (patternsG o)).1 = yes) (ha : a ∈ patternsG o) (hb : yes = false → badPat d ⟨s, ch, c⟩ o a = true) : (answerG d (needsL d s) ch o a).2 = yes := by
  cases yes
  · have := hb rfl
    rw [bad_eq h, Bool.not_eq_true'] at this
    exact this
  · have := deliver_yes hy a ha
    rw [bad_eq h, Bool.not_eq_false'] at this
    exact this
def firstF (n : Nat) (a b : List Int) (i : Nat) : Int :=
  if i < b.length then min (if i < a.length then min (n : Int) (a.getD i default) else n) (b.getD i default) else (if i < a.length then min (n : Int) (a.getD i default) else n)
theorem first_at {n : Nat} {a b : List Int} (ha : a.Pairwise (· ≤ ·)) (hb : b.Pairwise (· ≤ ·)) {i : Nat} (h : a.take i = b.take i) : FirstOk n a b (firstF n a b i) := by
  refine ⟨?_, ⟨i, h, fun t ht => ?_, fun t ht => ?_⟩⟩
  · unfold firstF; split <;> split <;> omega
  · by_cases hi : i < a.length
    · have := drop_least ha hi t ht
      unfold firstF; rw [if_pos hi]; split <;> omega
    · rw [List.drop_of_length_le (by omega)] at ht; cases ht
  · by_cases hi : i < b.length
    · have := drop_least hb hi t ht
      unfold firstF; rw [if_pos hi]; omega
    · rw [List.drop_of_length_le (by omega)] at ht; cases ht
theorem first_nonneg {n : Nat} {a b : List Int} (ha : ∀ t ∈ a, 0 ≤ t) (hb : ∀ t ∈ b, 0 ≤ t) (i : Nat) : 0 ≤ firstF n a b i := by
  unfold firstF
  by_cases h1 : i < b.length
  · have := hb _ (getD_mem h1)
    rw [if_pos h1]
    by_cases h2 : i < a.length
    · have := ha _ (getD_mem h2); rw [if_pos h2]; omega
    · rw [if_neg h2]; omega
  · rw [if_neg h1]
    by_cases h2 : i < a.length
    · have := ha _ (getD_mem h2); rw [if_pos h2]; omega
    · rw [if_neg h2]; omega
theorem take_less {α : Type} {x y : List α} {m n : Nat} (h : x.take n = y.take n) (hm : m ≤ n) : x.take m = y.take m := by
  have := congrArg (List.take m) h
  rwa [List.take_take, List.take_take, Nat.min_eq_left hm] at this
def mineTo (d : KDay) (x : List UInt8) (k : Nat) : List Int := (List.range k).map fun i => dg x i (2 * d.store.power + 1) - d.store.power
theorem mineTo_len (d : KDay) (x : List UInt8) (k : Nat) : (mineTo d x k).length = k := by rw [mineTo, List.length_map, List.length_range]
theorem mineTo_rng {d : KDay} (so : StoreOk d.store) (x : List UInt8) {k i : Nat} (h : i < k) : -1000 ≤ (mineTo d x k).getD i default ∧ (mineTo d x k).getD i default ≤ 1000 := by
  rw [mineTo, range_at h]
  have p0 := so.p0; have p1 := so.p1
  have := dg_rng x i (n := 2 * d.store.power + 1) (by omega)
  omega
theorem keeps_rng {d : KDay} (so : StoreOk d.store) {base lim c : List Int} (h : keepsB d base lim c = true) {i : Nat} (hi : i < c.length) : -1000 ≤ c.getD i default ∧ c.getD i default ≤ 1000 := by
  unfold keepsB at h
  rw [Bool.and_eq_true, allTo_iff] at h
  have := keepAt_iff.1 (h.1 i hi)
  have p1 := so.p1
  omega
end Go.X

set_option linter.unusedSimpArgs false
set_option linter.unusedVariables false
set_option maxRecDepth 20000
namespace Go.X
open Go.Proofs
theorem copyInts (v : Value) (h : PHeap) (xs : List Int) [s : Arr v encI 1 h xs] (hl : xs.length ≤ 68719476736) : Spec Try.prog 112 #[v] [] [h] (fun v' hs => ∃ h', hs = [h'] ∧ OArr v' encI 1 3 h' xs) := by
  have hn : OArr (.slice none 0 0) encI 1 3 emp ([] : List Int) := OArr.nil (fun _ => rfl)
  refine Spec.intro (fn := Try.f112) (N := 7) Try.func112 rfl Try.ntmps112 rfl fun B => ?_
  refine XK.seq ?_
  refine XK.region rfl ?_
  refine XO.q (Q.assign rfl) ?_
  refine XO.done ?_
  refine XK.seq ?_
  refine XK.region rfl ?_
  refine XO.q (Q.assign rfl) ?_
  refine XO.done ?_
  refine XK.seq ?_
  refine XK.region rfl ?_
  refine XO.q (Q.move rfl) ?_
  refine XO.q (Q.move rfl) ?_
  refine XO.drop (o' := [emp]) ?_
  refine XO.append rfl rfl rfl rfl (by simp; omega) fun v6 h6 O6 => ?_
  refine XO.q (Q.assign rfl) ?_
  refine XO.done ?_
  refine XK.rt [h6] Try.func112 Try.results112 (.t rfl .n) ?_
  exact ⟨h6, rfl, O6⟩
theorem RowsK.append {us vs : List Value} {K : PHeap} {xs ys : List (List Int)} (r : RowsK us K xs) (s : RowsK vs K ys) : RowsK (us ++ vs) K (xs ++ ys) := by
  refine ⟨by rw [List.length_append, List.length_append, r.1, s.1], fun i hi => ?_⟩
  have hl := r.1
  by_cases h : i < us.length
  · rw [getD_left h, getD_left (by omega)]; exact r.2 i h
  · rw [List.getD_eq_getElem?_getD, List.getElem?_append_right (by omega), List.getD_eq_getElem?_getD, List.getElem?_append_right (by omega), ← hl, ← List.getD_eq_getElem?_getD, ← List.getD_eq_getElem?_getD]
    exact s.2 _ (by rw [List.length_append] at hi; omega)
/-- Where the next call may begin. -/
def FromOk (o : KOffer) (l : List Int) (frm : Int) : Prop := if l.length = 0 then frm = o.beg else frm = l.getD (l.length - 1) default + o.hours + o.pause ∧ 0 ≤ l.getD (l.length - 1) default ∧ l.getD (l.length - 1) default + o.hours ≤ o.fin
set_option maxHeartbeats 4000000 in
theorem rpat_spec (o : KOffer) (ok : OfferOk 24 o) (h63 : o.hours ≤ 9223372036854775807) (c : Nat) : ∀ (l : List Int) (v : Value) (hl : PHeap) [_ow : One v] [_al : Arr v encI 1 hl l] (frm : Int) (hf : FromOk o l frm) (hc : (l.length : Int) + (c : Int) = o.calls),
    Spec Try.prog 82 #[.agg #[.int .i64 o.beg, .int .i64 o.fin, .int .i64 o.power, .int .i64 o.hours, .int .i64 o.calls, .int .i64 o.pause], v] [hl] [] (fun v' hs => ∃ ho us K, hs = [ho, K] ∧ OArr v' encV 1 30 ho us ∧ RowsK us K (patR o c l frm)) := by
  induction c using Nat.strongRecOn with
  | ind c IH =>
    intro l v hl _ow _al frm hf hc
    have b0 := ok.b0
    have bf := ok.bf
    have o2 := ok.fn
    have o4 := ok.h0
    have o5 := ok.q0
    have o6 := ok.q1
    have o7 := ok.c1
    have o8 := ok.c0
    have fr0 : 0 ≤ frm ∧ frm ≤ 100 := by
      unfold FromOk at hf
      split at hf
      · omega
      · omega
    unfold FromOk at hf
    refine Spec.intro (fn := Try.f82) (N := 63) Try.func82 rfl Try.ntmps82 rfl fun B => ?_
    refine XK.seq ?_
    refine XK.region rfl ?_
    refine XO.box rfl fun b2 => ?_
    refine XO.q (Q.assign rfl) ?_
    refine XO.done ?_
    refine XK.seq ?_
    refine XK.region rfl ?_
    refine XO.q (Q.move rfl) ?_
    refine XO.lit [_] [_] [v] encV (by rfl) (by rfl) rfl (by rfl) (by exact .c 0 1 rfl rfl rfl (.n _)) (fun _ => rfl) (by rfl) rfl (by infer_instance) rfl fun v9 h9 O9 => ?_
    refine XO.q (Q.assign rfl) ?_
    refine XO.done ?_
    refine XK.seq ?_
    refine XK.seq ?_
    refine XK.region rfl ?_
    refine XO.q (Q.move rfl) ?_
    refine XO.len rfl fun l11 => ?_
    refine XO.q (Q.fieldAddr rfl) ?_
    refine XO.q (Q.ld rfl rfl) ?_
    refine XO.q (Q.eql rfl rfl) ?_
    refine XO.done ?_
    refine XK.if rfl (fun c0 => ?_) (fun c0 => ?_)
    · have _t0 := True.intro
      have hc0 : c = 0 := by omega
      subst hc0
      refine XK.seq ?_
      refine XK.region rfl ?_
      refine XO.q (Q.move rfl) ?_
      refine XO.q (Q.assign rfl) ?_
      refine XO.done ?_
      refine XK.rt [h9, hl] Try.func82 Try.results82 (.t rfl .n) ?_
      rw [patR]
      exact ⟨h9, [v], hl, rfl, O9, ⟨rfl, fun i hi => by
        have h0 : i = 0 := (by simpa using hi)
        subst h0; exact _al⟩⟩
    · have _t0 := True.intro
      obtain ⟨c', rfl⟩ : ∃ c', c = c' + 1 := ⟨c - 1, by omega⟩
      refine XK.skip ?_
      refine XK.seq ?_
      refine XK.region rfl ?_
      refine XO.q (Q.fieldAddr rfl) ?_
      refine XO.q (Q.ld rfl rfl) ?_
      refine XO.q (Q.assign rfl) ?_
      refine XO.done ?_
      refine XK.seq ?_
      refine XK.seq ?_
      refine XK.region rfl ?_
      refine XO.q (Q.move rfl) ?_
      refine XO.len rfl fun l19 => ?_
      refine XO.q (Q.gtr rfl rfl) ?_
      refine XO.done ?_
      refine XK.meet (X := Unit) [6, 21, 22, 23, 24, 25, 26, 27, 28, 29, 30, 31, 32] (fun _u => [(6, some (.int .i64 frm))]) (fun _u => []) (fun _u => True) [] ?_ ?_
      · rintro _u _
        dsimp only [List.cons_append, List.nil_append]
        refine XK.seq ?_
        refine XK.seq ?_
        refine XK.region rfl ?_
        refine XO.q (Q.move rfl) ?_
        refine XO.q (Q.assign rfl) ?_
        refine XO.done ?_
        refine XK.block ?_
        refine XK.while (X := Nat × Int × Value × PHeap × List Value × PHeap) [4, 5, 7, 34, 35, 36, 37, 38, 39, 40, 41, 42, 43, 44, 45, 46, 47, 48, 49, 50, 51, 52, 53, 54, 55, 56, 57, 58, 59, 60, 61] (fun ⟨j, t, vo, ho, us, K⟩ => [(7, some (.int .i64 t)), (5, some (vo))]) (fun ⟨j, t, vo, ho, us, K⟩ => [ho, K]) (fun ⟨j, t, vo, ho, us, K⟩ => j ≤ cntO o frm ∧ t = (frm + ((j : Nat) : Int)) ∧ OArr vo encV 1 30 ho us ∧ RowsK us K (itR (patR o c') (o.hours + o.pause) l frm j) ∧ leH hl K ∧ ¬ 4096 < (itR (patR o c') (o.hours + o.pause) l frm j).length) (fun ⟨j, t, vo, ho, us, K⟩ => cntO o frm - j) (0, frm, v9, h9, [v], hl) [h9, hl] rfl ⟨by omega, by (try dsimp only); omega, O9, ⟨rfl, fun i hi => by
          have h0 : i = 0 := (by simpa using hi)
          subst h0; exact _al⟩, leH.refl _, by rw [itR]; simp⟩ (.c rfl (.c rfl (.base 0 rfl rfl))) ?_
        rintro ⟨j, t, vo, ho, us, K⟩ ⟨hj, ht, OU, RU, LK, hle⟩ ih0
        dsimp only [List.cons_append, List.nil_append] at ih0 ⊢
        subst ht
        refine XK.seq ?_
        refine XK.seq ?_
        refine XK.region rfl ?_
        refine XO.q (Q.move rfl) ?_
        refine XO.q (Q.fieldAddr rfl) ?_
        refine XO.q (Q.ld rfl rfl) ?_
        refine XO.q (Q.lss rfl rfl) ?_
        refine XO.q (Q.move rfl) ?_
        refine XO.q (Quiet.guardT rfl rfl fun g39 p39 => Q.move rfl) ?_
        refine XO.q (Quiet.guardT rfl rfl fun g40 p40 => Q.fieldAddr rfl) ?_
        refine XO.q (Quiet.guardT rfl rfl fun g41 p41 => Q.ld (lzv g41 rfl) rfl) ?_
        refine XO.q (Quiet.guardT rfl rfl fun g42 p42 => Q.fieldAddr rfl) ?_
        refine XO.q (Quiet.guardT rfl rfl fun g43 p43 => Q.ld (lzv g43 rfl) rfl) ?_
        refine XO.q (Quiet.guardT rfl rfl fun g44 p44 => Q.sub (lzv g44 rfl) (lzv g44 rfl) ⟨by omega, by omega⟩) ?_
        refine XO.q (Quiet.guardT rfl rfl fun g45 p45 => Q.leq (lzv g45 rfl) (lzv g45 rfl)) ?_
        refine XO.q (Q.and rfl (fun hp => lzv hp rfl)) ?_
        refine XO.done ?_
        refine XK.if rfl (fun c2 => ?_) (fun c2 => ?_)
        · have _t2 := True.intro
          have hjc : j < cntO o frm := by unfold cntO; omega
          have hfr : FromOk o (l ++ [(frm + ((j : Nat) : Int))]) ((frm + ((j : Nat) : Int)) + (o.hours + o.pause)) := by
            unfold FromOk
            rw [List.length_append, List.length_singleton, if_neg (by omega), snocK_at, if_neg (by omega), if_pos (by omega)]
            omega
          have al2 := Arr.le_heap _al LK
          have RUL := RU.1
          refine XK.skip ?_
          refine XK.seq ?_
          refine XK.block ?_
          refine XK.seq ?_
          refine XK.meet (X := Value × PHeap × List Value × PHeap) [5, 49, 50, 51, 52, 53, 54, 55, 56, 57] (fun ⟨vo3, ho3, us3, K3⟩ => [(5, some (vo3))]) (fun ⟨vo3, ho3, us3, K3⟩ => [ho3, K3]) (fun ⟨vo3, ho3, us3, K3⟩ => OArr vo3 encV 1 30 ho3 us3 ∧ RowsK us3 K3 ((itR (patR o c') (o.hours + o.pause) l frm j) ++ patR o c' (l ++ [(frm + ((j : Nat) : Int))]) ((frm + ((j : Nat) : Int)) + (o.hours + o.pause))) ∧ leH hl K3) [ho, K] ?_ ?_
          · rintro ⟨vo3, ho3, us3, K3⟩ ⟨O3, R3, L3⟩
            dsimp only [List.cons_append, List.nil_append]
            have hsj : (itR (patR o c') (o.hours + o.pause) l frm (j + 1)) = (itR (patR o c') (o.hours + o.pause) l frm j) ++ patR o c' (l ++ [(frm + ((j : Nat) : Int))]) ((frm + ((j : Nat) : Int)) + (o.hours + o.pause)) := by rw [itR, if_neg hle]
            rw [← hsj] at R3
            refine XK.seq ?_
            refine XK.region rfl ?_
            refine XO.q (Q.move rfl) ?_
            refine XO.len rfl fun l59 => ?_
            refine XO.q (Q.gtr rfl rfl) ?_
            refine XO.done ?_
            refine XK.if rfl (fun c3 => ?_) (fun c3 => ?_)
            · have _t3 := True.intro
              have hst := itR_stay (n := cntO o frm) (show 4096 < (itR (patR o c') (o.hours + o.pause) l frm (j + 1)).length by have := R3.1; omega) (by omega)
              refine XK.seq ?_
              refine XK.region rfl ?_
              refine XO.q (Q.move rfl) ?_
              refine XO.q (Q.assign rfl) ?_
              refine XO.done ?_
              refine XK.rt [ho3, K3] Try.func82 Try.results82 (.t rfl .n) ?_
              rw [patR, hst]
              exact ⟨ho3, us3, K3, rfl, O3, R3⟩
            · have _t3 := True.intro
              refine XK.skip ?_
              refine XK.inBlock ?_
              refine XK.region rfl ?_
              refine XO.q (Q.move rfl) ?_
              refine XO.q (Q.add rfl rfl ⟨by omega, by omega⟩) ?_
              refine XO.q (Q.assign rfl) ?_
              refine XO.done ?_
              exact ih0 (j + 1, _, vo3, ho3, us3, K3) _ _ ⟨by dsimp only; omega, by (try dsimp only); omega, O3, R3, L3, by dsimp only; have := R3.1; omega⟩ (by first | omega | (dsimp only; omega)) (.c rfl (.c rfl (.base 63 rfl rfl))) inferInstance
          · intro mtr10
            dsimp only [List.cons_append, List.nil_append] at mtr10
            refine XK.drawn [0, 1, 2, 4, 9] [b2] [] (.q 0 (.q 1 (.q 2 (.q 4 (.br 3 true (.br 5 true (.br 6 true (.br 7 true (.br 8 true (.q 9 .done) .stop) .stop) .stop) .stop) (.br 5 true (.br 3 true (.br 6 true (.br 7 true (.br 8 true (.q 9 .done) .stop) .stop) .stop) .stop) .stop)))))) Try.mixed rfl (by kernel_rfl) ?_
            refine XT.q rfl rfl (Q.move rfl) ?_
            refine XT.q rfl rfl (Q.ldA [_, _, _, _, _, _] rfl rfl rfl) ?_
            refine XT.q rfl rfl (Q.move rfl) ?_
            refine XT.q rfl rfl (Q.move rfl) ?_
            refine XT.call rfl rfl Try.call112 rfl rfl rfl (copyInts v K l (by omega)) (fun v52 s52 R52 => ?_) ?_
            · skip
              obtain ⟨k52, rfl, O52⟩ := R52
              dsimp only [List.cons_append, List.nil_append]
              refine ⟨inferInstance, ?_⟩
              refine XT.lit [_] [_] [(frm + ((j : Nat) : Int))] encI rfl rfl (by rfl) (by rfl) rfl (by rfl) (by exact .c 0 1 rfl rfl rfl (.n _)) (fun _ => rfl) (by rfl) rfl (by infer_instance) rfl (fun v54 h54 O54 => ⟨inferInstance, ?_⟩) XT.stop
              refine XT.append rfl rfl rfl rfl rfl rfl (by simp only [List.length_cons, List.length_nil]; omega) (fun v55 h55 O55 => ⟨inferInstance, ?_⟩) XT.stop
              refine XT.call rfl rfl Try.call82 rfl rfl rfl (IH c' (by omega) (l ++ [(frm + ((j : Nat) : Int))]) v55 h55 ((frm + ((j : Nat) : Int)) + (o.hours + o.pause)) hfr (by rw [List.length_append, List.length_singleton]; omega)) (fun v56 s56 R56 => ?_) XT.stop
              obtain ⟨ho2, us2, K2, rfl, O2, R2⟩ := R56
              dsimp only [List.cons_append, List.nil_append]
              refine ⟨inferInstance, ?_⟩
              have r2l := R2.1
              have r2m := patR_len o c' (l ++ [(frm + ((j : Nat) : Int))]) ((frm + ((j : Nat) : Int)) + (o.hours + o.pause))
              refine XT.append rfl rfl rfl rfl rfl rfl (by omega) (fun v57 h57 O57 => ⟨inferInstance, ?_⟩) XT.stop
              refine XT.q rfl rfl (Q.assign rfl) ?_
              refine XT.done ?_
              refine XK.cat K K2 fun l1 l2 => ?_
              exact mtr10 ((v57, h57, us ++ us2, cat K K2)) _ _ ⟨O57, (RU.mono l1).append (R2.mono l2), LK.trans l1⟩ (.c rfl (.base 10 rfl rfl)) inferInstance
            · skip
              refine XT.lit [_] [_] [(frm + ((j : Nat) : Int))] encI rfl rfl (by rfl) (by rfl) rfl (by rfl) (by exact .c 0 1 rfl rfl rfl (.n _)) (fun _ => rfl) (by rfl) rfl (by infer_instance) rfl (fun v54 h54 O54 => ⟨inferInstance, ?_⟩) XT.stop
              refine XT.call rfl rfl Try.call112 rfl rfl rfl (copyInts v K l (by omega)) (fun v52 s52 R52 => ?_) XT.stop
              obtain ⟨k52, rfl, O52⟩ := R52
              dsimp only [List.cons_append, List.nil_append]
              refine ⟨inferInstance, ?_⟩
              refine XT.append rfl rfl rfl rfl rfl rfl (by simp only [List.length_cons, List.length_nil]; omega) (fun v55 h55 O55 => ⟨inferInstance, ?_⟩) XT.stop
              refine XT.call rfl rfl Try.call82 rfl rfl rfl (IH c' (by omega) (l ++ [(frm + ((j : Nat) : Int))]) v55 h55 ((frm + ((j : Nat) : Int)) + (o.hours + o.pause)) hfr (by rw [List.length_append, List.length_singleton]; omega)) (fun v56 s56 R56 => ?_) XT.stop
              obtain ⟨ho2, us2, K2, rfl, O2, R2⟩ := R56
              dsimp only [List.cons_append, List.nil_append]
              refine ⟨inferInstance, ?_⟩
              have r2l := R2.1
              have r2m := patR_len o c' (l ++ [(frm + ((j : Nat) : Int))]) ((frm + ((j : Nat) : Int)) + (o.hours + o.pause))
              refine XT.append rfl rfl rfl rfl rfl rfl (by omega) (fun v57 h57 O57 => ⟨inferInstance, ?_⟩) XT.stop
              refine XT.q rfl rfl (Q.assign rfl) ?_
              refine XT.done ?_
              refine XK.cat K K2 fun l1 l2 => ?_
              exact mtr10 ((v57, h57, us ++ us2, cat K K2)) _ _ ⟨O57, (RU.mono l1).append (R2.mono l2), LK.trans l1⟩ (.c rfl (.base 10 rfl rfl)) inferInstance
        · have _t2 := True.intro
          have hjc : j = cntO o frm := by unfold cntO at hj ⊢; omega
          subst hjc
          refine XK.exit rfl ?_
          refine XK.seq ?_
          refine XK.region rfl ?_
          refine XO.q (Q.move rfl) ?_
          refine XO.q (Q.assign rfl) ?_
          refine XO.done ?_
          refine XK.rt [ho, K] Try.func82 Try.results82 (.t rfl .n) ?_
          rw [patR]
          exact ⟨ho, us, K, rfl, OU, RU⟩
      · intro mt1
        dsimp only [List.cons_append, List.nil_append] at mt1
        refine XK.if rfl (fun c1 => ?_) (fun c1 => ?_)
        · have _t1 := True.intro
          rw [if_neg (by omega)] at hf
          have ei : ((l.length : Int) - 1).toNat = l.length - 1 := by omega
          rw [← ei] at hf
          refine XK.drawn [0, 1, 2, 3, 4, 5, 6, 7, 8, 9, 10, 11, 12] [b2] [hl] (.q 0 (.q 1 (.q 2 (.q 3 (.q 4 (.q 5 (.q 6 (.q 7 (.q 8 (.q 9 (.q 10 (.q 11 (.q 12 .done))))))))))))) Try.mixed rfl (by kernel_rfl) ?_
          refine XT.q rfl rfl (Q.move rfl) ?_
          refine XT.q rfl rfl (Q.move rfl) ?_
          refine XT.q rfl rfl (Q.len rfl) ?_
          refine XT.q rfl rfl (Q.sub rfl rfl ⟨by omega, by omega⟩) ?_
          refine XT.ix rfl rfl rfl rfl (by omega) (by omega) fun i25 => ?_
          refine XT.q rfl rfl (Q.ldE rfl (by first | assumption | omega) rfl) ?_
          refine XT.q rfl rfl (Q.fieldAddr rfl) ?_
          refine XT.q rfl rfl (Q.ld rfl rfl) ?_
          refine XT.q rfl rfl (Q.add rfl rfl ⟨by omega, by omega⟩) ?_
          refine XT.q rfl rfl (Q.fieldAddr rfl) ?_
          refine XT.q rfl rfl (Q.ld rfl rfl) ?_
          refine XT.q rfl rfl (Q.add rfl rfl ⟨by omega, by omega⟩) ?_
          refine XT.q rfl rfl (Q.assign rfl) ?_
          refine XT.done ?_
          rw [← hf.1]
          exact mt1 (()) _ _ trivial (.c rfl (.base 13 rfl rfl)) inferInstance
        · have _t1 := True.intro
          rw [if_pos (by omega)] at hf
          refine XK.skip ?_
          subst hf
          exact mt1 (()) _ _ trivial (.c rfl (.base 0 rfl rfl)) inferInstance
theorem from_nil (o : KOffer) : FromOk o [] o.beg := by unfold FromOk; simp
theorem offer_bad {o : KOffer} {n : Int} (h : ¬ OfferOk n o) : offerR o n = true → False := fun hh => h (offerR_iff.1 hh)
set_option maxHeartbeats 2000000 in
theorem rPatterns_spec (d : KDay) (vh vj : Value) (hh hj : PHeap) [ih : Arr vh encHour 6 hh d.hours] [ij : Arr vj encJob 4 hj d.jobs] (o : KOffer) (h63 : o.hours ≤ 9223372036854775807) : Spec Try.prog 37 #[.agg #[vh, .int .i64 d.store.energy, .int .i64 d.store.full, .int .i64 d.store.power, .int .i64 d.store.fin, vj, .int .i64 d.most, .int .i64 d.peak], .agg #[.int .i64 o.beg, .int .i64 o.fin, .int .i64 o.power, .int .i64 o.hours, .int .i64 o.calls, .int .i64 o.pause]] [] [hh, hj] (fun v hs => ∃ vo ho us K, v = .tuple #[vo, .int .i64 (offeredG d o).2] ∧ hs = [ho, K] ∧ OArr vo encV 1 30 ho us ∧ RowsK us K (offeredG d o).1) := by
  have lh := ih.le
  have nV : OArr (.slice none 0 0) encV 1 30 emp ([] : List Value) := OArr.nil (fun _ => rfl)
  have nA : Arr (.slice none 0 0) encI 1 emp ([] : List Int) := Arr.nil (fun _ => rfl)
  refine Spec.intro (fn := Try.f37) (N := 59) Try.func37 rfl Try.ntmps37 rfl fun B => ?_
  refine XK.seq ?_
  refine XK.region rfl ?_
  refine XO.box rfl fun b2 => ?_
  refine XO.box rfl fun b3 => ?_
  refine XO.q (Q.assign rfl) ?_
  refine XO.q (Q.assign rfl) ?_
  refine XO.done ?_
  refine XK.seq ?_
  refine XK.seq ?_
  refine XK.region rfl ?_
  refine XO.q (Q.ldA [_, _, _, _, _, _, _, _] rfl rfl rfl) ?_
  refine XO.call Try.call58 rfl rfl rfl (rCheck_spec d vh vj hh hj) fun v10 s10 R10 => ?_
  obtain ⟨rfl, rfl⟩ := R10
  dsimp only [List.cons_append, List.nil_append]
  refine XO.q (Q.assign rfl) ?_
  refine XO.done ?_
  refine XK.seq ?_
  refine XK.region rfl ?_
  refine XO.q (Q.move rfl) ?_
  refine XO.q (Q.neq rfl rfl) ?_
  refine XO.done ?_
  refine XK.if rfl (fun c0 => ?_) (fun c0 => ?_)
  · have _t0 := True.intro
    refine XK.seq ?_
    refine XK.region rfl ?_
    refine XO.q (Q.move rfl) ?_
    refine XO.q (Q.assign rfl) ?_
    refine XO.q (Q.assign rfl) ?_
    refine XO.done ?_
    refine XK.rt [emp, emp] Try.func37 Try.results37 (.t rfl (.t rfl .n)) ?_
    have e : offeredG d o = ([], kcheck d) := by rw [offeredG, if_pos c0]
    rw [e]
    exact ⟨.slice none 0 0, emp, [], emp, rfl, rfl, nV, RowsK.nil⟩
  · have _t0 := True.intro
    have hz := c0
    have ok := kcheck_iff.1 (Decidable.of_not_not c0)
    have h24 := ok.h2
    refine XK.skip ?_
    refine XK.seq ?_
    refine XK.region rfl ?_
    refine XO.q (Q.fieldAddr rfl) ?_
    refine XO.q (Q.ld rfl rfl) ?_
    refine XO.len rfl fun l16 => ?_
    refine XO.q (Q.assign rfl) ?_
    refine XO.done ?_
    refine XK.seq ?_
    refine XK.seq ?_
    refine XK.region rfl ?_
    refine XO.q (Q.fieldAddr rfl) ?_
    refine XO.q (Q.ld rfl rfl) ?_
    refine XO.q (Q.move rfl) ?_
    refine XO.call Try.call81 rfl rfl rfl (rin_spec (o.fin) (0) (d.hours.length)) fun v20 s20 R20 => ?_
    obtain ⟨rfl, rfl⟩ := R20
    dsimp only [List.cons_append, List.nil_append]
    refine XO.q (Q.not rfl) ?_
    refine XO.q (Q.move rfl) ?_
    refine XO.q (Quiet.guardF rfl rfl fun g23 p23 => Q.fieldAddr rfl) ?_
    refine XO.q (Quiet.guardF rfl rfl fun g24 p24 => Q.ld (lzv g24 rfl) rfl) ?_
    refine XO.q (Quiet.guardF rfl rfl fun g25 p25 => Q.fieldAddr rfl) ?_
    refine XO.q (Quiet.guardF rfl rfl fun g26 p26 => Q.ld (lzv g26 rfl) rfl) ?_
    refine XO.gcallF rfl rfl Try.call81 rfl (fun g27 => .c (lzv g27 rfl) (.c rfl (.c (lzv g27 rfl) .n))) rfl (fun g27 p27 => rin_spec (o.beg) (0) (o.fin)) ?_
    refine XO.q (Quiet.guardF rfl rfl fun g28 p28 => Q.not (lzv g28 rfl)) ?_
    refine XO.q (Q.or rfl (fun hp => lzv hp rfl)) ?_
    refine XO.q (Q.move rfl) ?_
    refine XO.q (Quiet.guardF rfl rfl fun g31 p31 => Q.fieldAddr rfl) ?_
    refine XO.q (Quiet.guardF rfl rfl fun g32 p32 => Q.ld (lzv g32 rfl) rfl) ?_
    refine XO.gcallF rfl rfl Try.call81 rfl (fun g33 => .c (lzv g33 rfl) (.c rfl (.c rfl .n))) rfl (fun g33 p33 => rin_spec (o.power) (1) (40)) ?_
    refine XO.q (Quiet.guardF rfl rfl fun g34 p34 => Q.not (lzv g34 rfl)) ?_
    refine XO.q (Q.or rfl (fun hp => lzv hp rfl)) ?_
    refine XO.q (Q.move rfl) ?_
    refine XO.q (Quiet.guardF rfl rfl fun g37 p37 => Q.fieldAddr rfl) ?_
    refine XO.q (Quiet.guardF rfl rfl fun g38 p38 => Q.ld (lzv g38 rfl) rfl) ?_
    refine XO.q (Quiet.guardF rfl rfl fun g39 p39 => Q.lss (lzv g39 rfl) rfl) ?_
    refine XO.q (Q.or rfl (fun hp => lzv hp rfl)) ?_
    refine XO.q (Q.move rfl) ?_
    refine XO.q (Quiet.guardF rfl rfl fun g42 p42 => Q.fieldAddr rfl) ?_
    refine XO.q (Quiet.guardF rfl rfl fun g43 p43 => Q.ld (lzv g43 rfl) rfl) ?_
    refine XO.gcallF rfl rfl Try.call81 rfl (fun g44 => .c (lzv g44 rfl) (.c rfl (.c rfl .n))) rfl (fun g44 p44 => rin_spec (o.calls) (0) (4)) ?_
    refine XO.q (Quiet.guardF rfl rfl fun g45 p45 => Q.not (lzv g45 rfl)) ?_
    refine XO.q (Q.or rfl (fun hp => lzv hp rfl)) ?_
    refine XO.q (Q.move rfl) ?_
    refine XO.q (Quiet.guardF rfl rfl fun g48 p48 => Q.fieldAddr rfl) ?_
    refine XO.q (Quiet.guardF rfl rfl fun g49 p49 => Q.ld (lzv g49 rfl) rfl) ?_
    refine XO.gcallF rfl rfl Try.call81 rfl (fun g50 => .c (lzv g50 rfl) (.c rfl (.c rfl .n))) rfl (fun g50 p50 => rin_spec (o.pause) (0) (24)) ?_
    refine XO.q (Quiet.guardF rfl rfl fun g51 p51 => Q.not (lzv g51 rfl)) ?_
    refine XO.q (Q.or rfl (fun hp => lzv hp rfl)) ?_
    refine XO.done ?_
    refine XK.if rfl (fun c1 => ?_) (fun c1 => ?_)
    · have _t1 := True.intro
      have ob : ¬ OfferOk d.hours.length o := fun k => by
        have := k.b0; have := k.bf; have := k.fn; have := k.p0; have := k.p1; have := k.h0; have := k.c0; have := k.c1; have := k.q0; have := k.q1
        omega
      refine XK.seq ?_
      refine XK.region rfl ?_
      refine XO.q (Q.assign rfl) ?_
      refine XO.q (Q.assign rfl) ?_
      refine XO.done ?_
      refine XK.rt [emp, emp] Try.func37 Try.results37 (.t rfl (.t rfl .n)) ?_
      have e : offeredG d o = ([], 100) := by rw [offeredG, if_neg hz, if_pos (fun h => offer_bad ob h)]
      rw [e]
      exact ⟨.slice none 0 0, emp, [], emp, rfl, rfl, nV, RowsK.nil⟩
    · have _t1 := True.intro
      have ofk : OfferOk d.hours.length o := ⟨by omega, by omega, by omega, by omega, by omega, by omega, by omega, by omega, by omega, by omega⟩
      refine XK.skip ?_
      refine XK.seq ?_
      refine XK.region rfl ?_
      refine XO.q (Q.ldA [_, _, _, _, _, _] rfl rfl rfl) ?_
      refine XO.drop (o' := [emp]) ?_
      refine XO.call Try.call82 rfl rfl rfl (rpat_spec o (ofk.wide (by omega)) h63 o.calls.toNat [] (.slice none 0 0) emp o.beg (from_nil o) (by have := ofk.c0; simp; omega)) fun v54 s54 R54 => ?_
      obtain ⟨ho, us, K, rfl, OO, RO⟩ := R54
      dsimp only [List.cons_append, List.nil_append]
      have RL := RO.1
      refine XO.q (Q.assign rfl) ?_
      refine XO.done ?_
      refine XK.seq ?_
      refine XK.seq ?_
      refine XK.region rfl ?_
      refine XO.q (Q.move rfl) ?_
      refine XO.len rfl fun l56 => ?_
      refine XO.q (Q.gtr rfl rfl) ?_
      refine XO.done ?_
      refine XK.if rfl (fun c2 => ?_) (fun c2 => ?_)
      · have _t2 := True.intro
        have pm := patR_many (o := o) (by omega)
        refine XK.seq ?_
        refine XK.region rfl ?_
        refine XO.q (Q.assign rfl) ?_
        refine XO.q (Q.assign rfl) ?_
        refine XO.done ?_
        refine XK.rt [emp, emp] Try.func37 Try.results37 (.t rfl (.t rfl .n)) ?_
        have e : offeredG d o = ([], 8) := by rw [offeredG, if_neg hz, if_neg (fun h => h (offerR_iff.2 ofk)), if_pos pm]
        rw [e]
        exact ⟨.slice none 0 0, emp, [], emp, rfl, rfl, nV, RowsK.nil⟩
      · have _t2 := True.intro
        obtain ⟨pf, pl⟩ := patR_few (o := o) (by omega)
        rw [pf] at RO
        refine XK.skip ?_
        refine XK.seq ?_
        refine XK.region rfl ?_
        refine XO.q (Q.move rfl) ?_
        refine XO.q (Q.assign rfl) ?_
        refine XO.q (Q.assign rfl) ?_
        refine XO.done ?_
        refine XK.rt [ho, K] Try.func37 Try.results37 (.t rfl (.t rfl .n)) ?_
        have e : offeredG d o = (patternsG o, 0) := offered_yes ok ofk (by omega)
        rw [e]
        exact ⟨v54, ho, us, K, rfl, rfl, OO, RO⟩
end Go.X

set_option linter.unusedSimpArgs false
set_option linter.unusedVariables false
set_option maxRecDepth 20000
namespace Go.X
open Go.Proofs
theorem called_yes {o : KOffer} {pat : List Int} {i k : Nat} (hk : k < pat.length) (h : pat.getD k default ≤ (i : Int) ∧ (i : Int) < pat.getD k default + o.hours) : called o pat i = true :=
  List.any_eq_true.2 ⟨_, getD_mem hk, by rw [decide_eq_true h.1, decide_eq_true h.2]; rfl⟩
theorem called_step {o : KOffer} {pat : List Int} {i k : Nat} (hk : k < pat.length) (h : ¬ (pat.getD k default ≤ (i : Int) ∧ (i : Int) < pat.getD k default + o.hours)) (h0 : called o (pat.take k) i = false) : called o (pat.take (k + 1)) i = false := by
  unfold called at h0 ⊢
  rw [any_takeS hk, h0, Bool.false_or, Bool.and_eq_false_iff, decide_eq_false_iff_not, decide_eq_false_iff_not]
  omega
theorem rlimit_spec (d : KDay) (vh vj : Value) (hh hj : PHeap) [ih : Arr vh encHour 6 hh d.hours] [ij : Arr vj encJob 4 hj d.jobs] (p : KPlan) (vs vc : Value) (hs_ hc : PHeap) [js : Arr vs encI 1 hs_ p.starts] [jc : Arr vc encI 1 hc p.charge] (o : KOffer) (pat : List Int) (vt : Value) (ht : PHeap) [jt : Arr vt encI 1 ht pat] (ok : DayOk d) (so : SOk d p.starts) (ofk : OfferOk d.hours.length o) (cl : p.charge.length = d.hours.length) (hr : ∀ i, i < d.hours.length → -1000 ≤ p.charge.getD i default ∧ p.charge.getD i default ≤ 1000) (pc : ∀ k, k < pat.length → Call o (pat.getD k default)) (i : Nat) (hi : i < d.hours.length) : Spec Try.prog 114 #[.agg #[vh, .int .i64 d.store.energy, .int .i64 d.store.full, .int .i64 d.store.power, .int .i64 d.store.fin, vj, .int .i64 d.most, .int .i64 d.peak], .agg #[vs, vc, .int .i64 p.cost], .agg #[.int .i64 o.beg, .int .i64 o.fin, .int .i64 o.power, .int .i64 o.hours, .int .i64 o.calls, .int .i64 o.pause], vt, .int .i64 (i : Nat)] [] [hh, hj, hs_, hc, ht] (fun v hs => v = .int .i64 (limAt d o (needsL d p.starts) p.charge pat i) ∧ hs = []) := by
  have lt := jt.le
  have hri := hr i hi
  have nr := needs_rng ok p.starts hi
  have s1 := ok.store.f0
  have s2 := ok.store.f1
  have s3 := ok.store.p0
  have s4 := ok.store.p1
  have s5 := ok.store.e0
  have s6 := ok.store.e1
  have h1 := ok.h1
  have h24 := ok.h2
  have m0 := ok.m0
  have m1 := ok.m1
  have j2 := ok.j2
  have o1 := ofk.b0
  have o2 := ofk.fn
  have o3 := ofk.h0
  have o4 := ofk.p0
  have o5 := ofk.p1
  refine Spec.intro (fn := Try.f114) (N := 51) Try.func114 rfl Try.ntmps114 rfl fun B => ?_
  refine XK.seq ?_
  refine XK.region rfl ?_
  refine XO.box rfl fun b5 => ?_
  refine XO.box rfl fun b6 => ?_
  refine XO.box rfl fun b7 => ?_
  refine XO.q (Q.assign rfl) ?_
  refine XO.done ?_
  refine XK.seq ?_
  refine XK.seq ?_
  refine XK.region rfl ?_
  refine XO.q (Q.assign rfl) ?_
  refine XO.done ?_
  refine XK.block ?_
  refine XK.while (X := Nat) [10, 11, 12, 13, 14, 15, 16, 17, 18, 19, 20, 21, 22, 23, 24, 25, 26, 27, 28, 29, 30, 31, 32, 33, 34, 35, 36, 37, 38, 39, 40, 41, 42, 43, 44, 45, 46, 47, 48] (fun k => [(11, some (.int .i64 (k : Nat)))]) (fun k => []) (fun k => k ≤ pat.length ∧ called o (pat.take k) i = false) (fun k => pat.length - k) (0) [] rfl ⟨by omega, rfl⟩ (.c rfl (.base 0 rfl rfl)) ?_
  rintro k ⟨hk, hnc⟩ ih0
  dsimp only [List.cons_append, List.nil_append] at ih0 ⊢
  refine XK.seq ?_
  refine XK.seq ?_
  refine XK.region rfl ?_
  refine XO.q (Q.move rfl) ?_
  refine XO.q (Q.move rfl) ?_
  refine XO.len rfl fun l14 => ?_
  refine XO.q (Q.lss rfl rfl) ?_
  refine XO.done ?_
  refine XK.if rfl (fun c0 => ?_) (fun c0 => ?_)
  · have _t0 := True.intro
    have pk := pc k (by omega)
    have pk1 := pk.1
    have pk2 := pk.2
    refine XK.skip ?_
    refine XK.seq ?_
    refine XK.block ?_
    refine XK.seq ?_
    refine XK.drawn [0, 1, 2, 3, 4, 5, 6, 7, 8, 9, 10, 11, 12, 13, 14, 15, 16] [b7] [] (.q 0 (.q 1 (.q 2 (.q 3 (.q 4 (.q 5 (.q 6 (.q 7 (.q 8 (.q 9 (.q 10 (.q 11 (.q 12 (.q 13 (.q 14 (.q 15 (.q 16 .done))))))))))))))))) Try.mixed rfl (by kernel_rfl) ?_
    refine XT.q rfl rfl (Q.move rfl) ?_
    refine XT.q rfl rfl (Q.move rfl) ?_
    refine XT.q rfl rfl (Q.move rfl) ?_
    refine XT.ix rfl rfl rfl rfl (by omega) (by omega) fun i21 => ?_
    refine XT.q rfl rfl (Q.ldE rfl (by first | assumption | omega) rfl) ?_
    refine XT.q rfl rfl (Q.geq rfl rfl) ?_
    refine XT.q rfl rfl (Q.move rfl) ?_
    refine XT.q rfl rfl (Quiet.guardT rfl rfl fun g25 p25 => Q.move rfl) ?_
    refine XT.q rfl rfl (Quiet.guardT rfl rfl fun g26 p26 => Q.move rfl) ?_
    refine XT.q rfl rfl (Quiet.guardT rfl rfl fun g27 p27 => Q.move rfl) ?_
    refine XT.q rfl rfl (Quiet.guardT rfl rfl fun g28 p28 => Q.ix (lzv g28 rfl) (lzv g28 rfl) (by omega) (by omega)) ?_
    refine XT.q rfl rfl (Quiet.guardT rfl rfl fun g29 p29 => Q.ldE (lzv g29 rfl) (by first | assumption | omega) rfl) ?_
    refine XT.q rfl rfl (Quiet.guardT rfl rfl fun g30 p30 => Q.fieldAddr rfl) ?_
    refine XT.q rfl rfl (Quiet.guardT rfl rfl fun g31 p31 => Q.ld (lzv g31 rfl) rfl) ?_
    refine XT.q rfl rfl (Quiet.guardT rfl rfl fun g32 p32 => Q.add (lzv g32 rfl) (lzv g32 rfl) ⟨by omega, by omega⟩) ?_
    refine XT.q rfl rfl (Quiet.guardT rfl rfl fun g33 p33 => Q.lss (lzv g33 rfl) (lzv g33 rfl)) ?_
    refine XT.q rfl rfl (Q.and rfl (fun hp => lzv hp rfl)) ?_
    refine XT.done ?_
    refine XK.if rfl (fun c1 => ?_) (fun c1 => ?_)
    · have _t1 := True.intro
      have cy := called_yes (o := o) (i := i) (show k < pat.length by omega) (by omega)
      refine XK.seq ?_
      refine XK.drawn [0, 1, 2, 3, 4, 5, 6, 7, 8, 11, 12, 10, 13, 14] [b5, b6, b7] [] (.q 0 (.q 1 (.q 2 (.q 3 (.q 4 (.q 5 (.q 6 (.q 7 (.q 8 (.q 11 (.q 12 (.br 9 true (.q 10 (.q 13 (.q 14 .done))) .stop)))))))))))) Try.mixed rfl (by kernel_rfl) ?_
      refine XT.q rfl rfl (Q.ldA [_, _, _, _, _, _, _, _] rfl rfl rfl) ?_
      refine XT.q rfl rfl (Q.fieldAddr rfl) ?_
      refine XT.q rfl rfl (Q.ld rfl rfl) ?_
      refine XT.q rfl rfl (Q.move rfl) ?_
      refine XT.q rfl rfl (Q.fieldAddr rfl) ?_
      refine XT.q rfl rfl (Q.ld rfl rfl) ?_
      refine XT.q rfl rfl (Q.move rfl) ?_
      refine XT.ix rfl rfl rfl rfl (by omega) (by omega) fun i42 => ?_
      refine XT.q rfl rfl (Q.ldE rfl (by first | assumption | omega) rfl) ?_
      refine XT.q rfl rfl (Q.fieldAddr rfl) ?_
      refine XT.q rfl rfl (Q.ld rfl rfl) ?_
      refine XT.call rfl rfl Try.call100 rfl rfl rfl (rneed_spec d vh vj hh hj p.starts vs hs_ ok so i hi (p.charge.getD i default) (by omega) (by omega)) (fun v44 s44 R44 => ?_) XT.stop
      obtain ⟨rfl, rfl⟩ := R44
      dsimp only [List.cons_append, List.nil_append]
      refine ⟨inferInstance, ?_⟩
      refine XT.q rfl rfl (Q.max rfl rfl) ?_
      refine XT.q rfl rfl (Q.sub rfl rfl ⟨by omega, by omega⟩) ?_
      refine XT.q rfl rfl (Q.assign rfl) ?_
      refine XT.done ?_
      refine XK.rt [] Try.func114 Try.results114 (.t rfl .n) ?_
      exact ⟨by rw [limAt, if_pos cy]; rfl, rfl⟩
    · have _t1 := True.intro
      have cn := called_step (o := o) (i := i) (show k < pat.length by omega) (by omega) hnc
      refine XK.skip ?_
      refine XK.inBlock ?_
      refine XK.region rfl ?_
      refine XO.q (Q.move rfl) ?_
      refine XO.q (Q.add rfl rfl ⟨by omega, by omega⟩) ?_
      refine XO.q (Q.assign rfl) ?_
      refine XO.done ?_
      exact ih0 (k + 1) _ _ ⟨by omega, cn⟩ (by first | omega | (dsimp only; omega)) (.c rfl (.base 64 rfl rfl)) inferInstance
  · have _t0 := True.intro
    have hkn : k = pat.length := by omega
    subst hkn
    rw [List.take_length] at hnc
    refine XK.exit rfl ?_
    refine XK.seq ?_
    refine XK.region rfl ?_
    refine XO.q (Q.fieldAddr rfl) ?_
    refine XO.q (Q.ld rfl rfl) ?_
    refine XO.q (Q.assign rfl) ?_
    refine XO.done ?_
    refine XK.rt [] Try.func114 Try.results114 (.t rfl .n) ?_
    exact ⟨by rw [limAt, hnc]; rfl, rfl⟩
theorem gre_all {d : KDay} (so : StoreOk d.store) {e n lim c : Int} (e0 : 0 ≤ e) (e1 : e ≤ d.store.full) (hc : c < -10) (h : ∀ x : Int, c < x → x ≤ 10 → ¬ (((-d.store.power ≤ x ∧ x ≤ d.store.power) ∧ 0 ≤ e + x ∧ e + x ≤ d.store.full) ∧ n + x ≤ lim)) : greC d e lim n < max (-d.store.power) (-e) := by
  have p0 := so.p0; have p1 := so.p1
  unfold greC
  by_cases hg : min (min d.store.power (d.store.full - e)) (lim - n) < max (-d.store.power) (-e)
  · exact hg
  · exact absurd ⟨⟨⟨by omega, by omega⟩, by omega, by omega⟩, by omega⟩ (h (min (min d.store.power (d.store.full - e)) (lim - n)) (by omega) (by omega))
theorem gre_is {d : KDay} (so : StoreOk d.store) {e n lim c : Int} (e0 : 0 ≤ e) (e1 : e ≤ d.store.full) (hp : ((-d.store.power ≤ c ∧ c ≤ d.store.power) ∧ 0 ≤ e + c ∧ e + c ≤ d.store.full) ∧ n + c ≤ lim) (h : ∀ x : Int, c < x → x ≤ 10 → ¬ (((-d.store.power ≤ x ∧ x ≤ d.store.power) ∧ 0 ≤ e + x ∧ e + x ≤ d.store.full) ∧ n + x ≤ lim)) : c = greC d e lim n ∧ ¬ greC d e lim n < max (-d.store.power) (-e) := by
  have p0 := so.p0; have p1 := so.p1
  have h2 : c ≤ greC d e lim n := by unfold greC; omega
  have h3 : ¬ greC d e lim n < max (-d.store.power) (-e) := by omega
  refine ⟨?_, h3⟩
  by_cases hg : c = greC d e lim n
  · exact hg
  · refine absurd ⟨⟨⟨?_, ?_⟩, ?_, ?_⟩, ?_⟩ (h (greC d e lim n) (by omega) ?_) <;> unfold greC at * <;> omega
set_option maxHeartbeats 2000000 in
theorem ranswer_spec (d : KDay) (vh vj : Value) (hh hj : PHeap) [ih : Arr vh encHour 6 hh d.hours] [ij : Arr vj encJob 4 hj d.jobs] (p : KPlan) (vs vc : Value) (hs_ hc : PHeap) [js : Arr vs encI 1 hs_ p.starts] [jc : Arr vc encI 1 hc p.charge] (o : KOffer) (pat : List Int) (vt : Value) (ht : PHeap) [jt : Arr vt encI 1 ht pat] (ok : DayOk d) (so : SOk d p.starts) (ofk : OfferOk d.hours.length o) (cl : p.charge.length = d.hours.length) (hr : ∀ i, i < d.hours.length → -1000 ≤ p.charge.getD i default ∧ p.charge.getD i default ≤ 1000) (pc : ∀ k, k < pat.length → Call o (pat.getD k default)) : Spec Try.prog 86 #[.agg #[vh, .int .i64 d.store.energy, .int .i64 d.store.full, .int .i64 d.store.power, .int .i64 d.store.fin, vj, .int .i64 d.most, .int .i64 d.peak], .agg #[vs, vc, .int .i64 p.cost], .agg #[.int .i64 o.beg, .int .i64 o.fin, .int .i64 o.power, .int .i64 o.hours, .int .i64 o.calls, .int .i64 o.pause], vt] [] [hh, hj, hs_, hc, ht] (fun v hs => ∃ v1 k1, v = .tuple #[v1, .bool (answerG d (needsL d p.starts) p.charge o pat).2] ∧ hs = [k1] ∧ OArr v1 encI 1 3 k1 (answerG d (needsL d p.starts) p.charge o pat).1) := by
  have nI : OArr (.slice none 0 0) encI 1 3 emp ([] : List Int) := OArr.nil (fun _ => rfl)
  have lh := ih.le
  have bl := needsL_len d p.starts
  have s1 := ok.store.f0
  have s2 := ok.store.f1
  have s3 := ok.store.p0
  have s4 := ok.store.p1
  have s5 := ok.store.e0
  have s6 := ok.store.e1
  have h1 := ok.h1
  have h24 := ok.h2
  have m0 := ok.m0
  have m1 := ok.m1
  have j2 := ok.j2
  refine Spec.intro (fn := Try.f86) (N := 80) Try.func86 rfl Try.ntmps86 rfl fun B => ?_
  refine XK.seq ?_
  refine XK.region rfl ?_
  refine XO.box rfl fun b4 => ?_
  refine XO.box rfl fun b5 => ?_
  refine XO.box rfl fun b6 => ?_
  refine XO.q (Q.assign rfl) ?_
  refine XO.q (Q.assign rfl) ?_
  refine XO.done ?_
  refine XK.seq ?_
  refine XK.region rfl ?_
  refine XO.q (Q.assign rfl) ?_
  refine XO.done ?_
  refine XK.seq ?_
  refine XK.region rfl ?_
  refine XO.q (Q.fieldAddr rfl) ?_
  refine XO.q (Q.fieldAddr rfl) ?_
  refine XO.q (Q.ld rfl rfl) ?_
  refine XO.q (Q.assign rfl) ?_
  refine XO.done ?_
  refine XK.seq ?_
  refine XK.seq ?_
  refine XK.region rfl ?_
  refine XO.q (Q.assign rfl) ?_
  refine XO.done ?_
  refine XK.block ?_
  refine XK.while (X := Nat × Value × PHeap) [8, 9, 10, 11, 12, 13, 17, 18, 19, 20, 21, 22, 23, 24, 25, 26, 27, 28, 29, 30, 31, 32, 33, 34, 35, 36, 37, 38, 39, 40, 41, 42, 43, 44, 45, 46, 47, 48, 49, 50, 51, 52, 53, 54, 55, 56, 57, 58, 59, 60, 61, 62, 63, 64, 65, 66, 67, 68, 69, 70, 71, 72, 73] (fun ⟨i, vo, ko⟩ => [(12, some (.int .i64 (i : Nat))), (10, some (vo)), (11, some (.int .i64 (ansTo d (needsL d p.starts) (limL d o (needsL d p.starts) p.charge pat) i).e))]) (fun ⟨i, vo, ko⟩ => [ko]) (fun ⟨i, vo, ko⟩ => i ≤ d.hours.length ∧ (ansTo d (needsL d p.starts) (limL d o (needsL d p.starts) p.charge pat) i).ok = true ∧ OArr vo encI 1 3 ko (ansTo d (needsL d p.starts) (limL d o (needsL d p.starts) p.charge pat) i).l) (fun ⟨i, vo, ko⟩ => d.hours.length - i) (0, .slice none 0 0, emp) [emp] rfl ⟨by omega, rfl, nI⟩ (.c rfl (.c rfl (.c rfl (.base 0 rfl rfl)))) ?_
  rintro ⟨i, vo, ko⟩ ⟨hi, hok, OA⟩ ih0
  dsimp only [List.cons_append, List.nil_append] at ih0 ⊢
  refine XK.seq ?_
  refine XK.seq ?_
  refine XK.region rfl ?_
  refine XO.q (Q.move rfl) ?_
  refine XO.q (Q.fieldAddr rfl) ?_
  refine XO.q (Q.ld rfl rfl) ?_
  refine XO.len rfl fun l20 => ?_
  refine XO.q (Q.lss rfl rfl) ?_
  refine XO.done ?_
  refine XK.if rfl (fun c0 => ?_) (fun c0 => ?_)
  · have _t0 := True.intro
    obtain ⟨⟨al, _, _⟩, e0, e1⟩ := ans_to ok.store i hok
    have le : (limL d o (needsL d p.starts) p.charge pat).getD i default = (limAt d o (needsL d p.starts) p.charge pat i) := by rw [limL, range_at (by omega)]
    have nr := needs_rng ok p.starts (show i < d.hours.length by omega)
    refine XK.skip ?_
    refine XK.seq ?_
    refine XK.block ?_
    refine XK.seq ?_
    refine XK.region rfl ?_
    refine XO.q (Q.assign rfl) ?_
    refine XO.done ?_
    refine XK.seq ?_
    refine XK.block ?_
    refine XK.while (X := Int) [13, 24, 25, 26, 27, 28, 29, 30, 31, 32, 33, 34, 35, 36, 37, 38, 39, 40, 41, 42, 43, 44, 45, 46, 47, 48, 49, 50, 51, 52, 53, 54, 55, 56, 57, 58, 59, 60, 61, 62, 63] (fun c => [(13, some (.int .i64 c))]) (fun c => []) (fun c => (-11 ≤ c ∧ c ≤ 10) ∧ ∀ x : Int, c < x → x ≤ 10 → ¬ (((-d.store.power ≤ x ∧ x ≤ d.store.power) ∧ 0 ≤ (ansTo d (needsL d p.starts) (limL d o (needsL d p.starts) p.charge pat) i).e + x ∧ (ansTo d (needsL d p.starts) (limL d o (needsL d p.starts) p.charge pat) i).e + x ≤ d.store.full) ∧ ((needsL d p.starts).getD i default) + x ≤ (limAt d o (needsL d p.starts) p.charge pat i))) (fun c => (c + 11).toNat) (10) [] rfl ⟨by omega, fun x h1 h2 => by omega⟩ (.c rfl (.base 0 rfl rfl)) ?_
    rintro c ⟨hcr, hx⟩ ih1
    dsimp only [List.cons_append, List.nil_append] at ih1 ⊢
    refine XK.seq ?_
    refine XK.seq ?_
    refine XK.drawn [0, 1, 2, 3, 4, 5, 6, 7, 8, 9, 10, 12, 13, 14, 15, 16, 17, 18, 20, 21, 22, 23, 24, 25, 26, 28, 29, 30, 31, 32, 34, 35, 36, 37] [b4, b5, b6] [] (.q 0 (.q 1 (.q 2 (.q 3 (.q 4 (.q 5 (.q 6 (.q 7 (.q 8 (.q 9 (.q 10 (.br 11 true (.q 12 (.q 13 (.q 14 (.q 15 (.q 16 (.q 17 (.q 18 (.br 19 true (.q 20 (.q 21 (.q 22 (.q 23 (.q 24 (.q 25 (.q 26 (.q 28 (.q 29 (.q 30 (.q 31 (.q 32 (.br 27 true (.br 33 true (.q 34 (.q 35 (.q 36 (.q 37 .done)))) .stop) .stop))))))))))))) .stop)))))))) .stop)))))))))))) Try.mixed rfl (by kernel_rfl) ?_
    refine XT.q rfl rfl (Q.move rfl) ?_
    refine XT.q rfl rfl (Q.geq rfl rfl) ?_
    refine XT.q rfl rfl (Q.move rfl) ?_
    refine XT.q rfl rfl (Quiet.guardT rfl rfl fun g27 p27 => Q.move rfl) ?_
    refine XT.q rfl rfl (Quiet.guardT rfl rfl fun g28 p28 => Q.fieldAddr rfl) ?_
    refine XT.q rfl rfl (Quiet.guardT rfl rfl fun g29 p29 => Q.fieldAddr (lzv g29 rfl)) ?_
    refine XT.q rfl rfl (Quiet.guardT rfl rfl fun g30 p30 => Q.ld (lzv g30 rfl) rfl) ?_
    refine XT.q rfl rfl (Quiet.guardT rfl rfl fun g31 p31 => Q.neg (lzv g31 rfl) ⟨by omega, by omega⟩) ?_
    rw [show (0 : Int) - d.store.power = -d.store.power by omega]
    refine XT.q rfl rfl (Quiet.guardT rfl rfl fun g32 p32 => Q.fieldAddr rfl) ?_
    refine XT.q rfl rfl (Quiet.guardT rfl rfl fun g33 p33 => Q.fieldAddr (lzv g33 rfl)) ?_
    refine XT.q rfl rfl (Quiet.guardT rfl rfl fun g34 p34 => Q.ld (lzv g34 rfl) rfl) ?_
    refine XT.gcallT rfl rfl rfl rfl Try.call81 rfl (fun g35 => .c (lzv g35 rfl) (.c (lzv g35 rfl) (.c (lzv g35 rfl) .n))) rfl (fun g35 p35 => rin_spec (c) (-d.store.power) (d.store.power)) ⟨inferInstance, ?_⟩ XT.stop
    refine XT.q rfl rfl (Quiet.guardT rfl rfl fun g36 p36 => Q.move (lzv g36 rfl)) ?_
    refine XT.q rfl rfl (Quiet.guard2 rfl rfl fun g37a g37b => have p37a := bpT g37a; have p37b := bpT g37b; Q.move rfl) ?_
    refine XT.q rfl rfl (Quiet.guard2 rfl rfl fun g38a g38b => have p38a := bpT g38a; have p38b := bpT g38b; Q.move rfl) ?_
    refine XT.q rfl rfl (Quiet.guard2 rfl rfl fun g39a g39b => have p39a := bpT g39a; have p39b := bpT g39b; Q.add (lzv g39b (lzv g39a rfl)) (lzv g39b (lzv g39a rfl)) ⟨by omega, by omega⟩) ?_
    refine XT.q rfl rfl (Quiet.guard2 rfl rfl fun g40a g40b => have p40a := bpT g40a; have p40b := bpT g40b; Q.fieldAddr rfl) ?_
    refine XT.q rfl rfl (Quiet.guard2 rfl rfl fun g41a g41b => have p41a := bpT g41a; have p41b := bpT g41b; Q.fieldAddr (lzv g41b (lzv g41a rfl))) ?_
    refine XT.q rfl rfl (Quiet.guard2 rfl rfl fun g42a g42b => have p42a := bpT g42a; have p42b := bpT g42b; Q.ld (lzv g42b (lzv g42a rfl)) rfl) ?_
    refine XT.vg2 rfl rfl rfl rfl (fun g43a g43b => rfl) (fun g43a g43b => .c (lzv g43b (lzv g43a rfl)) (.c rfl (.c (lzv g43b (lzv g43a rfl)) .n))) (fun g43a g43b => have p43a := bpT g43a; have p43b := bpT g43b; VSpec.fn (P := Try.prog) Try.call81 rfl (rin_spec ((ansTo d (needsL d p.starts) (limL d o (needsL d p.starts) p.charge pat) i).e + c) (0) (d.store.full))) ⟨inferInstance, ?_⟩ XT.stop
    refine XT.q rfl rfl (Quiet.guardT rfl rfl fun g44 p44 => Q.and (lzv g44 rfl) (fun hp => (lzv hp (lzv g44 rfl)))) ?_
    refine XT.q rfl rfl (Quiet.guardT rfl rfl fun g45 p45 => Q.move (lzv g45 rfl)) ?_
    refine XT.q rfl rfl (Quiet.guard2 rfl rfl fun g46a g46b => have p46a := bpT g46a; have p46b := bpT g46b; Q.ldA [_, _, _, _, _, _, _, _] rfl rfl rfl) ?_
    refine XT.q rfl rfl (Quiet.guard2 rfl rfl fun g47a g47b => have p47a := bpT g47a; have p47b := bpT g47b; Q.fieldAddr rfl) ?_
    refine XT.q rfl rfl (Quiet.guard2 rfl rfl fun g48a g48b => have p48a := bpT g48a; have p48b := bpT g48b; Q.ld (lzv g48b (lzv g48a rfl)) rfl) ?_
    refine XT.q rfl rfl (Quiet.guard2 rfl rfl fun g49a g49b => have p49a := bpT g49a; have p49b := bpT g49b; Q.move rfl) ?_
    refine XT.q rfl rfl (Quiet.guard2 rfl rfl fun g50a g50b => have p50a := bpT g50a; have p50b := bpT g50b; Q.move rfl) ?_
    refine XT.q rfl rfl (Quiet.guard2 rfl rfl fun g52a g52b => have p52a := bpT g52a; have p52b := bpT g52b; Q.ldA [_, _, _, _, _, _, _, _] rfl rfl rfl) ?_
    refine XT.q rfl rfl (Quiet.guard2 rfl rfl fun g53a g53b => have p53a := bpT g53a; have p53b := bpT g53b; Q.ldA [_, _, _] rfl rfl rfl) ?_
    refine XT.q rfl rfl (Quiet.guard2 rfl rfl fun g54a g54b => have p54a := bpT g54a; have p54b := bpT g54b; Q.ldA [_, _, _, _, _, _] rfl rfl rfl) ?_
    refine XT.q rfl rfl (Quiet.guard2 rfl rfl fun g55a g55b => have p55a := bpT g55a; have p55b := bpT g55b; Q.move rfl) ?_
    refine XT.q rfl rfl (Quiet.guard2 rfl rfl fun g56a g56b => have p56a := bpT g56a; have p56b := bpT g56b; Q.move rfl) ?_
    refine XT.vg2 rfl rfl rfl rfl (fun g51a g51b => rfl) (fun g51a g51b => .c (lzv g51b (lzv g51a rfl)) (.c (lzv g51b (lzv g51a rfl)) (.c (lzv g51b (lzv g51a rfl)) (.c (lzv g51b (lzv g51a rfl)) .n)))) (fun g51a g51b => have p51a := bpT g51a; have p51b := bpT g51b; VSpec.fn (P := Try.prog) Try.call100 rfl (rneed_spec d vh vj hh hj p.starts vs hs_ ok so i (by omega) c (by omega) (by omega))) ⟨inferInstance, ?_⟩ XT.stop
    refine XT.vg2 rfl rfl rfl rfl (fun g57a g57b => rfl) (fun g57a g57b => .c (lzv g57b (lzv g57a rfl)) (.c (lzv g57b (lzv g57a rfl)) (.c (lzv g57b (lzv g57a rfl)) (.c (lzv g57b (lzv g57a rfl)) (.c (lzv g57b (lzv g57a rfl)) .n))))) (fun g57a g57b => have p57a := bpT g57a; have p57b := bpT g57b; VSpec.fn (P := Try.prog) Try.call114 rfl (rlimit_spec d vh vj hh hj p vs vc hs_ hc o pat vt ht ok so ofk cl hr pc i (by omega))) ⟨inferInstance, ?_⟩ XT.stop
    refine XT.q rfl rfl (Quiet.guard2 rfl rfl fun g58a g58b => have p58a := bpT g58a; have p58b := bpT g58b; Q.leq (lzv g58b (lzv g58a rfl)) (lzv g58b (lzv g58a rfl))) ?_
    refine XT.q rfl rfl (Quiet.guardT rfl rfl fun g59 p59 => Q.and (lzv g59 rfl) (fun hp => (lzv hp (lzv g59 rfl)))) ?_
    refine XT.q rfl rfl (Quiet.guardT rfl rfl fun g60 p60 => Q.not (lzv g60 rfl)) ?_
    refine XT.q rfl rfl (Q.and rfl (fun hp => lzv hp rfl)) ?_
    refine XT.done ?_
    refine XK.if rfl (fun c1 => ?_) (fun c1 => ?_)
    · have _t1 := True.intro
      refine XK.skip ?_
      refine XK.block ?_
      refine XK.region rfl ?_
      refine XO.q (Q.move rfl) ?_
      refine XO.q (Q.sub rfl rfl ⟨by omega, by omega⟩) ?_
      refine XO.q (Q.assign rfl) ?_
      refine XO.done ?_
      refine XK.inBlock ?_
      exact ih1 (c - 1) _ _ ⟨by omega, fun x h1 h2 => by
        by_cases hxc : c < x
        · exact hx x hxc h2
        · obtain rfl : x = c := by omega
          omega⟩ (by first | omega | (dsimp only; omega)) (.c rfl (.base 83 rfl rfl)) inferInstance
    · have _t1 := True.intro
      refine XK.exit rfl ?_
      refine XK.seq ?_
      refine XK.seq ?_
      refine XK.region rfl ?_
      refine XO.q (Q.move rfl) ?_
      refine XO.q (Q.lss rfl rfl) ?_
      refine XO.done ?_
      refine XK.if rfl (fun c2 => ?_) (fun c2 => ?_)
      · have _t2 := True.intro
        have ga := gre_all ok.store (n := ((needsL d p.starts).getD i default)) (lim := (limAt d o (needsL d p.starts) p.charge pat i)) e0 e1 c2 hx
        rw [← le] at ga
        have he : (ansTo d (needsL d p.starts) (limL d o (needsL d p.starts) p.charge pat) (i + 1)) = ⟨(ansTo d (needsL d p.starts) (limL d o (needsL d p.starts) p.charge pat) i).l, (ansTo d (needsL d p.starts) (limL d o (needsL d p.starts) p.charge pat) i).e, false⟩ := by rw [ansTo, if_pos hok, if_pos ga]
        have hs : (ansTo d (needsL d p.starts) (limL d o (needsL d p.starts) p.charge pat) d.hours.length) = (ansTo d (needsL d p.starts) (limL d o (needsL d p.starts) p.charge pat) (i + 1)) := ansTo_stay (by rw [he]) _ (by omega)
        refine XK.seq ?_
        refine XK.region rfl ?_
        refine XO.q (Q.move rfl) ?_
        refine XO.q (Q.assign rfl) ?_
        refine XO.q (Q.assign rfl) ?_
        refine XO.done ?_
        refine XK.rt [ko] Try.func86 Try.results86 (.t rfl (.t rfl .n)) ?_
        rw [answerG, bl, hs, he]
        exact ⟨vo, ko, rfl, rfl, OA⟩
      · have _t2 := True.intro
        have gi := gre_is ok.store (n := ((needsL d p.starts).getD i default)) (lim := (limAt d o (needsL d p.starts) p.charge pat i)) (c := c) e0 e1 (by omega) hx
        rw [← le] at gi
        have gc := gi.1
        have gn := gi.2
        have he : (ansTo d (needsL d p.starts) (limL d o (needsL d p.starts) p.charge pat) (i + 1)) = ⟨(ansTo d (needsL d p.starts) (limL d o (needsL d p.starts) p.charge pat) i).l ++ [(greC d (ansTo d (needsL d p.starts) (limL d o (needsL d p.starts) p.charge pat) i).e ((limL d o (needsL d p.starts) p.charge pat).getD i default) ((needsL d p.starts).getD i default))], (ansTo d (needsL d p.starts) (limL d o (needsL d p.starts) p.charge pat) i).e + (greC d (ansTo d (needsL d p.starts) (limL d o (needsL d p.starts) p.charge pat) i).e ((limL d o (needsL d p.starts) p.charge pat).getD i default) ((needsL d p.starts).getD i default)), true⟩ := by rw [ansTo, if_pos hok, if_neg gn]
        rw [← gc] at he
        refine XK.skip ?_
        refine XK.seq ?_
        refine XK.region rfl ?_
        refine XO.q (Q.move rfl) ?_
        refine XO.q (Q.move rfl) ?_
        refine XO.lit [_] [_] [c] encI (by rfl) (by rfl) rfl (by rfl) (by exact .c 0 1 rfl rfl rfl (.n _)) (fun _ => rfl) (by rfl) rfl (by infer_instance) rfl fun v69 h69 O69 => ?_
        refine XO.append rfl rfl rfl rfl (by simp only [List.length_cons, List.length_nil]; omega) fun v70 h70 O70 => ?_
        refine XO.q (Q.assign rfl) ?_
        refine XO.done ?_
        refine XK.region rfl ?_
        refine XO.q (Q.move rfl) ?_
        refine XO.q (Q.move rfl) ?_
        refine XO.q (Q.add rfl rfl ⟨by omega, by omega⟩) ?_
        refine XO.q (Q.assign rfl) ?_
        refine XO.done ?_
        refine XK.inBlock ?_
        refine XK.region rfl ?_
        refine XO.q (Q.move rfl) ?_
        refine XO.q (Q.add rfl rfl ⟨by omega, by omega⟩) ?_
        refine XO.q (Q.assign rfl) ?_
        refine XO.done ?_
        rw [show (ansTo d (needsL d p.starts) (limL d o (needsL d p.starts) p.charge pat) i).e + c = (ansTo d (needsL d p.starts) (limL d o (needsL d p.starts) p.charge pat) (i + 1)).e by rw [he]]
        exact ih0 (i + 1, v70, h70) _ _ ⟨by dsimp only; omega, by dsimp only; rw [he], by dsimp only; rw [he]; exact O70⟩ (by first | omega | (dsimp only; omega)) (.c rfl (.c rfl (.c rfl (.base 166 rfl rfl)))) inferInstance
  · have _t0 := True.intro
    have hin : i = d.hours.length := by omega
    rw [← bl] at hin
    subst hin
    refine XK.exit rfl ?_
    refine XK.seq ?_
    refine XK.drawn [0, 1, 2, 3, 4, 5, 6, 7] [b4] [] (.q 0 (.q 1 (.q 2 (.q 3 (.q 4 (.q 5 (.q 6 (.q 7 .done)))))))) Try.mixed rfl (by kernel_rfl) ?_
    refine XT.q rfl rfl (Q.move rfl) ?_
    refine XT.q rfl rfl (Q.move rfl) ?_
    refine XT.q rfl rfl (Q.fieldAddr rfl) ?_
    refine XT.q rfl rfl (Q.fieldAddr rfl) ?_
    refine XT.q rfl rfl (Q.ld rfl rfl) ?_
    refine XT.q rfl rfl (Q.geq rfl rfl) ?_
    refine XT.q rfl rfl (Q.assign rfl) ?_
    refine XT.q rfl rfl (Q.assign rfl) ?_
    refine XT.done ?_
    refine XK.rt [ko] Try.func86 Try.results86 (.t rfl (.t rfl .n)) ?_
    rw [answerG, hok]
    exact ⟨vo, ko, rfl, rfl, OA⟩
end Go.X

set_option linter.unusedSimpArgs false
set_option linter.unusedVariables false
set_option maxRecDepth 20000
namespace Go.X
open Go.Proofs
set_option maxHeartbeats 1000000 in
theorem rAnswer_spec (d : KDay) (vh vj : Value) (hh hj : PHeap) [ih : Arr vh encHour 6 hh d.hours] [ij : Arr vj encJob 4 hj d.jobs] (p : KPlan) (vs vc : Value) (hs_ hc : PHeap) [js : Arr vs encI 1 hs_ p.starts] [jc : Arr vc encI 1 hc p.charge] (o : KOffer) (h63 : o.hours ≤ 9223372036854775807) (pat : List Int) (vt : Value) (ht : PHeap) [jt : Arr vt encI 1 ht pat] : Spec Try.prog 40 #[.agg #[vh, .int .i64 d.store.energy, .int .i64 d.store.full, .int .i64 d.store.power, .int .i64 d.store.fin, vj, .int .i64 d.most, .int .i64 d.peak], .agg #[vs, vc, .int .i64 p.cost], .agg #[.int .i64 o.beg, .int .i64 o.fin, .int .i64 o.power, .int .i64 o.hours, .int .i64 o.calls, .int .i64 o.pause], vt] [] [hh, hj, hs_, hc, ht] (fun v hs => ∃ v1 k1, v = .tuple #[v1, .bool (AnswerG d p o pat).2.1, .int .i64 (AnswerG d p o pat).2.2] ∧ hs = [k1] ∧ OArr v1 encI 1 3 k1 (AnswerG d p o pat).1) := by
  have nI : OArr (.slice none 0 0) encI 1 3 emp ([] : List Int) := OArr.nil (fun _ => rfl)
  refine Spec.intro (fn := Try.f40) (N := 54) Try.func40 rfl Try.ntmps40 rfl fun B => ?_
  refine XK.seq ?_
  refine XK.region rfl ?_
  refine XO.box rfl fun b4 => ?_
  refine XO.box rfl fun b5 => ?_
  refine XO.box rfl fun b6 => ?_
  refine XO.q (Q.assign rfl) ?_
  refine XO.q (Q.assign rfl) ?_
  refine XO.q (Q.assign rfl) ?_
  refine XO.done ?_
  refine XK.seq ?_
  refine XK.region rfl ?_
  refine XO.q (Q.ldA [_, _, _, _, _, _, _, _] rfl rfl rfl) ?_
  refine XO.q (Q.ldA [_, _, _, _, _, _] rfl rfl rfl) ?_
  refine XO.call Try.call37 rfl rfl rfl (rPatterns_spec d vh vj hh hj o h63) fun v20 s20 R20 => ?_
  obtain ⟨vo, ho, us, K, rfl, rfl, OO, RO⟩ := R20
  dsimp only [List.cons_append, List.nil_append]
  refine XO.q (Q.move rfl) ?_
  refine XO.q (Q.extract rfl rfl) ?_
  refine XO.q (Q.extract rfl rfl) ?_
  refine XO.q (Q.assign rfl) ?_
  refine XO.q (Q.assign rfl) ?_
  refine XO.done ?_
  refine XK.seq ?_
  refine XK.seq ?_
  refine XK.region rfl ?_
  refine XO.q (Q.move rfl) ?_
  refine XO.q (Q.neq rfl rfl) ?_
  refine XO.done ?_
  refine XK.if rfl (fun c0 => ?_) (fun c0 => ?_)
  · have _t0 := True.intro
    refine XK.seq ?_
    refine XK.region rfl ?_
    refine XO.q (Q.move rfl) ?_
    refine XO.q (Q.assign rfl) ?_
    refine XO.q (Q.assign rfl) ?_
    refine XO.q (Q.assign rfl) ?_
    refine XO.done ?_
    refine XK.rt [emp] Try.func40 Try.results40 (.t rfl (.t rfl (.t rfl .n))) ?_
    have e : AnswerG d p o pat = ([], false, (offeredG d o).2) := by rw [AnswerG, show readyG d p o = (offeredG d o).2 by rw [readyG, if_pos c0], if_pos c0]
    rw [e]
    exact ⟨.slice none 0 0, emp, rfl, rfl, nI⟩
  · have _t0 := True.intro
    have hz := c0
    have of1 := offered_fine (Decidable.of_not_not c0)
    rw [of1.2.2.1] at RO
    have RL := RO.1
    refine XK.skip ?_
    refine XK.seq ?_
    refine XK.seq ?_
    refine XK.region rfl ?_
    refine XO.q (Q.ldA [_, _, _, _, _, _, _, _] rfl rfl rfl) ?_
    refine XO.q (Q.ldA [_, _, _] rfl rfl rfl) ?_
    refine XO.call Try.call84 rfl rfl rfl (rForm_spec d vh vj hh hj p vs vc hs_ hc) fun v28 s28 R28 => ?_
    obtain ⟨rfl, rfl⟩ := R28
    dsimp only [List.cons_append, List.nil_append]
    refine XO.q (Q.assign rfl) ?_
    refine XO.done ?_
    refine XK.seq ?_
    refine XK.region rfl ?_
    refine XO.q (Q.move rfl) ?_
    refine XO.q (Q.neq rfl rfl) ?_
    refine XO.done ?_
    refine XK.if rfl (fun c1 => ?_) (fun c1 => ?_)
    · have _t1 := True.intro
      refine XK.seq ?_
      refine XK.region rfl ?_
      refine XO.q (Q.move rfl) ?_
      refine XO.q (Q.assign rfl) ?_
      refine XO.q (Q.assign rfl) ?_
      refine XO.q (Q.assign rfl) ?_
      refine XO.done ?_
      refine XK.rt [emp] Try.func40 Try.results40 (.t rfl (.t rfl (.t rfl .n))) ?_
      have e : AnswerG d p o pat = ([], false, (formG d p).2) := by rw [AnswerG, show readyG d p o = (formG d p).2 by rw [readyG, if_neg hz], if_pos c1]
      rw [e]
      exact ⟨.slice none 0 0, emp, rfl, rfl, nI⟩
    · have _t1 := True.intro
      have ff := form_fine (Decidable.of_not_not c1)
      have rz : readyG d p o = 0 := by rw [readyG, if_neg hz]; exact Decidable.of_not_not c1
      have fy := form_needs (Decidable.of_not_not c1)
      obtain ⟨po, sm, ok, cl, st, cr⟩ := plan_rng fy
      have so := starts_ok sm
      have chr : ∀ i, i < d.hours.length → -1000 ≤ p.charge.getD i default ∧ p.charge.getD i default ≤ 1000 := fun i hi => by have := okAt_iffK.1 (po.ok i hi); have := ok.store.p0; have := ok.store.p1; omega
      have fb : (formG d p).1 = needsL d p.starts := ff.2.2.2.2.2.2
      refine XK.skip ?_
      refine XK.seq ?_
      refine XK.seq ?_
      refine XK.region rfl ?_
      refine XO.q (Q.assign rfl) ?_
      refine XO.done ?_
      refine XK.block ?_
      refine XK.while (X := Nat) [8, 9, 10, 14, 15, 16, 32, 33, 34, 35, 36, 37, 38, 39, 40, 41, 42, 43, 44, 45, 46, 47, 48, 49, 50, 51, 52, 53] (fun i => [(14, some (.int .i64 (i : Nat)))]) (fun i => []) (fun i => i ≤ us.length ∧ ((patternsG o).take i).any (fun x => decide (x = pat)) = false) (fun i => us.length - i) (0) [] rfl ⟨by omega, rfl⟩ (.c rfl (.base 0 rfl rfl)) ?_
      rintro i ⟨hi, hn⟩ ih0
      dsimp only [List.cons_append, List.nil_append] at ih0 ⊢
      refine XK.seq ?_
      refine XK.seq ?_
      refine XK.region rfl ?_
      refine XO.q (Q.move rfl) ?_
      refine XO.q (Q.move rfl) ?_
      refine XO.len rfl fun l34 => ?_
      refine XO.q (Q.lss rfl rfl) ?_
      refine XO.done ?_
      refine XK.if rfl (fun c2 => ?_) (fun c2 => ?_)
      · have _t2 := True.intro
        have ai := RO.2 i (by omega)
        have ats := any_takeS (p := fun x => decide (x = pat)) (show i < (patternsG o).length by omega)
        refine XK.skip ?_
        refine XK.seq ?_
        refine XK.block ?_
        refine XK.seq ?_
        refine XK.region rfl ?_
        refine XO.q (Q.move rfl) ?_
        refine XO.q (Q.move rfl) ?_
        refine XO.ix rfl rfl (by omega) (by omega) fun i40 => ?_
        refine XO.q (Q.ldE rfl (by first | assumption | omega) rfl) ?_
        refine XO.q (Q.move rfl) ?_
        refine XO.call Try.call85 rfl rfl rfl (sameInts (us.getD i default) vt K ht ((patternsG o).getD i default) pat) fun v43 s43 R43 => ?_
        obtain ⟨rfl, rfl⟩ := R43
        dsimp only [List.cons_append, List.nil_append]
        refine XO.done ?_
        refine XK.if rfl (fun c3 => ?_) (fun c3 => ?_)
        · have _t3 := True.intro
          have pm : pat ∈ patternsG o := c3 ▸ getD_mem (by omega)
          have pc : ∀ k, k < pat.length → Call o (pat.getD k default) := fun k hk => patterns_calls of1.2.1 pm _ (getD_mem hk)
          have anyT : (patternsG o).any (fun x => decide (x = pat)) = true := List.any_eq_true.2 ⟨pat, pm, decide_eq_true rfl⟩
          refine XK.seq ?_
          refine XK.region rfl ?_
          refine XO.q (Q.ldA [_, _, _, _, _, _, _, _] rfl rfl rfl) ?_
          refine XO.q (Q.ldA [_, _, _] rfl rfl rfl) ?_
          refine XO.q (Q.ldA [_, _, _, _, _, _] rfl rfl rfl) ?_
          refine XO.q (Q.move rfl) ?_
          refine XO.call Try.call86 rfl rfl rfl (ranswer_spec d vh vj hh hj p vs vc hs_ hc o pat vt ht ok so of1.2.1 cl chr pc) fun v49 s49 R49 => ?_
          obtain ⟨v1, k1, rfl, rfl, O1⟩ := R49
          dsimp only [List.cons_append, List.nil_append]
          refine XO.q (Q.move rfl) ?_
          refine XO.q (Q.extract rfl rfl) ?_
          refine XO.q (Q.extract rfl rfl) ?_
          refine XO.q (Q.assign rfl) ?_
          refine XO.q (Q.assign rfl) ?_
          refine XO.done ?_
          refine XK.seq ?_
          refine XK.region rfl ?_
          refine XO.q (Q.move rfl) ?_
          refine XO.q (Q.move rfl) ?_
          refine XO.q (Q.assign rfl) ?_
          refine XO.q (Q.assign rfl) ?_
          refine XO.q (Q.assign rfl) ?_
          refine XO.done ?_
          refine XK.rt [k1] Try.func40 Try.results40 (.t rfl (.t rfl (.t rfl .n))) ?_
          have e : AnswerG d p o pat = ((answerG d (needsL d p.starts) p.charge o pat).1, (answerG d (needsL d p.starts) p.charge o pat).2, 0) := by rw [AnswerG, rz, if_neg (by decide), if_neg (fun h => h anyT), fb]
          rw [e]
          exact ⟨v1, k1, rfl, rfl, O1⟩
        · have _t3 := True.intro
          refine XK.skip ?_
          refine XK.inBlock ?_
          refine XK.region rfl ?_
          refine XO.q (Q.move rfl) ?_
          refine XO.q (Q.add rfl rfl ⟨by omega, by omega⟩) ?_
          refine XO.q (Q.assign rfl) ?_
          refine XO.done ?_
          exact ih0 (i + 1) _ _ ⟨by omega, by rw [ats, hn, decide_eq_false c3]; rfl⟩ (by first | omega | (dsimp only; omega)) (.c rfl (.base 42 rfl rfl)) inferInstance
      · have _t2 := True.intro
        rw [List.take_of_length_le (by omega)] at hn
        refine XK.exit rfl ?_
        refine XK.seq ?_
        refine XK.region rfl ?_
        refine XO.q (Q.assign rfl) ?_
        refine XO.q (Q.assign rfl) ?_
        refine XO.q (Q.assign rfl) ?_
        refine XO.done ?_
        refine XK.rt [emp] Try.func40 Try.results40 (.t rfl (.t rfl (.t rfl .n))) ?_
        have e : AnswerG d p o pat = ([], false, 1) := by rw [AnswerG, rz, if_neg (by decide), if_pos (by rw [hn]; decide)]
        rw [e]
        exact ⟨.slice none 0 0, emp, rfl, rfl, nI⟩
set_option maxHeartbeats 1000000 in
theorem rDeliver_spec (d : KDay) (vh vj : Value) (hh hj : PHeap) [ih : Arr vh encHour 6 hh d.hours] [ij : Arr vj encJob 4 hj d.jobs] (p : KPlan) (vs vc : Value) (hs_ hc : PHeap) [js : Arr vs encI 1 hs_ p.starts] [jc : Arr vc encI 1 hc p.charge] (o : KOffer) (h63 : o.hours ≤ 9223372036854775807) : Spec Try.prog 41 #[.agg #[vh, .int .i64 d.store.energy, .int .i64 d.store.full, .int .i64 d.store.power, .int .i64 d.store.fin, vj, .int .i64 d.most, .int .i64 d.peak], .agg #[vs, vc, .int .i64 p.cost], .agg #[.int .i64 o.beg, .int .i64 o.fin, .int .i64 o.power, .int .i64 o.hours, .int .i64 o.calls, .int .i64 o.pause]] [] [hh, hj, hs_, hc] (fun v hs => ∃ v1 k1, v = .tuple #[.bool (DeliverG d p o).1, v1, .int .i64 (DeliverG d p o).2.2] ∧ hs = [k1] ∧ One v1 ∧ Arr v1 encI 1 k1 (DeliverG d p o).2.1) := by
  have nI : OArr (.slice none 0 0) encI 1 3 emp ([] : List Int) := OArr.nil (fun _ => rfl)
  have nA : Arr (.slice none 0 0) encI 1 emp ([] : List Int) := OArr.arr (s := nI)
  refine Spec.intro (fn := Try.f41) (N := 53) Try.func41 rfl Try.ntmps41 rfl fun B => ?_
  refine XK.seq ?_
  refine XK.region rfl ?_
  refine XO.box rfl fun b3 => ?_
  refine XO.box rfl fun b4 => ?_
  refine XO.box rfl fun b5 => ?_
  refine XO.q (Q.assign rfl) ?_
  refine XO.q (Q.assign rfl) ?_
  refine XO.q (Q.assign rfl) ?_
  refine XO.done ?_
  refine XK.seq ?_
  refine XK.region rfl ?_
  refine XO.q (Q.ldA [_, _, _, _, _, _, _, _] rfl rfl rfl) ?_
  refine XO.q (Q.ldA [_, _, _, _, _, _] rfl rfl rfl) ?_
  refine XO.call Try.call37 rfl rfl rfl (rPatterns_spec d vh vj hh hj o h63) fun v18 s18 R18 => ?_
  obtain ⟨vo, ho, us, K, rfl, rfl, OO, RO⟩ := R18
  dsimp only [List.cons_append, List.nil_append]
  refine XO.q (Q.move rfl) ?_
  refine XO.q (Q.extract rfl rfl) ?_
  refine XO.q (Q.extract rfl rfl) ?_
  refine XO.q (Q.assign rfl) ?_
  refine XO.q (Q.assign rfl) ?_
  refine XO.done ?_
  refine XK.seq ?_
  refine XK.seq ?_
  refine XK.region rfl ?_
  refine XO.q (Q.move rfl) ?_
  refine XO.q (Q.neq rfl rfl) ?_
  refine XO.done ?_
  refine XK.if rfl (fun c0 => ?_) (fun c0 => ?_)
  · have _t0 := True.intro
    refine XK.seq ?_
    refine XK.region rfl ?_
    refine XO.q (Q.move rfl) ?_
    refine XO.q (Q.assign rfl) ?_
    refine XO.q (Q.assign rfl) ?_
    refine XO.q (Q.assign rfl) ?_
    refine XO.done ?_
    refine XK.rt [emp] Try.func41 Try.results41 (.t rfl (.t rfl (.t rfl .n))) ?_
    have e : DeliverG d p o = (false, [], (offeredG d o).2) := by rw [DeliverG, show readyG d p o = (offeredG d o).2 by rw [readyG, if_pos c0], if_pos c0]
    rw [e]
    exact ⟨.slice none 0 0, emp, rfl, rfl, inferInstance, nA⟩
  · have _t0 := True.intro
    have hz := c0
    have of1 := offered_fine (Decidable.of_not_not c0)
    rw [of1.2.2.1] at RO
    have RL := RO.1
    refine XK.skip ?_
    refine XK.seq ?_
    refine XK.seq ?_
    refine XK.region rfl ?_
    refine XO.q (Q.ldA [_, _, _, _, _, _, _, _] rfl rfl rfl) ?_
    refine XO.q (Q.ldA [_, _, _] rfl rfl rfl) ?_
    refine XO.call Try.call84 rfl rfl rfl (rForm_spec d vh vj hh hj p vs vc hs_ hc) fun v26 s26 R26 => ?_
    obtain ⟨rfl, rfl⟩ := R26
    dsimp only [List.cons_append, List.nil_append]
    refine XO.q (Q.assign rfl) ?_
    refine XO.done ?_
    refine XK.seq ?_
    refine XK.region rfl ?_
    refine XO.q (Q.move rfl) ?_
    refine XO.q (Q.neq rfl rfl) ?_
    refine XO.done ?_
    refine XK.if rfl (fun c1 => ?_) (fun c1 => ?_)
    · have _t1 := True.intro
      refine XK.seq ?_
      refine XK.region rfl ?_
      refine XO.q (Q.move rfl) ?_
      refine XO.q (Q.assign rfl) ?_
      refine XO.q (Q.assign rfl) ?_
      refine XO.q (Q.assign rfl) ?_
      refine XO.done ?_
      refine XK.rt [emp] Try.func41 Try.results41 (.t rfl (.t rfl (.t rfl .n))) ?_
      have e : DeliverG d p o = (false, [], (formG d p).2) := by rw [DeliverG, show readyG d p o = (formG d p).2 by rw [readyG, if_neg hz], if_pos c1]
      rw [e]
      exact ⟨.slice none 0 0, emp, rfl, rfl, inferInstance, nA⟩
    · have _t1 := True.intro
      have ff := form_fine (Decidable.of_not_not c1)
      have rz : readyG d p o = 0 := by rw [readyG, if_neg hz]; exact Decidable.of_not_not c1
      have fy := form_needs (Decidable.of_not_not c1)
      obtain ⟨po, sm, ok, cl, st, cr⟩ := plan_rng fy
      have so := starts_ok sm
      have chr : ∀ i, i < d.hours.length → -1000 ≤ p.charge.getD i default ∧ p.charge.getD i default ≤ 1000 := fun i hi => by have := okAt_iffK.1 (po.ok i hi); have := ok.store.p0; have := ok.store.p1; omega
      have fb : (formG d p).1 = needsL d p.starts := ff.2.2.2.2.2.2
      refine XK.skip ?_
      refine XK.seq ?_
      refine XK.seq ?_
      refine XK.region rfl ?_
      refine XO.q (Q.assign rfl) ?_
      refine XO.done ?_
      refine XK.block ?_
      refine XK.while (X := Nat) [6, 7, 8, 12, 13, 14, 30, 31, 32, 33, 34, 35, 36, 37, 38, 39, 40, 41, 42, 43, 44, 45, 46, 47, 48, 49, 50, 51, 52] (fun i => [(12, some (.int .i64 (i : Nat)))]) (fun i => []) (fun i => i ≤ us.length ∧ ((patternsG o).take i).any (badPat d p o) = false) (fun i => us.length - i) (0) [] rfl ⟨by omega, rfl⟩ (.c rfl (.base 0 rfl rfl)) ?_
      rintro i ⟨hi, hg⟩ ih0
      dsimp only [List.cons_append, List.nil_append] at ih0 ⊢
      refine XK.seq ?_
      refine XK.seq ?_
      refine XK.region rfl ?_
      refine XO.q (Q.move rfl) ?_
      refine XO.q (Q.move rfl) ?_
      refine XO.len rfl fun l32 => ?_
      refine XO.q (Q.lss rfl rfl) ?_
      refine XO.done ?_
      refine XK.if rfl (fun c2 => ?_) (fun c2 => ?_)
      · have _t2 := True.intro
        have ai := RO.2 i (by omega)
        have pc : ∀ k, k < ((patternsG o).getD i default).length → Call o (((patternsG o).getD i default).getD k default) := fun k hk => patterns_calls of1.2.1 (getD_mem (show i < (patternsG o).length by omega)) _ (getD_mem hk)
        refine XK.skip ?_
        refine XK.seq ?_
        refine XK.block ?_
        refine XK.seq ?_
        refine XK.drawn [0, 1, 2, 3, 4, 5, 6, 8, 9, 10, 11, 12] [b3, b4, b5] [ho, K] (.q 0 (.q 1 (.q 2 (.q 3 (.q 4 (.q 5 (.q 6 (.br 7 true (.q 8 (.q 9 (.q 10 (.q 11 (.q 12 .done))))) .stop)))))))) Try.mixed rfl (by kernel_rfl) ?_
        refine XT.q rfl rfl (Q.ldA [_, _, _, _, _, _, _, _] rfl rfl rfl) ?_
        refine XT.q rfl rfl (Q.ldA [_, _, _] rfl rfl rfl) ?_
        refine XT.q rfl rfl (Q.ldA [_, _, _, _, _, _] rfl rfl rfl) ?_
        refine XT.q rfl rfl (Q.move rfl) ?_
        refine XT.q rfl rfl (Q.move rfl) ?_
        refine XT.ix rfl rfl rfl rfl (by omega) (by omega) fun i42 => ?_
        refine XT.q rfl rfl (Q.ldE rfl (by first | assumption | omega) rfl) ?_
        refine XT.call rfl rfl Try.call86 rfl rfl rfl (ranswer_spec d vh vj hh hj p vs vc hs_ hc o ((patternsG o).getD i default) (us.getD i default) K ok so of1.2.1 cl chr pc) (fun v44 s44 R44 => ?_) XT.stop
        obtain ⟨v1, k1, rfl, rfl, O1⟩ := R44
        dsimp only [List.cons_append, List.nil_append]
        refine ⟨inferInstance, ?_⟩
        refine XT.q rfl rfl (Q.move rfl) ?_
        refine XT.q rfl rfl (Q.extract rfl rfl) ?_
        refine XT.q rfl rfl (Q.extract rfl rfl) ?_
        refine XT.q rfl rfl (Q.assign rfl) ?_
        refine XT.q rfl rfl (Q.assign rfl) ?_
        refine XT.done ?_
        refine XK.seq ?_
        refine XK.region rfl ?_
        refine XO.q (Q.move rfl) ?_
        refine XO.q (Q.not rfl) ?_
        refine XO.done ?_
        refine XK.if rfl (fun c3 => ?_) (fun c3 => ?_)
        · have _t3 := True.intro
          have hbad : badPat d p o ((patternsG o).getD i default) = true := by unfold badPat; rw [fb, Bool.not_eq_true']; exact Bool.eq_false_iff.2 c3
          refine XK.seq ?_
          refine XK.drawn [0, 1, 2, 3, 4, 5, 6] [] [ho, K] (.q 0 (.q 1 (.q 2 (.q 3 (.q 4 (.q 5 (.q 6 .done))))))) Try.mixed rfl (by kernel_rfl) ?_
          refine XT.q rfl rfl (Q.move rfl) ?_
          refine XT.q rfl rfl (Q.move rfl) ?_
          refine XT.ix rfl rfl rfl rfl (by omega) (by omega) fun i51 => ?_
          refine XT.q rfl rfl (Q.ldE rfl (by first | assumption | omega) rfl) ?_
          refine XT.q rfl rfl (Q.assign rfl) ?_
          refine XT.q rfl rfl (Q.assign rfl) ?_
          refine XT.q rfl rfl (Q.assign rfl) ?_
          refine XT.done ?_
          refine XK.rt [K] Try.func41 Try.results41 (.t rfl (.t rfl (.t rfl .n))) ?_
          have e : DeliverG d p o = (false, (patternsG o).getD i default, 0) := by rw [DeliverG, rz, if_neg (by decide), deliver_bad hg (by omega) hbad]
          rw [e]
          exact ⟨us.getD i default, K, rfl, rfl, inferInstance, ai⟩
        · have _t3 := True.intro
          have hgood : badPat d p o ((patternsG o).getD i default) = false := by unfold badPat; rw [fb, Decidable.of_not_not c3]; rfl
          refine XK.skip ?_
          refine XK.inBlock ?_
          refine XK.region rfl ?_
          refine XO.q (Q.move rfl) ?_
          refine XO.q (Q.add rfl rfl ⟨by omega, by omega⟩) ?_
          refine XO.q (Q.assign rfl) ?_
          refine XO.done ?_
          exact ih0 (i + 1) _ _ ⟨by omega, any_step hg (by omega) hgood⟩ (by first | omega | (dsimp only; omega)) (.c rfl (.base 52 rfl rfl)) inferInstance
      · have _t2 := True.intro
        refine XK.exit rfl ?_
        refine XK.seq ?_
        refine XK.region rfl ?_
        refine XO.q (Q.assign rfl) ?_
        refine XO.q (Q.assign rfl) ?_
        refine XO.q (Q.assign rfl) ?_
        refine XO.done ?_
        refine XK.rt [emp] Try.func41 Try.results41 (.t rfl (.t rfl (.t rfl .n))) ?_
        have e : DeliverG d p o = (true, [], 0) := by rw [DeliverG, rz, if_neg (by decide), deliver_good (by rw [List.take_of_length_le (by omega)] at hg; exact hg)]
        rw [e]
        exact ⟨.slice none 0 0, emp, rfl, rfl, inferInstance, nA⟩
theorem sameList (va vb : Value) (ha hb : PHeap) (a b : List Int) [ia : Arr va encI 1 ha a] [ib : Arr vb encI 1 hb b] : Spec Try.prog 83 #[va, vb] [] [ha, hb] (fun v hs => v = .bool (decide (a = b)) ∧ hs = []) := by
  refine Spec.intro (fn := Try.f83) (N := 8) Try.func83 rfl Try.ntmps83 rfl fun B => ?_
  refine XK.seq ?_
  refine XK.region rfl ?_
  refine XO.q (Q.assign rfl) ?_
  refine XO.done ?_
  refine XK.seq ?_
  refine XK.region rfl ?_
  refine XO.q (Q.move rfl) ?_
  refine XO.q (Q.move rfl) ?_
  refine XO.call Try.call85 rfl rfl rfl (sameInts va vb ha hb a b) fun v7 s7 R7 => ?_
  obtain ⟨rfl, rfl⟩ := R7
  dsimp only [List.cons_append, List.nil_append]
  refine XO.q (Q.assign rfl) ?_
  refine XO.done ?_
  refine XK.rt [] Try.func83 Try.results83 (.t rfl .n) ?_
  exact ⟨rfl, rfl⟩
theorem sameLists (va vb : Value) (ha hb Ka Kb : PHeap) (us ws : List Value) [ia : Arr va encV 1 ha us] [ib : Arr vb encV 1 hb ws] (a b : List (List Int)) (ra : RowsK us Ka a) (rb : RowsK ws Kb b) : Spec Try.prog 38 #[va, vb] [] [ha, hb, Ka, Kb] (fun v hs => v = .bool (decide (a = b)) ∧ hs = []) := by
  have la := ia.le
  have l1 := ra.1
  have l2 := rb.1
  refine Spec.intro (fn := Try.f38) (N := 27) Try.func38 rfl Try.ntmps38 rfl fun B => ?_
  refine XK.seq ?_
  refine XK.region rfl ?_
  refine XO.q (Q.assign rfl) ?_
  refine XO.done ?_
  refine XK.seq ?_
  refine XK.seq ?_
  refine XK.region rfl ?_
  refine XO.q (Q.move rfl) ?_
  refine XO.len rfl fun l7 => ?_
  refine XO.q (Q.move rfl) ?_
  refine XO.len rfl fun l9 => ?_
  refine XO.q (Q.neq rfl rfl) ?_
  refine XO.done ?_
  refine XK.if rfl (fun c0 => ?_) (fun c0 => ?_)
  · have _t0 := True.intro
    refine XK.seq ?_
    refine XK.region rfl ?_
    refine XO.q (Q.assign rfl) ?_
    refine XO.done ?_
    refine XK.rt [] Try.func38 Try.results38 (.t rfl .n) ?_
    exact ⟨by rw [decide_eq_false (fun h => c0 (by rw [l1, l2, h]))], rfl⟩
  · have _t0 := True.intro
    refine XK.skip ?_
    refine XK.seq ?_
    refine XK.seq ?_
    refine XK.region rfl ?_
    refine XO.q (Q.assign rfl) ?_
    refine XO.done ?_
    refine XK.block ?_
    refine XK.while (X := Nat) [4, 5, 11, 12, 13, 14, 15, 16, 17, 18, 19, 20, 21, 22, 23, 24, 25, 26] (fun i => [(5, some (.int .i64 (i : Nat)))]) (fun i => []) (fun i => i ≤ us.length ∧ a.take i = b.take i) (fun i => us.length - i) (0) [] rfl ⟨by omega, rfl⟩ (.c rfl (.base 0 rfl rfl)) ?_
    rintro i ⟨hi, ht⟩ ih0
    dsimp only [List.cons_append, List.nil_append] at ih0 ⊢
    refine XK.seq ?_
    refine XK.seq ?_
    refine XK.region rfl ?_
    refine XO.q (Q.move rfl) ?_
    refine XO.q (Q.move rfl) ?_
    refine XO.len rfl fun l13 => ?_
    refine XO.q (Q.lss rfl rfl) ?_
    refine XO.done ?_
    refine XK.if rfl (fun c1 => ?_) (fun c1 => ?_)
    · have _t1 := True.intro
      have aa := ra.2 i (by omega)
      have ab := rb.2 i (by omega)
      refine XK.skip ?_
      refine XK.seq ?_
      refine XK.block ?_
      refine XK.seq ?_
      refine XK.drawn [0, 1, 2, 3, 4, 5, 6, 7, 9] [] [] (.q 0 (.q 1 (.q 2 (.q 3 (.q 4 (.q 5 (.q 6 (.q 7 (.br 8 true (.q 9 .done) .stop))))))))) Try.mixed rfl (by kernel_rfl) ?_
      refine XT.q rfl rfl (Q.move rfl) ?_
      refine XT.q rfl rfl (Q.move rfl) ?_
      refine XT.ix rfl rfl rfl rfl (by omega) (by omega) fun i19 => ?_
      refine XT.q rfl rfl (Q.ldE rfl (by first | assumption | omega) rfl) ?_
      refine XT.q rfl rfl (Q.move rfl) ?_
      refine XT.q rfl rfl (Q.move rfl) ?_
      refine XT.ix rfl rfl rfl rfl (by omega) (by omega) fun i23 => ?_
      refine XT.q rfl rfl (Q.ldE rfl (by first | assumption | omega) rfl) ?_
      refine XT.call rfl rfl Try.call83 rfl rfl rfl (sameList (us.getD i default) (ws.getD i default) Ka Kb (a.getD i default) (b.getD i default)) (fun v25 s25 R25 => ?_) XT.stop
      obtain ⟨rfl, rfl⟩ := R25
      dsimp only [List.cons_append, List.nil_append]
      refine ⟨inferInstance, ?_⟩
      refine XT.q rfl rfl (Q.not rfl) ?_
      refine XT.done ?_
      refine XK.if rfl (fun c2 => ?_) (fun c2 => ?_)
      · have _t2 := True.intro
        refine XK.seq ?_
        refine XK.region rfl ?_
        refine XO.q (Q.assign rfl) ?_
        refine XO.done ?_
        refine XK.rt [] Try.func38 Try.results38 (.t rfl .n) ?_
        exact ⟨by rw [decide_eq_false (fun h => c2 (by rw [h]))], rfl⟩
      · have _t2 := True.intro
        refine XK.skip ?_
        refine XK.inBlock ?_
        refine XK.region rfl ?_
        refine XO.q (Q.move rfl) ?_
        refine XO.q (Q.add rfl rfl ⟨by omega, by omega⟩) ?_
        refine XO.q (Q.assign rfl) ?_
        refine XO.done ?_
        exact ih0 (i + 1) _ _ ⟨by omega, take_step ht (by omega) (by omega) (Decidable.of_not_not c2)⟩ (by first | omega | (dsimp only; omega)) (.c rfl (.base 36 rfl rfl)) inferInstance
    · have _t1 := True.intro
      refine XK.exit rfl ?_
      refine XK.seq ?_
      refine XK.region rfl ?_
      refine XO.q (Q.assign rfl) ?_
      refine XO.done ?_
      refine XK.rt [] Try.func38 Try.results38 (.t rfl .n) ?_
      exact ⟨by rw [decide_eq_true (take_all ht (by omega) (by omega))], rfl⟩
theorem cloneH (v : Value) (h : PHeap) (xs : List KHour) [s : Arr v encHour 6 h xs] (hl : xs.length ≤ 68719476736) :
    Spec Try.prog 11 #[v] [] [h] (fun v' hs => ∃ h', hs = [h'] ∧ OArr v' encHour 6 39 h' xs) := by
  refine Spec.intro (fn := Try.f11) (N := 8) Try.func11 rfl Try.ntmps11 rfl fun B => ?_
  refine XK.seq ?_
  refine XK.region rfl ?_
  refine XO.q (Q.assign rfl) ?_
  refine XO.done ?_
  refine XK.seq ?_
  refine XK.seq ?_
  refine XK.region rfl ?_
  refine XO.q (Q.move rfl) ?_
  refine XO.eqNil rfl fun z4 hz4 => ?_
  refine XO.done ?_
  refine XK.if rfl (fun c0 => ?_) (fun c0 => ?_)
  · have _t0 := True.intro
    refine XK.seq ?_
    refine XK.region rfl ?_
    refine XO.q (Q.assign rfl) ?_
    refine XO.done ?_
    refine XK.rt [emp] Try.func11 Try.results11 (.t rfl .n) ?_
    exact ⟨emp, rfl, by rw [(hz4 c0).1]; exact OArr.nil (fun _ => rfl)⟩
  · have _t0 := True.intro
    refine XK.skip ?_
    refine XK.seq ?_
    refine XK.region rfl ?_
    refine XO.lit [] [] [] encHour (by rfl) (by rfl) rfl (by rfl) (by exact .n _) (fun _ => rfl) (by rfl) rfl (by infer_instance) rfl fun v5 h5 O5 => ?_
    refine XO.q (Q.move rfl) ?_
    refine XO.append rfl rfl rfl rfl (by first | omega | (simp; omega)) fun v7 h7 O7 => ?_
    refine XO.q (Q.assign rfl) ?_
    refine XO.done ?_
    refine XK.rt [h7] Try.func11 Try.results11 (.t rfl .n) ?_
    exact ⟨h7, rfl, O7⟩
theorem cloneJ (v : Value) (h : PHeap) (xs : List KJob) [s : Arr v encJob 4 h xs] (hl : xs.length ≤ 68719476736) :
    Spec Try.prog 80 #[v] [] [h] (fun v' hs => ∃ h', hs = [h'] ∧ OArr v' encJob 4 77 h' xs) := by
  refine Spec.intro (fn := Try.f80) (N := 8) Try.func80 rfl Try.ntmps80 rfl fun B => ?_
  refine XK.seq ?_
  refine XK.region rfl ?_
  refine XO.q (Q.assign rfl) ?_
  refine XO.done ?_
  refine XK.seq ?_
  refine XK.seq ?_
  refine XK.region rfl ?_
  refine XO.q (Q.move rfl) ?_
  refine XO.eqNil rfl fun z4 hz4 => ?_
  refine XO.done ?_
  refine XK.if rfl (fun c0 => ?_) (fun c0 => ?_)
  · have _t0 := True.intro
    refine XK.seq ?_
    refine XK.region rfl ?_
    refine XO.q (Q.assign rfl) ?_
    refine XO.done ?_
    refine XK.rt [emp] Try.func80 Try.results80 (.t rfl .n) ?_
    exact ⟨emp, rfl, by rw [(hz4 c0).1]; exact OArr.nil (fun _ => rfl)⟩
  · have _t0 := True.intro
    refine XK.skip ?_
    refine XK.seq ?_
    refine XK.region rfl ?_
    refine XO.lit [] [] [] encJob (by rfl) (by rfl) rfl (by rfl) (by exact .n _) (fun _ => rfl) (by rfl) rfl (by infer_instance) rfl fun v5 h5 O5 => ?_
    refine XO.q (Q.move rfl) ?_
    refine XO.append rfl rfl rfl rfl (by first | omega | (simp; omega)) fun v7 h7 O7 => ?_
    refine XO.q (Q.assign rfl) ?_
    refine XO.done ?_
    refine XK.rt [h7] Try.func80 Try.results80 (.t rfl .n) ?_
    exact ⟨h7, rfl, O7⟩
end Go.X
