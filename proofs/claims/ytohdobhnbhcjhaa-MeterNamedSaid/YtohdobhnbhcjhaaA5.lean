/- A part of the proof: a small program logic, plain laws and contracts of functions, each proved by a walk through its operations. No condition but those that stand in each theorem. -/
import Derived.Test.YtohdobhnbhcjhaaA4
set_option linter.unusedSimpArgs false
set_option linter.unusedVariables false
set_option maxRecDepth 20000
namespace Go.X
open Go.Proofs
theorem named1 (b : Nat) (vr vL : Value) (K kL : PHeap) (r s : List Int) [ir : Arr vr encI 1 K r] [is : Arr vL encI 1 kL s] (hr : 0 < r.length) (hs : 0 < s.length) : Spec Try.prog 45 #[vr, ptr b 0] [] [K, blk b [vL] 24, kL] (fun v hs => v = .bool (decide (r.getD 0 default = s.getD 0 default)) ∧ hs = []) := by
  refine Spec.intro (fn := Try.f45) (N := 11) Try.func45 rfl Try.ntmps45 rfl fun B => ?_
  refine XK.seq ?_
  refine XK.region rfl ?_
  refine XO.q (Q.assign rfl) ?_
  refine XO.done ?_
  refine XK.seq ?_
  refine XK.drawn [0, 1, 2, 3, 4, 5, 6, 7] [b] [] (.q 0 (.q 1 (.q 2 (.q 3 (.q 4 (.q 5 (.q 6 (.q 7 .done)))))))) Try.mixed rfl (by kernel_rfl) ?_
  refine XT.q rfl rfl (Q.move rfl) ?_
  refine XT.ix rfl rfl rfl rfl (by omega) (by omega) fun i5 => ?_
  refine XT.q rfl rfl (Q.ldE rfl (by first | assumption | omega) rfl) ?_
  refine XT.q rfl rfl (Q.ld rfl rfl) ?_
  refine XT.ix rfl rfl rfl rfl (by omega) (by omega) fun i8 => ?_
  refine XT.q rfl rfl (Q.ldE rfl (by first | assumption | omega) rfl) ?_
  refine XT.q rfl rfl (Q.eql rfl rfl) ?_
  refine XT.q rfl rfl (Q.assign rfl) ?_
  refine XT.done ?_
  refine XK.rt [] Try.func45 Try.results45 (.t rfl .n) ?_
  exact ⟨rfl, rfl⟩
set_option maxHeartbeats 2000000 in
set_option synthInstance.maxHeartbeats 400000 in
set_option synthInstance.maxSize 1000 in
theorem MeterNamed_spec (gl : Value) (hhl : PHeap) (l : List UInt8) [il : Arr gl encU8 1 hhl l] (gfs : Value) (hhfs : PHeap) (fs : List UInt8) [ifs : Arr gfs encU8 1 hhfs fs] (gw : Value) (hhw : PHeap) (ws : List UInt16) [iw : Arr gw encU16 1 hhw ws] :
    Spec Try.prog 9 #[gl, gfs, gw] [] [hhl, hhfs, hhw] (fun v hs => v = .bool true ∧ hs = []) := by
  have nI : OArr (.slice none 0 0) encI 1 3 emp ([] : List Int) := OArr.nil (fun _ => rfl)
  have lf := ifs.le
  have lw := iw.le
  refine Spec.intro (fn := Try.f9) (N := 202) Try.func9 rfl Try.ntmps9 rfl fun B => ?_
  refine XK.seq ?_
  refine XK.region rfl ?_
  refine XO.q (Q.assign rfl) ?_
  refine XO.done ?_
  refine XK.seq ?_
  refine XK.region rfl ?_
  refine XO.q (Q.move rfl) ?_
  refine XO.call Try.call14 rfl rfl rfl (made11 gl hhl l) fun v25 s25 R25 => ?_
  obtain ⟨mc, vn, v0, kn, k0, rfl, rfl, ON, OV0, ok0, so0, n9⟩ := R25
  dsimp only [List.cons_append, List.nil_append]
  refine XO.alloc fun b7 => ?_
  refine XO.st rfl rfl rfl ?_
  refine XO.done ?_
  refine XK.seq ?_
  refine XK.seq ?_
  refine XK.region rfl ?_
  refine XO.q (Q.ldA [_, _] rfl rfl rfl) ?_
  refine XO.call Try.call18 rfl rfl rfl (Broken_spec mc vn v0 kn k0) fun v28 s28 R28 => ?_
  obtain ⟨xB0, yB0, rfl, rfl, OB0⟩ := R28
  dsimp only [List.cons_append, List.nil_append]
  have hbr0 : brokenG mc = ([], 0) := by
    have e := sol_broken so0
    rw [brokenG, if_neg (by rw [mok_check ok0]; decide)]
    rw [show brokenTo mc mc.nodes.length = [] from e]; rfl
  rw [hbr0] at OB0 ⊢
  dsimp only at OB0 ⊢
  refine XO.q (Q.move rfl) ?_
  refine XO.q (Q.extract rfl rfl) ?_
  refine XO.q (Q.extract rfl rfl) ?_
  refine XO.q (Q.assign rfl) ?_
  refine XO.q (Q.assign rfl) ?_
  refine XO.done ?_
  refine XK.seq ?_
  refine XK.region rfl ?_
  refine XO.q (Q.move rfl) ?_
  refine XO.q (Q.neq rfl rfl) ?_
  refine XO.q (Q.move rfl) ?_
  refine XO.q (Quiet.guardF rfl rfl fun g34 p34 => Q.move rfl) ?_
  refine XO.q (Quiet.guardF rfl rfl fun g35 p35 => Q.len (lzv g35 rfl)) ?_
  refine XO.q (Quiet.guardF rfl rfl fun g36 p36 => Q.neq (lzv g36 rfl) rfl) ?_
  refine XO.q (Q.or rfl (fun hp => lzv hp rfl)) ?_
  refine XO.done ?_
  refine XK.if rfl (fun c0 => ?_) (fun c0 => ?_)
  · have _t0 := True.intro
    rcases c0 with h | h
    · exact absurd rfl h
    · simp at h
  · have _t0 := True.intro
    refine XK.skip ?_
    refine XK.seq ?_
    refine XK.region rfl ?_
    refine XO.alloc fun b10 => ?_
    refine XO.done ?_
    refine XK.seq ?_
    refine XK.seq ?_
    refine XK.region rfl ?_
    refine XO.q (Q.move rfl) ?_
    refine XO.q (Q.move rfl) ?_
    refine XO.len rfl fun l40 => ?_
    refine XO.q (Q.move rfl) ?_
    refine XO.len rfl fun l42 => ?_
    refine XO.q (Q.min3 rfl rfl rfl) ?_
    refine XO.cut (i := 0) (j := min (min fs.length ws.length) 4) rfl .n (.s rfl (by omega)) (by omega) (by omega) fun v44 A44 => ?_
    obtain ⟨cs, ecs⟩ : ∃ cs, cs = (fs.drop 0).take (min (min fs.length ws.length) 4 - 0) := ⟨_, rfl⟩
    rw [← ecs] at A44
    have hcl : cs.length ≤ ws.length ∧ cs.length ≤ 4 := by rw [ecs, List.length_take]; omega
    clear ecs
    refine XO.len rfl fun l45 => ?_
    refine XO.q (Q.move rfl) ?_
    refine XO.done ?_
    refine XK.block ?_
    refine XK.while (X := Nat × List Int × PHeap × List Nat × Value × PHeap) [11, 12, 13, 46, 47, 48, 49, 50, 51, 52, 53, 54, 55, 56, 57, 58, 59, 60, 61, 62, 63, 64, 65, 66, 67, 68, 69, 70, 71, 72, 73, 74] (fun ⟨j, V, kV, L, vL, kL⟩ => [(46, some (.int .i64 (j : Nat)))]) (fun ⟨j, V, kV, L, vL, kL⟩ => [kV, blk b10 [vL] 24, kL]) (fun ⟨j, V, kV, L, vL, kL⟩ => j ≤ cs.length ∧ Vals mc.nodes.length V ∧ OArr v0 encI 1 3 kV V ∧ Chg mc.nodes.length mc.vals V L ∧ L.length ≤ j ∧ OArr vL encI 1 3 kL (ints L)) (fun ⟨j, V, kV, L, vL, kL⟩ => cs.length - j) (0, mc.vals, k0, [], .slice none 0 0, emp) [k0, blk b10 [.slice none 0 0] 24, emp] rfl ⟨by omega, sol_vals so0, OV0, Chg.start _ _, Nat.le_refl _, nI⟩ (.c rfl (.base 0 rfl rfl)) ?_
    rintro ⟨j, V, kV, L, vL, kL⟩ ⟨hj, vv, OV, cg, hLj, OLL⟩ ih0
    dsimp only [List.cons_append, List.nil_append] at ih0 ⊢
    refine XK.seq ?_
    refine XK.region rfl ?_
    refine XO.q (Q.lss rfl rfl) ?_
    refine XO.done ?_
    refine XK.seq ?_
    refine XK.if rfl (fun c1 => ?_) (fun c1 => ?_)
    · have _t1 := True.intro
      have vl := vv.len
      have n1 := ok0.n1
      have fl : j < ws.length := by omega
      have il := ints_len (l := L)
      refine XK.skip ?_
      refine XK.seq ?_
      refine XK.block ?_
      refine XK.seq ?_
      refine XK.region rfl ?_
      refine XO.q (Q.move rfl) ?_
      refine XO.ix rfl rfl (by omega) (by omega) fun i49 => ?_
      refine XO.q (Q.ldE rfl (by first | assumption | omega) rfl) ?_
      have hu := (cs.getD j default).toNat_lt
      refine XO.q (Q.assign rfl) ?_
      refine XO.q (Q.assign rfl) ?_
      refine XO.done ?_
      refine XK.seq ?_
      refine XK.region rfl ?_
      refine XO.q (Q.move rfl) ?_
      refine XO.q (Q.conv rfl) ?_
      rw [wrap64_of ⟨by omega, by omega⟩]
      refine XO.q (Q.fieldAddr rfl) ?_
      refine XO.q (Q.ld rfl rfl) ?_
      refine XO.len rfl fun l55 => ?_
      refine XO.q (Q.rem rfl rfl (by omega) (by omega)) ?_
      rw [show ((((cs.getD j default).toNat : Nat) : Int) % ((mc.nodes.length : Nat) : Int)) = ((((cs.getD j default).toNat % mc.nodes.length) : Nat) : Int) from rfl]
      have hmod : ((cs.getD j default).toNat % mc.nodes.length) < mc.nodes.length := Nat.mod_lt _ (by omega)
      refine XO.q (Q.assign rfl) ?_
      refine XO.done ?_
      refine XK.seq ?_
      refine XK.drawn [0, 1, 2, 3, 4, 5, 6, 7, 8] [b7] [] (.q 0 (.q 1 (.q 2 (.q 3 (.q 4 (.q 5 (.q 6 (.q 7 (.q 8 (.br 9 false .done .stop)))))))))) Try.mixed rfl (by kernel_rfl) ?_
      refine XT.q rfl rfl (Q.fieldAddr rfl) ?_
      refine XT.q rfl rfl (Q.ld rfl rfl) ?_
      refine XT.q rfl rfl (Q.move rfl) ?_
      refine XT.q rfl rfl (Q.move rfl) ?_
      refine XT.q rfl rfl (Q.move rfl) ?_
      refine XT.ix rfl rfl rfl rfl (by omega) (by omega) fun i62 => ?_
      refine XT.q rfl rfl (Q.ldE rfl (by first | assumption | omega) rfl) ?_
      have hu2 := (ws.getD j default).toNat_lt
      refine XT.q rfl rfl (Q.conv rfl) ?_
      rw [wrap64_of ⟨by omega, by omega⟩]
      refine XT.ix rfl rfl rfl rfl (by omega) (by omega) fun i65 => ?_
      refine XT.stE _ rfl rfl rfl rfl rfl (by assumption) rfl rfl (fun h10_9 O10_9 => ⟨inferInstance, ?_⟩) XT.stop
      refine XT.done ?_
      refine XK.seq ?_
      refine XK.region rfl ?_
      refine XO.q (Q.ld rfl rfl) ?_
      refine XO.q (Q.move rfl) ?_
      refine XO.call Try.call19 rfl rfl rfl (containsI vL kL (ints L) (((cs.getD j default).toNat % mc.nodes.length) : Nat)) fun v68 s68 R68 => ?_
      obtain ⟨rfl, rfl⟩ := R68
      dsimp only [List.cons_append, List.nil_append]
      refine XO.q (Q.not rfl) ?_
      refine XO.done ?_
      refine XK.if rfl (fun c2 => ?_) (fun c2 => ?_)
      · have _t2 := True.intro
        have hni : ¬ ((cs.getD j default).toNat % mc.nodes.length) ∈ L := fun hm => c2 (mem_any.2 (mem_ints.2 hm))
        refine XK.region rfl ?_
        refine XO.q (Q.ld rfl rfl) ?_
        refine XO.q (Q.move rfl) ?_
        refine XO.lit [_] [_] [((((cs.getD j default).toNat % mc.nodes.length) : Nat) : Int)] encI (by rfl) (by rfl) rfl (by rfl) (by exact .c 0 1 rfl rfl rfl (.n _)) (fun _ => rfl) (by rfl) rfl (by infer_instance) rfl fun v72 h72 O72 => ?_
        refine XO.append rfl rfl rfl rfl (by simp only [ints_len, List.length_cons, List.length_nil]; omega) fun v73 h73 O73 => ?_
        refine XO.st rfl rfl rfl ?_
        refine XO.done ?_
        refine XK.inBlock ?_
        refine XK.region rfl ?_
        refine XO.q (Q.add rfl rfl ⟨by omega, by omega⟩) ?_
        refine XO.q (Q.move rfl) ?_
        refine XO.done ?_
        exact ih0 (j + 1, _, h10_9, L ++ [((cs.getD j default).toNat % mc.nodes.length)], v73, h73) _ _ ⟨by dsimp only; omega, vv.set (by omega) (by omega) (by omega), O10_9, cg.more (by omega) (by omega) hni, by dsimp only; rw [List.length_append]; simp; omega, by rw [ints_snoc]; exact O73⟩ (by first | omega | (dsimp only; omega)) (.c rfl (.base 65 rfl rfl)) inferInstance
      · have _t2 := True.intro
        have hin : ((cs.getD j default).toNat % mc.nodes.length) ∈ L := mem_ints.1 (mem_any.1 (Decidable.of_not_not c2))
        refine XK.skip ?_
        refine XK.inBlock ?_
        refine XK.region rfl ?_
        refine XO.q (Q.add rfl rfl ⟨by omega, by omega⟩) ?_
        refine XO.q (Q.move rfl) ?_
        refine XO.done ?_
        exact ih0 (j + 1, _, h10_9, L, vL, kL) _ _ ⟨by dsimp only; omega, vv.set (by omega) (by omega) (by omega), O10_9, cg.again (by omega) hin, by dsimp only; omega, OLL⟩ (by first | omega | (dsimp only; omega)) (.c rfl (.base 61 rfl rfl)) inferInstance
    · have _t1 := True.intro
      have ok : MOk ⟨mc.nodes, V⟩ := ok0.with vv.len vv.rng
      have vl := vv.len
      have n1 := ok0.n1
      have hj4 : j ≤ 4 := by omega
      clear ih0
      refine XK.exit rfl ?_
      refine XK.seq ?_
      refine XK.region rfl ?_
      refine XO.q (Q.ld rfl rfl) ?_
      refine XO.call Try.call42 rfl rfl rfl (sort_spec vL kL (ints L) L.length ints_len (by omega)) fun v76 s76 R76 => ?_
      obtain ⟨kS, ys, rfl, OY, y1, y2, y3⟩ := R76
      dsimp only [List.cons_append, List.nil_append]
      obtain ⟨S, eS, sI, sM, sL⟩ := sorted_set (L := L) cg.one y2 (by rw [y1]; exact y3)
      subst eS
      have hlt : ∀ x ∈ S, x < mc.nodes.length := fun x hx => cg.lt x ((sM x).1 hx)
      refine XO.done ?_
      refine XK.seq ?_
      refine XK.region rfl ?_
      refine XO.q (Q.ldA [_, _] rfl rfl rfl) ?_
      refine XO.call Try.call18 rfl rfl rfl (Broken_spec ⟨mc.nodes, V⟩ vn v0 kn kV) fun v79 s79 R79 => ?_
      obtain ⟨xB, yB, rfl, rfl, OB⟩ := R79
      dsimp only [List.cons_append, List.nil_append]
      have hbr : brokenG ⟨mc.nodes, V⟩ = (ints (brokenTo ⟨mc.nodes, V⟩ mc.nodes.length), 0) := by rw [brokenG, if_neg (by rw [mok_check ok]; decide)]
      rw [hbr] at OB ⊢
      dsimp only at OB ⊢
      refine XO.q (Q.move rfl) ?_
      refine XO.q (Q.extract rfl rfl) ?_
      refine XO.q (Q.extract rfl rfl) ?_
      refine XO.q (Q.assign rfl) ?_
      refine XO.q (Q.assign rfl) ?_
      refine XO.done ?_
      refine XK.seq ?_
      refine XK.region rfl ?_
      refine XO.q (Q.ldA [_, _] rfl rfl rfl) ?_
      refine XO.call Try.call16 rfl rfl rfl (Least_spec ⟨mc.nodes, V⟩ vn v0 kn kV (fun _ s hs => combos_steps hs)) fun v84 s84 R84 => ?_
      obtain ⟨xL, yL, KL, us, rfl, rfl, OL, RL⟩ := R84
      dsimp only [List.cons_append, List.nil_append]
      obtain ⟨h0, t0, a1, a2, a3, a4, a5, a6⟩ := named_law (c := ⟨mc.nodes, V⟩) ok so0 sI hlt (fun i hi hn => cg.own i hi (fun hm => hn ((sM i).2 hm)))
      rw [a2] at RL ⊢
      dsimp only at RL a4 a5 ⊢
      have rl1 := RL.1
      rw [List.length_map] at rl1
      have arow : ∀ i, i < (leastAt (⟨mc.nodes, V⟩ : MCase) t0).length → Arr (us.getD i default) encI 1 KL (ints ((leastAt (⟨mc.nodes, V⟩ : MCase) t0).getD (i) [])) := fun i hi => by
        have := RL.2 i (by omega)
        have e : ((leastAt (⟨mc.nodes, V⟩ : MCase) t0).map ints).getD i default = ints ((leastAt (⟨mc.nodes, V⟩ : MCase) t0).getD (i) []) := by
          rw [List.getD_eq_getElem?_getD, List.getElem?_map, List.getD_eq_getElem?_getD, List.getElem?_eq_getElem hi]; rfl
        rw [e] at this
        exact this
      have rfact := fun i (hi : i < (leastAt (⟨mc.nodes, V⟩ : MCase) t0).length) => row_least ok hi
      have al0 : Arr (us.getD (Int.toNat 0) default) encI 1 KL (ints ((leastAt (⟨mc.nodes, V⟩ : MCase) t0).getD (0) [])) := arow 0 a3
      have l0 : (ints ((leastAt (⟨mc.nodes, V⟩ : MCase) t0).getD (0) [])).length = t0 := by rw [ints_len]; exact (rfact 0 a3).1
      have ls := ints_len (l := S)
      have ll := leastAt_small ok t0
      refine XO.q (Q.move rfl) ?_
      refine XO.q (Q.extract rfl rfl) ?_
      refine XO.q (Q.extract rfl rfl) ?_
      refine XO.q (Q.assign rfl) ?_
      refine XO.q (Q.assign rfl) ?_
      refine XO.done ?_
      refine XK.seq ?_
      refine XK.region rfl ?_
      refine XO.q (Q.ldA [_, _] rfl rfl rfl) ?_
      refine XO.q (Q.ld rfl rfl) ?_
      refine XO.call Try.call15 rfl rfl rfl (Explains_spec ⟨mc.nodes, V⟩ vn v0 kn kV (ints S) vL kS) fun v90 s90 R90 => ?_
      obtain ⟨rfl, rfl⟩ := R90
      dsimp only [List.cons_append, List.nil_append]
      rw [explains_inc ok sI hlt]
      dsimp only
      refine XO.q (Q.move rfl) ?_
      refine XO.q (Q.extract rfl rfl) ?_
      refine XO.q (Q.extract rfl rfl) ?_
      refine XO.q (Q.assign rfl) ?_
      refine XO.q (Q.assign rfl) ?_
      refine XO.done ?_
      refine XK.seq ?_
      refine XK.seq ?_
      refine XK.region rfl ?_
      refine XO.q (Q.move rfl) ?_
      refine XO.q (Q.neq rfl rfl) ?_
      refine XO.q (Q.move rfl) ?_
      refine XO.q (Quiet.guardF rfl rfl fun g96 p96 => Q.move rfl) ?_
      refine XO.q (Quiet.guardF rfl rfl fun g97 p97 => Q.neq (lzv g97 rfl) rfl) ?_
      refine XO.q (Q.or rfl (fun hp => lzv hp rfl)) ?_
      refine XO.q (Q.move rfl) ?_
      refine XO.q (Quiet.guardF rfl rfl fun g100 p100 => Q.move rfl) ?_
      refine XO.q (Quiet.guardF rfl rfl fun g101 p101 => Q.neq (lzv g101 rfl) rfl) ?_
      refine XO.q (Q.or rfl (fun hp => lzv hp rfl)) ?_
      refine XO.q (Q.move rfl) ?_
      refine XO.q (Quiet.guardF rfl rfl fun g104 p104 => Q.move rfl) ?_
      refine XO.q (Quiet.guardF rfl rfl fun g105 p105 => Q.not (lzv g105 rfl)) ?_
      refine XO.q (Q.or rfl (fun hp => lzv hp rfl)) ?_
      refine XO.q (Q.move rfl) ?_
      refine XO.q (Quiet.guardF rfl rfl fun g108 p108 => Q.move rfl) ?_
      refine XO.q (Quiet.guardF rfl rfl fun g109 p109 => Q.len (lzv g109 rfl)) ?_
      refine XO.q (Quiet.guardF rfl rfl fun g110 p110 => Q.lss (lzv g110 rfl) rfl) ?_
      refine XO.q (Q.or rfl (fun hp => lzv hp rfl)) ?_
      refine XO.done ?_
      refine XK.if rfl (fun c3 => ?_) (fun c3 => ?_)
      · have _t3 := True.intro
        rcases c3 with (((h | h) | h) | h) | h
        · exact absurd rfl h
        · exact absurd rfl h
        · exact absurd rfl h
        · exact absurd h0 h
        · omega
      · have _t3 := True.intro
        refine XK.skip ?_
        refine XK.seq ?_
        refine XK.seq ?_
        refine XK.region rfl ?_
        refine XO.q (Q.move rfl) ?_
        refine XO.len rfl fun l113 => ?_
        refine XO.q (Q.move rfl) ?_
        refine XO.done ?_
        refine XK.block ?_
        refine XK.while (X := Nat) [6, 20, 21, 22, 23, 114, 115, 116, 117, 118, 119, 120, 121, 122, 123, 124, 125, 126, 127, 128, 129, 130, 131, 132, 133, 134, 135, 136, 137, 138, 139, 140, 141, 142, 143, 144, 145, 146, 147, 148, 149, 150, 151, 152, 153, 154, 155, 156, 157, 158, 159, 160, 161] (fun i => [(114, some (.int .i64 (i : Nat)))]) (fun i => []) (fun i => i ≤ us.length) (fun i => us.length - i) (0) [] rfl (by omega) (.c rfl (.base 0 rfl rfl)) ?_
        rintro i hi ih1
        dsimp only [List.cons_append, List.nil_append] at ih1 ⊢
        refine XK.seq ?_
        refine XK.region rfl ?_
        refine XO.q (Q.lss rfl rfl) ?_
        refine XO.done ?_
        refine XK.seq ?_
        refine XK.if rfl (fun c4 => ?_) (fun c4 => ?_)
        · have _t4 := True.intro
          have hi2 : i < (leastAt (⟨mc.nodes, V⟩ : MCase) t0).length := by omega
          have ari := arow i hi2
          obtain ⟨q1, q2, q3, q4⟩ := rfact i hi2
          have lri := ints_len (l := ((leastAt (⟨mc.nodes, V⟩ : MCase) t0).getD (i) []))
          refine XK.skip ?_
          refine XK.seq ?_
          refine XK.block ?_
          refine XK.seq ?_
          refine XK.region rfl ?_
          refine XO.q (Q.move rfl) ?_
          refine XO.ix rfl rfl (by omega) (by omega) fun i117 => ?_
          refine XO.q (Q.ldE rfl (by first | assumption | omega) rfl) ?_
          refine XO.q (Q.assign rfl) ?_
          refine XO.q (Q.assign rfl) ?_
          refine XO.done ?_
          refine XK.seq ?_
          refine XK.region rfl ?_
          refine XO.q (Q.ldA [_, _] rfl rfl rfl) ?_
          refine XO.q (Q.move rfl) ?_
          refine XO.call Try.call15 rfl rfl rfl (Explains_spec ⟨mc.nodes, V⟩ vn v0 kn kV (ints ((leastAt (⟨mc.nodes, V⟩ : MCase) t0).getD (i) [])) (us.getD i default) KL) fun v122 s122 R122 => ?_
          obtain ⟨rfl, rfl⟩ := R122
          dsimp only [List.cons_append, List.nil_append]
          rw [explains_inc ok q2 q3]
          dsimp only
          refine XO.q (Q.move rfl) ?_
          refine XO.q (Q.extract rfl rfl) ?_
          refine XO.q (Q.extract rfl rfl) ?_
          refine XO.q (Q.assign rfl) ?_
          refine XO.q (Q.assign rfl) ?_
          refine XO.done ?_
          refine XK.seq ?_
          refine XK.region rfl ?_
          refine XO.q (Q.move rfl) ?_
          refine XO.q (Q.neq rfl rfl) ?_
          refine XO.q (Q.move rfl) ?_
          refine XO.q (Quiet.guardF rfl rfl fun g128 p128 => Q.move rfl) ?_
          refine XO.q (Quiet.guardF rfl rfl fun g129 p129 => Q.not (lzv g129 rfl)) ?_
          refine XO.q (Q.or rfl (fun hp => lzv hp rfl)) ?_
          refine XO.q (Q.move rfl) ?_
          refine XO.q (Quiet.guardF rfl rfl fun g132 p132 => Q.move rfl) ?_
          refine XO.q (Quiet.guardF rfl rfl fun g133 p133 => Q.len (lzv g133 rfl)) ?_
          refine XO.q (Quiet.guardF rfl rfl fun g134 p134 => Q.ld rfl rfl) ?_
          refine XO.q (Quiet.guardF rfl rfl fun g135 p135 => Q.len (lzv g135 rfl)) ?_
          refine XO.q (Quiet.guardF rfl rfl fun g136 p136 => Q.gtr (lzv g136 rfl) (lzv g136 rfl)) ?_
          refine XO.q (Q.or rfl (fun hp => lzv hp rfl)) ?_
          refine XO.q (Q.move rfl) ?_
          refine XO.q (Quiet.guardF rfl rfl fun g139 p139 => Q.move rfl) ?_
          refine XO.q (Quiet.guardF rfl rfl fun g140 p140 => Q.len (lzv g140 rfl)) ?_
          refine XO.q (Quiet.guardF rfl rfl fun g141 p141 => Q.move rfl) ?_
          refine XO.q (Quiet.guardF rfl rfl fun g142 p142 => Q.ix (lzv g142 rfl) rfl (by omega) (by omega)) ?_
          refine XO.q (Quiet.guardF rfl rfl fun g143 p143 => Q.ldE (lzv g143 rfl) (by first | assumption | omega) rfl) ?_
          refine XO.q (Quiet.guardF rfl rfl fun g144 p144 => Q.len (lzv g144 rfl)) ?_
          refine XO.q (Quiet.guardF rfl rfl fun g145 p145 => Q.neq (lzv g145 rfl) (lzv g145 rfl)) ?_
          refine XO.q (Q.or rfl (fun hp => lzv hp rfl)) ?_
          refine XO.q (Q.move rfl) ?_
          refine XO.q (Quiet.guardF rfl rfl fun g148 p148 => Q.move rfl) ?_
          refine XO.q (Quiet.guardF rfl rfl fun g149 p149 => Q.gtr (lzv g149 rfl) rfl) ?_
          refine XO.q (Quiet.guardF rfl rfl fun g150 p150 => Q.move (lzv g150 rfl)) ?_
          refine XO.q (Quiet.guard2 rfl rfl fun g151a g151b => have p151a := bpF g151a; have p151b := bpT g151b; Q.move rfl) ?_
          refine XO.q (Quiet.guard2 rfl rfl fun g152a g152b => have p152a := bpF g152a; have p152b := bpT g152b; Q.move rfl) ?_
          refine XO.q (Quiet.guard2 rfl rfl fun g153a g153b => have p153a := bpF g153a; have p153b := bpT g153b; Q.sub (lzv g153b (lzv g153a rfl)) rfl ⟨by omega, by omega⟩) ?_
          refine XO.q (Quiet.guard2 rfl rfl fun g154a g154b => have p154a := bpF g154a; have p154b := bpT g154b; Q.ix (lzv g154b (lzv g154a rfl)) (lzv g154b (lzv g154a rfl)) (by omega) (by omega)) ?_
          refine XO.q (Quiet.guard2 rfl rfl fun g155a g155b => have p155a := bpF g155a; have p155b := bpT g155b; Q.ldE (lzv g155b (lzv g155a rfl)) (by first | assumption | omega) rfl) ?_
          refine XO.q (Quiet.guard2 rfl rfl fun g156a g156b => have p156a := bpF g156a; have p156b := bpT g156b; Q.move rfl) ?_
          refine XO.vg2 rfl rfl (fun g157a g157b => rfl) (fun g157a g157b => .c (lzv g157b (lzv g157a rfl)) (.c (lzv g157b (lzv g157a rfl)) .n)) (fun g157a g157b => have p157a := bpF g157a; have p157b := bpT g157b; VSpec.fn (P := Try.prog) Try.call43 rfl (by haveI := arow ((i : Int) - 1).toNat (by omega); exact compareL (us.getD ((i : Int) - 1).toNat default) (us.getD i default) KL KL (ints ((leastAt (⟨mc.nodes, V⟩ : MCase) t0).getD (((i : Int) - 1).toNat) [])) (ints ((leastAt (⟨mc.nodes, V⟩ : MCase) t0).getD (i) [])))) ?_
          refine XO.q (Quiet.guard2 rfl rfl fun g158a g158b => have p158a := bpF g158a; have p158b := bpT g158b; Q.geq (lzv g158b (lzv g158a rfl)) rfl) ?_
          refine XO.q (Quiet.guardF rfl rfl fun g159 p159 => Q.and (lzv g159 rfl) (fun hp => (lzv hp (lzv g159 rfl)))) ?_
          refine XO.q (Q.or rfl (fun hp => lzv hp rfl)) ?_
          refine XO.done ?_
          refine XK.if rfl (fun c5 => ?_) (fun c5 => ?_)
          · have _t5 := True.intro
            rcases c5 with (((h | h) | h) | h) | h
            · exact absurd rfl h
            · exact absurd q4 h
            · omega
            · omega
            · have := leastAt_at (c := ⟨mc.nodes, V⟩) (s := t0) (i := ((i : Int) - 1).toNat) (j := i) (by omega) hi2
              rw [this] at h
              exact absurd h.2 (by decide)
          · have _t5 := True.intro
            refine XK.skip ?_
            refine XK.inBlock ?_
            refine XK.region rfl ?_
            refine XO.q (Q.add rfl rfl ⟨by omega, by omega⟩) ?_
            refine XO.q (Q.move rfl) ?_
            refine XO.done ?_
            exact ih1 (i + 1) _ _ (by omega) (by first | omega | (dsimp only; omega)) (.c rfl (.base 106 rfl rfl)) inferInstance
        · have _t4 := True.intro
          refine XK.exit rfl ?_
          refine XK.seq ?_
          refine XK.seq ?_
          refine XK.region rfl ?_
          refine XO.q (Q.move rfl) ?_
          refine XO.len rfl fun l163 => ?_
          refine XO.q (Q.eql rfl rfl) ?_
          refine XO.done ?_
          refine XK.if rfl (fun c6 => ?_) (fun c6 => ?_)
          · have _t6 := True.intro
            refine XK.seq ?_
            refine XK.region rfl ?_
            refine XO.q (Q.move rfl) ?_
            refine XO.len rfl fun l166 => ?_
            refine XO.q (Q.eql rfl rfl) ?_
            refine XO.q (Q.move rfl) ?_
            refine XO.q (Quiet.guardT rfl rfl fun g169 p169 => Q.move rfl) ?_
            refine XO.q (Quiet.guardT rfl rfl fun g170 p170 => Q.ix (lzv g170 rfl) rfl (by omega) (by omega)) ?_
            refine XO.q (Quiet.guardT rfl rfl fun g171 p171 => Q.ldE (lzv g171 rfl) (by first | assumption | omega) rfl) ?_
            refine XO.q (Quiet.guardT rfl rfl fun g172 p172 => Q.len (lzv g172 rfl)) ?_
            refine XO.q (Quiet.guardT rfl rfl fun g173 p173 => Q.eql (lzv g173 rfl) rfl) ?_
            refine XO.q (Q.and rfl (fun hp => lzv hp rfl)) ?_
            refine XO.q (Q.move rfl) ?_
            refine XO.gcallT rfl rfl Try.call13 rfl (fun g176 => .n) rfl (fun g176 p176 => awake11) ?_
            refine XO.q (Q.and rfl (fun hp => lzv hp rfl)) ?_
            refine XO.q (Q.assign rfl) ?_
            refine XO.done ?_
            refine XK.rt [] Try.func9 Try.results9 (.t rfl .n) ?_
            have hb0 : brokenTo ⟨mc.nodes, V⟩ mc.nodes.length = [] := by
              have := ints_len (l := brokenTo ⟨mc.nodes, V⟩ mc.nodes.length)
              exact List.length_eq_zero_iff.1 (by omega)
            obtain ⟨z0, z1⟩ := a4 hb0
            have z2 : (leastAt ⟨mc.nodes, V⟩ t0).length = 1 := by rw [z0, z1]; rfl
            exact ⟨by rw [decide_eq_true (show ((us.length : Nat) : Int) = 1 by omega), decide_eq_true (by omega)]; rfl, rfl⟩
          · have _t6 := True.intro
            refine XK.skip ?_
            refine XK.seq ?_
            refine XK.seq ?_
            refine XK.region rfl ?_
            refine XO.q (Q.ld rfl rfl) ?_
            refine XO.len rfl fun l179 => ?_
            refine XO.q (Q.eql rfl rfl) ?_
            refine XO.done ?_
            refine XK.if rfl (fun c7 => ?_) (fun c7 => ?_)
            · have _t7 := True.intro
              refine XK.seq ?_
              refine XK.region rfl ?_
              refine XO.q (Q.move rfl) ?_
              refine XO.ix rfl rfl (by omega) (by omega) fun i182 => ?_
              refine XO.q (Q.ldE rfl (by first | assumption | omega) rfl) ?_
              refine XO.len rfl fun l184 => ?_
              refine XO.q (Q.eql rfl rfl) ?_
              refine XO.q (Q.move rfl) ?_
              refine XO.q (Quiet.guardT rfl rfl fun g187 p187 => Q.move rfl) ?_
              refine XO.q (Quiet.guardT rfl rfl fun g188 p188 => Q.func (fun _ he => rfl) (fun _ he => evs_rel he rfl)) ?_
              refine XO.gcallT rfl rfl Try.call44 rfl (fun g189 => .c (lzv g189 rfl) (.c (lzv g189 rfl) .n)) rfl (fun g189 p189 => containsRows xL yL KL us ((leastAt (⟨mc.nodes, V⟩ : MCase) t0).map ints) RL 45 [ptr b10 0] [blk b10 [vL] 24, KL, kS] (fun r => decide (r.getD 0 default = (ints S).getD 0 default)) Try.call45 (fun i hi => by
                have hi2 : i < (leastAt (⟨mc.nodes, V⟩ : MCase) t0).length := by omega
                have e : ((leastAt (⟨mc.nodes, V⟩ : MCase) t0).map ints).getD i default = ints ((leastAt (⟨mc.nodes, V⟩ : MCase) t0).getD (i) []) := by
                  rw [List.getD_eq_getElem?_getD, List.getElem?_map, List.getD_eq_getElem?_getD, List.getElem?_eq_getElem hi2]; rfl
                haveI := arow i hi2
                rw [e]
                exact (named1 b10 (us.getD i default) vL KL kS (ints ((leastAt (⟨mc.nodes, V⟩ : MCase) t0).getD (i) [])) (ints S) (by rw [ints_len, (rfact i hi2).1]; omega) (by omega)).wide (fun x hx => by simp at hx; rcases hx with rfl | rfl | rfl <;> simp))) ?_
              refine XO.q (Q.and rfl (fun hp => lzv hp rfl)) ?_
              refine XO.q (Q.move rfl) ?_
              refine XO.gcallT rfl rfl Try.call13 rfl (fun g192 => .n) rfl (fun g192 p192 => awake11) ?_
              refine XO.q (Q.and rfl (fun hp => lzv hp rfl)) ?_
              refine XO.q (Q.assign rfl) ?_
              refine XO.done ?_
              refine XK.rt [] Try.func9 Try.results9 (.t rfl .n) ?_
              have hb1 : brokenTo ⟨mc.nodes, V⟩ mc.nodes.length ≠ [] := fun e => c6 (by rw [e]; rfl)
              have t1 : t0 = 1 := by have := a5 hb1; omega
              have s1 : S.length = t0 := by omega
              rw [s1] at a6
              have an : ((leastAt ⟨mc.nodes, V⟩ t0).map ints).any (fun r => decide (r.getD 0 default = (ints S).getD 0 default)) = true := List.any_eq_true.2 ⟨ints S, List.mem_map.2 ⟨S, a6, rfl⟩, decide_eq_true rfl⟩
              exact ⟨by rw [an, decide_eq_true (by omega)]; rfl, rfl⟩
            · have _t7 := True.intro
              refine XK.skip ?_
              refine XK.seq ?_
              refine XK.region rfl ?_
              refine XO.q (Q.move rfl) ?_
              refine XO.ix rfl rfl (by omega) (by omega) fun i195 => ?_
              refine XO.q (Q.ldE rfl (by first | assumption | omega) rfl) ?_
              refine XO.len rfl fun l197 => ?_
              refine XO.q (Q.geq rfl rfl) ?_
              refine XO.q (Q.move rfl) ?_
              refine XO.gcallT rfl rfl Try.call13 rfl (fun g200 => .n) rfl (fun g200 p200 => awake11) ?_
              refine XO.q (Q.and rfl (fun hp => lzv hp rfl)) ?_
              refine XO.q (Q.assign rfl) ?_
              refine XO.done ?_
              refine XK.rt [] Try.func9 Try.results9 (.t rfl .n) ?_
              have hb1 : brokenTo ⟨mc.nodes, V⟩ mc.nodes.length ≠ [] := fun e => c6 (by rw [e]; rfl)
              have t1 := a5 hb1
              exact ⟨by rw [decide_eq_true (by omega)]; rfl, rfl⟩
end Go.X
