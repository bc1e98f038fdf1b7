/- Contracts of functions of the program, each proved by a walk through its operations. No condition but those that stand in each theorem. -/
import Derived.Test.YtfenlpoaphbfgaaK6
import Derived.Test.YtfenlpoaphbfgaaP4
set_option linter.unusedSimpArgs false
set_option linter.unusedVariables false
namespace Go.X
open Go.Proofs
structure GV where
  g : G
  vn : Value
  vg : Value
instance : Inhabited G := ⟨zeroG⟩
instance : Inhabited GV := ⟨⟨zeroG, undef, undef⟩⟩
def encGV (x : GV) : List Value := [.int .i64 x.g.S, .int .i64 x.g.C, .int .i64 x.g.K, x.vn, x.vg]
theorem product_bad {a b : G} {va vb wa wb : Value} {i : Nat} (hi : i < 2) (h0 : 0 < i → gcheck a = 0) (h : ¬ gcheck (([⟨a, va, vb⟩, ⟨b, wa, wb⟩] : List GV).getD i default).g = 0) :
    product a b = (zeroG, gcheck (([⟨a, va, vb⟩, ⟨b, wa, wb⟩] : List GV).getD i default).g) := by
  match i, hi with
  | 0, _ => change ¬ gcheck a = 0 at h; rw [product, if_pos h]; rfl
  | 1, _ => change ¬ gcheck b = 0 at h; rw [product, if_neg (by simpa using h0 (by omega)), if_pos h]; rfl

theorem product1 (Sa Ca Ka : Nat) (an : List Int) (ag : List Bool) (oka : Ok Sa Ca Ka an ag) (Sb Cb Kb : Nat) (bn : List Int) (bg : List Bool) (okb : Ok Sb Cb Kb bn bg) (vn vg wn wg : Value) (hn kn : PHeap) [sn : Arr vn encI 1 hn an] [tn : Arr wn encI 1 kn bn] (b2 b3 s u w : Nat) (hs : s < Sa * Sb) (hu : u < Ca * Cb) (hw : w < Ka * Kb) :
    Spec Try.prog 39 #[.int .i64 (s : Nat), .int .i64 (u : Nat), .int .i64 (w : Nat), ptr b2 0, ptr b3 0] [] [blk b2 [.int .i64 (Sa : Nat), .int .i64 (Ca : Nat), .int .i64 (Ka : Nat), vn, vg] 25, blk b3 [.int .i64 (Sb : Nat), .int .i64 (Cb : Nat), .int .i64 (Kb : Nat), wn, wg] 25, hn, kn]
    (fun v hs => v = .int .i64 (pcell an bn Ca Ka Sb Cb Kb s u w) ∧ hs = []) := by
  obtain ⟨hs1, hs2⟩ := div_lt' hs
  obtain ⟨hu1, hu2⟩ := div_lt' hu
  obtain ⟨hw1, hw2⟩ := div_lt' hw
  have hsb := okb.s1
  have hz1 : (0 : Int) ≤ (w : Int) / (Kb : Int) := Int.ediv_nonneg (by omega) (by omega)
  have hz2 : (0 : Int) ≤ (w : Int) % (Kb : Int) := Int.emod_nonneg _ (by have := okb.k1; omega)
  have hcb := okb.c1
  have hkb := okb.k1
  have hsa2 := oka.s2
  have hsb2 := okb.s2
  have hs3 : Sa * Sb ≤ 400 * 400 := Nat.mul_le_mul oka.s2 okb.s2
  have hu3 : Ca * Cb ≤ 16 * 16 := Nat.mul_le_mul oka.c2 okb.c2
  have hw3 : Ka * Kb ≤ 16 * 16 := Nat.mul_le_mul oka.k2 okb.k2
  have hla := lead_le (K := Ka) hs1 hu1
  have hlb := lead_le (K := Kb) hs2 hu2
  have hlna := leads_length (next := an) (C := Ca) (K := Ka) (s := s / Sb) (v := u / Cb) (by have := oka.len; omega)
  have hlnb := leads_length (next := bn) (C := Cb) (K := Kb) (s := s % Sb) (v := u % Cb) (by have := okb.len; omega)
  have hxa := oka.get ((s / Sb * Ca + u / Cb) * Ka + w / Kb)
  have hxb := okb.get ((s % Sb * Cb + u % Cb) * Kb + w % Kb)
  have hea : (leads an Ca Ka (s / Sb) (u / Cb)).getD (w / Kb) default = pxa an Ca Ka Sb Cb Kb s u w := leads_getD hw1
  have heb : (leads bn Cb Kb (s % Sb) (u % Cb)).getD (w % Kb) default = pxb bn Sb Cb Kb s u w := leads_getD hw2
  change -1 ≤ pxa an Ca Ka Sb Cb Kb s u w ∧ pxa an Ca Ka Sb Cb Kb s u w < Sa at hxa
  change -1 ≤ pxb bn Sb Cb Kb s u w ∧ pxb bn Sb Cb Kb s u w < Sb at hxb
  have hmul : 0 ≤ pxa an Ca Ka Sb Cb Kb s u w → 0 ≤ pxa an Ca Ka Sb Cb Kb s u w * Sb ∧ pxa an Ca Ka Sb Cb Kb s u w * Sb ≤ 400 * 400 := fun h => ⟨Int.mul_nonneg h (by omega), Int.mul_le_mul (by omega) (by omega) (by omega) (by omega)⟩
  refine Spec.intro (fn := Try.f39) (N := 55) Try.func39 rfl Try.ntmps39 rfl fun B => ?_
  refine XK.seq ?_
  refine XK.region rfl ?_
  refine XO.q (Q.assign rfl) ?_
  refine XO.done ?_
  refine XK.seq ?_
  refine XK.drawn [0, 1, 2, 3, 4, 5, 6, 7, 8, 10, 11, 12, 13, 14, 15, 16] [] [] (.q 0 (.q 1 (.q 2 (.q 3 (.q 4 (.q 5 (.q 6 (.q 7 (.q 8 (.q 10 (.q 11 (.q 12 (.q 13 (.br 9 true (.q 14 (.q 15 (.q 16 .done))) .stop)))))))))))))) Try.mixed rfl (by kernel_rfl) ?_
  refine XT.q rfl rfl (Q.ldA [_, _, _, _, _] rfl rfl rfl) ?_
  refine XT.q rfl rfl (Q.move rfl) ?_
  refine XT.q rfl rfl (Q.fieldAddr rfl) ?_
  refine XT.q rfl rfl (Q.ld rfl rfl) ?_
  refine XT.q rfl rfl (Q.quo rfl rfl (by omega) (by omega) (by omega)) ?_
  rw [show (((s : Nat) : Int) / ((Sb : Nat) : Int)) = ((s / Sb : Nat) : Int) from rfl]
  refine XT.q rfl rfl (Q.move rfl) ?_
  refine XT.q rfl rfl (Q.fieldAddr rfl) ?_
  refine XT.q rfl rfl (Q.ld rfl rfl) ?_
  refine XT.q rfl rfl (Q.quo rfl rfl (by omega) (by omega) (by omega)) ?_
  rw [show (((u : Nat) : Int) / ((Cb : Nat) : Int)) = ((u / Cb : Nat) : Int) from rfl]
  refine XT.q rfl rfl (Q.move rfl) ?_
  refine XT.q rfl rfl (Q.fieldAddr rfl) ?_
  refine XT.q rfl rfl (Q.ld rfl rfl) ?_
  refine XT.q rfl rfl (Q.quo rfl rfl (by omega) (by omega) (by omega)) ?_
  rw [show (((w : Nat) : Int) / ((Kb : Nat) : Int)) = ((w / Kb : Nat) : Int) from rfl]
  refine XT.call rfl rfl Try.call40 rfl rfl rfl (leads_spec Sa Ca Ka an ag oka vn vg hn (s / Sb) (u / Cb) hs1 hu1) (fun v20 s20 R20 => ?_) XT.stop
  obtain ⟨rfl, A20⟩ := R20
  dsimp only [List.cons_append, List.nil_append]
  refine ⟨inferInstance, ?_⟩
  refine XT.ix rfl rfl rfl rfl (by omega) (by omega) fun i25 => ?_
  refine XT.q rfl rfl (Q.ldE rfl (by first | assumption | omega) rfl) ?_
  rw [hea]
  refine XT.q rfl rfl (Q.assign rfl) ?_
  refine XT.done ?_
  refine XK.seq ?_
  refine XK.drawn [0, 1, 2, 3, 4, 5, 6, 7, 8, 10, 11, 12, 13, 14, 15, 16] [] [] (.q 0 (.q 1 (.q 2 (.q 3 (.q 4 (.q 5 (.q 6 (.q 7 (.q 8 (.q 10 (.q 11 (.q 12 (.q 13 (.br 9 true (.q 14 (.q 15 (.q 16 .done))) .stop)))))))))))))) Try.mixed rfl (by kernel_rfl) ?_
  refine XT.q rfl rfl (Q.ldA [_, _, _, _, _] rfl rfl rfl) ?_
  refine XT.q rfl rfl (Q.move rfl) ?_
  refine XT.q rfl rfl (Q.fieldAddr rfl) ?_
  refine XT.q rfl rfl (Q.ld rfl rfl) ?_
  refine XT.q rfl rfl (Q.rem rfl rfl (by omega) (by omega)) ?_
  rw [show (((s : Nat) : Int) % ((Sb : Nat) : Int)) = ((s % Sb : Nat) : Int) from rfl]
  refine XT.q rfl rfl (Q.move rfl) ?_
  refine XT.q rfl rfl (Q.fieldAddr rfl) ?_
  refine XT.q rfl rfl (Q.ld rfl rfl) ?_
  refine XT.q rfl rfl (Q.rem rfl rfl (by omega) (by omega)) ?_
  rw [show (((u : Nat) : Int) % ((Cb : Nat) : Int)) = ((u % Cb : Nat) : Int) from rfl]
  refine XT.q rfl rfl (Q.move rfl) ?_
  refine XT.q rfl rfl (Q.fieldAddr rfl) ?_
  refine XT.q rfl rfl (Q.ld rfl rfl) ?_
  refine XT.q rfl rfl (Q.rem rfl rfl (by omega) (by omega)) ?_
  rw [show (((w : Nat) : Int) % ((Kb : Nat) : Int)) = ((w % Kb : Nat) : Int) from rfl]
  refine XT.call rfl rfl Try.call40 rfl rfl rfl (leads_spec Sb Cb Kb bn bg okb wn wg kn (s % Sb) (u % Cb) hs2 hu2) (fun v36 s36 R36 => ?_) XT.stop
  obtain ⟨rfl, A36⟩ := R36
  dsimp only [List.cons_append, List.nil_append]
  refine ⟨inferInstance, ?_⟩
  refine XT.ix rfl rfl rfl rfl (by omega) (by omega) fun i41 => ?_
  refine XT.q rfl rfl (Q.ldE rfl (by first | assumption | omega) rfl) ?_
  rw [heb]
  refine XT.q rfl rfl (Q.assign rfl) ?_
  refine XT.done ?_
  refine XK.seq ?_
  refine XK.seq ?_
  refine XK.region rfl ?_
  refine XO.q (Q.move rfl) ?_
  refine XO.q (Q.lss rfl rfl) ?_
  refine XO.q (Q.move rfl) ?_
  refine XO.q (Quiet.guardF rfl rfl fun g46 p46 => Q.move rfl) ?_
  refine XO.q (Quiet.guardF rfl rfl fun g47 p47 => Q.lss (lzv g47 rfl) rfl) ?_
  refine XO.q (Q.or rfl (fun hp => lzv hp rfl)) ?_
  refine XO.done ?_
  refine XK.if rfl (fun c0 => ?_) (fun c0 => ?_)
  · have _t0 := True.intro
    refine XK.seq ?_
    refine XK.region rfl ?_
    refine XO.q (Q.assign rfl) ?_
    refine XO.done ?_
    refine XK.rt [] Try.func39 Try.results39 (.t rfl .n) ?_
    exact ⟨by rw [pcell, if_pos c0], rfl⟩
  · have _t0 := True.intro
    refine XK.skip ?_
    refine XK.seq ?_
    refine XK.region rfl ?_
    refine XO.q (Q.move rfl) ?_
    refine XO.q (Q.fieldAddr rfl) ?_
    refine XO.q (Q.ld rfl rfl) ?_
    refine XO.q (Q.mul rfl rfl ⟨by omega, by omega⟩) ?_
    refine XO.q (Q.move rfl) ?_
    refine XO.q (Q.add rfl rfl ⟨by omega, by omega⟩) ?_
    refine XO.q (Q.assign rfl) ?_
    refine XO.done ?_
    refine XK.rt [] Try.func39 Try.results39 (.t rfl .n) ?_
    exact ⟨by rw [pcell, if_neg c0], rfl⟩
theorem Spec.more {P : Program} {f : FuncId} {args : Array Value} {Hm Hr Hr' : List PHeap} {R : Value → List PHeap → Prop} (h : Spec P f args Hm Hr R) (hh : ∀ x ∈ Hr, x ∈ Hr') : Spec P f args Hm Hr' R :=
  fun o r w hs hr => h o r w hs (fun x hx => hr x (hh x hx))
theorem checkTwo (a b : G) (vn vg wn wg : Value) (hn hg kn kg : PHeap) [sn : Arr vn encI 1 hn a.next] [sg : Arr vg encB 1 hg a.good] [tn : Arr wn encI 1 kn b.next] [tg : Arr wg encB 1 kg b.good] (i : Nat) (hi : i < 2) : Spec Try.prog 38 #[.agg #[.int .i64 (([⟨a, vn, vg⟩, ⟨b, wn, wg⟩] : List GV).getD i default).g.S, .int .i64 (([⟨a, vn, vg⟩, ⟨b, wn, wg⟩] : List GV).getD i default).g.C, .int .i64 (([⟨a, vn, vg⟩, ⟨b, wn, wg⟩] : List GV).getD i default).g.K, (([⟨a, vn, vg⟩, ⟨b, wn, wg⟩] : List GV).getD i default).vn, (([⟨a, vn, vg⟩, ⟨b, wn, wg⟩] : List GV).getD i default).vg]] [] [hn, hg, kn, kg]
    (fun v hs => v = .int .i64 (gcheck (([⟨a, vn, vg⟩, ⟨b, wn, wg⟩] : List GV).getD i default).g) ∧ hs = []) := by
  match i, hi with
  | 0, _ => exact (check a vn vg hn hg).more (fun x hx => by simp at hx; rcases hx with rfl | rfl <;> simp)
  | 1, _ => exact (check b wn wg kn kg).more (fun x hx => by simp at hx; rcases hx with rfl | rfl <;> simp)
theorem product_spec (a b : G) (vn vg wn wg : Value) (hn hg kn kg : PHeap) [sn : Arr vn encI 1 hn a.next] [sg : Arr vg encB 1 hg a.good] [tn : Arr wn encI 1 kn b.next] [tg : Arr wg encB 1 kg b.good] : Spec Try.prog 13 #[.agg #[.int .i64 a.S, .int .i64 a.C, .int .i64 a.K, vn, vg], .agg #[.int .i64 b.S, .int .i64 b.C, .int .i64 b.K, wn, wg]] [] [hn, hg, kn, kg] (fun v hs => ∃ v1 v2 k1 k2, v = .tuple #[.agg #[.int .i64 (product a b).1.S, .int .i64 (product a b).1.C, .int .i64 (product a b).1.K, v1, v2], .int .i64 (product a b).2] ∧ hs = [k1, k2] ∧
      OArr v1 encI 1 3 k1 (product a b).1.next ∧ OArr v2 encB 1 4 k2 (product a b).1.good) := by
  refine Spec.intro (fn := Try.f13) (N := 112) Try.func13 rfl Try.ntmps13 rfl fun B => ?_
  have hnil : OArr (.slice none 0 0) encI 1 3 emp ([] : List Int) := OArr.nil (fun _ => rfl)
  have hnilB : OArr (.slice none 0 0) encB 1 4 emp ([] : List Bool) := OArr.nil (fun _ => rfl)
  refine XK.seq ?_
  refine XK.region rfl ?_
  refine XO.box rfl fun b2 => ?_
  refine XO.box rfl fun b3 => ?_
  refine XO.alloc fun b4 => ?_
  refine XO.q (Q.assign rfl) ?_
  refine XO.done ?_
  refine XK.seq ?_
  refine XK.seq ?_
  refine XK.region rfl ?_
  refine XO.q (Q.ldA [_, _, _, _, _] rfl rfl rfl) ?_
  refine XO.q (Q.ldA [_, _, _, _, _] rfl rfl rfl) ?_
  refine XO.lit [_, _, _, _, _, _, _, _, _, _] [_, _, _, _, _, _, _, _, _, _] [⟨a, vn, vg⟩, ⟨b, wn, wg⟩] encGV (by rfl) (by rfl) rfl (by rfl) (by exact .c 0 5 rfl rfl rfl (.c 5 5 rfl rfl rfl (.n _))) (fun _ => rfl) (by rfl) rfl (by infer_instance) rfl fun v16 h16 O16 => ?_
  refine XO.len rfl fun l17 => ?_
  refine XO.q (Q.move rfl) ?_
  refine XO.done ?_
  refine XK.block ?_
  refine XK.while (X := Nat) [5, 7, 8, 18, 19, 20, 21, 22, 23, 24, 25, 26, 27, 28] (fun i => [(18, some (.int .i64 (i : Nat)))]) (fun i => []) (fun i => i ≤ 2 ∧ (0 < i → gcheck a = 0) ∧ (1 < i → gcheck b = 0)) (fun i => 2 - i) (0) [] rfl ⟨by omega, by omega, by omega⟩ (.c rfl (.base 0 rfl rfl)) ?_
  rintro i ⟨hi, h0, h1⟩ ih0
  dsimp only [List.cons_append, List.nil_append] at ih0 ⊢
  refine XK.seq ?_
  refine XK.region rfl ?_
  refine XO.q (Q.lss rfl rfl) ?_
  refine XO.done ?_
  refine XK.seq ?_
  refine XK.if rfl (fun c0 => ?_) (fun c0 => ?_)
  · have _t0 := True.intro
    have hl2 : ([⟨a, vn, vg⟩, ⟨b, wn, wg⟩] : List GV).length = 2 := rfl
    have hi2 : i < 2 := by omega
    refine XK.skip ?_
    refine XK.seq ?_
    refine XK.block ?_
    refine XK.seq ?_
    refine XK.region rfl ?_
    refine XO.ix rfl rfl (by omega) (by omega) fun i20 => ?_
    refine XO.q (Q.ldEA [_, _, _, _, _] rfl (by first | assumption | omega) rfl rfl) ?_
    refine XO.alloc fun b7 => ?_
    have I1 : One (([⟨a, vn, vg⟩, ⟨b, wn, wg⟩] : List GV).getD i default).vn := by
      match i, hi2 with
      | 0, _ => exact (inferInstance : One vn)
      | 1, _ => exact (inferInstance : One wn)
    have I2 : One (([⟨a, vn, vg⟩, ⟨b, wn, wg⟩] : List GV).getD i default).vg := by
      match i, hi2 with
      | 0, _ => exact (inferInstance : One vg)
      | 1, _ => exact (inferInstance : One wg)
    refine XO.st rfl rfl rfl ?_
    refine XO.done ?_
    refine XK.seq ?_
    refine XK.region rfl ?_
    refine XO.q (Q.ldA [_, _, _, _, _] rfl rfl rfl) ?_
    refine XO.call Try.call38 rfl rfl rfl (checkTwo a b vn vg wn wg hn hg kn kg i (by omega)) fun v23 s23 R23 => ?_
    obtain ⟨rfl, rfl⟩ := R23
    dsimp only [List.cons_append, List.nil_append]
    refine XO.q (Q.assign rfl) ?_
    refine XO.done ?_
    refine XK.seq ?_
    refine XK.region rfl ?_
    refine XO.q (Q.move rfl) ?_
    refine XO.q (Q.neq rfl rfl) ?_
    refine XO.done ?_
    refine XK.if rfl (fun c1 => ?_) (fun c1 => ?_)
    · have _t1 := True.intro
      refine XK.seq ?_
      refine XK.region rfl ?_
      refine XO.q (Q.build [_, _, _, _, _] (.n _)) ?_
      refine XO.q (Q.move rfl) ?_
      refine XO.st rfl rfl rfl ?_
      refine XO.q (Q.assign rfl) ?_
      refine XO.done ?_
      refine XK.rt [emp, emp] Try.func13 Try.results13 (.cell [_, _, _, _, _] rfl rfl rfl (.t rfl .n)) ?_
      have hw := product_bad (va := vn) (vb := vg) (wa := wn) (wb := wg) (i := i) (by omega) h0 c1
      rw [hw]
      exact ⟨.slice none 0 0, .slice none 0 0, emp, emp, rfl, rfl, OArr.nil (fun _ => rfl), OArr.nil (fun _ => rfl)⟩
    · have _t1 := True.intro
      refine XK.skip ?_
      refine XK.inBlock ?_
      refine XK.region rfl ?_
      refine XO.q (Q.add rfl rfl ⟨by omega, by omega⟩) ?_
      refine XO.q (Q.move rfl) ?_
      refine XO.done ?_
      have c1' := Decidable.of_not_not c1
      exact ih0 (i + 1) _ _ (by match i, (by omega : i < 2) with
          | 0, _ => exact ⟨by omega, fun _ => c1', by omega⟩
          | 1, _ => exact ⟨by omega, fun _ => h0 (by omega), fun _ => c1'⟩) (by first | omega | (dsimp only; omega)) (.c rfl (.base 26 rfl rfl)) inferInstance
  · have _t0 := True.intro
    have hl2 : ([⟨a, vn, vg⟩, ⟨b, wn, wg⟩] : List GV).length = 2 := rfl
    have ea := h0 (by omega)
    have eb := h1 (by omega)
    obtain ⟨Sa, Ca, Ka, hSa, hCa, hKa, oka⟩ := gcheck_ok ea
    obtain ⟨gSa, gCa, gKa, an, ag⟩ := a
    dsimp only at *
    subst hSa hCa hKa
    obtain ⟨Sb, Cb, Kb, hSb, hCb, hKb, okb⟩ := gcheck_ok eb
    obtain ⟨gSb, gCb, gKb, bn, bg⟩ := b
    dsimp only at *
    subst hSb hCb hKb
    have hs3 : Sa * Sb ≤ 400 * 400 := Nat.mul_le_mul oka.s2 okb.s2
    have hu3 : Ca * Cb ≤ 16 * 16 := Nat.mul_le_mul oka.c2 okb.c2
    have hw3 : Ka * Kb ≤ 16 * 16 := Nat.mul_le_mul oka.k2 okb.k2
    obtain ⟨S, hS⟩ : ∃ S, S = Sa * Sb := ⟨_, rfl⟩
    obtain ⟨C, hC⟩ : ∃ C, C = Ca * Cb := ⟨_, rfl⟩
    obtain ⟨K, hK⟩ : ∃ K, K = Ka * Kb := ⟨_, rfl⟩
    have hSi : (Sa : Int) * (Sb : Int) = (S : Int) := by rw [hS]; simp
    have hCi : (Ca : Int) * (Cb : Int) = (C : Int) := by rw [hC]; simp
    have hKi : (Ka : Int) * (Kb : Int) = (K : Int) := by rw [hK]; simp
    have hsb := okb.s1
    have oklb := okb.len
    have okla := oka.len
    have okga := oka.glen
    have okgb := okb.glen
    refine XK.exit rfl ?_
    refine XK.seq ?_
    refine XK.region rfl ?_
    refine XO.q (Q.fieldAddr rfl) ?_
    refine XO.q (Q.ld rfl rfl) ?_
    refine XO.q (Q.fieldAddr rfl) ?_
    refine XO.q (Q.ld rfl rfl) ?_
    refine XO.q (Q.mul rfl rfl ⟨by omega, by omega⟩) ?_
    refine XO.q (Q.fieldAddr rfl) ?_
    refine XO.q (Q.ld rfl rfl) ?_
    refine XO.q (Q.fieldAddr rfl) ?_
    refine XO.q (Q.ld rfl rfl) ?_
    refine XO.q (Q.mul rfl rfl ⟨by omega, by omega⟩) ?_
    refine XO.q (Q.fieldAddr rfl) ?_
    refine XO.q (Q.ld rfl rfl) ?_
    refine XO.q (Q.fieldAddr rfl) ?_
    refine XO.q (Q.ld rfl rfl) ?_
    refine XO.q (Q.mul rfl rfl ⟨by omega, by omega⟩) ?_
    refine XO.q (Q.build [_, _, _, _, _] (.c 0 1 rfl rfl rfl (.c 1 1 rfl rfl rfl (.c 2 1 rfl rfl rfl (.n _))))) ?_
    refine XO.alloc fun b9 => ?_
    refine XO.st rfl rfl rfl ?_
    rw [hSi, hCi, hKi]
    refine XO.done ?_
    refine XK.seq ?_
    refine XK.seq ?_
    refine XK.region rfl ?_
    refine XO.q (Q.fieldAddr rfl) ?_
    refine XO.q (Q.ld rfl rfl) ?_
    refine XO.q (Q.gtr rfl rfl) ?_
    refine XO.q (Q.move rfl) ?_
    refine XO.q (Quiet.guardF rfl rfl fun g49 p49 => Q.fieldAddr rfl) ?_
    refine XO.q (Quiet.guardF rfl rfl fun g50 p50 => Q.ld (lzv g50 rfl) rfl) ?_
    refine XO.q (Quiet.guardF rfl rfl fun g51 p51 => Q.gtr (lzv g51 rfl) rfl) ?_
    refine XO.q (Q.or rfl (fun hp => lzv hp rfl)) ?_
    refine XO.q (Q.move rfl) ?_
    refine XO.q (Quiet.guardF rfl rfl fun g54 p54 => Q.fieldAddr rfl) ?_
    refine XO.q (Quiet.guardF rfl rfl fun g55 p55 => Q.ld (lzv g55 rfl) rfl) ?_
    refine XO.q (Quiet.guardF rfl rfl fun g56 p56 => Q.gtr (lzv g56 rfl) rfl) ?_
    refine XO.q (Q.or rfl (fun hp => lzv hp rfl)) ?_
    refine XO.done ?_
    refine XK.if rfl (fun c2 => ?_) (fun c2 => ?_)
    · have _t2 := True.intro
      refine XK.seq ?_
      refine XK.region rfl ?_
      refine XO.q (Q.build [_, _, _, _, _] (.n _)) ?_
      refine XO.st rfl rfl rfl ?_
      refine XO.q (Q.assign rfl) ?_
      refine XO.done ?_
      refine XK.rt [emp, emp] Try.func13 Try.results13 (.cell [_, _, _, _, _] rfl rfl rfl (.t rfl .n)) ?_
      have hw := (show product ⟨Sa, Ca, Ka, an, ag⟩ ⟨Sb, Cb, Kb, bn, bg⟩ = (zeroG, 2) by rw [product, if_neg (by simpa using ea), if_neg (by simpa using eb), if_pos (by dsimp only; omega)])
      rw [hw]
      exact ⟨.slice none 0 0, .slice none 0 0, emp, emp, rfl, rfl, OArr.nil (fun _ => rfl), OArr.nil (fun _ => rfl)⟩
    · have _t2 := True.intro
      have hS4 : S * C ≤ 400 * 16 := Nat.mul_le_mul (by omega) (by omega)
      have hS5 : S * C * K ≤ 6400 * 16 := Nat.mul_le_mul (by omega) (by omega)
      refine XK.skip ?_
      refine XK.seq ?_
      refine XK.region rfl ?_
      refine XO.q (Q.func (fun _ he => rfl) (fun _ he => evs_rel he rfl)) ?_
      refine XO.q (Q.assign rfl) ?_
      refine XO.done ?_
      refine XK.seq ?_
      refine XK.seq ?_
      refine XK.region rfl ?_
      refine XO.q (Q.fieldAddr rfl) ?_
      refine XO.q (Q.ld rfl rfl) ?_
      refine XO.q (Q.move rfl) ?_
      refine XO.done ?_
      refine XK.block ?_
      refine XK.while (X := Nat × Value × PHeap × Value × PHeap) [11, 12, 13, 62, 63, 64, 65, 66, 67, 68, 69, 70, 71, 72, 73, 74, 75, 76, 77, 78, 79, 80, 81, 82, 83, 84, 85, 86, 87, 88, 89, 90, 91, 92, 93, 94, 95, 96, 97, 98, 99, 100, 101, 102, 103, 104, 105, 106, 107, 108, 109, 110] (fun ⟨s, vN, hN, vG, hG⟩ => [(62, some (.int .i64 (s : Nat)))]) (fun ⟨s, vN, hN, vG, hG⟩ => [blk b9 [.int .i64 (S : Nat), .int .i64 (C : Nat), .int .i64 (K : Nat), vN, vG] 25, hN, hG]) (fun ⟨s, vN, hN, vG, hG⟩ => s ≤ S ∧ OArr vN encI 1 3 hN ((List.range (s * C * K)).map (pnext an bn Ca Ka Sb Cb Kb C K)) ∧ OArr vG encB 1 4 hG ((List.range s).map (pgood ag bg Sb))) (fun ⟨s, vN, hN, vG, hG⟩ => S - s) (0, .slice none 0 0, emp, .slice none 0 0, emp) [blk b9 [.int .i64 (S : Nat), .int .i64 (C : Nat), .int .i64 (K : Nat), .slice none 0 0, .slice none 0 0] 25, emp, emp] rfl ⟨by omega, by simpa using hnil, by simpa using hnilB⟩ (.c rfl (.base 0 rfl rfl)) ?_
      rintro ⟨s, vN, hN, vG, hG⟩ ⟨hs, ON, OG⟩ ih1
      dsimp only [List.cons_append, List.nil_append] at ih1 ⊢
      refine XK.seq ?_
      refine XK.region rfl ?_
      refine XO.q (Q.lss rfl rfl) ?_
      refine XO.done ?_
      refine XK.seq ?_
      refine XK.if rfl (fun c3 => ?_) (fun c3 => ?_)
      · have _t3 := True.intro
        obtain ⟨hs1, hs2⟩ := div_lt' (s := s) (Sa := Sa) (Sb := Sb) (by omega)
        have hz1 : (0 : Int) ≤ (s : Int) / (Sb : Int) := Int.ediv_nonneg (by omega) (by omega)
        have hz2 : (0 : Int) ≤ (s : Int) % (Sb : Int) := Int.emod_nonneg _ (by omega)
        refine XK.skip ?_
        refine XK.seq ?_
        refine XK.block ?_
        refine XK.seq ?_
        refine XK.region rfl ?_
        refine XO.q (Q.move rfl) ?_
        refine XO.q (Q.assign rfl) ?_
        refine XO.done ?_
        refine XK.seq ?_
        refine XK.drawn [0, 1, 2, 3, 4, 5, 6, 7, 8, 9, 10, 11, 12, 13, 14, 15, 16, 17, 18, 19, 22] [b9, b2, b3] [] (.q 0 (.q 1 (.q 2 (.q 3 (.q 4 (.q 5 (.q 6 (.q 7 (.q 8 (.q 9 (.q 10 (.q 11 (.q 12 (.q 13 (.q 14 (.q 15 (.q 16 (.q 17 (.q 18 (.q 19 (.br 20 true (.br 21 true (.q 22 (.br 23 false .done .stop)) .stop) .stop))))))))))))))))))))) Try.mixed rfl (by kernel_rfl) ?_
        refine XT.q rfl rfl (Q.fieldAddr rfl) ?_
        refine XT.q rfl rfl (Q.ld rfl rfl) ?_
        refine XT.q rfl rfl (Q.fieldAddr rfl) ?_
        refine XT.q rfl rfl (Q.ld rfl rfl) ?_
        refine XT.q rfl rfl (Q.move rfl) ?_
        refine XT.q rfl rfl (Q.fieldAddr rfl) ?_
        refine XT.q rfl rfl (Q.ld rfl rfl) ?_
        refine XT.q rfl rfl (Q.quo rfl rfl (by omega) (by omega) (by omega)) ?_
        rw [show (((s : Nat) : Int) / ((Sb : Nat) : Int)) = ((s / Sb : Nat) : Int) from rfl]
        refine XT.ix rfl rfl rfl rfl (by omega) (by omega) fun i73 => ?_
        refine XT.q rfl rfl (Q.ldE rfl (by first | assumption | omega) rfl) ?_
        refine XT.q rfl rfl (Q.move rfl) ?_
        refine XT.q rfl rfl (Quiet.guardT rfl rfl fun g76 p76 => Q.fieldAddr rfl) ?_
        refine XT.q rfl rfl (Quiet.guardT rfl rfl fun g77 p77 => Q.ld (lzv g77 rfl) rfl) ?_
        refine XT.q rfl rfl (Quiet.guardT rfl rfl fun g78 p78 => Q.move rfl) ?_
        refine XT.q rfl rfl (Quiet.guardT rfl rfl fun g79 p79 => Q.fieldAddr rfl) ?_
        refine XT.q rfl rfl (Quiet.guardT rfl rfl fun g80 p80 => Q.ld (lzv g80 rfl) rfl) ?_
        refine XT.q rfl rfl (Quiet.guardT rfl rfl fun g81 p81 => Q.rem (lzv g81 rfl) (lzv g81 rfl) (by omega) (by omega)) ?_
        rw [show (((s : Nat) : Int) % ((Sb : Nat) : Int)) = ((s % Sb : Nat) : Int) from rfl]
        refine XT.q rfl rfl (Quiet.guardT rfl rfl fun g82 p82 => Q.ix (lzv g82 rfl) (lzv g82 rfl) (by omega) (by omega)) ?_
        refine XT.q rfl rfl (Quiet.guardT rfl rfl fun g83 p83 => Q.ldE (lzv g83 rfl) (by first | assumption | omega) rfl) ?_
        refine XT.q rfl rfl (Q.and rfl (fun hp => lzv hp rfl)) ?_
        refine XT.lit [_] [_] [_] encB rfl rfl (by rfl) (by rfl) rfl (by rfl) (by exact .c 0 1 rfl rfl rfl (.n _)) (fun _ => rfl) (by rfl) rfl (by infer_instance) rfl (fun v85 h85 O85 => ⟨inferInstance, ?_⟩) XT.stop
        refine XT.append rfl rfl rfl rfl rfl rfl (by simp only [List.length_map, List.length_range, List.length_cons, List.length_nil]; omega) (fun v86 h86 O86 => ⟨inferInstance, ?_⟩) XT.stop
        have O86' : OArr v86 encB 1 4 h86 ((List.range (s + 1)).map (pgood ag bg Sb)) := by
          rw [range_map_succ]; exact O86
        refine XT.q rfl rfl (Q.fieldAddr rfl) ?_
        refine XT.st rfl rfl rfl rfl rfl ⟨inferInstance, ?_⟩ XT.stop
        refine XT.done ?_
        refine XK.seq ?_
        refine XK.region rfl ?_
        refine XO.q (Q.fieldAddr rfl) ?_
        refine XO.q (Q.ld rfl rfl) ?_
        refine XO.q (Q.move rfl) ?_
        refine XO.done ?_
        refine XK.block ?_
        refine XK.while (X := Nat × Value × PHeap) [12, 13, 90, 91, 92, 93, 94, 95, 96, 97, 98, 99, 100, 101, 102, 103, 104, 105, 106, 107, 108, 109] (fun ⟨u, vM, hM⟩ => [(90, some (.int .i64 (u : Nat)))]) (fun ⟨u, vM, hM⟩ => [blk b9 [.int .i64 (S : Nat), .int .i64 (C : Nat), .int .i64 (K : Nat), vM, v86] 25, hM]) (fun ⟨u, vM, hM⟩ => u ≤ C ∧ OArr vM encI 1 3 hM ((List.range ((s * C + u) * K)).map (pnext an bn Ca Ka Sb Cb Kb C K))) (fun ⟨u, vM, hM⟩ => C - u) (0, vN, hN) [blk b9 [.int .i64 (S : Nat), .int .i64 (C : Nat), .int .i64 (K : Nat), vN, v86] 25, hN] rfl ⟨by omega, by simpa using ON⟩ (.c rfl (.base 0 rfl rfl)) ?_
        rintro ⟨u, vM, hM⟩ ⟨hu, OM⟩ ih2
        dsimp only [List.cons_append, List.nil_append] at ih2 ⊢
        refine XK.seq ?_
        refine XK.region rfl ?_
        refine XO.q (Q.lss rfl rfl) ?_
        refine XO.done ?_
        refine XK.seq ?_
        refine XK.if rfl (fun c4 => ?_) (fun c4 => ?_)
        · have _t4 := True.intro
          have hlk := lead_le (K := K) (C := C) (S := S) (s := s) (u := u) (by omega) (by omega)
          refine XK.skip ?_
          refine XK.seq ?_
          refine XK.block ?_
          refine XK.seq ?_
          refine XK.region rfl ?_
          refine XO.q (Q.move rfl) ?_
          refine XO.q (Q.assign rfl) ?_
          refine XO.done ?_
          refine XK.seq ?_
          refine XK.region rfl ?_
          refine XO.q (Q.fieldAddr rfl) ?_
          refine XO.q (Q.ld rfl rfl) ?_
          refine XO.q (Q.move rfl) ?_
          refine XO.done ?_
          refine XK.block ?_
          refine XK.while (X := Nat × Value × PHeap) [13, 95, 96, 97, 98, 99, 100, 101, 102, 103, 104, 105, 106, 107, 108] (fun ⟨w, vL, hL⟩ => [(95, some (.int .i64 (w : Nat)))]) (fun ⟨w, vL, hL⟩ => [blk b9 [.int .i64 (S : Nat), .int .i64 (C : Nat), .int .i64 (K : Nat), vL, v86] 25, hL]) (fun ⟨w, vL, hL⟩ => w ≤ K ∧ OArr vL encI 1 3 hL ((List.range ((s * C + u) * K + w)).map (pnext an bn Ca Ka Sb Cb Kb C K))) (fun ⟨w, vL, hL⟩ => K - w) (0, vM, hM) [blk b9 [.int .i64 (S : Nat), .int .i64 (C : Nat), .int .i64 (K : Nat), vM, v86] 25, hM] rfl ⟨by omega, by simpa using OM⟩ (.c rfl (.base 0 rfl rfl)) ?_
          rintro ⟨w, vL, hL⟩ ⟨hw, OL⟩ ih3
          dsimp only [List.cons_append, List.nil_append] at ih3 ⊢
          refine XK.seq ?_
          refine XK.region rfl ?_
          refine XO.q (Q.lss rfl rfl) ?_
          refine XO.done ?_
          refine XK.seq ?_
          refine XK.if rfl (fun c5 => ?_) (fun c5 => ?_)
          · have _t5 := True.intro
            refine XK.skip ?_
            refine XK.seq ?_
            refine XK.block ?_
            refine XK.seq ?_
            refine XK.region rfl ?_
            refine XO.q (Q.move rfl) ?_
            refine XO.q (Q.assign rfl) ?_
            refine XO.done ?_
            refine XK.drawn [0, 1, 2, 3, 4, 5, 9] [b9] [] (.q 0 (.q 1 (.q 2 (.q 3 (.q 4 (.q 5 (.br 6 true (.br 7 true (.br 8 true (.q 9 (.br 10 false .done .stop)) .stop) .stop) .stop))))))) Try.mixed rfl (by kernel_rfl) ?_
            refine XT.q rfl rfl (Q.fieldAddr rfl) ?_
            refine XT.q rfl rfl (Q.ld rfl rfl) ?_
            refine XT.q rfl rfl (Q.move rfl) ?_
            refine XT.q rfl rfl (Q.move rfl) ?_
            refine XT.q rfl rfl (Q.move rfl) ?_
            refine XT.q rfl rfl (Q.move rfl) ?_
            refine XT.call rfl rfl Try.call39 rfl rfl rfl (product1 Sa Ca Ka an ag oka Sb Cb Kb bn bg okb vn vg wn wg hn kn b2 b3 s u w (by omega) (by omega) (by omega)) (fun v104 s104 R104 => ?_) XT.stop
            obtain ⟨rfl, rfl⟩ := R104
            dsimp only [List.cons_append, List.nil_append]
            refine ⟨inferInstance, ?_⟩
            refine XT.lit [_] [_] [_] encI rfl rfl (by rfl) (by rfl) rfl (by rfl) (by exact .c 0 1 rfl rfl rfl (.n _)) (fun _ => rfl) (by rfl) rfl (by infer_instance) rfl (fun v105 h105 O105 => ⟨inferInstance, ?_⟩) XT.stop
            refine XT.append rfl rfl rfl rfl rfl rfl (by simp only [List.length_map, List.length_range, List.length_cons, List.length_nil]; omega) (fun v106 h106 O106 => ⟨inferInstance, ?_⟩) XT.stop
            refine XT.q rfl rfl (Q.fieldAddr rfl) ?_
            refine XT.st rfl rfl rfl rfl rfl ⟨inferInstance, ?_⟩ XT.stop
            refine XT.done ?_
            refine XK.inBlock ?_
            refine XK.region rfl ?_
            refine XO.q (Q.add rfl rfl ⟨by omega, by omega⟩) ?_
            refine XO.q (Q.move rfl) ?_
            refine XO.done ?_
            exact ih3 (w + 1, v106, h106) _ _ ⟨by omega, by rw [← Nat.add_assoc, range_map_succ, pnext_at (by omega) (by omega)]; exact O106⟩ (by first | omega | (dsimp only; omega)) (.c rfl (.base 31 rfl rfl)) inferInstance
          · have _t5 := True.intro
            refine XK.exit rfl ?_
            refine XK.inBlock ?_
            refine XK.region rfl ?_
            refine XO.q (Q.add rfl rfl ⟨by omega, by omega⟩) ?_
            refine XO.q (Q.move rfl) ?_
            refine XO.done ?_
            exact ih2 (u + 1, vL, hL) _ _ ⟨by omega, by rw [← Nat.add_assoc, Nat.add_mul (s * C + u) 1 K, Nat.one_mul]; simpa [show w = K by omega] using OL⟩ (by first | omega | (dsimp only; omega)) (.c rfl (.base 48 rfl rfl)) inferInstance
        · have _t4 := True.intro
          refine XK.exit rfl ?_
          refine XK.inBlock ?_
          refine XK.region rfl ?_
          refine XO.q (Q.add rfl rfl ⟨by omega, by omega⟩) ?_
          refine XO.q (Q.move rfl) ?_
          refine XO.done ?_
          exact ih1 (s + 1, vM, hM, v86, h86) _ _ ⟨by omega, by rw [Nat.add_mul s 1 C, Nat.one_mul]; simpa [show u = C by omega] using OM, O86'⟩ (by first | omega | (dsimp only; omega)) (.c rfl (.base 108 rfl rfl)) inferInstance
      · have _t3 := True.intro
        refine XK.exit rfl ?_
        refine XK.seq ?_
        refine XK.region rfl ?_
        refine XO.q (Q.ldA [_, _, _, _, _] rfl rfl rfl) ?_
        refine XO.st rfl rfl rfl ?_
        refine XO.q (Q.assign rfl) ?_
        refine XO.done ?_
        refine XK.rt [hN, hG] Try.func13 Try.results13 (.cell [_, _, _, _, _] rfl rfl rfl (.t rfl .n)) ?_
        have hw : product ⟨Sa, Ca, Ka, an, ag⟩ ⟨Sb, Cb, Kb, bn, bg⟩ = (⟨S, C, K, (List.range (S * C * K)).map (pnext an bn Ca Ka Sb Cb Kb C K), (List.range S).map (pgood ag bg Sb)⟩, 0) := by
          rw [product, if_neg (by simpa using ea), if_neg (by simpa using eb), if_neg (by dsimp only; omega)]; dsimp only; rw [hSi, hCi, hKi]; simp only [Int.toNat_natCast]
        rw [hw]
        have hsS : s = S := by omega
        subst hsS
        exact ⟨vN, vG, hN, hG, rfl, rfl, ON, OG⟩
end Go.X
