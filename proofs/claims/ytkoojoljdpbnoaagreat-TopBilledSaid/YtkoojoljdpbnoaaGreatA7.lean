/- A part of the proof: a small program logic, plain laws and contracts of functions, each proved by a walk through its operations. No condition but those that stand in each theorem. -/
import Derived.Test.YtkoojoljdpbnoaaGreatA6
set_option linter.unusedSimpArgs false
set_option linter.unusedVariables false
set_option maxRecDepth 20000
namespace Go.X.Ma
open Go.Proofs
theorem first_one {h : KHour} {n e m now low : Int} {v : Int → Int → Int} {k : Nat} (h0 : firstC h n e m v now low k = none) (hit : hitC h n e m v now (low + (k : Int)) = true) : ∀ c, k < c → firstC h n e m v now low c = some (low + (k : Int))
 | 0, hc => by omega
 | c + 1, hc => by
  rcases Nat.lt_or_ge k c with h2 | h2
  ·rw [firstC, first_one h0 hit c h2]
  ·obtain rfl : k = c := by omega
   rw [firstC, h0]
   simp [hit]
theorem first_none {h : KHour} {n e m now low : Int} {v : Int → Int → Int} {k : Nat} (h0 : firstC h n e m v now low k = none) (hit : ¬ hitC h n e m v now (low + (k : Int)) = true) : firstC h n e m v now low (k + 1) = none := by
 rw [firstC, h0]
 simp [hit]
set_option maxHeartbeats 1000000 in
theorem plan_spec (d : KDay) (vh vj : Value) (hh hj : PHeap) [ih : Arr vh encHour 6 hh d.hours] [ij : Arr vj encJob 4 hj d.jobs] (vb vv : Value) (hb hv : PHeap) (base vals : List Int) [jb : Arr vb encI 1 hb base] [jv : Arr vv encI 1 hv vals] (ok : DayOk d) (bo : BaseOk d base) (tk : TabOk d base vals) (b : Nat) : Spec Tryz.prog 148 #[ptr b 0] [] [blk b [vh, .int .i64 d.store.energy, .int .i64 d.store.full, .int .i64 d.store.power, .int .i64 d.store.fin, vj, .int .i64 d.most, .int .i64 d.peak, vb, vv] 298, hb, hv, hh] (fun v hs => ∃ k, hs = [k] ∧ OArr v encI 1 3 k (planL d base) ∧ StateOk d (planTo d base d.hours.length).e (planTo d base d.hours.length).m) := by
 have lh := ih.le
 have h24 := ok.h2
 have f1 := ok.store.f1
 have q1 := ok.m1
 have tl := tk.len
 have bl := bo.len
 have nI : OArr (.slice none 0 0) encI 1 3 emp ([] : List Int) := OArr.nil (fun _ => rfl)
 refine Spec.intro (fn := Tryz.f148) (N := 82) Tryz.func148 rfl Tryz.ntmps148 rfl fun B => ?_
 refine XK.seq (XK.region rfl ?_)
 refine XO.box rfl fun b1 => ?_
 refine XO.q (Q.assign rfl) (XO.done (XK.seq (XK.region rfl ?_)))
 refine XO.alloc fun b3 => ?_
 refine XO.done (XK.seq (XK.region rfl ?_))
 refine XO.q (Q.ld rfl rfl) ?_
 refine XO.q (Q.nilCheck rfl) ?_
 refine XO.q (Q.fieldAddr rfl) ?_
 refine XO.q (Q.fieldAddr rfl) ?_
 refine XO.q (Q.fieldAddr rfl) ?_
 refine XO.q (Q.ld rfl rfl) ?_
 refine XO.alloc fun b4 => ?_
 refine XO.alloc fun b5 => ?_
 refine XO.st rfl rfl rfl ?_
 refine XO.st rfl rfl rfl ?_
 refine XO.done (XK.seq (XK.seq (XK.region rfl ?_)))
 refine XO.q (Q.ld rfl rfl) ?_
 refine XO.q (Q.nilCheck rfl) ?_
 refine XO.q (Q.fieldAddr rfl) ?_
 refine XO.q (Q.fieldAddr rfl) ?_
 refine XO.q (Q.ld rfl rfl) ?_
 refine XO.len rfl fun l22 => ?_
 refine XO.q (Q.move rfl) (XO.done (XK.block ?_))
 refine XK.while (X := Nat × Value × PHeap) [6, 7, 8, 9, 10, 23, 24, 25, 26, 27, 28, 29, 30, 31, 32, 33, 34, 35, 36, 37, 38, 39, 40, 41, 44, 45, 46, 47, 48, 49, 50, 51, 52, 53, 54, 55, 56, 57, 58, 59, 60, 61, 62, 63, 64, 65, 66, 67, 68, 69, 70, 71, 72, 73, 74, 75, 76, 77, 78, 79, 80] (fun ⟨hr, vo, ko⟩ => [(23, some (.int .i64 (hr : Nat)))]) (fun ⟨hr, vo, ko⟩ => [blk b3 [vo] 29, blk b4 [.int .i64 (planTo d base (hr)).e] 3, blk b5 [.int .i64 (planTo d base (hr)).m] 3, ko]) (fun ⟨hr, vo, ko⟩ => hr ≤ d.hours.length ∧ OArr vo encI 1 3 ko (planTo d base (hr)).l ∧ StateOk d (planTo d base (hr)).e (planTo d base (hr)).m ∧ (planTo d base (hr)).l.length ≤ hr) (fun ⟨hr, vo, ko⟩ => d.hours.length - hr) (0, .slice none 0 0, emp) [blk b3 [.slice none 0 0] 29, blk b4 [.int .i64 d.store.energy] 3, blk b5 [.int .i64 0] 3, emp] rfl ⟨by omega, nI, ⟨ok.store.e0, ok.store.e1, Int.le_refl _, ok.m0⟩, by simp [planTo]⟩ (.c rfl (.base 0 rfl rfl)) ?_
 rintro ⟨hr, vo, ko⟩ ⟨hh1, OO, so, lo⟩ ih0
 dsimp only [lcA, lnA] at ih0 ⊢
 refine XK.seq (XK.region rfl ?_)
 refine XO.q (Q.lss rfl rfl) ?_
 refine XO.done (XK.seq ?_)
 refine XK.if rfl (fun c0 => ?_) (fun c0 => ?_)
 ·skip
  have so0 := so.e0
  have so1 := so.e1
  have so2 := so.m0
  have so3 := so.m1
  have ar := at_rng so (show (0 : Int) ≤ (hr : Int) by omega) (by omega)
  have ev := tk.val hr (planTo d base (hr)).e (planTo d base (hr)).m (by omega) so
  have br := bo.rng hr (by omega)
  refine XK.skip (XK.seq (XK.block (XK.seq (XK.region rfl (XO.q (Q.move rfl) ?_)))))
  refine XO.alloc fun b6 => ?_
  refine XO.st rfl rfl rfl ?_
  refine XO.done (XK.seq ?_)
  refine XK.meet (X := Nat) [7, 26, 27, 28, 29, 30, 31, 32, 33, 34, 35, 36] (fun b7 => [(7, some (ptr b7 0))]) (fun b7 => [blk b7 [.int .i64 (valH d base hr (planTo d base (hr)).e (planTo d base (hr)).m)] 3]) (fun b7 => True) [] ?_ ?_
  ·rintro b7 _
   dsimp only [lcA, lnA]
   refine XK.seq (XK.region rfl ?_)
   refine XO.q (Q.ld rfl rfl) ?_
   refine XO.q (Q.ld rfl rfl) ?_
   refine XO.q (Q.ld rfl rfl) ?_
   refine XO.q (Q.ld rfl rfl) ?_
   refine XO.call Tryz.call195 rfl rfl rfl (charges_spec b hr (planTo d base (hr)).e (planTo d base (hr)).m) fun v41 s41 R41 => ?_
   obtain ⟨x1, x2, x3, x4, rfl, rfl⟩ := R41
   dsimp only [lcA, lnA]
   refine XO.done (XK.block ?_)
   refine XK.range (X := Nat × Value × PHeap × KSt) (ps := [42, 43]) (chItems d base hr (planTo d base (hr)).e (planTo d base (hr)).m) (fun ⟨k, vo2, ko2, st⟩ => [blk b3 [vo2] 29, blk b4 [.int .i64 st.e] 3, blk b5 [.int .i64 st.m] 3, ko2]) (fun i ⟨k, vo2, ko2, st⟩ => k = i ∧ st = (planTo d base (hr)) ∧ OArr vo2 encI 1 3 ko2 st.l ∧ (firstC (d.hours.getD hr default) (base.getD hr default) (planTo d base (hr)).e (planTo d base (hr)).m (valH d base (hr + 1)) (valH d base hr (planTo d base (hr)).e (planTo d base (hr)).m) (lowC d (planTo d base (hr)).e) (k)) = none) (fun j0 ⟨k, vo2, ko2, st⟩ => j0 = Code.exit 2 ∧ st = (planTo d base (hr + 1)) ∧ OArr vo2 encI 1 3 ko2 st.l ∧ StateOk d st.e st.m ∧ st.l.length ≤ hr + 1) (0, vo, ko, (planTo d base (hr))) [blk b3 [vo] 29, blk b4 [.int .i64 (planTo d base (hr)).e] 3, blk b5 [.int .i64 (planTo d base (hr)).m] 3, ko] rfl ⟨rfl, rfl, OO, rfl⟩ rfl (charges1 d vh vj hh hj vb vv hb base ok bo b x1 x2 x3 x4 hr (by omega) (planTo d base (hr)).e (planTo d base (hr)).m so) rfl (chItems_two) ?_ ?_ ?_
   ·rintro lq rec B' i ⟨k, vo2, ko2, st⟩ hi ⟨hki, hst, O2, hfc⟩
    dsimp only [lcA, lnA]
    rw [chItems_len] at hi
    subst hki
    obtain ⟨sn, n1, n2, n3⟩ := next_ok ok so hi
    have arn0 := at_rng sn (show (0 : Int) ≤ ((hr : Int) + 1) by omega) (by omega)
    have ev2 : vals.getD (nextC d base hr (planTo d base (hr)).e (planTo d base (hr)).m ((lowC d (planTo d base (hr)).e) + ((k : Nat) : Int))).toNat default = (valH d base (hr + 1) ((planTo d base (hr)).e + ((lowC d (planTo d base (hr)).e) + ((k : Nat) : Int))) (max (planTo d base (hr)).m ((base.getD hr default) + ((lowC d (planTo d base (hr)).e) + ((k : Nat) : Int))))) := tk.val (hr + 1) _ _ (by omega) sn
    have arn : 0 ≤ nextC d base hr (planTo d base (hr)).e (planTo d base (hr)).m ((lowC d (planTo d base (hr)).e) + ((k : Nat) : Int)) ∧ nextC d base hr (planTo d base (hr)).e (planTo d base (hr)).m ((lowC d (planTo d base (hr)).e) + ((k : Nat) : Int)) < sizeK d := arn0
    have vr := val_rng ok bo (show hr + 1 ≤ d.hours.length by omega) sn
    have pr := price_rng (h := (d.hours.getD hr default)) (ok.hour hr (by omega)) (n := (base.getD hr default) + ((lowC d (planTo d base (hr)).e) + ((k : Nat) : Int))) (by omega) (by omega)
    rw [chItems_at hi]
    dsimp only [pars, chItem]
    unfold never at vr
    subst hst
    refine XK.seq (XK.region rfl (XO.q (Q.assign rfl) (XO.done (XK.region rfl ?_))))
    refine XO.alloc fun b9 => ?_
    refine XO.st rfl rfl rfl ?_
    refine XO.done ?_
    refine XK.beginRound ?_
    refine XK.block (XK.seq ?_)
    refine XK.drawn [0, 1, 2, 3, 4, 5, 6, 7, 8] [b1, b9] [] (.q 0 (.q 1 (.q 2 (.q 3 (.q 4 (.q 5 (.q 6 (.q 7 (.q 8 .done))))))))) Tryz.mixed rfl (by kernel_rfl) ?_
    refine XT.q rfl rfl (Q.ld rfl rfl) ?_
    refine XT.q rfl rfl (Q.nilCheck rfl) ?_
    refine XT.q rfl rfl (Q.fieldAddr rfl) ?_
    refine XT.q rfl rfl (Q.ld rfl rfl) ?_
    refine XT.q rfl rfl (Q.ixA rfl rfl (by omega) (by omega)) ?_
    refine XT.q rfl rfl (Q.ld rfl rfl) ?_
    refine XT.ix rfl rfl rfl rfl (by omega) (by omega) fun i50 => ?_
    refine XT.q rfl rfl (Q.ldE rfl (by first | assumption | omega) rfl) ?_
    rw [ev2]
    refine XT.q rfl rfl (Q.assign rfl) ?_
    refine XT.done ?_
    refine XK.seq (XK.region rfl (XO.q (Q.move rfl) ?_))
    refine XO.q (Q.lss rfl rfl) ?_
    refine XO.q (Q.move rfl) ?_
    refine XO.q (Quiet.guardT rfl rfl fun g55 p55 => Q.ixA rfl rfl (by omega) (by omega)) ?_
    refine XO.q (Quiet.guardT rfl rfl fun g56 p56 => Q.ld (lzv g56 rfl) rfl) ?_
    refine XO.q (Quiet.guardT rfl rfl fun g57 p57 => Q.move rfl) ?_
    refine XO.q (Quiet.guardT rfl rfl fun g58 p58 => Q.add (lzv g58 rfl) (lzv g58 rfl) ⟨by omega, by omega⟩) ?_
    refine XO.q (Quiet.guardT rfl rfl fun g59 p59 => Q.ld rfl rfl) ?_
    refine XO.q (Quiet.guardT rfl rfl fun g60 p60 => Q.eql (lzv g60 rfl) (lzv g60 rfl)) ?_
    refine XO.q (Q.and rfl (fun hp => lzv hp rfl)) ?_
    refine XO.done ?_
    refine XK.if rfl (fun c1 => ?_) (fun c1 => ?_)
    ·skip
     refine XK.seq (XK.region rfl ?_)
     refine XO.q (Q.ld rfl rfl) ?_
     refine XO.q (Q.move rfl) ?_
     refine XO.lit [_] [_] [((lowC d (planTo d base (hr)).e) + ((k : Nat) : Int))] encI (by rfl) (by rfl) rfl (by rfl) (by exact .c 0 1 rfl rfl rfl (.n _)) (fun _ => rfl) (by rfl) rfl (by infer_instance) rfl fun v64 h64 O64 => ?_
     refine XO.append rfl rfl rfl rfl (by simp only [List.length_cons, List.length_nil]; omega) fun v65 h65 O65 => ?_
     refine XO.st rfl rfl rfl ?_
     refine XO.done (XK.seq ?_)
     refine XK.drawn [0, 1, 2, 3, 4, 5, 6, 7, 8, 9, 10] [b1, b5, b6] [] (.q 0 (.q 1 (.q 2 (.q 3 (.q 4 (.q 5 (.q 6 (.q 7 (.q 8 (.q 9 (.q 10 (.br 11 false .done .stop)))))))))))) Tryz.mixed rfl (by kernel_rfl) ?_
     refine XT.q rfl rfl (Q.ld rfl rfl) ?_
     refine XT.q rfl rfl (Q.ld rfl rfl) ?_
     refine XT.q rfl rfl (Q.nilCheck rfl) ?_
     refine XT.q rfl rfl (Q.fieldAddr rfl) ?_
     refine XT.q rfl rfl (Q.ld rfl rfl) ?_
     refine XT.q rfl rfl (Q.ld rfl rfl) ?_
     refine XT.ix rfl rfl rfl rfl (by omega) (by omega) fun i72 => ?_
     refine XT.q rfl rfl (Q.ldE rfl (by first | assumption | omega) rfl) ?_
     refine XT.q rfl rfl (Q.move rfl) ?_
     refine XT.q rfl rfl (Q.add rfl rfl ⟨by omega, by omega⟩) ?_
     refine XT.q rfl rfl (Q.max rfl rfl) ?_
     refine XT.st rfl rfl rfl rfl rfl ⟨inferInstance, ?_⟩ XT.stop
     refine XT.done ?_
     refine XK.seq (XK.region rfl ?_)
     refine XO.q (Q.ld rfl rfl) ?_
     refine XO.q (Q.move rfl) ?_
     refine XO.q (Q.add rfl rfl ⟨by omega, by omega⟩) ?_
     refine XO.st rfl rfl rfl ?_
     refine XO.done ?_
     have hit : hitC (d.hours.getD hr default) (base.getD hr default) (planTo d base (hr)).e (planTo d base (hr)).m (valH d base (hr + 1)) (valH d base hr (planTo d base (hr)).e (planTo d base (hr)).m) ((lowC d (planTo d base (hr)).e) + ((k : Nat) : Int)) = true := by unfold hitC never; rw [Bool.and_eq_true, decide_eq_true_eq, decide_eq_true_eq]; exact c1
     have pe : (planTo d base (hr + 1)) = ⟨(planTo d base (hr)).l ++ [((lowC d (planTo d base (hr)).e) + ((k : Nat) : Int))], (planTo d base (hr)).e + ((lowC d (planTo d base (hr)).e) + ((k : Nat) : Int)), max (planTo d base (hr)).m ((base.getD hr default) + ((lowC d (planTo d base (hr)).e) + ((k : Nat) : Int)))⟩ := by rw [planTo, first_one hfc hit _ hi]
     exact XK.leave (j := some (.exit 2)) [blk b3 [v65] 29, blk b4 [.int .i64 ((planTo d base (hr)).e + ((lowC d (planTo d base (hr)).e) + ((k : Nat) : Int)))] 3, blk b5 [.int .i64 (max (planTo d base (hr)).m ((base.getD hr default) + ((lowC d (planTo d base (hr)).e) + ((k : Nat) : Int))))] 3, h65] ⟨rfl, rfl⟩ ⟨(k, v65, h65, ⟨(planTo d base (hr)).l ++ [((lowC d (planTo d base (hr)).e) + ((k : Nat) : Int))], (planTo d base (hr)).e + ((lowC d (planTo d base (hr)).e) + ((k : Nat) : Int)), max (planTo d base (hr)).m ((base.getD hr default) + ((lowC d (planTo d base (hr)).e) + ((k : Nat) : Int)))⟩), ⟨rfl, pe.symm, O65, sn, by dsimp only; rw [List.length_append]; simp only [List.length_cons, List.length_nil]; omega⟩, rfl⟩
    ·skip
     refine XK.skip ?_
     refine XK.inBlock ?_
     have hit : ¬ hitC (d.hours.getD hr default) (base.getD hr default) (planTo d base (hr)).e (planTo d base (hr)).m (valH d base (hr + 1)) (valH d base hr (planTo d base (hr)).e (planTo d base (hr)).m) ((lowC d (planTo d base (hr)).e) + ((k : Nat) : Int)) = true := by unfold hitC never; rw [Bool.and_eq_true, decide_eq_true_eq, decide_eq_true_eq]; exact c1
     exact XK.leave (j := none) [blk b3 [vo2] 29, blk b4 [.int .i64 (planTo d base (hr)).e] 3, blk b5 [.int .i64 (planTo d base (hr)).m] 3, ko2] trivial ⟨(k + 1, vo2, ko2, (planTo d base (hr))), ⟨rfl, rfl, O2, first_none hfc hit⟩, rfl⟩
   ·rintro ⟨k, vo2, ko2, st⟩ ⟨hki, hst, O2, hfc⟩
    dsimp only [lcA, lnA]
    rw [chItems_len] at hki
    subst hki
    have pe : (planTo d base (hr + 1)) = st := by rw [planTo, hfc, hst]
    rw [← pe] at O2 ⊢
    have S2 : StateOk d (planTo d base (hr + 1)).e (planTo d base (hr + 1)).m := by rw [pe, hst]; exact so
    have L2 : (planTo d base (hr + 1)).l.length ≤ hr + 1 := by rw [pe, hst]; omega
    refine XK.inBlock ?_
    refine XK.inBlock ?_
    refine XK.region rfl ?_
    refine XO.q (Q.add rfl rfl ⟨by omega, by omega⟩) ?_
    refine XO.q (Q.move rfl) (XO.done ?_)
    exact ih0 (hr + 1, vo2, ko2) _ _ ⟨by dsimp only; omega, O2, S2, L2⟩ (by first | omega | (dsimp only; omega)) (.c rfl (.base 85 rfl rfl)) inferInstance
   ·rintro _ ⟨k, vo2, ko2, st⟩ ⟨rfl, hst, O2, S2, L2⟩
    dsimp only [lcA, lnA]
    subst hst
    refine XK.exit rfl ?_
    refine XK.inBlock ?_
    refine XK.region rfl ?_
    refine XO.q (Q.add rfl rfl ⟨by omega, by omega⟩) ?_
    refine XO.q (Q.move rfl) (XO.done ?_)
    exact ih0 (hr + 1, vo2, ko2) _ _ ⟨by dsimp only; omega, O2, S2, L2⟩ (by first | omega | (dsimp only; omega)) (.c rfl (.base 85 rfl rfl)) inferInstance
  ·intro mtr6
   dsimp only [lcA, lnA] at mtr6
   refine XK.drawn [0, 1, 2, 3, 4, 5, 6, 7, 9, 10] [b1, b4, b5, b6] [] (.q 0 (.q 1 (.q 2 (.q 3 (.q 4 (.q 5 (.q 6 (.q 7 (.br 8 true (.q 9 (.q 10 (.br 11 true (.br 12 false .done .stop) .stop))) (.br 11 true (.br 8 true (.q 9 (.q 10 (.br 12 false .done .stop))) .stop) .stop)))))))))) Tryz.mixed rfl (by kernel_rfl) ?_
   refine XT.q rfl rfl (Q.ld rfl rfl) ?_
   refine XT.q rfl rfl (Q.nilCheck rfl) ?_
   refine XT.q rfl rfl (Q.fieldAddr rfl) ?_
   refine XT.q rfl rfl (Q.ld rfl rfl) ?_
   refine XT.q rfl rfl (Q.ld rfl rfl) ?_
   refine XT.q rfl rfl (Q.ld rfl rfl) ?_
   refine XT.q rfl rfl (Q.ld rfl rfl) ?_
   refine XT.q rfl rfl (Q.ld rfl rfl) ?_
   refine XT.call rfl rfl Tryz.call147 rfl rfl rfl (at_spec d vh vj vb vv ok b (hr : Int) (planTo d base (hr)).e (planTo d base (hr)).m (by omega) (by omega) (by omega)) (fun v34 s34 R34 => ?_) ?_
   ·skip
    obtain ⟨rfl, rfl⟩ := R34
    dsimp only [lcA, lnA]
    refine ⟨inferInstance, ?_⟩
    refine XT.ix rfl rfl rfl rfl (by omega) (by omega) fun i35 => ?_
    refine XT.q rfl rfl (Q.ldE rfl (by first | assumption | omega) rfl) ?_
    rw [ev]
    refine XT.alloc rfl rfl (fun b7 => ⟨inferInstance, ?_⟩) XT.stop
    refine XT.st rfl rfl rfl rfl rfl ⟨inferInstance, ?_⟩ XT.stop
    refine XT.done ?_
    exact mtr6 (b7) _ _ trivial (.c rfl (.base 12 rfl rfl)) inferInstance
   ·skip
    refine XT.alloc rfl rfl (fun b7 => ⟨inferInstance, ?_⟩) XT.stop
    refine XT.call rfl rfl Tryz.call147 rfl rfl rfl (at_spec d vh vj vb vv ok b (hr : Int) (planTo d base (hr)).e (planTo d base (hr)).m (by omega) (by omega) (by omega)) (fun v34 s34 R34 => ?_) XT.stop
    obtain ⟨rfl, rfl⟩ := R34
    dsimp only [lcA, lnA]
    refine ⟨inferInstance, ?_⟩
    refine XT.ix rfl rfl rfl rfl (by omega) (by omega) fun i35 => ?_
    refine XT.q rfl rfl (Q.ldE rfl (by first | assumption | omega) rfl) ?_
    rw [ev]
    refine XT.st rfl rfl rfl rfl rfl ⟨inferInstance, ?_⟩ XT.stop
    refine XT.done ?_
    exact mtr6 (b7) _ _ trivial (.c rfl (.base 12 rfl rfl)) inferInstance
 ·skip
  have hin : hr = d.hours.length := by omega
  subst hin
  refine XK.exit rfl ?_
  refine XK.seq (XK.region rfl ?_)
  refine XO.q (Q.ld rfl rfl) ?_
  refine XO.q (Q.assign rfl) (XO.done ?_)
  refine XK.rt [ko] Tryz.func148 Tryz.results148 (.t rfl .n) ?_
  exact ⟨ko, rfl, OO, so⟩
end Go.X.Ma

set_option linter.unusedSimpArgs false
set_option linter.unusedVariables false
set_option maxRecDepth 20000
namespace Go.X.Ma
open Go.Proofs
structure TabsOk (d : KDay) (tabs : List (List Int)) : Prop where
 len : tabs.length = (startsL d).length
 tab : ∀ j, j < (startsL d).length → TabOk d (needsL d ((startsL d).getD j default)) (tabs.getD j default)
theorem tabs_snoc {d : KDay} {tabs : List (List Int)} {x : List Int} {i : Nat} (hl : tabs.length = i) (h : ∀ j, j < i → TabOk d (needsL d ((startsL d).getD j default)) (tabs.getD j default)) (hx : TabOk d (needsL d ((startsL d).getD i default)) x) :
  ∀ j, j < i + 1 → TabOk d (needsL d ((startsL d).getD j default)) ((tabs ++ [x]).getD j default) := fun j hj => by
 rw [snocK_at, hl]
 by_cases h2 : j < i
 ·rw [if_pos h2]; exact h j h2
 ·obtain rfl : j = i := by omega
  rw [if_neg h2, if_pos rfl]; exact hx
theorem getD_memK {α : Type} [Inhabited α] {xs : List α} {i : Nat} (h : i < xs.length) : xs.getD i default ∈ xs := getD_mem h
set_option maxHeartbeats 2000000 in
theorem Best_spec (d : KDay) (vh vj : Value) (hh hj : PHeap) [ih : Arr vh encHour 6 hh d.hours] [ij : Arr vj encJob 4 hj d.jobs] : Spec Tryz.prog 82 #[.agg #[vh, .int .i64 d.store.energy, .int .i64 d.store.full, .int .i64 d.store.power, .int .i64 d.store.fin, vj, .int .i64 d.most, .int .i64 d.peak]] [] [hh, hj] (fun v hs => ∃ vs vc vp K kc kp pus KP tabs, v = .tuple #[.agg #[vs, vc, .int .i64 (bestG d).1.cost], vp, .int .i64 (bestG d).2] ∧ hs = [K, kc, kp, KP] ∧ One vs ∧ Arr vs encI 1 K (bestG d).1.starts ∧ OArr vc encI 1 3 kc (bestG d).1.charge ∧ OArr vp encV 1 29 kp pus ∧ RowsK pus KP tabs ∧ ((bestG d).2 = 0 → TabsOk d tabs) ∧ ((bestG d).2 ≠ 0 → tabs = [])) := by
 have lh := ih.le
 have nI : OArr (.slice none 0 0) encI 1 3 emp ([] : List Int) := OArr.nil (fun _ => rfl)
 have nV : OArr (.slice none 0 0) encV 1 29 emp ([] : List Value) := OArr.nil (fun _ => rfl)
 refine Spec.intro (fn := Tryz.f82) (N := 63) Tryz.func82 rfl Tryz.ntmps82 rfl fun B => ?_
 refine XK.seq (XK.region rfl ?_)
 refine XO.box rfl fun b1 => ?_
 refine XO.alloc fun b2 => ?_
 refine XO.q (Q.assign rfl) (XO.q (Q.assign rfl) (XO.done (XK.seq (XK.seq (XK.region rfl ?_)))))
 refine XO.q (Q.ldA [_, _, _, _, _, _, _, _] rfl rfl rfl) ?_
 refine XO.call Tryz.call144 rfl rfl rfl (Check_spec d vh vj hh hj) fun v13 s13 R13 => ?_
 obtain ⟨rfl, rfl⟩ := R13
 dsimp only [lcA, lnA]
 refine XO.q (Q.assign rfl) (XO.done (XK.seq (XK.region rfl (XO.q (Q.move rfl) ?_))))
 refine XO.q (Q.neq rfl rfl) ?_
 refine XO.done ?_
 refine XK.if rfl (fun c0 => ?_) (fun c0 => ?_)
 ·skip
  refine XK.seq (XK.region rfl ?_)
  refine XO.q (Q.build [_, _, _] (.n _)) ?_
  refine XO.q (Q.move rfl) ?_
  refine XO.st rfl rfl rfl ?_
  refine XO.q (Q.assign rfl) (XO.q (Q.assign rfl) (XO.done ?_))
  refine XK.rt [emp, emp, emp, emp] Tryz.func82 Tryz.results82 (.cell [_, _, _] rfl rfl rfl (.t rfl (.t rfl .n))) ?_
  have e : bestG d = (⟨[], [], 0⟩, kcheck d) := by rw [bestG, if_pos c0]
  rw [e]
  exact ⟨.slice none 0 0, .slice none 0 0, .slice none 0 0, emp, emp, emp, [], emp, [], rfl, rfl, inferInstance, OArr.arr (s := nI), nI, nV, RowsK.nil, fun h => absurd h (c0), fun _ => rfl⟩
 ·skip
  have e0 := Decidable.of_not_not c0
  have ok := kcheck_iff.1 e0
  have s5 := ok.store.e0
  have s6 := ok.store.e1
  have f1 := ok.store.f1
  have q0 := ok.m0
  have sr0 : StateOk d d.store.energy 0 := ⟨s5, s6, Int.le_refl _, q0⟩
  have pr := prod_rng ok.h2 ok.j2 ok.job d.jobs.length (Nat.le_refl _)
  have few := ok.few
  have sl := starts_len ok.job d.jobs.length (Nat.le_refl _)
  have sll : (startsL d).length ≤ 8 := by unfold startsL; omega
  refine XK.skip (XK.seq (XK.region rfl ?_))
  refine XO.q (Q.build [_, _, _] (.c 2 1 rfl rfl rfl (.n _))) ?_
  refine XO.alloc fun b6 => ?_
  refine XO.st rfl rfl rfl ?_
  refine XO.done (XK.seq (XK.region rfl (XO.q (Q.assign rfl) (XO.done (XK.seq ?_)))))
  refine XK.seq (XK.region rfl ?_)
  refine XO.q (Q.ldA [_, _, _, _, _, _, _, _] rfl rfl rfl) ?_
  refine XO.call Tryz.call145 rfl rfl rfl (starts_spec d vh vj hh hj ok) fun v20 s20 R20 => ?_
  obtain ⟨ho, us, K, rfl, OO, RO⟩ := R20
  dsimp only [lcA, lnA]
  refine XO.len rfl fun l21 => ?_
  refine XO.q (Q.move rfl) (XO.done (XK.block ?_))
  refine XK.while (X := Nat × Value × PHeap × List Value × PHeap × Value × Value × PHeap × List (List Int)) [7, 9, 10, 11, 22, 23, 24, 25, 26, 27, 28, 29, 30, 31, 32, 33, 34, 35, 36, 37, 38, 39, 40, 41, 42, 43, 44, 45, 46, 47, 48, 49, 50, 51, 52, 53, 54, 55, 56] (fun ⟨i, vpr, kpr, pus, KP, vs1, vc1, kc1, tabs⟩ => [(7, some (vpr)), (22, some (.int .i64 (i : Nat)))]) (fun ⟨i, vpr, kpr, pus, KP, vs1, vc1, kc1, tabs⟩ => [blk b6 [vs1, vc1, .int .i64 (bestTo d (i)).cost] 118, kpr, KP, kc1]) (fun ⟨i, vpr, kpr, pus, KP, vs1, vc1, kc1, tabs⟩ => i ≤ us.length ∧ OArr vpr encV 1 29 kpr pus ∧ RowsK pus KP tabs ∧ tabs.length = i ∧ (∀ j, j < i → TabOk d (needsL d ((startsL d).getD j default)) (tabs.getD j default)) ∧ One vs1 ∧ Arr vs1 encI 1 K (bestTo d (i)).starts ∧ OArr vc1 encI 1 3 kc1 (bestTo d (i)).charge) (fun ⟨i, vpr, kpr, pus, KP, vs1, vc1, kc1, tabs⟩ => us.length - i) (0, .slice none 0 0, emp, [], emp, .slice none 0 0, .slice none 0 0, emp, []) [blk b6 [.slice none 0 0, .slice none 0 0, .int .i64 1000000000000000] 118, emp, emp, emp] rfl ⟨by omega, nV, RowsK.nil, rfl, fun j hj => by omega, inferInstance, Arr.nil (fun _ => rfl), nI⟩ (.c rfl (.c rfl (.base 0 rfl rfl))) ?_
  rintro ⟨i, vpr, kpr, pus, KP, vs1, vc1, kc1, tabs⟩ ⟨hi, OPR, RP, tl, ht, ow, AS, OC⟩ ih0
  dsimp only [lcA, lnA] at ih0 ⊢
  have pl := RP.1
  refine XK.seq (XK.region rfl ?_)
  refine XO.q (Q.lss rfl rfl) ?_
  refine XO.done (XK.seq ?_)
  refine XK.if rfl (fun c1 => ?_) (fun c1 => ?_)
  ·skip
   have rl := RO.1
   have ar := RO.2 i (by omega)
   refine XK.skip (XK.seq (XK.block (XK.seq (XK.region rfl ?_))))
   refine XO.ix rfl rfl (by omega) (by omega) fun i24 => ?_
   refine XO.q (Q.ldE rfl (by first | assumption | omega) rfl) ?_
   refine XO.q (Q.assign rfl) (XO.done (XK.seq (XK.region rfl ?_)))
   refine XO.q (Q.ldA [_, _, _, _, _, _, _, _] rfl rfl rfl) ?_
   refine XO.q (Q.move rfl) ?_
   refine XO.call Tryz.call146 rfl rfl rfl (tables_spec d vh vj hh hj ((startsL d).getD i default) (us.getD i default) K ok (starts_ok (getD_memK (by omega)))) fun v28 s28 R28 => ?_
   obtain ⟨b, vb, vv, hb, hv, vals, rfl, rfl, OB, OV, TO⟩ := R28
   dsimp only [lcA, lnA]
   refine XO.q (Q.assign rfl) (XO.done (XK.seq (XK.region rfl (XO.q (Q.move rfl) (XO.q (Q.move rfl) ?_)))))
   refine XO.q (Q.nilCheck rfl) ?_
   refine XO.q (Q.fieldAddr rfl) ?_
   refine XO.q (Q.ld rfl rfl) ?_
   refine XO.lit [_] [_] [vv] encV (by rfl) (by rfl) rfl (by rfl) (by exact .c 0 1 rfl rfl rfl (.n _)) (fun _ => rfl) (by rfl) rfl (by infer_instance) rfl fun v34 h34 O34 => ?_
   refine XO.append rfl rfl rfl rfl (by simp only [List.length_cons, List.length_nil]; omega) fun v35 h35 O35 => ?_
   refine XO.q (Q.assign rfl) (XO.done (XK.seq ?_))
   refine XK.drawn [0, 1, 2, 3, 4, 5, 6, 7, 9, 10, 11] [b, b1] [hv] (.q 0 (.q 1 (.q 2 (.q 3 (.q 4 (.q 5 (.q 6 (.q 7 (.br 8 true (.q 9 (.q 10 (.q 11 .done))) .stop))))))))) Tryz.mixed rfl (by kernel_rfl) ?_
   refine XT.q rfl rfl (Q.move rfl) ?_
   refine XT.q rfl rfl (Q.nilCheck rfl) ?_
   refine XT.q rfl rfl (Q.fieldAddr rfl) ?_
   refine XT.q rfl rfl (Q.ld rfl rfl) ?_
   refine XT.q rfl rfl (Q.move rfl) ?_
   refine XT.q rfl rfl (Q.fieldAddr rfl) ?_
   refine XT.q rfl rfl (Q.fieldAddr rfl) ?_
   refine XT.q rfl rfl (Q.ld rfl rfl) ?_
   refine XT.call rfl rfl Tryz.call147 rfl rfl rfl (at_spec d vh vj vb vv ok b 0 d.store.energy 0 (by omega) (by omega) (by omega)) (fun v44 s44 R44 => ?_) XT.stop
   obtain ⟨rfl, rfl⟩ := R44
   dsimp only [lcA, lnA]
   refine ⟨inferInstance, ?_⟩
   have arn := at_rng sr0 (show (0 : Int) ≤ 0 by omega) (by omega)
   have vl := TO.len
   refine XT.ix rfl rfl rfl rfl (by omega) (by omega) fun i45 => ?_
   refine XT.q rfl rfl (Q.ldE rfl (by first | assumption | omega) rfl) ?_
   rw [show vals.getD (atK d 0 d.store.energy 0).toNat default = (valH d (needsL d ((startsL d).getD i default)) 0 d.store.energy 0) from TO.val 0 _ _ (Nat.zero_le _) sr0]
   refine XT.q rfl rfl (Q.assign rfl) ?_
   refine XT.done ?_
   refine XK.seq (XK.region rfl (XO.q (Q.move rfl) ?_))
   refine XO.q (Q.fieldAddr rfl) ?_
   refine XO.q (Q.ld rfl rfl) ?_
   refine XO.q (Q.lss rfl rfl) ?_
   refine XO.done ?_
   refine XK.if rfl (fun c2 => ?_) (fun c2 => ?_)
   ·skip
    refine XK.region rfl (XO.q (Q.move rfl) (XO.q (Q.move rfl) ?_))
    refine XO.call Tryz.call148 rfl rfl rfl (plan_spec d vh vj hh hj vb vv hb hv (needsL d ((startsL d).getD i default)) vals ok (needs_base ok _) TO b) fun v53 s53 R53 => ?_
    obtain ⟨k53, rfl, O53, S53⟩ := R53
    dsimp only [lcA, lnA]
    refine XO.q (Q.move rfl) ?_
    refine XO.q (Q.build [_, _, _] (.c 0 1 rfl rfl rfl (.c 1 1 rfl rfl rfl (.c 2 1 rfl rfl rfl (.n _))))) ?_
    refine XO.st rfl rfl rfl ?_
    refine XO.done ?_
    refine XK.inBlock ?_
    refine XK.region rfl ?_
    refine XO.q (Q.add rfl rfl ⟨by omega, by omega⟩) ?_
    refine XO.q (Q.move rfl) (XO.done ?_)
    refine XK.cat KP hv fun l1 l2 => ?_
    have be : (bestTo d (i + 1)) = ⟨((startsL d).getD i default), planL d (needsL d ((startsL d).getD i default)), (valH d (needsL d ((startsL d).getD i default)) 0 d.store.energy 0)⟩ := by rw [bestTo, if_pos c2]
    rw [show (valH d (needsL d ((startsL d).getD i default)) 0 d.store.energy 0) = (bestTo d (i + 1)).cost by rw [be]]
    exact ih0 (i + 1, v35, h35, pus ++ [vv], cat KP hv, us.getD i default, v53, k53, tabs ++ [vals]) _ _ ⟨by dsimp only; omega, O35, (RP.mono l1).snoc (Arr.le_heap (OArr.arr (s := OV)) l2), by rw [List.length_append, tl]; rfl, tabs_snoc tl ht TO, inferInstance, by dsimp only; rw [be]; exact ar, by dsimp only; rw [be]; exact O53⟩ (by first | omega | (dsimp only; omega)) (.c rfl (.c rfl (.base 80 rfl rfl))) inferInstance
   ·skip
    refine XK.skip ?_
    refine XK.inBlock ?_
    refine XK.region rfl ?_
    refine XO.q (Q.add rfl rfl ⟨by omega, by omega⟩) ?_
    refine XO.q (Q.move rfl) (XO.done ?_)
    refine XK.cat KP hv fun l1 l2 => ?_
    have be : (bestTo d (i + 1)) = (bestTo d (i)) := by rw [bestTo, if_neg c2]
    rw [show (bestTo d (i)).cost = (bestTo d (i + 1)).cost by rw [be]]
    exact ih0 (i + 1, v35, h35, pus ++ [vv], cat KP hv, vs1, vc1, kc1, tabs ++ [vals]) _ _ ⟨by dsimp only; omega, O35, (RP.mono l1).snoc (Arr.le_heap (OArr.arr (s := OV)) l2), by rw [List.length_append, tl]; rfl, tabs_snoc tl ht TO, ow, by dsimp only; rw [be]; exact AS, by dsimp only; rw [be]; exact OC⟩ (by first | omega | (dsimp only; omega)) (.c rfl (.c rfl (.base 75 rfl rfl))) inferInstance
  ·skip
   have rl := RO.1
   have hin : i = (startsL d).length := by omega
   subst hin
   refine XK.exit rfl ?_
   refine XK.seq (XK.seq (XK.region rfl ?_))
   refine XO.q (Q.fieldAddr rfl) ?_
   refine XO.q (Q.ld rfl rfl) ?_
   refine XO.q (Q.eql rfl rfl) ?_
   refine XO.done ?_
   refine XK.if rfl (fun c3 => ?_) (fun c3 => ?_)
   ·skip
    refine XK.seq (XK.region rfl ?_)
    refine XO.q (Q.build [_, _, _] (.n _)) ?_
    refine XO.st rfl rfl rfl ?_
    refine XO.q (Q.assign rfl) (XO.q (Q.assign rfl) (XO.done ?_))
    refine XK.rt [emp, emp, emp, emp] Tryz.func82 Tryz.results82 (.cell [_, _, _] rfl rfl rfl (.t rfl (.t rfl .n))) ?_
    have e : bestG d = (⟨[], [], 0⟩, 4) := by rw [bestG, if_neg c0, if_pos (show (bestP d).cost = never from c3)]
    rw [e]
    exact ⟨.slice none 0 0, .slice none 0 0, .slice none 0 0, emp, emp, emp, [], emp, [], rfl, rfl, inferInstance, OArr.arr (s := nI), nI, nV, RowsK.nil, fun h => absurd h (by decide), fun _ => rfl⟩
   ·skip
    refine XK.skip (XK.seq (XK.region rfl ?_))
    refine XO.q (Q.ldA [_, _, _] rfl rfl rfl) ?_
    refine XO.q (Q.move rfl) ?_
    refine XO.st rfl rfl rfl ?_
    refine XO.q (Q.assign rfl) (XO.q (Q.assign rfl) (XO.done ?_))
    refine XK.rt [K, kc1, kpr, KP] Tryz.func82 Tryz.results82 (.cell [_, _, _] rfl rfl rfl (.t rfl (.t rfl .n))) ?_
    have e : bestG d = (bestP d, 0) := by rw [bestG, if_neg c0, if_neg (show ¬ (bestP d).cost = never from c3)]
    rw [e]
    exact ⟨vs1, vc1, vpr, K, kc1, kpr, pus, KP, tabs, rfl, rfl, ow, AS, OC, OPR, RP, fun _ => ⟨tl, ht⟩, fun h => absurd rfl h⟩
end Go.X.Ma

set_option linter.unusedSimpArgs false
set_option linter.unusedVariables false
set_option maxRecDepth 20000
namespace Go.X.Ma
open Go.Proofs
theorem rows_len {f : Nat → KRow} {n : Nat} : ((List.range n).map f).length = n := by rw [List.length_map, List.length_range]
theorem add_spec (v : Value) (h : PHeap) (rows : List KRow) [s : Arr v encRow 7 h rows] (few : rows.length ≤ 30) (sm : ∀ i, i < rows.length → RowSmall 1000000 (rows.getD i default)) : Spec Tryz.prog 85 #[v] [] [h] (fun v hs => v = .agg #[.int .i64 (sumRow (fun i => rows.getD i default) rows.length).bought, .int .i64 (sumRow (fun i => rows.getD i default) rows.length).sold, .int .i64 (sumRow (fun i => rows.getD i default) rows.length).made, .int .i64 (sumRow (fun i => rows.getD i default) rows.length).used, .int .i64 (sumRow (fun i => rows.getD i default) rows.length).stored, .int .i64 (sumRow (fun i => rows.getD i default) rows.length).carbon, .int .i64 (sumRow (fun i => rows.getD i default) rows.length).water] ∧ hs = []) := by
 have le := s.le
 have sr := sumRow_rng (f := fun i => rows.getD i default) sm
 refine Spec.intro (fn := Tryz.f85) (N := 56) Tryz.func85 rfl Tryz.ntmps85 rfl fun B => ?_
 refine XK.seq (XK.region rfl ?_)
 refine XO.alloc fun b2 => ?_
 refine XO.done (XK.seq (XK.region rfl ?_))
 refine XO.alloc fun b3 => ?_
 refine XO.done (XK.seq (XK.seq (XK.region rfl (XO.q (Q.move rfl) ?_))))
 refine XO.len rfl fun l7 => ?_
 refine XO.q (Q.move rfl) (XO.done (XK.block ?_))
 refine XK.while (X := Nat) [5, 8, 9, 10, 11, 12, 13, 14, 15, 16, 17, 18, 19, 20, 21, 22, 23, 24, 25, 26, 27, 28, 29, 30, 31, 32, 33, 34, 35, 36, 37, 38, 39, 40, 41, 42, 43, 44, 45, 46, 47, 48, 49, 50, 51, 52, 53, 54] (fun i => [(8, some (.int .i64 (i : Nat)))]) (fun i => [blk b3 [.int .i64 (sumRow (fun i => rows.getD i default) i).bought, .int .i64 (sumRow (fun i => rows.getD i default) i).sold, .int .i64 (sumRow (fun i => rows.getD i default) i).made, .int .i64 (sumRow (fun i => rows.getD i default) i).used, .int .i64 (sumRow (fun i => rows.getD i default) i).stored, .int .i64 (sumRow (fun i => rows.getD i default) i).carbon, .int .i64 (sumRow (fun i => rows.getD i default) i).water] 123]) (fun i => i ≤ rows.length) (fun i => rows.length - i) (0) [blk b3 [.int .i64 (KRow.mk 0 0 0 0 0 0 0).bought, .int .i64 (KRow.mk 0 0 0 0 0 0 0).sold, .int .i64 (KRow.mk 0 0 0 0 0 0 0).made, .int .i64 (KRow.mk 0 0 0 0 0 0 0).used, .int .i64 (KRow.mk 0 0 0 0 0 0 0).stored, .int .i64 (KRow.mk 0 0 0 0 0 0 0).carbon, .int .i64 (KRow.mk 0 0 0 0 0 0 0).water] 123] rfl (by omega) (.c rfl (.base 0 rfl rfl)) ?_
 rintro i hi ih0
 dsimp only [lcA, lnA] at ih0 ⊢
 refine XK.seq (XK.region rfl ?_)
 refine XO.q (Q.lss rfl rfl) ?_
 refine XO.done (XK.seq ?_)
 refine XK.if rfl (fun c0 => ?_) (fun c0 => ?_)
 ·skip
  have q := sr i (by omega)
  have r := sm i (by omega)
  have qa := q.a
  have qb := q.b
  have qc := q.c
  have qd := q.d
  have qe := q.e
  have qf := q.f
  have qg := q.g
  have ra := r.a
  have rb := r.b
  have rc := r.c
  have rd := r.d
  have re := r.e
  have rf := r.f
  have rg := r.g
  refine XK.skip (XK.seq (XK.block (XK.seq (XK.region rfl ?_))))
  refine XO.ix rfl rfl (by omega) (by omega) fun i10 => ?_
  refine XO.q (Q.ldEA [_, _, _, _, _, _, _] rfl (by first | assumption | omega) rfl rfl) ?_
  refine XO.alloc fun b5 => ?_
  refine XO.st rfl rfl rfl ?_
  refine XO.done (XK.seq (XK.region rfl ?_))
  refine XO.q (Q.fieldAddr rfl) ?_
  refine XO.q (Q.ld rfl rfl) ?_
  refine XO.q (Q.fieldAddr rfl) ?_
  refine XO.q (Q.ld rfl rfl) ?_
  refine XO.q (Q.add rfl rfl ⟨by omega, by omega⟩) ?_
  refine XO.q (Q.fieldAddr rfl) ?_
  refine XO.st rfl rfl rfl ?_
  refine XO.done (XK.seq (XK.region rfl ?_))
  refine XO.q (Q.fieldAddr rfl) ?_
  refine XO.q (Q.ld rfl rfl) ?_
  refine XO.q (Q.fieldAddr rfl) ?_
  refine XO.q (Q.ld rfl rfl) ?_
  refine XO.q (Q.add rfl rfl ⟨by omega, by omega⟩) ?_
  refine XO.q (Q.fieldAddr rfl) ?_
  refine XO.st rfl rfl rfl ?_
  refine XO.done (XK.seq (XK.region rfl ?_))
  refine XO.q (Q.fieldAddr rfl) ?_
  refine XO.q (Q.ld rfl rfl) ?_
  refine XO.q (Q.fieldAddr rfl) ?_
  refine XO.q (Q.ld rfl rfl) ?_
  refine XO.q (Q.add rfl rfl ⟨by omega, by omega⟩) ?_
  refine XO.q (Q.fieldAddr rfl) ?_
  refine XO.st rfl rfl rfl ?_
  refine XO.done (XK.seq (XK.region rfl ?_))
  refine XO.q (Q.fieldAddr rfl) ?_
  refine XO.q (Q.ld rfl rfl) ?_
  refine XO.q (Q.fieldAddr rfl) ?_
  refine XO.q (Q.ld rfl rfl) ?_
  refine XO.q (Q.add rfl rfl ⟨by omega, by omega⟩) ?_
  refine XO.q (Q.fieldAddr rfl) ?_
  refine XO.st rfl rfl rfl ?_
  refine XO.done (XK.seq (XK.region rfl ?_))
  refine XO.q (Q.fieldAddr rfl) ?_
  refine XO.q (Q.ld rfl rfl) ?_
  refine XO.q (Q.fieldAddr rfl) ?_
  refine XO.q (Q.ld rfl rfl) ?_
  refine XO.q (Q.add rfl rfl ⟨by omega, by omega⟩) ?_
  refine XO.q (Q.fieldAddr rfl) ?_
  refine XO.st rfl rfl rfl ?_
  refine XO.done (XK.seq (XK.region rfl ?_))
  refine XO.q (Q.fieldAddr rfl) ?_
  refine XO.q (Q.ld rfl rfl) ?_
  refine XO.q (Q.fieldAddr rfl) ?_
  refine XO.q (Q.ld rfl rfl) ?_
  refine XO.q (Q.add rfl rfl ⟨by omega, by omega⟩) ?_
  refine XO.q (Q.fieldAddr rfl) ?_
  refine XO.st rfl rfl rfl ?_
  refine XO.done (XK.region rfl ?_)
  refine XO.q (Q.fieldAddr rfl) ?_
  refine XO.q (Q.ld rfl rfl) ?_
  refine XO.q (Q.fieldAddr rfl) ?_
  refine XO.q (Q.ld rfl rfl) ?_
  refine XO.q (Q.add rfl rfl ⟨by omega, by omega⟩) ?_
  refine XO.q (Q.fieldAddr rfl) ?_
  refine XO.st rfl rfl rfl ?_
  refine XO.done ?_
  refine XK.inBlock ?_
  refine XK.region rfl ?_
  refine XO.q (Q.add rfl rfl ⟨by omega, by omega⟩) ?_
  refine XO.q (Q.move rfl) (XO.done ?_)
  rw [show (sumRow (fun i => rows.getD i default) i).bought + (rows.getD i default).bought = (sumRow (fun i => rows.getD i default) (i + 1)).bought from rfl]
  rw [show (sumRow (fun i => rows.getD i default) i).sold + (rows.getD i default).sold = (sumRow (fun i => rows.getD i default) (i + 1)).sold from rfl]
  rw [show (sumRow (fun i => rows.getD i default) i).made + (rows.getD i default).made = (sumRow (fun i => rows.getD i default) (i + 1)).made from rfl]
  rw [show (sumRow (fun i => rows.getD i default) i).used + (rows.getD i default).used = (sumRow (fun i => rows.getD i default) (i + 1)).used from rfl]
  rw [show (sumRow (fun i => rows.getD i default) i).stored + (rows.getD i default).stored = (sumRow (fun i => rows.getD i default) (i + 1)).stored from rfl]
  rw [show (sumRow (fun i => rows.getD i default) i).carbon + (rows.getD i default).carbon = (sumRow (fun i => rows.getD i default) (i + 1)).carbon from rfl]
  rw [show (sumRow (fun i => rows.getD i default) i).water + (rows.getD i default).water = (sumRow (fun i => rows.getD i default) (i + 1)).water from rfl]
  exact ih0 (i + 1) _ _ (by omega) (by first | omega | (dsimp only; omega)) (.c rfl (.base 97 rfl rfl)) inferInstance
 ·skip
  have hin : i = rows.length := by omega
  subst hin
  refine XK.exit rfl ?_
  refine XK.seq (XK.region rfl ?_)
  refine XO.q (Q.ldA [_, _, _, _, _, _, _] rfl rfl rfl) ?_
  refine XO.st rfl rfl rfl ?_
  refine XO.done ?_
  refine XK.rt [] Tryz.func85 Tryz.results85 (.cell [_, _, _, _, _, _, _] rfl rfl rfl (.n)) ?_
  exact ⟨rfl, rfl⟩
set_option maxHeartbeats 1000000 in
theorem Ledger_spec (d : KDay) (vh vj : Value) (hh hj : PHeap) [ih : Arr vh encHour 6 hh d.hours] [ij : Arr vj encJob 4 hj d.jobs] (p : KPlan) (vs vc : Value) (hs_ hc : PHeap) [js : Arr vs encI 1 hs_ p.starts] [jc : Arr vc encI 1 hc p.charge] : Spec Tryz.prog 32 #[.agg #[vh, .int .i64 d.store.energy, .int .i64 d.store.full, .int .i64 d.store.power, .int .i64 d.store.fin, vj, .int .i64 d.most, .int .i64 d.peak], .agg #[vs, vc, .int .i64 p.cost]] [] [hh, hj, hs_, hc] (fun v hs => ∃ vo ho, v = .tuple #[vo, .agg #[.int .i64 (ledgerG d p).2.1.bought, .int .i64 (ledgerG d p).2.1.sold, .int .i64 (ledgerG d p).2.1.made, .int .i64 (ledgerG d p).2.1.used, .int .i64 (ledgerG d p).2.1.stored, .int .i64 (ledgerG d p).2.1.carbon, .int .i64 (ledgerG d p).2.1.water], .int .i64 (ledgerG d p).2.2] ∧ hs = [ho] ∧ OArr vo encRow 7 123 ho (ledgerG d p).1) := by
 have lh := ih.le
 have lc := jc.le
 have nR : OArr (.slice none 0 0) encRow 7 123 emp ([] : List KRow) := OArr.nil (fun _ => rfl)
 refine Spec.intro (fn := Tryz.f32) (N := 84) Tryz.func32 rfl Tryz.ntmps32 rfl fun B => ?_
 refine XK.seq (XK.region rfl ?_)
 refine XO.box rfl fun b2 => ?_
 refine XO.box rfl fun b3 => ?_
 refine XO.q (Q.assign rfl) ?_
 refine XO.alloc fun b5 => ?_
 refine XO.q (Q.assign rfl) (XO.done (XK.seq (XK.region rfl ?_)))
 refine XO.q (Q.ldA [_, _, _, _, _, _, _, _] rfl rfl rfl) ?_
 refine XO.q (Q.ldA [_, _, _] rfl rfl rfl) ?_
 refine XO.call Tryz.call83 rfl rfl rfl (form_spec d vh vj hh hj p vs vc hs_ hc) fun v18 s18 R18 => ?_
 obtain ⟨v1, k1, rfl, rfl, O1⟩ := R18
 dsimp only [lcA, lnA]
 refine XO.q (Q.move rfl) ?_
 refine XO.q (Q.extract rfl rfl) ?_
 refine XO.q (Q.extract rfl rfl) ?_
 refine XO.q (Q.assign rfl) (XO.q (Q.assign rfl) (XO.done (XK.seq (XK.seq (XK.region rfl ?_)))))
 refine XO.q (Q.move rfl) ?_
 refine XO.q (Q.neq rfl rfl) ?_
 refine XO.done ?_
 refine XK.if rfl (fun c0 => ?_) (fun c0 => ?_)
 ·skip
  refine XK.seq (XK.region rfl ?_)
  refine XO.q (Q.build [_, _, _, _, _, _, _] (.n _)) ?_
  refine XO.q (Q.move rfl) (XO.q (Q.assign rfl) ?_)
  refine XO.st rfl rfl rfl ?_
  refine XO.q (Q.assign rfl) (XO.done ?_)
  refine XK.rt [emp] Tryz.func32 Tryz.results32 (.t rfl (.cell [_, _, _, _, _, _, _] rfl rfl rfl (.t rfl .n))) ?_
  rw [ledgerG, if_pos c0]
  exact ⟨.slice none 0 0, emp, rfl, rfl, nR⟩
 ·skip
  have e0 := Decidable.of_not_not c0
  have ff := form_fine e0
  have h24 := ff.1.h2
  have cl := ff.2.2.2.1
  have bl : (formG d p).1.length = d.hours.length := by rw [ff.2.2.2.2.2.2]; exact needsL_len d _
  have ul : (usedL d p.starts).length = d.hours.length := range_len
  refine XK.skip (XK.seq (XK.region rfl ?_))
  refine XO.q (Q.ldA [_, _, _, _, _, _, _, _] rfl rfl rfl) ?_
  refine XO.q (Q.fieldAddr rfl) ?_
  refine XO.q (Q.ld rfl rfl) ?_
  refine XO.call Tryz.call84 rfl rfl rfl (used_spec d vh vj hh hj p.starts vs hs_ ff.1 ff.2.1) fun v28 s28 R28 => ?_
  obtain ⟨ku, rfl, OU⟩ := R28
  dsimp only [lcA, lnA]
  refine XO.q (Q.assign rfl) (XO.done (XK.seq (XK.region rfl (XO.q (Q.assign rfl) (XO.done ?_)))))
  refine XK.seq (XK.seq (XK.region rfl ?_))
  refine XO.q (Q.fieldAddr rfl) ?_
  refine XO.q (Q.ld rfl rfl) ?_
  refine XO.len rfl fun l31 => ?_
  refine XO.q (Q.move rfl) (XO.done (XK.block ?_))
  refine XK.while (X := Nat × Value × PHeap) [10, 11, 12, 13, 14, 32, 33, 34, 35, 36, 37, 38, 39, 40, 41, 42, 43, 44, 45, 46, 47, 48, 49, 50, 51, 52, 53, 54, 55, 56, 57, 58, 59, 60, 61, 62, 63, 64, 65, 66, 67, 68, 69, 70, 71, 72, 73, 74, 75, 76, 77, 78, 79, 80] (fun ⟨i, vo, ho⟩ => [(10, some (vo)), (32, some (.int .i64 (i : Nat)))]) (fun ⟨i, vo, ho⟩ => [ho]) (fun ⟨i, vo, ho⟩ => i ≤ d.hours.length ∧ OArr vo encRow 7 123 ho ((List.range i).map (rowAt d (formG d p).1 (usedL d p.starts) p.charge))) (fun ⟨i, vo, ho⟩ => d.hours.length - i) (0, .slice none 0 0, emp) [emp] rfl ⟨by omega, nR⟩ (.c rfl (.c rfl (.base 0 rfl rfl))) ?_
  rintro ⟨i, vo, ho⟩ ⟨hi, OL⟩ ih0
  dsimp only [lcA, lnA] at ih0 ⊢
  refine XK.seq (XK.region rfl ?_)
  refine XO.q (Q.lss rfl rfl) ?_
  refine XO.done (XK.seq ?_)
  refine XK.if rfl (fun c1 => ?_) (fun c1 => ?_)
  ·skip
   have rf := row_facts e0 (show i < d.hours.length by omega)
   obtain ⟨rn, ru, rs, rc, rw_⟩ := rf
   refine XK.skip (XK.seq (XK.block (XK.seq (XK.region rfl (XO.q (Q.move rfl) ?_)))))
   refine XO.ix rfl rfl (by omega) (by omega) fun i35 => ?_
   refine XO.q (Q.ldEA [_, _, _, _, _, _] rfl (by first | assumption | omega) rfl rfl) ?_
   refine XO.alloc fun b12 => ?_
   refine XO.q (Q.assign rfl) ?_
   refine XO.st rfl rfl rfl ?_
   refine XO.done (XK.seq ?_)
   refine XK.drawn [0, 1, 2, 3, 4, 5, 6, 7, 8, 9, 10] [b3] [k1] (.q 0 (.q 1 (.q 2 (.q 3 (.q 4 (.q 5 (.q 6 (.q 7 (.q 8 (.q 9 (.q 10 .done))))))))))) Tryz.mixed rfl (by kernel_rfl) ?_
   refine XT.q rfl rfl (Q.move rfl) ?_
   refine XT.q rfl rfl (Q.move rfl) ?_
   refine XT.ix rfl rfl rfl rfl (by omega) (by omega) fun i39 => ?_
   refine XT.q rfl rfl (Q.ldE rfl (by first | assumption | omega) rfl) ?_
   refine XT.q rfl rfl (Q.fieldAddr rfl) ?_
   refine XT.q rfl rfl (Q.ld rfl rfl) ?_
   refine XT.q rfl rfl (Q.move rfl) ?_
   refine XT.ix rfl rfl rfl rfl (by omega) (by omega) fun i44 => ?_
   refine XT.q rfl rfl (Q.ldE rfl (by first | assumption | omega) rfl) ?_
   refine XT.q rfl rfl (Q.add rfl rfl ⟨by omega, by omega⟩) ?_
   refine XT.q rfl rfl (Q.assign rfl) ?_
   refine XT.done ?_
   refine XK.seq ?_
   refine XK.drawn [0, 1, 2, 3, 4, 5, 6, 7, 8, 9, 10, 11, 12, 13, 14, 15, 16] [b12, b3] [ku] (.q 0 (.q 1 (.q 2 (.q 3 (.q 4 (.q 5 (.q 6 (.q 7 (.q 8 (.q 9 (.q 10 (.q 11 (.q 12 (.q 13 (.q 14 (.q 15 (.q 16 (.br 17 true (.br 18 false .done .stop) .stop)))))))))))))))))) Tryz.mixed rfl (by kernel_rfl) ?_
   refine XT.q rfl rfl (Q.move rfl) ?_
   refine XT.q rfl rfl (Q.max rfl rfl) ?_
   refine XT.q rfl rfl (Q.move rfl) ?_
   refine XT.q rfl rfl (Q.neg rfl ⟨by omega, by omega⟩) ?_
   rw [show (0 : Int) - ((formG d p).1.getD i default + p.charge.getD i default) = -((formG d p).1.getD i default + p.charge.getD i default) by omega]
   refine XT.q rfl rfl (Q.max rfl rfl) ?_
   refine XT.q rfl rfl (Q.fieldAddr rfl) ?_
   refine XT.q rfl rfl (Q.ld rfl rfl) ?_
   refine XT.q rfl rfl (Q.move rfl) ?_
   refine XT.q rfl rfl (Q.move rfl) ?_
   refine XT.ix rfl rfl rfl rfl (by omega) (by omega) fun i56 => ?_
   refine XT.q rfl rfl (Q.ldE rfl (by first | assumption | omega) rfl) ?_
   refine XT.q rfl rfl (Q.fieldAddr rfl) ?_
   refine XT.q rfl rfl (Q.ld rfl rfl) ?_
   refine XT.q rfl rfl (Q.move rfl) ?_
   refine XT.ix rfl rfl rfl rfl (by omega) (by omega) fun i61 => ?_
   refine XT.q rfl rfl (Q.ldE rfl (by first | assumption | omega) rfl) ?_
   refine XT.q rfl rfl (Q.build [_, _, _, _, _, _, _] (.c 0 1 rfl rfl rfl (.c 1 1 rfl rfl rfl (.c 2 1 rfl rfl rfl (.c 3 1 rfl rfl rfl (.c 4 1 rfl rfl rfl (.n _))))))) ?_
   refine XT.alloc rfl rfl (fun b14 => ⟨inferInstance, ?_⟩) XT.stop
   refine XT.st rfl rfl rfl rfl rfl ⟨inferInstance, ?_⟩ XT.stop
   refine XT.done ?_
   refine XK.seq ?_
   refine XK.meet (X := Unit) [64, 65, 66, 67, 68, 69, 70, 71, 72, 73, 74, 75] (fun _ => []) (fun _ => [blk b14 [.int .i64 (max ((formG d p).1.getD i default + p.charge.getD i default) 0), .int .i64 (max (-((formG d p).1.getD i default + p.charge.getD i default)) 0), .int .i64 (d.hours.getD i default).sun, .int .i64 ((usedL d p.starts).getD i default), .int .i64 (p.charge.getD i default), .int .i64 (max ((formG d p).1.getD i default + p.charge.getD i default) 0 * (d.hours.getD i default).carbon), .int .i64 (((usedL d p.starts).getD i default) * (d.hours.getD i default).water)] 123]) (fun _ => True) [blk b14 [.int .i64 (max ((formG d p).1.getD i default + p.charge.getD i default) 0), .int .i64 (max (-((formG d p).1.getD i default + p.charge.getD i default)) 0), .int .i64 (d.hours.getD i default).sun, .int .i64 ((usedL d p.starts).getD i default), .int .i64 (p.charge.getD i default), .int .i64 0, .int .i64 0] 123] ?_ ?_
   ·rintro _ _
    dsimp only [lcA, lnA]
    refine XK.region rfl (XO.q (Q.move rfl) ?_)
    refine XO.q (Q.ldA [_, _, _, _, _, _, _] rfl rfl rfl) ?_
    refine XO.lit [_, _, _, _, _, _, _] [_, _, _, _, _, _, _] [rowAt d (formG d p).1 (usedL d p.starts) p.charge i] encRow (by rfl) (by rfl) rfl (by rfl) (by exact .c 0 7 rfl rfl rfl (.n _)) (fun _ => rfl) (by rfl) rfl (by infer_instance) rfl fun v78 h78 O78 => ?_
    refine XO.append rfl rfl rfl rfl (by first | omega | (simp; omega)) fun v79 h79 O79 => ?_
    refine XO.q (Q.assign rfl) (XO.done ?_)
    refine XK.inBlock ?_
    refine XK.region rfl ?_
    refine XO.q (Q.add rfl rfl ⟨by omega, by omega⟩) ?_
    refine XO.q (Q.move rfl) (XO.done ?_)
    exact ih0 (i + 1, v79, h79) _ _ ⟨by dsimp only; omega, by dsimp only; rw [List.range_succ, List.map_append]; exact O79⟩ (by first | omega | (dsimp only; omega)) (.c rfl (.c rfl (.base 110 rfl rfl))) inferInstance
   ·intro mtr11
    dsimp only [lcA, lnA] at mtr11
    refine XK.drawn [0, 2, 3, 5, 7, 8, 4, 9, 10, 12] [b12] [] (.q 0 (.q 2 (.q 3 (.q 5 (.q 7 (.q 8 (.br 1 true (.q 4 (.br 6 true (.q 9 (.q 10 (.br 11 true (.q 12 (.br 13 false .done .stop)) .stop))) .stop)) (.br 6 true (.q 9 (.br 1 true (.q 4 (.q 10 (.br 11 true (.q 12 (.br 13 false .done .stop)) .stop))) .stop)) .stop)))))))) Tryz.mixed rfl (by kernel_rfl) ?_
    refine XT.q rfl rfl (Q.fieldAddr rfl) ?_
    refine XT.q rfl rfl (Q.fieldAddr rfl) ?_
    refine XT.q rfl rfl (Q.ld rfl rfl) ?_
    refine XT.q rfl rfl (Q.fieldAddr rfl) ?_
    refine XT.q rfl rfl (Q.fieldAddr rfl) ?_
    refine XT.q rfl rfl (Q.ld rfl rfl) ?_
    refine XT.qs rfl rfl (Q.ld rfl rfl) ⟨inferInstance, ?_⟩ ?_
    ·skip
     refine XT.q rfl rfl (Q.mul rfl rfl ⟨by omega, by omega⟩) ?_
     refine XT.qs rfl rfl (Q.ld rfl rfl) ⟨inferInstance, ?_⟩ XT.stop
     refine XT.q rfl rfl (Q.mul rfl rfl ⟨by omega, by omega⟩) ?_
     refine XT.q rfl rfl (Q.fieldAddr rfl) ?_
     refine XT.st rfl rfl rfl rfl rfl ⟨inferInstance, ?_⟩ XT.stop
     refine XT.q rfl rfl (Q.fieldAddr rfl) ?_
     refine XT.st rfl rfl rfl rfl rfl ⟨inferInstance, ?_⟩ XT.stop
     refine XT.done ?_
     exact mtr11 (()) _ _ trivial (.base 12 rfl rfl) inferInstance
    ·skip
     refine XT.qs rfl rfl (Q.ld rfl rfl) ⟨inferInstance, ?_⟩ XT.stop
     refine XT.q rfl rfl (Q.mul rfl rfl ⟨by omega, by omega⟩) ?_
     refine XT.qs rfl rfl (Q.ld rfl rfl) ⟨inferInstance, ?_⟩ XT.stop
     refine XT.q rfl rfl (Q.mul rfl rfl ⟨by omega, by omega⟩) ?_
     refine XT.q rfl rfl (Q.fieldAddr rfl) ?_
     refine XT.st rfl rfl rfl rfl rfl ⟨inferInstance, ?_⟩ XT.stop
     refine XT.q rfl rfl (Q.fieldAddr rfl) ?_
     refine XT.st rfl rfl rfl rfl rfl ⟨inferInstance, ?_⟩ XT.stop
     refine XT.done ?_
     exact mtr11 (()) _ _ trivial (.base 12 rfl rfl) inferInstance
  ·skip
   have hin : i = d.hours.length := by omega
   subst hin
   refine XK.exit rfl ?_
   refine XK.seq (XK.region rfl (XO.q (Q.move rfl) (XO.q (Q.move rfl) ?_)))
   refine XO.call Tryz.call85 rfl rfl rfl (add_spec vo ho ((List.range d.hours.length).map (rowAt d (formG d p).1 (usedL d p.starts) p.charge)) (by rw [rows_len]; have := ff.1.h2; omega) (fun i hi => by rw [rows_len] at hi; rw [range_getK hi]; exact row_small e0 hi)) fun v83 s83 R83 => ?_
   obtain ⟨rfl, rfl⟩ := R83
   dsimp only [lcA, lnA]
   refine XO.q (Q.assign rfl) ?_
   refine XO.st rfl rfl rfl ?_
   refine XO.q (Q.assign rfl) (XO.done ?_)
   refine XK.rt [ho] Tryz.func32 Tryz.results32 (.t rfl (.cell [_, _, _, _, _, _, _] rfl rfl rfl (.t rfl .n))) ?_
   rw [ledgerG, if_neg c0]
   have es : sumRow (fun i => ((List.range d.hours.length).map (rowAt d (formG d p).1 (usedL d p.starts) p.charge)).getD i default) ((List.range d.hours.length).map (rowAt d (formG d p).1 (usedL d p.starts) p.charge)).length = sumRow (rowAt d (formG d p).1 (usedL d p.starts) p.charge) d.hours.length := by rw [rows_len]; exact sumRow_ext _ fun i hi => range_getK hi
   rw [es]
   exact ⟨vo, ho, rfl, rfl, OL⟩
end Go.X.Ma

set_option linter.unusedSimpArgs false
set_option linter.unusedVariables false
set_option maxRecDepth 20000
namespace Go.X.Ma
open Go.Proofs
theorem byt_rngK (x : List UInt8) (i : Nat) : 0 ≤ (((x.getD i default).toNat : Nat) : Int) ∧ (((x.getD i default).toNat : Nat) : Int) ≤ 255 := by
 have := (x.getD i default).toNat_lt
 omega
theorem next_spec (vx : Value) (hx : PHeap) (x : List UInt8) [jx : Arr vx encU8 1 hx x] (b : Nat) (i : Nat) (i1 : i ≤ 1000000) (n : Int) (n0 : 0 < n) (n1 : n ≤ 1000000) : Spec Tryz.prog 143 #[ptr b 0, .int .i64 n] [blk b [vx, .int .i64 (((i : Nat) : Int))] 290] [hx] (fun v hs => v = .int .i64 (dg x i n) ∧ hs = [blk b [vx, .int .i64 (((i + 1 : Nat) : Int))] 290]) := by
 have lx := jx.le
 have br := byt_rngK x i
 refine Spec.intro (fn := Tryz.f143) (N := 36) Tryz.func143 rfl Tryz.ntmps143 rfl fun B => ?_
 refine XK.seq (XK.region rfl (XO.q (Q.assign rfl) (XO.done (XK.seq (XK.region rfl ?_)))))
 refine XO.q (Q.move rfl) ?_
 refine XO.q (Q.nilCheck rfl) ?_
 refine XO.q (Q.fieldAddr rfl) ?_
 refine XO.q (Q.ld rfl rfl) ?_
 refine XO.q (Q.add rfl rfl ⟨by omega, by omega⟩) ?_
 rw [show ((i : Nat) : Int) + 1 = ((i + 1 : Nat) : Int) from rfl]
 refine XO.q (Q.nilCheck rfl) ?_
 refine XO.q (Q.fieldAddr rfl) ?_
 refine XO.st rfl rfl rfl ?_
 refine XO.done (XK.seq (XK.seq ?_))
 refine XK.drawn [0, 1, 2, 3, 4, 5, 6, 7, 8, 9] [b] [] (.q 0 (.q 1 (.q 2 (.q 3 (.q 4 (.q 5 (.q 6 (.q 7 (.q 8 (.q 9 .done)))))))))) Tryz.mixed rfl (by kernel_rfl) ?_
 refine XT.q rfl rfl (Q.move rfl) ?_
 refine XT.q rfl rfl (Q.nilCheck rfl) ?_
 refine XT.q rfl rfl (Q.fieldAddr rfl) ?_
 refine XT.q rfl rfl (Q.ld rfl rfl) ?_
 refine XT.q rfl rfl (Q.move rfl) ?_
 refine XT.q rfl rfl (Q.nilCheck rfl) ?_
 refine XT.q rfl rfl (Q.fieldAddr rfl) ?_
 refine XT.q rfl rfl (Q.ld rfl rfl) ?_
 refine XT.q rfl rfl (Q.len rfl) ?_
 refine XT.q rfl rfl (Q.gtr rfl rfl) ?_
 refine XT.done ?_
 refine XK.if rfl (fun c0 => ?_) (fun c0 => ?_)
 ·skip
  refine XK.seq (XK.region rfl (XO.q (Q.assign rfl) (XO.done ?_)))
  refine XK.rt [blk b [vx, .int .i64 (((i + 1 : Nat) : Int))] 290] Tryz.func143 Tryz.results143 (.t rfl .n) ?_
  exact ⟨by rw [dg_off (by omega) n0], rfl⟩
 ·skip
  refine XK.skip (XK.seq ?_)
  refine XK.drawn [0, 1, 2, 3, 4, 5, 6, 7, 8, 9, 10, 11, 12, 13, 14] [b] [] (.q 0 (.q 1 (.q 2 (.q 3 (.q 4 (.q 5 (.q 6 (.q 7 (.q 8 (.q 9 (.q 10 (.q 11 (.q 12 (.q 13 (.q 14 .done))))))))))))))) Tryz.mixed rfl (by kernel_rfl) ?_
  refine XT.q rfl rfl (Q.move rfl) ?_
  refine XT.q rfl rfl (Q.nilCheck rfl) ?_
  refine XT.q rfl rfl (Q.fieldAddr rfl) ?_
  refine XT.q rfl rfl (Q.ld rfl rfl) ?_
  refine XT.q rfl rfl (Q.move rfl) ?_
  refine XT.q rfl rfl (Q.nilCheck rfl) ?_
  refine XT.q rfl rfl (Q.fieldAddr rfl) ?_
  refine XT.q rfl rfl (Q.ld rfl rfl) ?_
  refine XT.q rfl rfl (Q.sub rfl rfl ⟨by omega, by omega⟩) ?_
  rw [show ((i + 1 : Nat) : Int) - 1 = ((i : Nat) : Int) by omega]
  refine XT.ix rfl rfl rfl rfl (by omega) (by omega) fun i31 => ?_
  refine XT.q rfl rfl (Q.ldE rfl (by first | assumption | omega) rfl) ?_
  refine XT.q rfl rfl (Q.conv rfl) ?_
  rw [wrap64_of ⟨by omega, by omega⟩]
  refine XT.q rfl rfl (Q.move rfl) ?_
  refine XT.q rfl rfl (Q.rem rfl rfl (by omega) (by omega)) ?_
  refine XT.q rfl rfl (Q.assign rfl) ?_
  refine XT.done ?_
  refine XK.rt [blk b [vx, .int .i64 (((i + 1 : Nat) : Int))] 290] Tryz.func143 Tryz.results143 (.t rfl .n) ?_
  exact ⟨rfl, rfl⟩
end Go.X.Ma

set_option linter.unusedSimpArgs false
set_option linter.unusedVariables false
set_option maxRecDepth 20000
namespace Go.X.Ma
open Go.Proofs
set_option maxHeartbeats 8000000 in
theorem Made_spec (vx : Value) (hx : PHeap) (x : List UInt8) [jx : Arr vx encU8 1 hx x] : Spec Tryz.prog 81 #[vx] [] [hx] (fun v hs => ∃ vh vj kh kj, v = .agg #[vh, .int .i64 (madeD x).store.energy, .int .i64 (madeD x).store.full, .int .i64 (madeD x).store.power, .int .i64 (madeD x).store.fin, vj, .int .i64 (madeD x).most, .int .i64 (madeD x).peak] ∧ hs = [kh, kj] ∧ OArr vh encHour 6 146 kh (madeD x).hours ∧ OArr vj encJob 4 292 kj (madeD x).jobs) := by
 have nH : OArr (.slice none 0 0) encHour 6 146 emp ([] : List KHour) := OArr.nil (fun _ => rfl)
 have nJ : OArr (.slice none 0 0) encJob 4 292 emp ([] : List KJob) := OArr.nil (fun _ => rfl)
 have r0 := dg_rng x 0 (n := 14) (by omega)
 have r1 := dg_rng x (0 + 1) (n := 30) (by omega)
 have r2 := dg_rng x (0 + 1 + 1) (n := 7) (by omega)
 have r3 := dg_rng x (0 + 1 + 1 + 1) (n := (dg x (0 + 1 + 1) (7)) + 1) (by omega)
 have r4 := dg_rng x (0 + 1 + 1 + 1 + 1) (n := (dg x (0 + 1 + 1) (7)) + 1) (by omega)
 have r5 := dg_rng x (0 + 1 + 1 + 1 + 1 + 1) (n := 2) (by omega)
 have rm := bit_mul (m := 7) r4.1 (by omega) r5.1 r5.2
 have r7 := dg_rng x (0 + 1 + 1 + 1 + 1 + 1 + 1 + 1) (n := 8) (by omega)
 obtain ⟨mn0, mn1, mn2⟩ := madeN_rng x
 have f7 : 0 < (dg x (0 + 1 + 1) (7)) + 1 ∧ (dg x (0 + 1 + 1) (7)) + 1 ≤ 1000000 := by omega
 have fn : (0 : Int) < (madeN x : Int) ∧ (madeN x : Int) ≤ 1000000 := by omega
 have pz0 : 0 ≤ 1000000 := by omega
 have pz1 : 0 + 1 ≤ 1000000 := by omega
 have pz2 : 0 + 1 + 1 ≤ 1000000 := by omega
 have pz3 : 0 + 1 + 1 + 1 ≤ 1000000 := by omega
 have pz4 : 0 + 1 + 1 + 1 + 1 ≤ 1000000 := by omega
 have pz5 : 0 + 1 + 1 + 1 + 1 + 1 ≤ 1000000 := by omega
 have pz6 : 0 + 1 + 1 + 1 + 1 + 1 + 1 ≤ 1000000 := by omega
 have pz7 : 0 + 1 + 1 + 1 + 1 + 1 + 1 + 1 ≤ 1000000 := by omega
 have pz8 : 0 + 1 + 1 + 1 + 1 + 1 + 1 + 1 + 1 ≤ 1000000 := by omega
 have mn3 : ((madeN x : Nat) : Int) = 2 + dg x (0 + 1 + 1 + 1 + 1 + 1 + 1 + 1) 8 := mn2
 clear mn2
 refine Spec.intro (fn := Tryz.f81) (N := 120) Tryz.func81 rfl Tryz.ntmps81 rfl fun B => ?_
 refine XK.seq (XK.region rfl ?_)
 refine XO.alloc fun b2 => ?_
 refine XO.done (XK.seq (XK.region rfl (XO.q (Q.move rfl) ?_)))
 refine XO.q (Q.build [_, _] (.c 0 1 rfl rfl rfl (.n _))) ?_
 refine XO.box rfl fun b10 => ?_
 refine XO.q (Q.assign rfl) (XO.done (XK.seq (XK.region rfl (XO.q (Q.move rfl) ?_))))
 refine XO.call Tryz.call143 rfl rfl rfl (next_spec vx hx x b10 (0) pz0 (14) (by decide) (by decide)) fun v12 s12 R12 => ?_
 obtain ⟨rfl, rfl⟩ := R12
 dsimp only [lcA, lnA]
 refine XO.q (Q.add rfl rfl ⟨by omega, by omega⟩) ?_
 refine XO.q (Q.move rfl) ?_
 refine XO.call Tryz.call143 rfl rfl rfl (next_spec vx hx x b10 (0 + 1) pz1 (30) (by decide) (by decide)) fun v15 s15 R15 => ?_
 obtain ⟨rfl, rfl⟩ := R15
 dsimp only [lcA, lnA]
 refine XO.q (Q.build [_, _, _, _, _, _, _, _] (.c 6 1 rfl rfl rfl (.c 7 1 rfl rfl rfl (.n _)))) ?_
 refine XO.alloc fun b4 => ?_
 refine XO.st rfl rfl rfl ?_
 refine XO.done (XK.seq (XK.region rfl (XO.q (Q.move rfl) ?_)))
 refine XO.call Tryz.call143 rfl rfl rfl (next_spec vx hx x b10 (0 + 1 + 1) pz2 (7) (by decide) (by decide)) fun v18 s18 R18 => ?_
 obtain ⟨rfl, rfl⟩ := R18
 dsimp only [lcA, lnA]
 refine XO.q (Q.fieldAddr rfl) ?_
 refine XO.q (Q.fieldAddr rfl) ?_
 refine XO.st rfl rfl rfl ?_
 refine XO.done (XK.seq ?_)
 refine XK.meet (X := Unit) [21, 22, 23, 24, 25, 26, 27, 28, 29, 30, 31, 32, 33, 34, 35, 36, 37, 38, 39, 40, 41, 42, 43] (fun _ => []) (fun _ => [blk b4 [.slice none 0 0, .int .i64 (dg x (0 + 1 + 1 + 1) ((dg x (0 + 1 + 1) (7)) + 1)), .int .i64 (dg x (0 + 1 + 1) (7)), .int .i64 (dg x (0 + 1 + 1 + 1 + 1 + 1 + 1) (5)), .int .i64 ((dg x (0 + 1 + 1 + 1 + 1) ((dg x (0 + 1 + 1) (7)) + 1)) * (dg x (0 + 1 + 1 + 1 + 1 + 1) (2))), .slice none 0 0, .int .i64 (4 + dg x 0 14), .int .i64 (dg x (0 + 1) (30))] 116, blk b10 [vx, .int .i64 (((0 + 1 + 1 + 1 + 1 + 1 + 1 + 1 : Nat) : Int))] 290]) (fun _ => True) [blk b4 [.slice none 0 0, .int .i64 0, .int .i64 (dg x (0 + 1 + 1) (7)), .int .i64 0, .int .i64 0, .slice none 0 0, .int .i64 (4 + dg x 0 14), .int .i64 (dg x (0 + 1) (30))] 116, blk b10 [vx, .int .i64 (((0 + 1 + 1 + 1 : Nat) : Int))] 290] ?_ ?_
 ·rintro _ _
  dsimp only [lcA, lnA]
  refine XK.seq (XK.seq (XK.region rfl (XO.q (Q.move rfl) ?_)))
  refine XO.call Tryz.call143 rfl rfl rfl (next_spec vx hx x b10 (0 + 1 + 1 + 1 + 1 + 1 + 1 + 1) pz7 (8) (by decide) (by decide)) fun v45 s45 R45 => ?_
  obtain ⟨rfl, rfl⟩ := R45
  dsimp only [lcA, lnA]
  refine XO.q (Q.add rfl rfl ⟨by omega, by omega⟩) ?_
  refine XO.q (Q.move rfl) (XO.done (XK.block ?_))
  refine XK.while (X := Nat × Value × PHeap) [5, 47, 48, 49, 50, 51, 52, 53, 54, 55, 56, 57, 58, 59, 60, 61, 62, 63, 64, 65, 66, 67, 68, 69, 70, 71, 72, 73, 74, 75, 76] (fun ⟨k, vh, kh⟩ => [(47, some (.int .i64 (k : Nat)))]) (fun ⟨k, vh, kh⟩ => [blk b4 [vh, .int .i64 (dg x (0 + 1 + 1 + 1) ((dg x (0 + 1 + 1) (7)) + 1)), .int .i64 (dg x (0 + 1 + 1) (7)), .int .i64 (dg x (0 + 1 + 1 + 1 + 1 + 1 + 1) (5)), .int .i64 ((dg x (0 + 1 + 1 + 1 + 1) ((dg x (0 + 1 + 1) (7)) + 1)) * (dg x (0 + 1 + 1 + 1 + 1 + 1) (2))), .slice none 0 0, .int .i64 (4 + dg x 0 14), .int .i64 (dg x (0 + 1) (30))] 116, blk b10 [vx, .int .i64 (((8 + 8 * k : Nat) : Int))] 290, kh]) (fun ⟨k, vh, kh⟩ => k ≤ madeN x ∧ OArr vh encHour 6 146 kh (madeHours x k)) (fun ⟨k, vh, kh⟩ => madeN x - k) (0, .slice none 0 0, emp) [blk b4 [.slice none 0 0, .int .i64 (dg x (0 + 1 + 1 + 1) ((dg x (0 + 1 + 1) (7)) + 1)), .int .i64 (dg x (0 + 1 + 1) (7)), .int .i64 (dg x (0 + 1 + 1 + 1 + 1 + 1 + 1) (5)), .int .i64 ((dg x (0 + 1 + 1 + 1 + 1) ((dg x (0 + 1 + 1) (7)) + 1)) * (dg x (0 + 1 + 1 + 1 + 1 + 1) (2))), .slice none 0 0, .int .i64 (4 + dg x 0 14), .int .i64 (dg x (0 + 1) (30))] 116, blk b10 [vx, .int .i64 (((0 + 1 + 1 + 1 + 1 + 1 + 1 + 1 + 1 : Nat) : Int))] 290, emp] rfl ⟨by omega, nH⟩ (.c rfl (.base 0 rfl rfl)) ?_
  rintro ⟨k, vh, kh⟩ ⟨hk, OH⟩ ih0
  dsimp only [lcA, lnA] at ih0 ⊢
  have hl := madeHours_len x k
  refine XK.seq (XK.region rfl ?_)
  refine XO.q (Q.lss rfl rfl) ?_
  refine XO.done (XK.seq ?_)
  refine XK.if rfl (fun c0 => ?_) (fun c0 => ?_)
  ·skip
   have pk0 : 8 + 8 * k ≤ 1000000 := by omega
   have pk1 : 8 + 8 * k + 1 ≤ 1000000 := by omega
   have pk2 : 8 + 8 * k + 1 + 1 ≤ 1000000 := by omega
   have pk3 : 8 + 8 * k + 1 + 1 + 1 ≤ 1000000 := by omega
   have pk4 : 8 + 8 * k + 1 + 1 + 1 + 1 ≤ 1000000 := by omega
   have pk5 : 8 + 8 * k + 1 + 1 + 1 + 1 + 1 ≤ 1000000 := by omega
   have pk6 : 8 + 8 * k + 1 + 1 + 1 + 1 + 1 + 1 ≤ 1000000 := by omega
   have pk7 : 8 + 8 * k + 1 + 1 + 1 + 1 + 1 + 1 + 1 ≤ 1000000 := by omega
   have pk8 : 8 + 8 * k + 1 + 1 + 1 + 1 + 1 + 1 + 1 + 1 ≤ 1000000 := by omega
   clear pz0 pz1 pz2 pz3 pz4 pz5 pz6 pz7 pz8
   have q0 := dg_rng x (8 + 8 * k) (n := 50) (by omega)
   have fb : 0 < (dg x (8 + 8 * k) (50)) + 1 ∧ (dg x (8 + 8 * k) (50)) + 1 ≤ 1000000 := by omega
   have q1 := dg_rng x (8 + 8 * k + 1) (n := dg x (8 + 8 * k) 50 + 1) (by omega)
   have q2 := dg_rng x (8 + 8 * k + 1 + 1) (n := 2) (by omega)
   have q3 := dg_rng x (8 + 8 * k + 1 + 1 + 1) (n := 9) (by omega)
   have q4 := dg_rng x (8 + 8 * k + 1 + 1 + 1 + 1) (n := 2) (by omega)
   have mm1 := bit_mul (m := 50) q1.1 (by omega) q2.1 q2.2
   have mm2 := bit_mul (m := 9) q3.1 (by omega) q4.1 q4.2
   refine XK.skip (XK.seq (XK.block (XK.seq (XK.region rfl (XO.q (Q.move rfl) ?_)))))
   refine XO.call Tryz.call143 rfl rfl rfl (next_spec vx hx x b10 (8 + 8 * k) pk0 (50) (by decide) (by decide)) fun v50 s50 R50 => ?_
   obtain ⟨rfl, rfl⟩ := R50
   dsimp only [lcA, lnA]
   refine XO.q (Q.assign rfl) (XO.done ?_)
   refine XK.meet (X := Value × PHeap) [51, 52, 53, 54, 55, 56, 57, 58, 59, 60, 61, 62, 63, 64, 65, 66, 67, 68, 69, 70, 71, 72, 73, 74, 75] (fun ⟨v74, h74⟩ => []) (fun ⟨v74, h74⟩ => [blk b4 [v74, .int .i64 (dg x (0 + 1 + 1 + 1) ((dg x (0 + 1 + 1) (7)) + 1)), .int .i64 (dg x (0 + 1 + 1) (7)), .int .i64 (dg x (0 + 1 + 1 + 1 + 1 + 1 + 1) (5)), .int .i64 ((dg x (0 + 1 + 1 + 1 + 1) ((dg x (0 + 1 + 1) (7)) + 1)) * (dg x (0 + 1 + 1 + 1 + 1 + 1) (2))), .slice none 0 0, .int .i64 (4 + dg x 0 14), .int .i64 (dg x (0 + 1) (30))] 116, blk b10 [vx, .int .i64 (((8 + 8 * k + 1 + 1 + 1 + 1 + 1 + 1 + 1 + 1 : Nat) : Int))] 290, h74]) (fun ⟨v74, h74⟩ => OArr v74 encHour 6 146 h74 (madeHours x k ++ [madeHour x (8 + 8 * k)])) [blk b4 [vh, .int .i64 (dg x (0 + 1 + 1 + 1) ((dg x (0 + 1 + 1) (7)) + 1)), .int .i64 (dg x (0 + 1 + 1) (7)), .int .i64 (dg x (0 + 1 + 1 + 1 + 1 + 1 + 1) (5)), .int .i64 ((dg x (0 + 1 + 1 + 1 + 1) ((dg x (0 + 1 + 1) (7)) + 1)) * (dg x (0 + 1 + 1 + 1 + 1 + 1) (2))), .slice none 0 0, .int .i64 (4 + dg x 0 14), .int .i64 (dg x (0 + 1) (30))] 116, blk b10 [vx, .int .i64 (((8 + 8 * k + 1 : Nat) : Int))] 290, kh] ?_ ?_
   ·rintro ⟨v74, h74⟩ O74
    dsimp only [lcA, lnA]
    refine XK.inBlock ?_
    refine XK.region rfl ?_
    refine XO.q (Q.add rfl rfl ⟨by omega, by omega⟩) ?_
    refine XO.q (Q.move rfl) (XO.done ?_)
    exact ih0 (k + 1, v74, h74) _ _ ⟨by dsimp only; omega, by dsimp only; rw [madeHours_succ]; exact O74⟩ (by first | omega | (dsimp only; omega)) (.c rfl (.base 63 rfl rfl)) inferInstance
   ·intro mtr8
    dsimp only [lcA, lnA] at mtr8
    refine XK.drawn [0, 2, 3, 4, 5, 7, 10, 12, 15, 17, 19, 9, 14, 21, 24] [] [] (.q 0 (.q 2 (.q 3 (.q 4 (.q 5 (.q 7 (.q 10 (.q 12 (.q 15 (.q 17 (.q 19 (.br 1 true (.br 6 true (.br 8 true (.q 9 (.br 11 true (.br 13 true (.q 14 (.br 16 true (.br 18 true (.br 20 true (.q 21 (.br 22 true (.br 23 true (.q 24 (.br 25 false .done .stop)) .stop) .stop)) .stop) .stop) .stop)) .stop) .stop)) .stop) .stop) (.br 6 true (.br 1 true (.br 8 true (.q 9 (.br 11 true (.br 13 true (.q 14 (.br 16 true (.br 18 true (.br 20 true (.q 21 (.br 22 true (.br 23 true (.q 24 (.br 25 false .done .stop)) .stop) .stop)) .stop) .stop) .stop)) .stop) .stop)) .stop) (.br 8 true (.q 9 (.br 1 true (.br 11 true (.br 13 true (.q 14 (.br 16 true (.br 18 true (.br 20 true (.q 21 (.br 22 true (.br 23 true (.q 24 (.br 25 false .done .stop)) .stop) .stop)) .stop) .stop) .stop)) .stop) .stop) (.br 11 true (.br 1 true (.br 13 true (.q 14 (.br 16 true (.br 18 true (.br 20 true (.q 21 (.br 22 true (.br 23 true (.q 24 (.br 25 false .done .stop)) .stop) .stop)) .stop) .stop) .stop)) .stop) (.br 13 true (.q 14 (.br 1 true (.br 16 true (.br 18 true (.br 20 true (.q 21 (.br 22 true (.br 23 true (.q 24 (.br 25 false .done .stop)) .stop) .stop)) .stop) .stop) .stop) (.br 16 true (.br 1 true (.br 18 true (.br 20 true (.q 21 (.br 22 true (.br 23 true (.q 24 (.br 25 false .done .stop)) .stop) .stop)) .stop) .stop) (.br 18 true (.br 1 true (.br 20 true (.q 21 (.br 22 true (.br 23 true (.q 24 (.br 25 false .done .stop)) .stop) .stop)) .stop) (.br 20 true (.q 21 (.br 1 true (.br 22 true (.br 23 true (.q 24 (.br 25 false .done .stop)) .stop) .stop) (.br 22 true (.br 1 true (.br 23 true (.q 24 (.br 25 false .done .stop)) .stop) .stop) .stop))) .stop)) .stop)) .stop))) .stop)) .stop))) .stop)) .stop))))))))))))) Tryz.mixed rfl (by kernel_rfl) ?_
    refine XT.q rfl rfl (Q.fieldAddr rfl) ?_
    refine XT.q rfl rfl (Q.move rfl) ?_
    refine XT.q rfl rfl (Q.move rfl) ?_
    refine XT.q rfl rfl (Q.move rfl) ?_
    refine XT.q rfl rfl (Q.add rfl rfl ⟨by omega, by omega⟩) ?_
    refine XT.q rfl rfl (Q.move rfl) ?_
    refine XT.q rfl rfl (Q.move rfl) ?_
    refine XT.q rfl rfl (Q.move rfl) ?_
    refine XT.q rfl rfl (Q.move rfl) ?_
    refine XT.q rfl rfl (Q.move rfl) ?_
    refine XT.q rfl rfl (Q.move rfl) ?_
    refine XT.qs rfl rfl (Q.ld rfl rfl) ⟨inferInstance, ?_⟩ ?_
    ·skip
     refine XT.call rfl rfl Tryz.call143 rfl rfl rfl (next_spec vx hx x b10 (8 + 8 * k + 1) pk1 ((dg x (8 + 8 * k) (50)) + 1) fb.1 fb.2) (fun v57 s57 R57 => ?_) XT.stop
     obtain ⟨rfl, rfl⟩ := R57
     dsimp only [lcA, lnA]
     refine ⟨inferInstance, ?_⟩
     refine XT.call rfl rfl Tryz.call143 rfl rfl rfl (next_spec vx hx x b10 (8 + 8 * k + 1 + 1) pk2 (2) (by decide) (by decide)) (fun v59 s59 R59 => ?_) XT.stop
     obtain ⟨rfl, rfl⟩ := R59
     dsimp only [lcA, lnA]
     refine ⟨inferInstance, ?_⟩
     refine XT.q rfl rfl (Q.mul rfl rfl ⟨by omega, by omega⟩) ?_
     refine XT.call rfl rfl Tryz.call143 rfl rfl rfl (next_spec vx hx x b10 (8 + 8 * k + 1 + 1 + 1) pk3 (9) (by decide) (by decide)) (fun v62 s62 R62 => ?_) XT.stop
     obtain ⟨rfl, rfl⟩ := R62
     dsimp only [lcA, lnA]
     refine ⟨inferInstance, ?_⟩
     refine XT.call rfl rfl Tryz.call143 rfl rfl rfl (next_spec vx hx x b10 (8 + 8 * k + 1 + 1 + 1 + 1) pk4 (2) (by decide) (by decide)) (fun v64 s64 R64 => ?_) XT.stop
     obtain ⟨rfl, rfl⟩ := R64
     dsimp only [lcA, lnA]
     refine ⟨inferInstance, ?_⟩
     refine XT.q rfl rfl (Q.mul rfl rfl ⟨by omega, by omega⟩) ?_
     refine XT.call rfl rfl Tryz.call143 rfl rfl rfl (next_spec vx hx x b10 (8 + 8 * k + 1 + 1 + 1 + 1 + 1) pk5 (7) (by decide) (by decide)) (fun v67 s67 R67 => ?_) XT.stop
     obtain ⟨rfl, rfl⟩ := R67
     dsimp only [lcA, lnA]
     refine ⟨inferInstance, ?_⟩
     refine XT.call rfl rfl Tryz.call143 rfl rfl rfl (next_spec vx hx x b10 (8 + 8 * k + 1 + 1 + 1 + 1 + 1 + 1) pk6 (256) (by decide) (by decide)) (fun v69 s69 R69 => ?_) XT.stop
     obtain ⟨rfl, rfl⟩ := R69
     dsimp only [lcA, lnA]
     refine ⟨inferInstance, ?_⟩
     refine XT.call rfl rfl Tryz.call143 rfl rfl rfl (next_spec vx hx x b10 (8 + 8 * k + 1 + 1 + 1 + 1 + 1 + 1 + 1) pk7 (20) (by decide) (by decide)) (fun v71 s71 R71 => ?_) XT.stop
     obtain ⟨rfl, rfl⟩ := R71
     dsimp only [lcA, lnA]
     refine ⟨inferInstance, ?_⟩
     refine XT.q rfl rfl (Q.build [_, _, _, _, _, _] (.c 0 1 rfl rfl rfl (.c 1 1 rfl rfl rfl (.c 2 1 rfl rfl rfl (.c 3 1 rfl rfl rfl (.c 4 1 rfl rfl rfl (.c 5 1 rfl rfl rfl (.n _)))))))) ?_
     refine XT.lit [_, _, _, _, _, _] [_, _, _, _, _, _] [madeHour x (8 + 8 * k)] encHour rfl rfl (by rfl) (by rfl) rfl (by rfl) (by exact .c 0 6 rfl rfl rfl (.n _)) (fun _ => rfl) (by rfl) rfl (by infer_instance) rfl (fun v73 h73 O73 => ⟨inferInstance, ?_⟩) XT.stop
     refine XT.append rfl rfl rfl rfl rfl rfl (by simp only [List.length_cons, List.length_nil]; omega) (fun v74 h74 O74 => ⟨inferInstance, ?_⟩) XT.stop
     refine XT.q rfl rfl (Q.fieldAddr rfl) ?_
     refine XT.st rfl rfl rfl rfl rfl ⟨inferInstance, ?_⟩ XT.stop
     refine XT.done ?_
     exact mtr8 ((v74, h74)) _ _ O74 (.base 25 rfl rfl) inferInstance
    ·skip
     refine XT.call rfl rfl Tryz.call143 rfl rfl rfl (next_spec vx hx x b10 (8 + 8 * k + 1) pk1 ((dg x (8 + 8 * k) (50)) + 1) fb.1 fb.2) (fun v57 s57 R57 => ?_) XT.stop
     obtain ⟨rfl, rfl⟩ := R57
     dsimp only [lcA, lnA]
     refine ⟨inferInstance, ?_⟩
     refine XT.qs rfl rfl (Q.ld rfl rfl) ⟨inferInstance, ?_⟩ ?_
     ·skip
      refine XT.call rfl rfl Tryz.call143 rfl rfl rfl (next_spec vx hx x b10 (8 + 8 * k + 1 + 1) pk2 (2) (by decide) (by decide)) (fun v59 s59 R59 => ?_) XT.stop
      obtain ⟨rfl, rfl⟩ := R59
      dsimp only [lcA, lnA]
      refine ⟨inferInstance, ?_⟩
      refine XT.q rfl rfl (Q.mul rfl rfl ⟨by omega, by omega⟩) ?_
      refine XT.call rfl rfl Tryz.call143 rfl rfl rfl (next_spec vx hx x b10 (8 + 8 * k + 1 + 1 + 1) pk3 (9) (by decide) (by decide)) (fun v62 s62 R62 => ?_) XT.stop
      obtain ⟨rfl, rfl⟩ := R62
      dsimp only [lcA, lnA]
      refine ⟨inferInstance, ?_⟩
      refine XT.call rfl rfl Tryz.call143 rfl rfl rfl (next_spec vx hx x b10 (8 + 8 * k + 1 + 1 + 1 + 1) pk4 (2) (by decide) (by decide)) (fun v64 s64 R64 => ?_) XT.stop
      obtain ⟨rfl, rfl⟩ := R64
      dsimp only [lcA, lnA]
      refine ⟨inferInstance, ?_⟩
      refine XT.q rfl rfl (Q.mul rfl rfl ⟨by omega, by omega⟩) ?_
      refine XT.call rfl rfl Tryz.call143 rfl rfl rfl (next_spec vx hx x b10 (8 + 8 * k + 1 + 1 + 1 + 1 + 1) pk5 (7) (by decide) (by decide)) (fun v67 s67 R67 => ?_) XT.stop
      obtain ⟨rfl, rfl⟩ := R67
      dsimp only [lcA, lnA]
      refine ⟨inferInstance, ?_⟩
      refine XT.call rfl rfl Tryz.call143 rfl rfl rfl (next_spec vx hx x b10 (8 + 8 * k + 1 + 1 + 1 + 1 + 1 + 1) pk6 (256) (by decide) (by decide)) (fun v69 s69 R69 => ?_) XT.stop
      obtain ⟨rfl, rfl⟩ := R69
      dsimp only [lcA, lnA]
      refine ⟨inferInstance, ?_⟩
      refine XT.call rfl rfl Tryz.call143 rfl rfl rfl (next_spec vx hx x b10 (8 + 8 * k + 1 + 1 + 1 + 1 + 1 + 1 + 1) pk7 (20) (by decide) (by decide)) (fun v71 s71 R71 => ?_) XT.stop
      obtain ⟨rfl, rfl⟩ := R71
      dsimp only [lcA, lnA]
      refine ⟨inferInstance, ?_⟩
      refine XT.q rfl rfl (Q.build [_, _, _, _, _, _] (.c 0 1 rfl rfl rfl (.c 1 1 rfl rfl rfl (.c 2 1 rfl rfl rfl (.c 3 1 rfl rfl rfl (.c 4 1 rfl rfl rfl (.c 5 1 rfl rfl rfl (.n _)))))))) ?_
      refine XT.lit [_, _, _, _, _, _] [_, _, _, _, _, _] [madeHour x (8 + 8 * k)] encHour rfl rfl (by rfl) (by rfl) rfl (by rfl) (by exact .c 0 6 rfl rfl rfl (.n _)) (fun _ => rfl) (by rfl) rfl (by infer_instance) rfl (fun v73 h73 O73 => ⟨inferInstance, ?_⟩) XT.stop
      refine XT.append rfl rfl rfl rfl rfl rfl (by simp only [List.length_cons, List.length_nil]; omega) (fun v74 h74 O74 => ⟨inferInstance, ?_⟩) XT.stop
      refine XT.q rfl rfl (Q.fieldAddr rfl) ?_
      refine XT.st rfl rfl rfl rfl rfl ⟨inferInstance, ?_⟩ XT.stop
      refine XT.done ?_
      exact mtr8 ((v74, h74)) _ _ O74 (.base 25 rfl rfl) inferInstance
     ·skip
      refine XT.call rfl rfl Tryz.call143 rfl rfl rfl (next_spec vx hx x b10 (8 + 8 * k + 1 + 1) pk2 (2) (by decide) (by decide)) (fun v59 s59 R59 => ?_) XT.stop
      obtain ⟨rfl, rfl⟩ := R59
      dsimp only [lcA, lnA]
      refine ⟨inferInstance, ?_⟩
      refine XT.q rfl rfl (Q.mul rfl rfl ⟨by omega, by omega⟩) ?_
      refine XT.qs rfl rfl (Q.ld rfl rfl) ⟨inferInstance, ?_⟩ ?_
      ·skip
       refine XT.call rfl rfl Tryz.call143 rfl rfl rfl (next_spec vx hx x b10 (8 + 8 * k + 1 + 1 + 1) pk3 (9) (by decide) (by decide)) (fun v62 s62 R62 => ?_) XT.stop
       obtain ⟨rfl, rfl⟩ := R62
       dsimp only [lcA, lnA]
       refine ⟨inferInstance, ?_⟩
       refine XT.call rfl rfl Tryz.call143 rfl rfl rfl (next_spec vx hx x b10 (8 + 8 * k + 1 + 1 + 1 + 1) pk4 (2) (by decide) (by decide)) (fun v64 s64 R64 => ?_) XT.stop
       obtain ⟨rfl, rfl⟩ := R64
       dsimp only [lcA, lnA]
       refine ⟨inferInstance, ?_⟩
       refine XT.q rfl rfl (Q.mul rfl rfl ⟨by omega, by omega⟩) ?_
       refine XT.call rfl rfl Tryz.call143 rfl rfl rfl (next_spec vx hx x b10 (8 + 8 * k + 1 + 1 + 1 + 1 + 1) pk5 (7) (by decide) (by decide)) (fun v67 s67 R67 => ?_) XT.stop
       obtain ⟨rfl, rfl⟩ := R67
       dsimp only [lcA, lnA]
       refine ⟨inferInstance, ?_⟩
       refine XT.call rfl rfl Tryz.call143 rfl rfl rfl (next_spec vx hx x b10 (8 + 8 * k + 1 + 1 + 1 + 1 + 1 + 1) pk6 (256) (by decide) (by decide)) (fun v69 s69 R69 => ?_) XT.stop
       obtain ⟨rfl, rfl⟩ := R69
       dsimp only [lcA, lnA]
       refine ⟨inferInstance, ?_⟩
       refine XT.call rfl rfl Tryz.call143 rfl rfl rfl (next_spec vx hx x b10 (8 + 8 * k + 1 + 1 + 1 + 1 + 1 + 1 + 1) pk7 (20) (by decide) (by decide)) (fun v71 s71 R71 => ?_) XT.stop
       obtain ⟨rfl, rfl⟩ := R71
       dsimp only [lcA, lnA]
       refine ⟨inferInstance, ?_⟩
       refine XT.q rfl rfl (Q.build [_, _, _, _, _, _] (.c 0 1 rfl rfl rfl (.c 1 1 rfl rfl rfl (.c 2 1 rfl rfl rfl (.c 3 1 rfl rfl rfl (.c 4 1 rfl rfl rfl (.c 5 1 rfl rfl rfl (.n _)))))))) ?_
       refine XT.lit [_, _, _, _, _, _] [_, _, _, _, _, _] [madeHour x (8 + 8 * k)] encHour rfl rfl (by rfl) (by rfl) rfl (by rfl) (by exact .c 0 6 rfl rfl rfl (.n _)) (fun _ => rfl) (by rfl) rfl (by infer_instance) rfl (fun v73 h73 O73 => ⟨inferInstance, ?_⟩) XT.stop
       refine XT.append rfl rfl rfl rfl rfl rfl (by simp only [List.length_cons, List.length_nil]; omega) (fun v74 h74 O74 => ⟨inferInstance, ?_⟩) XT.stop
       refine XT.q rfl rfl (Q.fieldAddr rfl) ?_
       refine XT.st rfl rfl rfl rfl rfl ⟨inferInstance, ?_⟩ XT.stop
       refine XT.done ?_
       exact mtr8 ((v74, h74)) _ _ O74 (.base 25 rfl rfl) inferInstance
      ·skip
       refine XT.call rfl rfl Tryz.call143 rfl rfl rfl (next_spec vx hx x b10 (8 + 8 * k + 1 + 1 + 1) pk3 (9) (by decide) (by decide)) (fun v62 s62 R62 => ?_) XT.stop
       obtain ⟨rfl, rfl⟩ := R62
       dsimp only [lcA, lnA]
       refine ⟨inferInstance, ?_⟩
       refine XT.qs rfl rfl (Q.ld rfl rfl) ⟨inferInstance, ?_⟩ ?_
       ·skip
        refine XT.call rfl rfl Tryz.call143 rfl rfl rfl (next_spec vx hx x b10 (8 + 8 * k + 1 + 1 + 1 + 1) pk4 (2) (by decide) (by decide)) (fun v64 s64 R64 => ?_) XT.stop
        obtain ⟨rfl, rfl⟩ := R64
        dsimp only [lcA, lnA]
        refine ⟨inferInstance, ?_⟩
        refine XT.q rfl rfl (Q.mul rfl rfl ⟨by omega, by omega⟩) ?_
        refine XT.call rfl rfl Tryz.call143 rfl rfl rfl (next_spec vx hx x b10 (8 + 8 * k + 1 + 1 + 1 + 1 + 1) pk5 (7) (by decide) (by decide)) (fun v67 s67 R67 => ?_) XT.stop
        obtain ⟨rfl, rfl⟩ := R67
        dsimp only [lcA, lnA]
        refine ⟨inferInstance, ?_⟩
        refine XT.call rfl rfl Tryz.call143 rfl rfl rfl (next_spec vx hx x b10 (8 + 8 * k + 1 + 1 + 1 + 1 + 1 + 1) pk6 (256) (by decide) (by decide)) (fun v69 s69 R69 => ?_) XT.stop
        obtain ⟨rfl, rfl⟩ := R69
        dsimp only [lcA, lnA]
        refine ⟨inferInstance, ?_⟩
        refine XT.call rfl rfl Tryz.call143 rfl rfl rfl (next_spec vx hx x b10 (8 + 8 * k + 1 + 1 + 1 + 1 + 1 + 1 + 1) pk7 (20) (by decide) (by decide)) (fun v71 s71 R71 => ?_) XT.stop
        obtain ⟨rfl, rfl⟩ := R71
        dsimp only [lcA, lnA]
        refine ⟨inferInstance, ?_⟩
        refine XT.q rfl rfl (Q.build [_, _, _, _, _, _] (.c 0 1 rfl rfl rfl (.c 1 1 rfl rfl rfl (.c 2 1 rfl rfl rfl (.c 3 1 rfl rfl rfl (.c 4 1 rfl rfl rfl (.c 5 1 rfl rfl rfl (.n _)))))))) ?_
        refine XT.lit [_, _, _, _, _, _] [_, _, _, _, _, _] [madeHour x (8 + 8 * k)] encHour rfl rfl (by rfl) (by rfl) rfl (by rfl) (by exact .c 0 6 rfl rfl rfl (.n _)) (fun _ => rfl) (by rfl) rfl (by infer_instance) rfl (fun v73 h73 O73 => ⟨inferInstance, ?_⟩) XT.stop
        refine XT.append rfl rfl rfl rfl rfl rfl (by simp only [List.length_cons, List.length_nil]; omega) (fun v74 h74 O74 => ⟨inferInstance, ?_⟩) XT.stop
        refine XT.q rfl rfl (Q.fieldAddr rfl) ?_
        refine XT.st rfl rfl rfl rfl rfl ⟨inferInstance, ?_⟩ XT.stop
        refine XT.done ?_
        exact mtr8 ((v74, h74)) _ _ O74 (.base 25 rfl rfl) inferInstance
       ·skip
        refine XT.call rfl rfl Tryz.call143 rfl rfl rfl (next_spec vx hx x b10 (8 + 8 * k + 1 + 1 + 1 + 1) pk4 (2) (by decide) (by decide)) (fun v64 s64 R64 => ?_) XT.stop
        obtain ⟨rfl, rfl⟩ := R64
        dsimp only [lcA, lnA]
        refine ⟨inferInstance, ?_⟩
        refine XT.q rfl rfl (Q.mul rfl rfl ⟨by omega, by omega⟩) ?_
        refine XT.qs rfl rfl (Q.ld rfl rfl) ⟨inferInstance, ?_⟩ ?_
        ·skip
         refine XT.call rfl rfl Tryz.call143 rfl rfl rfl (next_spec vx hx x b10 (8 + 8 * k + 1 + 1 + 1 + 1 + 1) pk5 (7) (by decide) (by decide)) (fun v67 s67 R67 => ?_) XT.stop
         obtain ⟨rfl, rfl⟩ := R67
         dsimp only [lcA, lnA]
         refine ⟨inferInstance, ?_⟩
         refine XT.call rfl rfl Tryz.call143 rfl rfl rfl (next_spec vx hx x b10 (8 + 8 * k + 1 + 1 + 1 + 1 + 1 + 1) pk6 (256) (by decide) (by decide)) (fun v69 s69 R69 => ?_) XT.stop
         obtain ⟨rfl, rfl⟩ := R69
         dsimp only [lcA, lnA]
         refine ⟨inferInstance, ?_⟩
         refine XT.call rfl rfl Tryz.call143 rfl rfl rfl (next_spec vx hx x b10 (8 + 8 * k + 1 + 1 + 1 + 1 + 1 + 1 + 1) pk7 (20) (by decide) (by decide)) (fun v71 s71 R71 => ?_) XT.stop
         obtain ⟨rfl, rfl⟩ := R71
         dsimp only [lcA, lnA]
         refine ⟨inferInstance, ?_⟩
         refine XT.q rfl rfl (Q.build [_, _, _, _, _, _] (.c 0 1 rfl rfl rfl (.c 1 1 rfl rfl rfl (.c 2 1 rfl rfl rfl (.c 3 1 rfl rfl rfl (.c 4 1 rfl rfl rfl (.c 5 1 rfl rfl rfl (.n _)))))))) ?_
         refine XT.lit [_, _, _, _, _, _] [_, _, _, _, _, _] [madeHour x (8 + 8 * k)] encHour rfl rfl (by rfl) (by rfl) rfl (by rfl) (by exact .c 0 6 rfl rfl rfl (.n _)) (fun _ => rfl) (by rfl) rfl (by infer_instance) rfl (fun v73 h73 O73 => ⟨inferInstance, ?_⟩) XT.stop
         refine XT.append rfl rfl rfl rfl rfl rfl (by simp only [List.length_cons, List.length_nil]; omega) (fun v74 h74 O74 => ⟨inferInstance, ?_⟩) XT.stop
         refine XT.q rfl rfl (Q.fieldAddr rfl) ?_
         refine XT.st rfl rfl rfl rfl rfl ⟨inferInstance, ?_⟩ XT.stop
         refine XT.done ?_
         exact mtr8 ((v74, h74)) _ _ O74 (.base 25 rfl rfl) inferInstance
        ·skip
         refine XT.call rfl rfl Tryz.call143 rfl rfl rfl (next_spec vx hx x b10 (8 + 8 * k + 1 + 1 + 1 + 1 + 1) pk5 (7) (by decide) (by decide)) (fun v67 s67 R67 => ?_) XT.stop
         obtain ⟨rfl, rfl⟩ := R67
         dsimp only [lcA, lnA]
         refine ⟨inferInstance, ?_⟩
         refine XT.qs rfl rfl (Q.ld rfl rfl) ⟨inferInstance, ?_⟩ ?_
         ·skip
          refine XT.call rfl rfl Tryz.call143 rfl rfl rfl (next_spec vx hx x b10 (8 + 8 * k + 1 + 1 + 1 + 1 + 1 + 1) pk6 (256) (by decide) (by decide)) (fun v69 s69 R69 => ?_) XT.stop
          obtain ⟨rfl, rfl⟩ := R69
          dsimp only [lcA, lnA]
          refine ⟨inferInstance, ?_⟩
          refine XT.call rfl rfl Tryz.call143 rfl rfl rfl (next_spec vx hx x b10 (8 + 8 * k + 1 + 1 + 1 + 1 + 1 + 1 + 1) pk7 (20) (by decide) (by decide)) (fun v71 s71 R71 => ?_) XT.stop
          obtain ⟨rfl, rfl⟩ := R71
          dsimp only [lcA, lnA]
          refine ⟨inferInstance, ?_⟩
          refine XT.q rfl rfl (Q.build [_, _, _, _, _, _] (.c 0 1 rfl rfl rfl (.c 1 1 rfl rfl rfl (.c 2 1 rfl rfl rfl (.c 3 1 rfl rfl rfl (.c 4 1 rfl rfl rfl (.c 5 1 rfl rfl rfl (.n _)))))))) ?_
          refine XT.lit [_, _, _, _, _, _] [_, _, _, _, _, _] [madeHour x (8 + 8 * k)] encHour rfl rfl (by rfl) (by rfl) rfl (by rfl) (by exact .c 0 6 rfl rfl rfl (.n _)) (fun _ => rfl) (by rfl) rfl (by infer_instance) rfl (fun v73 h73 O73 => ⟨inferInstance, ?_⟩) XT.stop
          refine XT.append rfl rfl rfl rfl rfl rfl (by simp only [List.length_cons, List.length_nil]; omega) (fun v74 h74 O74 => ⟨inferInstance, ?_⟩) XT.stop
          refine XT.q rfl rfl (Q.fieldAddr rfl) ?_
          refine XT.st rfl rfl rfl rfl rfl ⟨inferInstance, ?_⟩ XT.stop
          refine XT.done ?_
          exact mtr8 ((v74, h74)) _ _ O74 (.base 25 rfl rfl) inferInstance
         ·skip
          refine XT.call rfl rfl Tryz.call143 rfl rfl rfl (next_spec vx hx x b10 (8 + 8 * k + 1 + 1 + 1 + 1 + 1 + 1) pk6 (256) (by decide) (by decide)) (fun v69 s69 R69 => ?_) XT.stop
          obtain ⟨rfl, rfl⟩ := R69
          dsimp only [lcA, lnA]
          refine ⟨inferInstance, ?_⟩
          refine XT.qs rfl rfl (Q.ld rfl rfl) ⟨inferInstance, ?_⟩ ?_
          ·skip
           refine XT.call rfl rfl Tryz.call143 rfl rfl rfl (next_spec vx hx x b10 (8 + 8 * k + 1 + 1 + 1 + 1 + 1 + 1 + 1) pk7 (20) (by decide) (by decide)) (fun v71 s71 R71 => ?_) XT.stop
           obtain ⟨rfl, rfl⟩ := R71
           dsimp only [lcA, lnA]
           refine ⟨inferInstance, ?_⟩
           refine XT.q rfl rfl (Q.build [_, _, _, _, _, _] (.c 0 1 rfl rfl rfl (.c 1 1 rfl rfl rfl (.c 2 1 rfl rfl rfl (.c 3 1 rfl rfl rfl (.c 4 1 rfl rfl rfl (.c 5 1 rfl rfl rfl (.n _)))))))) ?_
           refine XT.lit [_, _, _, _, _, _] [_, _, _, _, _, _] [madeHour x (8 + 8 * k)] encHour rfl rfl (by rfl) (by rfl) rfl (by rfl) (by exact .c 0 6 rfl rfl rfl (.n _)) (fun _ => rfl) (by rfl) rfl (by infer_instance) rfl (fun v73 h73 O73 => ⟨inferInstance, ?_⟩) XT.stop
           refine XT.append rfl rfl rfl rfl rfl rfl (by simp only [List.length_cons, List.length_nil]; omega) (fun v74 h74 O74 => ⟨inferInstance, ?_⟩) XT.stop
           refine XT.q rfl rfl (Q.fieldAddr rfl) ?_
           refine XT.st rfl rfl rfl rfl rfl ⟨inferInstance, ?_⟩ XT.stop
           refine XT.done ?_
           exact mtr8 ((v74, h74)) _ _ O74 (.base 25 rfl rfl) inferInstance
          ·skip
           refine XT.call rfl rfl Tryz.call143 rfl rfl rfl (next_spec vx hx x b10 (8 + 8 * k + 1 + 1 + 1 + 1 + 1 + 1 + 1) pk7 (20) (by decide) (by decide)) (fun v71 s71 R71 => ?_) XT.stop
           obtain ⟨rfl, rfl⟩ := R71
           dsimp only [lcA, lnA]
           refine ⟨inferInstance, ?_⟩
           refine XT.q rfl rfl (Q.build [_, _, _, _, _, _] (.c 0 1 rfl rfl rfl (.c 1 1 rfl rfl rfl (.c 2 1 rfl rfl rfl (.c 3 1 rfl rfl rfl (.c 4 1 rfl rfl rfl (.c 5 1 rfl rfl rfl (.n _)))))))) ?_
           refine XT.qs rfl rfl (Q.ld rfl rfl) ⟨inferInstance, ?_⟩ ?_
           ·skip
            refine XT.lit [_, _, _, _, _, _] [_, _, _, _, _, _] [madeHour x (8 + 8 * k)] encHour rfl rfl (by rfl) (by rfl) rfl (by rfl) (by exact .c 0 6 rfl rfl rfl (.n _)) (fun _ => rfl) (by rfl) rfl (by infer_instance) rfl (fun v73 h73 O73 => ⟨inferInstance, ?_⟩) XT.stop
            refine XT.append rfl rfl rfl rfl rfl rfl (by simp only [List.length_cons, List.length_nil]; omega) (fun v74 h74 O74 => ⟨inferInstance, ?_⟩) XT.stop
            refine XT.q rfl rfl (Q.fieldAddr rfl) ?_
            refine XT.st rfl rfl rfl rfl rfl ⟨inferInstance, ?_⟩ XT.stop
            refine XT.done ?_
            exact mtr8 ((v74, h74)) _ _ O74 (.base 25 rfl rfl) inferInstance
           ·skip
            refine XT.lit [_, _, _, _, _, _] [_, _, _, _, _, _] [madeHour x (8 + 8 * k)] encHour rfl rfl (by rfl) (by rfl) rfl (by rfl) (by exact .c 0 6 rfl rfl rfl (.n _)) (fun _ => rfl) (by rfl) rfl (by infer_instance) rfl (fun v73 h73 O73 => ⟨inferInstance, ?_⟩) XT.stop
            refine XT.qs rfl rfl (Q.ld rfl rfl) ⟨inferInstance, ?_⟩ XT.stop
            refine XT.append rfl rfl rfl rfl rfl rfl (by simp only [List.length_cons, List.length_nil]; omega) (fun v74 h74 O74 => ⟨inferInstance, ?_⟩) XT.stop
            refine XT.q rfl rfl (Q.fieldAddr rfl) ?_
            refine XT.st rfl rfl rfl rfl rfl ⟨inferInstance, ?_⟩ XT.stop
            refine XT.done ?_
            exact mtr8 ((v74, h74)) _ _ O74 (.base 25 rfl rfl) inferInstance
  ·skip
   have hkn : k = madeN x := by omega
   subst hkn
   have pm0 : 8 + 8 * madeN x ≤ 1000000 := by omega
   have pm1 : 8 + 8 * madeN x + 1 ≤ 1000000 := by omega
   have pm2 : 8 + 8 * madeN x + 1 + 1 ≤ 1000000 := by omega
   have pm3 : 8 + 8 * madeN x + 1 + 1 + 1 ≤ 1000000 := by omega
   have pm4 : 8 + 8 * madeN x + 1 + 1 + 1 + 1 ≤ 1000000 := by omega
   have pm5 : 8 + 8 * madeN x + 1 + 1 + 1 + 1 + 1 ≤ 1000000 := by omega
   clear pz0 pz1 pz2 pz3 pz4 pz5 pz6 pz7 pz8
   refine XK.exit rfl ?_
   refine XK.seq (XK.seq (XK.region rfl (XO.q (Q.move rfl) ?_)))
   refine XO.call Tryz.call143 rfl rfl rfl (next_spec vx hx x b10 (8 + 8 * madeN x) pm0 (2) (by decide) (by decide)) fun v78 s78 R78 => ?_
   obtain ⟨rfl, rfl⟩ := R78
   dsimp only [lcA, lnA]
   refine XO.q (Q.eql rfl rfl) ?_
   refine XO.done ?_
   refine XK.if rfl (fun c1 => ?_) (fun c1 => ?_)
   ·skip
    have j0 := dg_rng x (8 + 8 * madeN x + 1) (n := (madeN x : Int)) (by omega)
    have fj : 0 < min ((madeN x : Int) - (dg x (8 + 8 * madeN x + 1) ((madeN x : Int)))) 3 ∧ min ((madeN x : Int) - (dg x (8 + 8 * madeN x + 1) ((madeN x : Int)))) 3 ≤ 1000000 := by omega
    have j2 := dg_rng x (8 + 8 * madeN x + 1 + 1 + 1) (n := min ((madeN x : Int) - (dg x (8 + 8 * madeN x + 1) ((madeN x : Int)))) 3) (by omega)
    have fl : 0 < min ((madeN x : Int) - (dg x (8 + 8 * madeN x + 1) ((madeN x : Int))) - (1 + (dg x (8 + 8 * madeN x + 1 + 1 + 1) (min ((madeN x : Int) - (dg x (8 + 8 * madeN x + 1) ((madeN x : Int)))) 3))) + 1) 4 ∧ min ((madeN x : Int) - (dg x (8 + 8 * madeN x + 1) ((madeN x : Int))) - (1 + (dg x (8 + 8 * madeN x + 1 + 1 + 1) (min ((madeN x : Int) - (dg x (8 + 8 * madeN x + 1) ((madeN x : Int)))) 3))) + 1) 4 ≤ 1000000 := by omega
    have j3 := dg_rng x (8 + 8 * madeN x + 1 + 1 + 1 + 1) (n := min ((madeN x : Int) - (dg x (8 + 8 * madeN x + 1) ((madeN x : Int))) - (1 + (dg x (8 + 8 * madeN x + 1 + 1 + 1) (min ((madeN x : Int) - (dg x (8 + 8 * madeN x + 1) ((madeN x : Int)))) 3))) + 1) 4) (by omega)
    refine XK.seq (XK.region rfl ?_)
    refine XO.q (Q.fieldAddr rfl) ?_
    refine XO.q (Q.ld rfl rfl) ?_
    refine XO.len rfl fun l82 => ?_
    rw [madeHours_len]
    refine XO.q (Q.assign rfl) (XO.done (XK.seq (XK.region rfl (XO.q (Q.move rfl) (XO.q (Q.move rfl) ?_)))))
    refine XO.call Tryz.call143 rfl rfl rfl (next_spec vx hx x b10 (8 + 8 * madeN x + 1) pm1 ((madeN x : Int)) fn.1 fn.2) fun v85 s85 R85 => ?_
    obtain ⟨rfl, rfl⟩ := R85
    dsimp only [lcA, lnA]
    refine XO.q (Q.move rfl) ?_
    refine XO.call Tryz.call143 rfl rfl rfl (next_spec vx hx x b10 (8 + 8 * madeN x + 1 + 1) pm2 (6) (by decide) (by decide)) fun v87 s87 R87 => ?_
    obtain ⟨rfl, rfl⟩ := R87
    dsimp only [lcA, lnA]
    refine XO.q (Q.build [_, _, _, _] (.c 0 1 rfl rfl rfl (.c 3 1 rfl rfl rfl (.n _)))) ?_
    refine XO.alloc fun b7 => ?_
    refine XO.st rfl rfl rfl ?_
    refine XO.done (XK.seq (XK.region rfl (XO.q (Q.move rfl) (XO.q (Q.move rfl) ?_))))
    refine XO.q (Q.fieldAddr rfl) ?_
    refine XO.q (Q.ld rfl rfl) ?_
    refine XO.q (Q.sub rfl rfl ⟨by omega, by omega⟩) ?_
    refine XO.q (Q.min rfl rfl) ?_
    refine XO.call Tryz.call143 rfl rfl rfl (next_spec vx hx x b10 (8 + 8 * madeN x + 1 + 1 + 1) pm3 (min ((madeN x : Int) - (dg x (8 + 8 * madeN x + 1) ((madeN x : Int)))) 3) fj.1 fj.2) fun v95 s95 R95 => ?_
    obtain ⟨rfl, rfl⟩ := R95
    dsimp only [lcA, lnA]
    refine XO.q (Q.add rfl rfl ⟨by omega, by omega⟩) ?_
    refine XO.q (Q.fieldAddr rfl) ?_
    refine XO.st rfl rfl rfl ?_
    refine XO.done (XK.seq ?_)
    refine XK.meet (X := Unit) [98, 99, 100, 101, 102, 103, 104, 105, 106, 107, 108, 109, 110, 111, 112, 113, 114, 115] (fun _ => []) (fun _ => [blk b7 [.int .i64 ((dg x (8 + 8 * madeN x + 1) ((madeN x : Int)))), .int .i64 (((dg x (8 + 8 * madeN x + 1) ((madeN x : Int))) + (1 + (dg x (8 + 8 * madeN x + 1 + 1 + 1) (min ((madeN x : Int) - (dg x (8 + 8 * madeN x + 1) ((madeN x : Int)))) 3))) + (dg x (8 + 8 * madeN x + 1 + 1 + 1 + 1) (min ((madeN x : Int) - (dg x (8 + 8 * madeN x + 1) ((madeN x : Int))) - (1 + (dg x (8 + 8 * madeN x + 1 + 1 + 1) (min ((madeN x : Int) - (dg x (8 + 8 * madeN x + 1) ((madeN x : Int)))) 3))) + 1) 4)))), .int .i64 (1 + (dg x (8 + 8 * madeN x + 1 + 1 + 1) (min ((madeN x : Int) - (dg x (8 + 8 * madeN x + 1) ((madeN x : Int)))) 3))), .int .i64 (dg x (8 + 8 * madeN x + 1 + 1) (6))] 292, blk b10 [vx, .int .i64 (((8 + 8 * madeN x + 1 + 1 + 1 + 1 + 1 : Nat) : Int))] 290]) (fun _ => True) [blk b7 [.int .i64 ((dg x (8 + 8 * madeN x + 1) ((madeN x : Int)))), .int .i64 (0), .int .i64 (1 + (dg x (8 + 8 * madeN x + 1 + 1 + 1) (min ((madeN x : Int) - (dg x (8 + 8 * madeN x + 1) ((madeN x : Int)))) 3))), .int .i64 (dg x (8 + 8 * madeN x + 1 + 1) (6))] 292, blk b10 [vx, .int .i64 (((8 + 8 * madeN x + 1 + 1 + 1 + 1 : Nat) : Int))] 290] ?_ ?_
    ·rintro _ _
     dsimp only [lcA, lnA]
     refine XK.region rfl ?_
     refine XO.q (Q.ldA [_, _, _, _] rfl rfl rfl) ?_
     refine XO.lit [_, _, _, _] [_, _, _, _] [madeJob x (madeN x) (8 + 8 * madeN x + 1)] encJob (by rfl) (by rfl) rfl (by rfl) (by exact .c 0 4 rfl rfl rfl (.n _)) (fun _ => rfl) (by rfl) rfl (by infer_instance) rfl fun v117 h117 O117 => ?_
     refine XO.q (Q.fieldAddr rfl) ?_
     refine XO.st rfl rfl rfl ?_
     refine XO.done (XK.seq (XK.region rfl ?_))
     refine XO.q (Q.ldA [_, _, _, _, _, _, _, _] rfl rfl rfl) ?_
     refine XO.st rfl rfl rfl ?_
     refine XO.done ?_
     refine XK.rt [kh, h117] Tryz.func81 Tryz.results81 (.cell [_, _, _, _, _, _, _, _] rfl rfl rfl (.n)) ?_
     exact ⟨vh, v117, kh, h117, rfl, rfl, OH, by rw [show (madeD x).jobs = [madeJob x (madeN x) (8 + 8 * madeN x + 1)] from if_pos c1]; exact O117⟩
    ·intro mtr14
     dsimp only [lcA, lnA] at mtr14
     refine XK.drawn [0, 2, 5, 6, 7, 10, 4, 9, 12, 13, 14, 16, 17] [] [] (.q 0 (.q 2 (.q 5 (.q 6 (.q 7 (.q 10 (.br 1 true (.br 3 true (.q 4 (.br 8 true (.q 9 (.br 11 true (.q 12 (.q 13 (.q 14 (.br 15 true (.q 16 (.q 17 (.br 18 false .done .stop))) .stop)))) .stop)) (.br 11 true (.br 8 true (.q 9 (.q 12 (.q 13 (.q 14 (.br 15 true (.q 16 (.q 17 (.br 18 false .done .stop))) .stop))))) .stop) .stop))) (.br 8 true (.q 9 (.br 3 true (.q 4 (.br 11 true (.q 12 (.q 13 (.q 14 (.br 15 true (.q 16 (.q 17 (.br 18 false .done .stop))) .stop)))) .stop)) (.br 11 true (.q 12 (.q 13 (.q 14 (.br 3 true (.q 4 (.br 15 true (.q 16 (.q 17 (.br 18 false .done .stop))) .stop)) (.br 15 true (.br 3 true (.q 4 (.q 16 (.q 17 (.br 18 false .done .stop)))) .stop) .stop))))) .stop))) (.br 11 true (.br 3 true (.q 4 (.br 8 true (.q 9 (.q 12 (.q 13 (.q 14 (.br 15 true (.q 16 (.q 17 (.br 18 false .done .stop))) .stop))))) .stop)) (.br 8 true (.q 9 (.q 12 (.q 13 (.q 14 (.br 3 true (.q 4 (.br 15 true (.q 16 (.q 17 (.br 18 false .done .stop))) .stop)) (.br 15 true (.br 3 true (.q 4 (.q 16 (.q 17 (.br 18 false .done .stop)))) .stop) .stop)))))) .stop)) .stop))) (.br 3 true (.br 1 true (.q 4 (.br 8 true (.q 9 (.br 11 true (.q 12 (.q 13 (.q 14 (.br 15 true (.q 16 (.q 17 (.br 18 false .done .stop))) .stop)))) .stop)) (.br 11 true (.br 8 true (.q 9 (.q 12 (.q 13 (.q 14 (.br 15 true (.q 16 (.q 17 (.br 18 false .done .stop))) .stop))))) .stop) .stop))) (.br 8 true (.q 9 (.br 1 true (.q 4 (.br 11 true (.q 12 (.q 13 (.q 14 (.br 15 true (.q 16 (.q 17 (.br 18 false .done .stop))) .stop)))) .stop)) (.br 11 true (.q 12 (.q 13 (.q 14 (.br 1 true (.q 4 (.br 15 true (.q 16 (.q 17 (.br 18 false .done .stop))) .stop)) (.br 15 true (.br 1 true (.q 4 (.q 16 (.q 17 (.br 18 false .done .stop)))) .stop) .stop))))) .stop))) (.br 11 true (.br 1 true (.q 4 (.br 8 true (.q 9 (.q 12 (.q 13 (.q 14 (.br 15 true (.q 16 (.q 17 (.br 18 false .done .stop))) .stop))))) .stop)) (.br 8 true (.q 9 (.q 12 (.q 13 (.q 14 (.br 1 true (.q 4 (.br 15 true (.q 16 (.q 17 (.br 18 false .done .stop))) .stop)) (.br 15 true (.br 1 true (.q 4 (.q 16 (.q 17 (.br 18 false .done .stop)))) .stop) .stop)))))) .stop)) .stop))) (.br 8 true (.q 9 (.br 1 true (.br 3 true (.q 4 (.br 11 true (.q 12 (.q 13 (.q 14 (.br 15 true (.q 16 (.q 17 (.br 18 false .done .stop))) .stop)))) .stop)) (.br 11 true (.q 12 (.q 13 (.q 14 (.br 3 true (.q 4 (.br 15 true (.q 16 (.q 17 (.br 18 false .done .stop))) .stop)) (.br 15 true (.br 3 true (.q 4 (.q 16 (.q 17 (.br 18 false .done .stop)))) .stop) .stop))))) .stop)) (.br 3 true (.br 1 true (.q 4 (.br 11 true (.q 12 (.q 13 (.q 14 (.br 15 true (.q 16 (.q 17 (.br 18 false .done .stop))) .stop)))) .stop)) (.br 11 true (.q 12 (.q 13 (.q 14 (.br 1 true (.q 4 (.br 15 true (.q 16 (.q 17 (.br 18 false .done .stop))) .stop)) (.br 15 true (.br 1 true (.q 4 (.q 16 (.q 17 (.br 18 false .done .stop)))) .stop) .stop))))) .stop)) (.br 11 true (.q 12 (.q 13 (.q 14 (.br 1 true (.br 3 true (.q 4 (.br 15 true (.q 16 (.q 17 (.br 18 false .done .stop))) .stop)) (.br 15 true (.br 3 true (.q 4 (.q 16 (.q 17 (.br 18 false .done .stop)))) .stop) .stop)) (.br 3 true (.br 1 true (.q 4 (.br 15 true (.q 16 (.q 17 (.br 18 false .done .stop))) .stop)) (.br 15 true (.br 1 true (.q 4 (.q 16 (.q 17 (.br 18 false .done .stop)))) .stop) .stop)) (.br 15 true (.br 1 true (.br 3 true (.q 4 (.q 16 (.q 17 (.br 18 false .done .stop)))) .stop) (.br 3 true (.br 1 true (.q 4 (.q 16 (.q 17 (.br 18 false .done .stop)))) .stop) .stop)) .stop)))))) .stop)))) (.br 11 true (.br 1 true (.br 3 true (.q 4 (.br 8 true (.q 9 (.q 12 (.q 13 (.q 14 (.br 15 true (.q 16 (.q 17 (.br 18 false .done .stop))) .stop))))) .stop)) (.br 8 true (.q 9 (.q 12 (.q 13 (.q 14 (.br 3 true (.q 4 (.br 15 true (.q 16 (.q 17 (.br 18 false .done .stop))) .stop)) (.br 15 true (.br 3 true (.q 4 (.q 16 (.q 17 (.br 18 false .done .stop)))) .stop) .stop)))))) .stop)) (.br 3 true (.br 1 true (.q 4 (.br 8 true (.q 9 (.q 12 (.q 13 (.q 14 (.br 15 true (.q 16 (.q 17 (.br 18 false .done .stop))) .stop))))) .stop)) (.br 8 true (.q 9 (.q 12 (.q 13 (.q 14 (.br 1 true (.q 4 (.br 15 true (.q 16 (.q 17 (.br 18 false .done .stop))) .stop)) (.br 15 true (.br 1 true (.q 4 (.q 16 (.q 17 (.br 18 false .done .stop)))) .stop) .stop)))))) .stop)) (.br 8 true (.q 9 (.q 12 (.q 13 (.q 14 (.br 1 true (.br 3 true (.q 4 (.br 15 true (.q 16 (.q 17 (.br 18 false .done .stop))) .stop)) (.br 15 true (.br 3 true (.q 4 (.q 16 (.q 17 (.br 18 false .done .stop)))) .stop) .stop)) (.br 3 true (.br 1 true (.q 4 (.br 15 true (.q 16 (.q 17 (.br 18 false .done .stop))) .stop)) (.br 15 true (.br 1 true (.q 4 (.q 16 (.q 17 (.br 18 false .done .stop)))) .stop) .stop)) (.br 15 true (.br 1 true (.br 3 true (.q 4 (.q 16 (.q 17 (.br 18 false .done .stop)))) .stop) (.br 3 true (.br 1 true (.q 4 (.q 16 (.q 17 (.br 18 false .done .stop)))) .stop) .stop)) .stop))))))) .stop))) .stop)))))))))) Tryz.mixed rfl (by kernel_rfl) ?_
     refine XT.q rfl rfl (Q.fieldAddr rfl) ?_
     refine XT.q rfl rfl (Q.fieldAddr rfl) ?_
     refine XT.q rfl rfl (Q.move rfl) ?_
     refine XT.q rfl rfl (Q.move rfl) ?_
     refine XT.q rfl rfl (Q.fieldAddr rfl) ?_
     refine XT.q rfl rfl (Q.fieldAddr rfl) ?_
     refine XT.qs rfl rfl (Q.ld rfl rfl) ⟨inferInstance, ?_⟩ ?_
     ·skip
      refine XT.qs rfl rfl (Q.ld rfl rfl) ⟨inferInstance, ?_⟩ ?_
      ·skip
       refine XT.q rfl rfl (Q.add rfl rfl ⟨by omega, by omega⟩) ?_
       refine XT.qs rfl rfl (Q.ld rfl rfl) ⟨inferInstance, ?_⟩ ?_
       ·skip
        refine XT.q rfl rfl (Q.sub rfl rfl ⟨by omega, by omega⟩) ?_
        refine XT.qs rfl rfl (Q.ld rfl rfl) ⟨inferInstance, ?_⟩ XT.stop
        refine XT.q rfl rfl (Q.sub rfl rfl ⟨by omega, by omega⟩) ?_
        refine XT.q rfl rfl (Q.add rfl rfl ⟨by omega, by omega⟩) ?_
        refine XT.q rfl rfl (Q.min rfl rfl) ?_
        refine XT.call rfl rfl Tryz.call143 rfl rfl rfl (next_spec vx hx x b10 (8 + 8 * madeN x + 1 + 1 + 1 + 1) pm4 (min ((madeN x : Int) - (dg x (8 + 8 * madeN x + 1) ((madeN x : Int))) - (1 + (dg x (8 + 8 * madeN x + 1 + 1 + 1) (min ((madeN x : Int) - (dg x (8 + 8 * madeN x + 1) ((madeN x : Int)))) 3))) + 1) 4) fl.1 fl.2) (fun v113 s113 R113 => ?_) XT.stop
        obtain ⟨rfl, rfl⟩ := R113
        dsimp only [lcA, lnA]
        refine ⟨inferInstance, ?_⟩
        refine XT.q rfl rfl (Q.add rfl rfl ⟨by omega, by omega⟩) ?_
        refine XT.q rfl rfl (Q.fieldAddr rfl) ?_
        refine XT.st rfl rfl rfl rfl rfl ⟨inferInstance, ?_⟩ XT.stop
        refine XT.done ?_
        exact mtr14 (()) _ _ trivial (.base 18 rfl rfl) inferInstance
       ·skip
        refine XT.qs rfl rfl (Q.ld rfl rfl) ⟨inferInstance, ?_⟩ XT.stop
        refine XT.qs rfl rfl (Q.ld rfl rfl) ⟨inferInstance, ?_⟩ XT.stop
        refine XT.q rfl rfl (Q.sub rfl rfl ⟨by omega, by omega⟩) ?_
        refine XT.q rfl rfl (Q.sub rfl rfl ⟨by omega, by omega⟩) ?_
        refine XT.q rfl rfl (Q.add rfl rfl ⟨by omega, by omega⟩) ?_
        refine XT.q rfl rfl (Q.min rfl rfl) ?_
        refine XT.call rfl rfl Tryz.call143 rfl rfl rfl (next_spec vx hx x b10 (8 + 8 * madeN x + 1 + 1 + 1 + 1) pm4 (min ((madeN x : Int) - (dg x (8 + 8 * madeN x + 1) ((madeN x : Int))) - (1 + (dg x (8 + 8 * madeN x + 1 + 1 + 1) (min ((madeN x : Int) - (dg x (8 + 8 * madeN x + 1) ((madeN x : Int)))) 3))) + 1) 4) fl.1 fl.2) (fun v113 s113 R113 => ?_) XT.stop
        obtain ⟨rfl, rfl⟩ := R113
        dsimp only [lcA, lnA]
        refine ⟨inferInstance, ?_⟩
        refine XT.q rfl rfl (Q.add rfl rfl ⟨by omega, by omega⟩) ?_
        refine XT.q rfl rfl (Q.fieldAddr rfl) ?_
        refine XT.st rfl rfl rfl rfl rfl ⟨inferInstance, ?_⟩ XT.stop
        refine XT.done ?_
        exact mtr14 (()) _ _ trivial (.base 18 rfl rfl) inferInstance
      ·skip
       refine XT.qs rfl rfl (Q.ld rfl rfl) ⟨inferInstance, ?_⟩ ?_
       ·skip
        refine XT.q rfl rfl (Q.sub rfl rfl ⟨by omega, by omega⟩) ?_
        refine XT.qs rfl rfl (Q.ld rfl rfl) ⟨inferInstance, ?_⟩ ?_
        ·skip
         refine XT.q rfl rfl (Q.add rfl rfl ⟨by omega, by omega⟩) ?_
         refine XT.qs rfl rfl (Q.ld rfl rfl) ⟨inferInstance, ?_⟩ XT.stop
         refine XT.q rfl rfl (Q.sub rfl rfl ⟨by omega, by omega⟩) ?_
         refine XT.q rfl rfl (Q.add rfl rfl ⟨by omega, by omega⟩) ?_
         refine XT.q rfl rfl (Q.min rfl rfl) ?_
         refine XT.call rfl rfl Tryz.call143 rfl rfl rfl (next_spec vx hx x b10 (8 + 8 * madeN x + 1 + 1 + 1 + 1) pm4 (min ((madeN x : Int) - (dg x (8 + 8 * madeN x + 1) ((madeN x : Int))) - (1 + (dg x (8 + 8 * madeN x + 1 + 1 + 1) (min ((madeN x : Int) - (dg x (8 + 8 * madeN x + 1) ((madeN x : Int)))) 3))) + 1) 4) fl.1 fl.2) (fun v113 s113 R113 => ?_) XT.stop
         obtain ⟨rfl, rfl⟩ := R113
         dsimp only [lcA, lnA]
         refine ⟨inferInstance, ?_⟩
         refine XT.q rfl rfl (Q.add rfl rfl ⟨by omega, by omega⟩) ?_
         refine XT.q rfl rfl (Q.fieldAddr rfl) ?_
         refine XT.st rfl rfl rfl rfl rfl ⟨inferInstance, ?_⟩ XT.stop
         refine XT.done ?_
         exact mtr14 (()) _ _ trivial (.base 18 rfl rfl) inferInstance
        ·skip
         refine XT.qs rfl rfl (Q.ld rfl rfl) ⟨inferInstance, ?_⟩ XT.stop
         refine XT.q rfl rfl (Q.sub rfl rfl ⟨by omega, by omega⟩) ?_
         refine XT.q rfl rfl (Q.add rfl rfl ⟨by omega, by omega⟩) ?_
         refine XT.q rfl rfl (Q.min rfl rfl) ?_
         refine XT.qs rfl rfl (Q.ld rfl rfl) ⟨inferInstance, ?_⟩ ?_
         ·skip
          refine XT.q rfl rfl (Q.add rfl rfl ⟨by omega, by omega⟩) ?_
          refine XT.call rfl rfl Tryz.call143 rfl rfl rfl (next_spec vx hx x b10 (8 + 8 * madeN x + 1 + 1 + 1 + 1) pm4 (min ((madeN x : Int) - (dg x (8 + 8 * madeN x + 1) ((madeN x : Int))) - (1 + (dg x (8 + 8 * madeN x + 1 + 1 + 1) (min ((madeN x : Int) - (dg x (8 + 8 * madeN x + 1) ((madeN x : Int)))) 3))) + 1) 4) fl.1 fl.2) (fun v113 s113 R113 => ?_) XT.stop
          obtain ⟨rfl, rfl⟩ := R113
          dsimp only [lcA, lnA]
          refine ⟨inferInstance, ?_⟩
          refine XT.q rfl rfl (Q.add rfl rfl ⟨by omega, by omega⟩) ?_
          refine XT.q rfl rfl (Q.fieldAddr rfl) ?_
          refine XT.st rfl rfl rfl rfl rfl ⟨inferInstance, ?_⟩ XT.stop
          refine XT.done ?_
          exact mtr14 (()) _ _ trivial (.base 18 rfl rfl) inferInstance
         ·skip
          refine XT.call rfl rfl Tryz.call143 rfl rfl rfl (next_spec vx hx x b10 (8 + 8 * madeN x + 1 + 1 + 1 + 1) pm4 (min ((madeN x : Int) - (dg x (8 + 8 * madeN x + 1) ((madeN x : Int))) - (1 + (dg x (8 + 8 * madeN x + 1 + 1 + 1) (min ((madeN x : Int) - (dg x (8 + 8 * madeN x + 1) ((madeN x : Int)))) 3))) + 1) 4) fl.1 fl.2) (fun v113 s113 R113 => ?_) XT.stop
          obtain ⟨rfl, rfl⟩ := R113
          dsimp only [lcA, lnA]
          refine ⟨inferInstance, ?_⟩
          refine XT.qs rfl rfl (Q.ld rfl rfl) ⟨inferInstance, ?_⟩ XT.stop
          refine XT.q rfl rfl (Q.add rfl rfl ⟨by omega, by omega⟩) ?_
          refine XT.q rfl rfl (Q.add rfl rfl ⟨by omega, by omega⟩) ?_
          refine XT.q rfl rfl (Q.fieldAddr rfl) ?_
          refine XT.st rfl rfl rfl rfl rfl ⟨inferInstance, ?_⟩ XT.stop
          refine XT.done ?_
          exact mtr14 (()) _ _ trivial (.base 18 rfl rfl) inferInstance
       ·skip
        refine XT.qs rfl rfl (Q.ld rfl rfl) ⟨inferInstance, ?_⟩ XT.stop
        refine XT.qs rfl rfl (Q.ld rfl rfl) ⟨inferInstance, ?_⟩ ?_
        ·skip
         refine XT.q rfl rfl (Q.add rfl rfl ⟨by omega, by omega⟩) ?_
         refine XT.qs rfl rfl (Q.ld rfl rfl) ⟨inferInstance, ?_⟩ XT.stop
         refine XT.q rfl rfl (Q.sub rfl rfl ⟨by omega, by omega⟩) ?_
         refine XT.q rfl rfl (Q.sub rfl rfl ⟨by omega, by omega⟩) ?_
         refine XT.q rfl rfl (Q.add rfl rfl ⟨by omega, by omega⟩) ?_
         refine XT.q rfl rfl (Q.min rfl rfl) ?_
         refine XT.call rfl rfl Tryz.call143 rfl rfl rfl (next_spec vx hx x b10 (8 + 8 * madeN x + 1 + 1 + 1 + 1) pm4 (min ((madeN x : Int) - (dg x (8 + 8 * madeN x + 1) ((madeN x : Int))) - (1 + (dg x (8 + 8 * madeN x + 1 + 1 + 1) (min ((madeN x : Int) - (dg x (8 + 8 * madeN x + 1) ((madeN x : Int)))) 3))) + 1) 4) fl.1 fl.2) (fun v113 s113 R113 => ?_) XT.stop
         obtain ⟨rfl, rfl⟩ := R113
         dsimp only [lcA, lnA]
         refine ⟨inferInstance, ?_⟩
         refine XT.q rfl rfl (Q.add rfl rfl ⟨by omega, by omega⟩) ?_
         refine XT.q rfl rfl (Q.fieldAddr rfl) ?_
         refine XT.st rfl rfl rfl rfl rfl ⟨inferInstance, ?_⟩ XT.stop
         refine XT.done ?_
         exact mtr14 (()) _ _ trivial (.base 18 rfl rfl) inferInstance
        ·skip
         refine XT.qs rfl rfl (Q.ld rfl rfl) ⟨inferInstance, ?_⟩ XT.stop
         refine XT.q rfl rfl (Q.sub rfl rfl ⟨by omega, by omega⟩) ?_
         refine XT.q rfl rfl (Q.sub rfl rfl ⟨by omega, by omega⟩) ?_
         refine XT.q rfl rfl (Q.add rfl rfl ⟨by omega, by omega⟩) ?_
         refine XT.q rfl rfl (Q.min rfl rfl) ?_
         refine XT.qs rfl rfl (Q.ld rfl rfl) ⟨inferInstance, ?_⟩ ?_
         ·skip
          refine XT.q rfl rfl (Q.add rfl rfl ⟨by omega, by omega⟩) ?_
          refine XT.call rfl rfl Tryz.call143 rfl rfl rfl (next_spec vx hx x b10 (8 + 8 * madeN x + 1 + 1 + 1 + 1) pm4 (min ((madeN x : Int) - (dg x (8 + 8 * madeN x + 1) ((madeN x : Int))) - (1 + (dg x (8 + 8 * madeN x + 1 + 1 + 1) (min ((madeN x : Int) - (dg x (8 + 8 * madeN x + 1) ((madeN x : Int)))) 3))) + 1) 4) fl.1 fl.2) (fun v113 s113 R113 => ?_) XT.stop
          obtain ⟨rfl, rfl⟩ := R113
          dsimp only [lcA, lnA]
          refine ⟨inferInstance, ?_⟩
          refine XT.q rfl rfl (Q.add rfl rfl ⟨by omega, by omega⟩) ?_
          refine XT.q rfl rfl (Q.fieldAddr rfl) ?_
          refine XT.st rfl rfl rfl rfl rfl ⟨inferInstance, ?_⟩ XT.stop
          refine XT.done ?_
          exact mtr14 (()) _ _ trivial (.base 18 rfl rfl) inferInstance
         ·skip
          refine XT.call rfl rfl Tryz.call143 rfl rfl rfl (next_spec vx hx x b10 (8 + 8 * madeN x + 1 + 1 + 1 + 1) pm4 (min ((madeN x : Int) - (dg x (8 + 8 * madeN x + 1) ((madeN x : Int))) - (1 + (dg x (8 + 8 * madeN x + 1 + 1 + 1) (min ((madeN x : Int) - (dg x (8 + 8 * madeN x + 1) ((madeN x : Int)))) 3))) + 1) 4) fl.1 fl.2) (fun v113 s113 R113 => ?_) XT.stop
          obtain ⟨rfl, rfl⟩ := R113
          dsimp only [lcA, lnA]
          refine ⟨inferInstance, ?_⟩
          refine XT.qs rfl rfl (Q.ld rfl rfl) ⟨inferInstance, ?_⟩ XT.stop
          refine XT.q rfl rfl (Q.add rfl rfl ⟨by omega, by omega⟩) ?_
          refine XT.q rfl rfl (Q.add rfl rfl ⟨by omega, by omega⟩) ?_
          refine XT.q rfl rfl (Q.fieldAddr rfl) ?_
          refine XT.st rfl rfl rfl rfl rfl ⟨inferInstance, ?_⟩ XT.stop
          refine XT.done ?_
          exact mtr14 (()) _ _ trivial (.base 18 rfl rfl) inferInstance
     ·skip
      refine XT.qs rfl rfl (Q.ld rfl rfl) ⟨inferInstance, ?_⟩ ?_
      ·skip
       refine XT.qs rfl rfl (Q.ld rfl rfl) ⟨inferInstance, ?_⟩ ?_
       ·skip
        refine XT.q rfl rfl (Q.add rfl rfl ⟨by omega, by omega⟩) ?_
        refine XT.qs rfl rfl (Q.ld rfl rfl) ⟨inferInstance, ?_⟩ ?_
        ·skip
         refine XT.q rfl rfl (Q.sub rfl rfl ⟨by omega, by omega⟩) ?_
         refine XT.qs rfl rfl (Q.ld rfl rfl) ⟨inferInstance, ?_⟩ XT.stop
         refine XT.q rfl rfl (Q.sub rfl rfl ⟨by omega, by omega⟩) ?_
         refine XT.q rfl rfl (Q.add rfl rfl ⟨by omega, by omega⟩) ?_
         refine XT.q rfl rfl (Q.min rfl rfl) ?_
         refine XT.call rfl rfl Tryz.call143 rfl rfl rfl (next_spec vx hx x b10 (8 + 8 * madeN x + 1 + 1 + 1 + 1) pm4 (min ((madeN x : Int) - (dg x (8 + 8 * madeN x + 1) ((madeN x : Int))) - (1 + (dg x (8 + 8 * madeN x + 1 + 1 + 1) (min ((madeN x : Int) - (dg x (8 + 8 * madeN x + 1) ((madeN x : Int)))) 3))) + 1) 4) fl.1 fl.2) (fun v113 s113 R113 => ?_) XT.stop
         obtain ⟨rfl, rfl⟩ := R113
         dsimp only [lcA, lnA]
         refine ⟨inferInstance, ?_⟩
         refine XT.q rfl rfl (Q.add rfl rfl ⟨by omega, by omega⟩) ?_
         refine XT.q rfl rfl (Q.fieldAddr rfl) ?_
         refine XT.st rfl rfl rfl rfl rfl ⟨inferInstance, ?_⟩ XT.stop
         refine XT.done ?_
         exact mtr14 (()) _ _ trivial (.base 18 rfl rfl) inferInstance
        ·skip
         refine XT.qs rfl rfl (Q.ld rfl rfl) ⟨inferInstance, ?_⟩ XT.stop
         refine XT.qs rfl rfl (Q.ld rfl rfl) ⟨inferInstance, ?_⟩ XT.stop
         refine XT.q rfl rfl (Q.sub rfl rfl ⟨by omega, by omega⟩) ?_
         refine XT.q rfl rfl (Q.sub rfl rfl ⟨by omega, by omega⟩) ?_
         refine XT.q rfl rfl (Q.add rfl rfl ⟨by omega, by omega⟩) ?_
         refine XT.q rfl rfl (Q.min rfl rfl) ?_
         refine XT.call rfl rfl Tryz.call143 rfl rfl rfl (next_spec vx hx x b10 (8 + 8 * madeN x + 1 + 1 + 1 + 1) pm4 (min ((madeN x : Int) - (dg x (8 + 8 * madeN x + 1) ((madeN x : Int))) - (1 + (dg x (8 + 8 * madeN x + 1 + 1 + 1) (min ((madeN x : Int) - (dg x (8 + 8 * madeN x + 1) ((madeN x : Int)))) 3))) + 1) 4) fl.1 fl.2) (fun v113 s113 R113 => ?_) XT.stop
         obtain ⟨rfl, rfl⟩ := R113
         dsimp only [lcA, lnA]
         refine ⟨inferInstance, ?_⟩
         refine XT.q rfl rfl (Q.add rfl rfl ⟨by omega, by omega⟩) ?_
         refine XT.q rfl rfl (Q.fieldAddr rfl) ?_
         refine XT.st rfl rfl rfl rfl rfl ⟨inferInstance, ?_⟩ XT.stop
         refine XT.done ?_
         exact mtr14 (()) _ _ trivial (.base 18 rfl rfl) inferInstance
       ·skip
        refine XT.qs rfl rfl (Q.ld rfl rfl) ⟨inferInstance, ?_⟩ ?_
        ·skip
         refine XT.q rfl rfl (Q.sub rfl rfl ⟨by omega, by omega⟩) ?_
         refine XT.qs rfl rfl (Q.ld rfl rfl) ⟨inferInstance, ?_⟩ ?_
         ·skip
          refine XT.q rfl rfl (Q.add rfl rfl ⟨by omega, by omega⟩) ?_
          refine XT.qs rfl rfl (Q.ld rfl rfl) ⟨inferInstance, ?_⟩ XT.stop
          refine XT.q rfl rfl (Q.sub rfl rfl ⟨by omega, by omega⟩) ?_
          refine XT.q rfl rfl (Q.add rfl rfl ⟨by omega, by omega⟩) ?_
          refine XT.q rfl rfl (Q.min rfl rfl) ?_
          refine XT.call rfl rfl Tryz.call143 rfl rfl rfl (next_spec vx hx x b10 (8 + 8 * madeN x + 1 + 1 + 1 + 1) pm4 (min ((madeN x : Int) - (dg x (8 + 8 * madeN x + 1) ((madeN x : Int))) - (1 + (dg x (8 + 8 * madeN x + 1 + 1 + 1) (min ((madeN x : Int) - (dg x (8 + 8 * madeN x + 1) ((madeN x : Int)))) 3))) + 1) 4) fl.1 fl.2) (fun v113 s113 R113 => ?_) XT.stop
          obtain ⟨rfl, rfl⟩ := R113
          dsimp only [lcA, lnA]
          refine ⟨inferInstance, ?_⟩
          refine XT.q rfl rfl (Q.add rfl rfl ⟨by omega, by omega⟩) ?_
          refine XT.q rfl rfl (Q.fieldAddr rfl) ?_
          refine XT.st rfl rfl rfl rfl rfl ⟨inferInstance, ?_⟩ XT.stop
          refine XT.done ?_
          exact mtr14 (()) _ _ trivial (.base 18 rfl rfl) inferInstance
         ·skip
          refine XT.qs rfl rfl (Q.ld rfl rfl) ⟨inferInstance, ?_⟩ XT.stop
          refine XT.q rfl rfl (Q.sub rfl rfl ⟨by omega, by omega⟩) ?_
          refine XT.q rfl rfl (Q.add rfl rfl ⟨by omega, by omega⟩) ?_
          refine XT.q rfl rfl (Q.min rfl rfl) ?_
          refine XT.qs rfl rfl (Q.ld rfl rfl) ⟨inferInstance, ?_⟩ ?_
          ·skip
           refine XT.q rfl rfl (Q.add rfl rfl ⟨by omega, by omega⟩) ?_
           refine XT.call rfl rfl Tryz.call143 rfl rfl rfl (next_spec vx hx x b10 (8 + 8 * madeN x + 1 + 1 + 1 + 1) pm4 (min ((madeN x : Int) - (dg x (8 + 8 * madeN x + 1) ((madeN x : Int))) - (1 + (dg x (8 + 8 * madeN x + 1 + 1 + 1) (min ((madeN x : Int) - (dg x (8 + 8 * madeN x + 1) ((madeN x : Int)))) 3))) + 1) 4) fl.1 fl.2) (fun v113 s113 R113 => ?_) XT.stop
           obtain ⟨rfl, rfl⟩ := R113
           dsimp only [lcA, lnA]
           refine ⟨inferInstance, ?_⟩
           refine XT.q rfl rfl (Q.add rfl rfl ⟨by omega, by omega⟩) ?_
           refine XT.q rfl rfl (Q.fieldAddr rfl) ?_
           refine XT.st rfl rfl rfl rfl rfl ⟨inferInstance, ?_⟩ XT.stop
           refine XT.done ?_
           exact mtr14 (()) _ _ trivial (.base 18 rfl rfl) inferInstance
          ·skip
           refine XT.call rfl rfl Tryz.call143 rfl rfl rfl (next_spec vx hx x b10 (8 + 8 * madeN x + 1 + 1 + 1 + 1) pm4 (min ((madeN x : Int) - (dg x (8 + 8 * madeN x + 1) ((madeN x : Int))) - (1 + (dg x (8 + 8 * madeN x + 1 + 1 + 1) (min ((madeN x : Int) - (dg x (8 + 8 * madeN x + 1) ((madeN x : Int)))) 3))) + 1) 4) fl.1 fl.2) (fun v113 s113 R113 => ?_) XT.stop
           obtain ⟨rfl, rfl⟩ := R113
           dsimp only [lcA, lnA]
           refine ⟨inferInstance, ?_⟩
           refine XT.qs rfl rfl (Q.ld rfl rfl) ⟨inferInstance, ?_⟩ XT.stop
           refine XT.q rfl rfl (Q.add rfl rfl ⟨by omega, by omega⟩) ?_
           refine XT.q rfl rfl (Q.add rfl rfl ⟨by omega, by omega⟩) ?_
           refine XT.q rfl rfl (Q.fieldAddr rfl) ?_
           refine XT.st rfl rfl rfl rfl rfl ⟨inferInstance, ?_⟩ XT.stop
           refine XT.done ?_
           exact mtr14 (()) _ _ trivial (.base 18 rfl rfl) inferInstance
        ·skip
         refine XT.qs rfl rfl (Q.ld rfl rfl) ⟨inferInstance, ?_⟩ XT.stop
         refine XT.qs rfl rfl (Q.ld rfl rfl) ⟨inferInstance, ?_⟩ ?_
         ·skip
          refine XT.q rfl rfl (Q.add rfl rfl ⟨by omega, by omega⟩) ?_
          refine XT.qs rfl rfl (Q.ld rfl rfl) ⟨inferInstance, ?_⟩ XT.stop
          refine XT.q rfl rfl (Q.sub rfl rfl ⟨by omega, by omega⟩) ?_
          refine XT.q rfl rfl (Q.sub rfl rfl ⟨by omega, by omega⟩) ?_
          refine XT.q rfl rfl (Q.add rfl rfl ⟨by omega, by omega⟩) ?_
          refine XT.q rfl rfl (Q.min rfl rfl) ?_
          refine XT.call rfl rfl Tryz.call143 rfl rfl rfl (next_spec vx hx x b10 (8 + 8 * madeN x + 1 + 1 + 1 + 1) pm4 (min ((madeN x : Int) - (dg x (8 + 8 * madeN x + 1) ((madeN x : Int))) - (1 + (dg x (8 + 8 * madeN x + 1 + 1 + 1) (min ((madeN x : Int) - (dg x (8 + 8 * madeN x + 1) ((madeN x : Int)))) 3))) + 1) 4) fl.1 fl.2) (fun v113 s113 R113 => ?_) XT.stop
          obtain ⟨rfl, rfl⟩ := R113
          dsimp only [lcA, lnA]
          refine ⟨inferInstance, ?_⟩
          refine XT.q rfl rfl (Q.add rfl rfl ⟨by omega, by omega⟩) ?_
          refine XT.q rfl rfl (Q.fieldAddr rfl) ?_
          refine XT.st rfl rfl rfl rfl rfl ⟨inferInstance, ?_⟩ XT.stop
          refine XT.done ?_
          exact mtr14 (()) _ _ trivial (.base 18 rfl rfl) inferInstance
         ·skip
          refine XT.qs rfl rfl (Q.ld rfl rfl) ⟨inferInstance, ?_⟩ XT.stop
          refine XT.q rfl rfl (Q.sub rfl rfl ⟨by omega, by omega⟩) ?_
          refine XT.q rfl rfl (Q.sub rfl rfl ⟨by omega, by omega⟩) ?_
          refine XT.q rfl rfl (Q.add rfl rfl ⟨by omega, by omega⟩) ?_
          refine XT.q rfl rfl (Q.min rfl rfl) ?_
          refine XT.qs rfl rfl (Q.ld rfl rfl) ⟨inferInstance, ?_⟩ ?_
          ·skip
           refine XT.q rfl rfl (Q.add rfl rfl ⟨by omega, by omega⟩) ?_
           refine XT.call rfl rfl Tryz.call143 rfl rfl rfl (next_spec vx hx x b10 (8 + 8 * madeN x + 1 + 1 + 1 + 1) pm4 (min ((madeN x : Int) - (dg x (8 + 8 * madeN x + 1) ((madeN x : Int))) - (1 + (dg x (8 + 8 * madeN x + 1 + 1 + 1) (min ((madeN x : Int) - (dg x (8 + 8 * madeN x + 1) ((madeN x : Int)))) 3))) + 1) 4) fl.1 fl.2) (fun v113 s113 R113 => ?_) XT.stop
           obtain ⟨rfl, rfl⟩ := R113
           dsimp only [lcA, lnA]
           refine ⟨inferInstance, ?_⟩
           refine XT.q rfl rfl (Q.add rfl rfl ⟨by omega, by omega⟩) ?_
           refine XT.q rfl rfl (Q.fieldAddr rfl) ?_
           refine XT.st rfl rfl rfl rfl rfl ⟨inferInstance, ?_⟩ XT.stop
           refine XT.done ?_
           exact mtr14 (()) _ _ trivial (.base 18 rfl rfl) inferInstance
          ·skip
           refine XT.call rfl rfl Tryz.call143 rfl rfl rfl (next_spec vx hx x b10 (8 + 8 * madeN x + 1 + 1 + 1 + 1) pm4 (min ((madeN x : Int) - (dg x (8 + 8 * madeN x + 1) ((madeN x : Int))) - (1 + (dg x (8 + 8 * madeN x + 1 + 1 + 1) (min ((madeN x : Int) - (dg x (8 + 8 * madeN x + 1) ((madeN x : Int)))) 3))) + 1) 4) fl.1 fl.2) (fun v113 s113 R113 => ?_) XT.stop
           obtain ⟨rfl, rfl⟩ := R113
           dsimp only [lcA, lnA]
           refine ⟨inferInstance, ?_⟩
           refine XT.qs rfl rfl (Q.ld rfl rfl) ⟨inferInstance, ?_⟩ XT.stop
           refine XT.q rfl rfl (Q.add rfl rfl ⟨by omega, by omega⟩) ?_
           refine XT.q rfl rfl (Q.add rfl rfl ⟨by omega, by omega⟩) ?_
           refine XT.q rfl rfl (Q.fieldAddr rfl) ?_
           refine XT.st rfl rfl rfl rfl rfl ⟨inferInstance, ?_⟩ XT.stop
           refine XT.done ?_
           exact mtr14 (()) _ _ trivial (.base 18 rfl rfl) inferInstance
      ·skip
       refine XT.qs rfl rfl (Q.ld rfl rfl) ⟨inferInstance, ?_⟩ ?_
       ·skip
        refine XT.q rfl rfl (Q.sub rfl rfl ⟨by omega, by omega⟩) ?_
        refine XT.qs rfl rfl (Q.ld rfl rfl) ⟨inferInstance, ?_⟩ ?_
        ·skip
         refine XT.qs rfl rfl (Q.ld rfl rfl) ⟨inferInstance, ?_⟩ ?_
         ·skip
          refine XT.q rfl rfl (Q.add rfl rfl ⟨by omega, by omega⟩) ?_
          refine XT.qs rfl rfl (Q.ld rfl rfl) ⟨inferInstance, ?_⟩ XT.stop
          refine XT.q rfl rfl (Q.sub rfl rfl ⟨by omega, by omega⟩) ?_
          refine XT.q rfl rfl (Q.add rfl rfl ⟨by omega, by omega⟩) ?_
          refine XT.q rfl rfl (Q.min rfl rfl) ?_
          refine XT.call rfl rfl Tryz.call143 rfl rfl rfl (next_spec vx hx x b10 (8 + 8 * madeN x + 1 + 1 + 1 + 1) pm4 (min ((madeN x : Int) - (dg x (8 + 8 * madeN x + 1) ((madeN x : Int))) - (1 + (dg x (8 + 8 * madeN x + 1 + 1 + 1) (min ((madeN x : Int) - (dg x (8 + 8 * madeN x + 1) ((madeN x : Int)))) 3))) + 1) 4) fl.1 fl.2) (fun v113 s113 R113 => ?_) XT.stop
          obtain ⟨rfl, rfl⟩ := R113
          dsimp only [lcA, lnA]
          refine ⟨inferInstance, ?_⟩
          refine XT.q rfl rfl (Q.add rfl rfl ⟨by omega, by omega⟩) ?_
          refine XT.q rfl rfl (Q.fieldAddr rfl) ?_
          refine XT.st rfl rfl rfl rfl rfl ⟨inferInstance, ?_⟩ XT.stop
          refine XT.done ?_
          exact mtr14 (()) _ _ trivial (.base 18 rfl rfl) inferInstance
         ·skip
          refine XT.qs rfl rfl (Q.ld rfl rfl) ⟨inferInstance, ?_⟩ XT.stop
          refine XT.q rfl rfl (Q.sub rfl rfl ⟨by omega, by omega⟩) ?_
          refine XT.q rfl rfl (Q.add rfl rfl ⟨by omega, by omega⟩) ?_
          refine XT.q rfl rfl (Q.min rfl rfl) ?_
          refine XT.qs rfl rfl (Q.ld rfl rfl) ⟨inferInstance, ?_⟩ ?_
          ·skip
           refine XT.q rfl rfl (Q.add rfl rfl ⟨by omega, by omega⟩) ?_
           refine XT.call rfl rfl Tryz.call143 rfl rfl rfl (next_spec vx hx x b10 (8 + 8 * madeN x + 1 + 1 + 1 + 1) pm4 (min ((madeN x : Int) - (dg x (8 + 8 * madeN x + 1) ((madeN x : Int))) - (1 + (dg x (8 + 8 * madeN x + 1 + 1 + 1) (min ((madeN x : Int) - (dg x (8 + 8 * madeN x + 1) ((madeN x : Int)))) 3))) + 1) 4) fl.1 fl.2) (fun v113 s113 R113 => ?_) XT.stop
           obtain ⟨rfl, rfl⟩ := R113
           dsimp only [lcA, lnA]
           refine ⟨inferInstance, ?_⟩
           refine XT.q rfl rfl (Q.add rfl rfl ⟨by omega, by omega⟩) ?_
           refine XT.q rfl rfl (Q.fieldAddr rfl) ?_
           refine XT.st rfl rfl rfl rfl rfl ⟨inferInstance, ?_⟩ XT.stop
           refine XT.done ?_
           exact mtr14 (()) _ _ trivial (.base 18 rfl rfl) inferInstance
          ·skip
           refine XT.call rfl rfl Tryz.call143 rfl rfl rfl (next_spec vx hx x b10 (8 + 8 * madeN x + 1 + 1 + 1 + 1) pm4 (min ((madeN x : Int) - (dg x (8 + 8 * madeN x + 1) ((madeN x : Int))) - (1 + (dg x (8 + 8 * madeN x + 1 + 1 + 1) (min ((madeN x : Int) - (dg x (8 + 8 * madeN x + 1) ((madeN x : Int)))) 3))) + 1) 4) fl.1 fl.2) (fun v113 s113 R113 => ?_) XT.stop
           obtain ⟨rfl, rfl⟩ := R113
           dsimp only [lcA, lnA]
           refine ⟨inferInstance, ?_⟩
           refine XT.qs rfl rfl (Q.ld rfl rfl) ⟨inferInstance, ?_⟩ XT.stop
           refine XT.q rfl rfl (Q.add rfl rfl ⟨by omega, by omega⟩) ?_
           refine XT.q rfl rfl (Q.add rfl rfl ⟨by omega, by omega⟩) ?_
           refine XT.q rfl rfl (Q.fieldAddr rfl) ?_
           refine XT.st rfl rfl rfl rfl rfl ⟨inferInstance, ?_⟩ XT.stop
           refine XT.done ?_
           exact mtr14 (()) _ _ trivial (.base 18 rfl rfl) inferInstance
        ·skip
         refine XT.qs rfl rfl (Q.ld rfl rfl) ⟨inferInstance, ?_⟩ ?_
         ·skip
          refine XT.qs rfl rfl (Q.ld rfl rfl) ⟨inferInstance, ?_⟩ ?_
          ·skip
           refine XT.q rfl rfl (Q.add rfl rfl ⟨by omega, by omega⟩) ?_
           refine XT.qs rfl rfl (Q.ld rfl rfl) ⟨inferInstance, ?_⟩ XT.stop
           refine XT.q rfl rfl (Q.sub rfl rfl ⟨by omega, by omega⟩) ?_
           refine XT.q rfl rfl (Q.add rfl rfl ⟨by omega, by omega⟩) ?_
           refine XT.q rfl rfl (Q.min rfl rfl) ?_
           refine XT.call rfl rfl Tryz.call143 rfl rfl rfl (next_spec vx hx x b10 (8 + 8 * madeN x + 1 + 1 + 1 + 1) pm4 (min ((madeN x : Int) - (dg x (8 + 8 * madeN x + 1) ((madeN x : Int))) - (1 + (dg x (8 + 8 * madeN x + 1 + 1 + 1) (min ((madeN x : Int) - (dg x (8 + 8 * madeN x + 1) ((madeN x : Int)))) 3))) + 1) 4) fl.1 fl.2) (fun v113 s113 R113 => ?_) XT.stop
           obtain ⟨rfl, rfl⟩ := R113
           dsimp only [lcA, lnA]
           refine ⟨inferInstance, ?_⟩
           refine XT.q rfl rfl (Q.add rfl rfl ⟨by omega, by omega⟩) ?_
           refine XT.q rfl rfl (Q.fieldAddr rfl) ?_
           refine XT.st rfl rfl rfl rfl rfl ⟨inferInstance, ?_⟩ XT.stop
           refine XT.done ?_
           exact mtr14 (()) _ _ trivial (.base 18 rfl rfl) inferInstance
          ·skip
           refine XT.qs rfl rfl (Q.ld rfl rfl) ⟨inferInstance, ?_⟩ XT.stop
           refine XT.q rfl rfl (Q.sub rfl rfl ⟨by omega, by omega⟩) ?_
           refine XT.q rfl rfl (Q.add rfl rfl ⟨by omega, by omega⟩) ?_
           refine XT.q rfl rfl (Q.min rfl rfl) ?_
           refine XT.qs rfl rfl (Q.ld rfl rfl) ⟨inferInstance, ?_⟩ ?_
           ·skip
            refine XT.q rfl rfl (Q.add rfl rfl ⟨by omega, by omega⟩) ?_
            refine XT.call rfl rfl Tryz.call143 rfl rfl rfl (next_spec vx hx x b10 (8 + 8 * madeN x + 1 + 1 + 1 + 1) pm4 (min ((madeN x : Int) - (dg x (8 + 8 * madeN x + 1) ((madeN x : Int))) - (1 + (dg x (8 + 8 * madeN x + 1 + 1 + 1) (min ((madeN x : Int) - (dg x (8 + 8 * madeN x + 1) ((madeN x : Int)))) 3))) + 1) 4) fl.1 fl.2) (fun v113 s113 R113 => ?_) XT.stop
            obtain ⟨rfl, rfl⟩ := R113
            dsimp only [lcA, lnA]
            refine ⟨inferInstance, ?_⟩
            refine XT.q rfl rfl (Q.add rfl rfl ⟨by omega, by omega⟩) ?_
            refine XT.q rfl rfl (Q.fieldAddr rfl) ?_
            refine XT.st rfl rfl rfl rfl rfl ⟨inferInstance, ?_⟩ XT.stop
            refine XT.done ?_
            exact mtr14 (()) _ _ trivial (.base 18 rfl rfl) inferInstance
           ·skip
            refine XT.call rfl rfl Tryz.call143 rfl rfl rfl (next_spec vx hx x b10 (8 + 8 * madeN x + 1 + 1 + 1 + 1) pm4 (min ((madeN x : Int) - (dg x (8 + 8 * madeN x + 1) ((madeN x : Int))) - (1 + (dg x (8 + 8 * madeN x + 1 + 1 + 1) (min ((madeN x : Int) - (dg x (8 + 8 * madeN x + 1) ((madeN x : Int)))) 3))) + 1) 4) fl.1 fl.2) (fun v113 s113 R113 => ?_) XT.stop
            obtain ⟨rfl, rfl⟩ := R113
            dsimp only [lcA, lnA]
            refine ⟨inferInstance, ?_⟩
            refine XT.qs rfl rfl (Q.ld rfl rfl) ⟨inferInstance, ?_⟩ XT.stop
            refine XT.q rfl rfl (Q.add rfl rfl ⟨by omega, by omega⟩) ?_
            refine XT.q rfl rfl (Q.add rfl rfl ⟨by omega, by omega⟩) ?_
            refine XT.q rfl rfl (Q.fieldAddr rfl) ?_
            refine XT.st rfl rfl rfl rfl rfl ⟨inferInstance, ?_⟩ XT.stop
            refine XT.done ?_
            exact mtr14 (()) _ _ trivial (.base 18 rfl rfl) inferInstance
         ·skip
          refine XT.qs rfl rfl (Q.ld rfl rfl) ⟨inferInstance, ?_⟩ XT.stop
          refine XT.q rfl rfl (Q.sub rfl rfl ⟨by omega, by omega⟩) ?_
          refine XT.q rfl rfl (Q.add rfl rfl ⟨by omega, by omega⟩) ?_
          refine XT.q rfl rfl (Q.min rfl rfl) ?_
          refine XT.qs rfl rfl (Q.ld rfl rfl) ⟨inferInstance, ?_⟩ ?_
          ·skip
           refine XT.qs rfl rfl (Q.ld rfl rfl) ⟨inferInstance, ?_⟩ ?_
           ·skip
            refine XT.q rfl rfl (Q.add rfl rfl ⟨by omega, by omega⟩) ?_
            refine XT.call rfl rfl Tryz.call143 rfl rfl rfl (next_spec vx hx x b10 (8 + 8 * madeN x + 1 + 1 + 1 + 1) pm4 (min ((madeN x : Int) - (dg x (8 + 8 * madeN x + 1) ((madeN x : Int))) - (1 + (dg x (8 + 8 * madeN x + 1 + 1 + 1) (min ((madeN x : Int) - (dg x (8 + 8 * madeN x + 1) ((madeN x : Int)))) 3))) + 1) 4) fl.1 fl.2) (fun v113 s113 R113 => ?_) XT.stop
            obtain ⟨rfl, rfl⟩ := R113
            dsimp only [lcA, lnA]
            refine ⟨inferInstance, ?_⟩
            refine XT.q rfl rfl (Q.add rfl rfl ⟨by omega, by omega⟩) ?_
            refine XT.q rfl rfl (Q.fieldAddr rfl) ?_
            refine XT.st rfl rfl rfl rfl rfl ⟨inferInstance, ?_⟩ XT.stop
            refine XT.done ?_
            exact mtr14 (()) _ _ trivial (.base 18 rfl rfl) inferInstance
           ·skip
            refine XT.call rfl rfl Tryz.call143 rfl rfl rfl (next_spec vx hx x b10 (8 + 8 * madeN x + 1 + 1 + 1 + 1) pm4 (min ((madeN x : Int) - (dg x (8 + 8 * madeN x + 1) ((madeN x : Int))) - (1 + (dg x (8 + 8 * madeN x + 1 + 1 + 1) (min ((madeN x : Int) - (dg x (8 + 8 * madeN x + 1) ((madeN x : Int)))) 3))) + 1) 4) fl.1 fl.2) (fun v113 s113 R113 => ?_) XT.stop
            obtain ⟨rfl, rfl⟩ := R113
            dsimp only [lcA, lnA]
            refine ⟨inferInstance, ?_⟩
            refine XT.qs rfl rfl (Q.ld rfl rfl) ⟨inferInstance, ?_⟩ XT.stop
            refine XT.q rfl rfl (Q.add rfl rfl ⟨by omega, by omega⟩) ?_
            refine XT.q rfl rfl (Q.add rfl rfl ⟨by omega, by omega⟩) ?_
            refine XT.q rfl rfl (Q.fieldAddr rfl) ?_
            refine XT.st rfl rfl rfl rfl rfl ⟨inferInstance, ?_⟩ XT.stop
            refine XT.done ?_
            exact mtr14 (()) _ _ trivial (.base 18 rfl rfl) inferInstance
          ·skip
           refine XT.qs rfl rfl (Q.ld rfl rfl) ⟨inferInstance, ?_⟩ ?_
           ·skip
            refine XT.qs rfl rfl (Q.ld rfl rfl) ⟨inferInstance, ?_⟩ ?_
            ·skip
             refine XT.q rfl rfl (Q.add rfl rfl ⟨by omega, by omega⟩) ?_
             refine XT.call rfl rfl Tryz.call143 rfl rfl rfl (next_spec vx hx x b10 (8 + 8 * madeN x + 1 + 1 + 1 + 1) pm4 (min ((madeN x : Int) - (dg x (8 + 8 * madeN x + 1) ((madeN x : Int))) - (1 + (dg x (8 + 8 * madeN x + 1 + 1 + 1) (min ((madeN x : Int) - (dg x (8 + 8 * madeN x + 1) ((madeN x : Int)))) 3))) + 1) 4) fl.1 fl.2) (fun v113 s113 R113 => ?_) XT.stop
             obtain ⟨rfl, rfl⟩ := R113
             dsimp only [lcA, lnA]
             refine ⟨inferInstance, ?_⟩
             refine XT.q rfl rfl (Q.add rfl rfl ⟨by omega, by omega⟩) ?_
             refine XT.q rfl rfl (Q.fieldAddr rfl) ?_
             refine XT.st rfl rfl rfl rfl rfl ⟨inferInstance, ?_⟩ XT.stop
             refine XT.done ?_
             exact mtr14 (()) _ _ trivial (.base 18 rfl rfl) inferInstance
            ·skip
             refine XT.call rfl rfl Tryz.call143 rfl rfl rfl (next_spec vx hx x b10 (8 + 8 * madeN x + 1 + 1 + 1 + 1) pm4 (min ((madeN x : Int) - (dg x (8 + 8 * madeN x + 1) ((madeN x : Int))) - (1 + (dg x (8 + 8 * madeN x + 1 + 1 + 1) (min ((madeN x : Int) - (dg x (8 + 8 * madeN x + 1) ((madeN x : Int)))) 3))) + 1) 4) fl.1 fl.2) (fun v113 s113 R113 => ?_) XT.stop
             obtain ⟨rfl, rfl⟩ := R113
             dsimp only [lcA, lnA]
             refine ⟨inferInstance, ?_⟩
             refine XT.qs rfl rfl (Q.ld rfl rfl) ⟨inferInstance, ?_⟩ XT.stop
             refine XT.q rfl rfl (Q.add rfl rfl ⟨by omega, by omega⟩) ?_
             refine XT.q rfl rfl (Q.add rfl rfl ⟨by omega, by omega⟩) ?_
             refine XT.q rfl rfl (Q.fieldAddr rfl) ?_
             refine XT.st rfl rfl rfl rfl rfl ⟨inferInstance, ?_⟩ XT.stop
             refine XT.done ?_
             exact mtr14 (()) _ _ trivial (.base 18 rfl rfl) inferInstance
           ·skip
            refine XT.call rfl rfl Tryz.call143 rfl rfl rfl (next_spec vx hx x b10 (8 + 8 * madeN x + 1 + 1 + 1 + 1) pm4 (min ((madeN x : Int) - (dg x (8 + 8 * madeN x + 1) ((madeN x : Int))) - (1 + (dg x (8 + 8 * madeN x + 1 + 1 + 1) (min ((madeN x : Int) - (dg x (8 + 8 * madeN x + 1) ((madeN x : Int)))) 3))) + 1) 4) fl.1 fl.2) (fun v113 s113 R113 => ?_) XT.stop
            obtain ⟨rfl, rfl⟩ := R113
            dsimp only [lcA, lnA]
            refine ⟨inferInstance, ?_⟩
            refine XT.qs rfl rfl (Q.ld rfl rfl) ⟨inferInstance, ?_⟩ ?_
            ·skip
             refine XT.qs rfl rfl (Q.ld rfl rfl) ⟨inferInstance, ?_⟩ XT.stop
             refine XT.q rfl rfl (Q.add rfl rfl ⟨by omega, by omega⟩) ?_
             refine XT.q rfl rfl (Q.add rfl rfl ⟨by omega, by omega⟩) ?_
             refine XT.q rfl rfl (Q.fieldAddr rfl) ?_
             refine XT.st rfl rfl rfl rfl rfl ⟨inferInstance, ?_⟩ XT.stop
             refine XT.done ?_
             exact mtr14 (()) _ _ trivial (.base 18 rfl rfl) inferInstance
            ·skip
             refine XT.qs rfl rfl (Q.ld rfl rfl) ⟨inferInstance, ?_⟩ XT.stop
             refine XT.qs rfl rfl (Q.ld rfl rfl) ⟨inferInstance, ?_⟩ XT.stop
             refine XT.q rfl rfl (Q.add rfl rfl ⟨by omega, by omega⟩) ?_
             refine XT.q rfl rfl (Q.add rfl rfl ⟨by omega, by omega⟩) ?_
             refine XT.q rfl rfl (Q.fieldAddr rfl) ?_
             refine XT.st rfl rfl rfl rfl rfl ⟨inferInstance, ?_⟩ XT.stop
             refine XT.done ?_
             exact mtr14 (()) _ _ trivial (.base 18 rfl rfl) inferInstance
       ·skip
        refine XT.qs rfl rfl (Q.ld rfl rfl) ⟨inferInstance, ?_⟩ XT.stop
        refine XT.qs rfl rfl (Q.ld rfl rfl) ⟨inferInstance, ?_⟩ ?_
        ·skip
         refine XT.qs rfl rfl (Q.ld rfl rfl) ⟨inferInstance, ?_⟩ ?_
         ·skip
          refine XT.q rfl rfl (Q.add rfl rfl ⟨by omega, by omega⟩) ?_
          refine XT.qs rfl rfl (Q.ld rfl rfl) ⟨inferInstance, ?_⟩ XT.stop
          refine XT.q rfl rfl (Q.sub rfl rfl ⟨by omega, by omega⟩) ?_
          refine XT.q rfl rfl (Q.sub rfl rfl ⟨by omega, by omega⟩) ?_
          refine XT.q rfl rfl (Q.add rfl rfl ⟨by omega, by omega⟩) ?_
          refine XT.q rfl rfl (Q.min rfl rfl) ?_
          refine XT.call rfl rfl Tryz.call143 rfl rfl rfl (next_spec vx hx x b10 (8 + 8 * madeN x + 1 + 1 + 1 + 1) pm4 (min ((madeN x : Int) - (dg x (8 + 8 * madeN x + 1) ((madeN x : Int))) - (1 + (dg x (8 + 8 * madeN x + 1 + 1 + 1) (min ((madeN x : Int) - (dg x (8 + 8 * madeN x + 1) ((madeN x : Int)))) 3))) + 1) 4) fl.1 fl.2) (fun v113 s113 R113 => ?_) XT.stop
          obtain ⟨rfl, rfl⟩ := R113
          dsimp only [lcA, lnA]
          refine ⟨inferInstance, ?_⟩
          refine XT.q rfl rfl (Q.add rfl rfl ⟨by omega, by omega⟩) ?_
          refine XT.q rfl rfl (Q.fieldAddr rfl) ?_
          refine XT.st rfl rfl rfl rfl rfl ⟨inferInstance, ?_⟩ XT.stop
          refine XT.done ?_
          exact mtr14 (()) _ _ trivial (.base 18 rfl rfl) inferInstance
         ·skip
          refine XT.qs rfl rfl (Q.ld rfl rfl) ⟨inferInstance, ?_⟩ XT.stop
          refine XT.q rfl rfl (Q.sub rfl rfl ⟨by omega, by omega⟩) ?_
          refine XT.q rfl rfl (Q.sub rfl rfl ⟨by omega, by omega⟩) ?_
          refine XT.q rfl rfl (Q.add rfl rfl ⟨by omega, by omega⟩) ?_
          refine XT.q rfl rfl (Q.min rfl rfl) ?_
          refine XT.qs rfl rfl (Q.ld rfl rfl) ⟨inferInstance, ?_⟩ ?_
          ·skip
           refine XT.q rfl rfl (Q.add rfl rfl ⟨by omega, by omega⟩) ?_
           refine XT.call rfl rfl Tryz.call143 rfl rfl rfl (next_spec vx hx x b10 (8 + 8 * madeN x + 1 + 1 + 1 + 1) pm4 (min ((madeN x : Int) - (dg x (8 + 8 * madeN x + 1) ((madeN x : Int))) - (1 + (dg x (8 + 8 * madeN x + 1 + 1 + 1) (min ((madeN x : Int) - (dg x (8 + 8 * madeN x + 1) ((madeN x : Int)))) 3))) + 1) 4) fl.1 fl.2) (fun v113 s113 R113 => ?_) XT.stop
           obtain ⟨rfl, rfl⟩ := R113
           dsimp only [lcA, lnA]
           refine ⟨inferInstance, ?_⟩
           refine XT.q rfl rfl (Q.add rfl rfl ⟨by omega, by omega⟩) ?_
           refine XT.q rfl rfl (Q.fieldAddr rfl) ?_
           refine XT.st rfl rfl rfl rfl rfl ⟨inferInstance, ?_⟩ XT.stop
           refine XT.done ?_
           exact mtr14 (()) _ _ trivial (.base 18 rfl rfl) inferInstance
          ·skip
           refine XT.call rfl rfl Tryz.call143 rfl rfl rfl (next_spec vx hx x b10 (8 + 8 * madeN x + 1 + 1 + 1 + 1) pm4 (min ((madeN x : Int) - (dg x (8 + 8 * madeN x + 1) ((madeN x : Int))) - (1 + (dg x (8 + 8 * madeN x + 1 + 1 + 1) (min ((madeN x : Int) - (dg x (8 + 8 * madeN x + 1) ((madeN x : Int)))) 3))) + 1) 4) fl.1 fl.2) (fun v113 s113 R113 => ?_) XT.stop
           obtain ⟨rfl, rfl⟩ := R113
           dsimp only [lcA, lnA]
           refine ⟨inferInstance, ?_⟩
           refine XT.qs rfl rfl (Q.ld rfl rfl) ⟨inferInstance, ?_⟩ XT.stop
           refine XT.q rfl rfl (Q.add rfl rfl ⟨by omega, by omega⟩) ?_
           refine XT.q rfl rfl (Q.add rfl rfl ⟨by omega, by omega⟩) ?_
           refine XT.q rfl rfl (Q.fieldAddr rfl) ?_
           refine XT.st rfl rfl rfl rfl rfl ⟨inferInstance, ?_⟩ XT.stop
           refine XT.done ?_
           exact mtr14 (()) _ _ trivial (.base 18 rfl rfl) inferInstance
        ·skip
         refine XT.qs rfl rfl (Q.ld rfl rfl) ⟨inferInstance, ?_⟩ ?_
         ·skip
          refine XT.qs rfl rfl (Q.ld rfl rfl) ⟨inferInstance, ?_⟩ ?_
          ·skip
           refine XT.q rfl rfl (Q.add rfl rfl ⟨by omega, by omega⟩) ?_
           refine XT.qs rfl rfl (Q.ld rfl rfl) ⟨inferInstance, ?_⟩ XT.stop
           refine XT.q rfl rfl (Q.sub rfl rfl ⟨by omega, by omega⟩) ?_
           refine XT.q rfl rfl (Q.sub rfl rfl ⟨by omega, by omega⟩) ?_
           refine XT.q rfl rfl (Q.add rfl rfl ⟨by omega, by omega⟩) ?_
           refine XT.q rfl rfl (Q.min rfl rfl) ?_
           refine XT.call rfl rfl Tryz.call143 rfl rfl rfl (next_spec vx hx x b10 (8 + 8 * madeN x + 1 + 1 + 1 + 1) pm4 (min ((madeN x : Int) - (dg x (8 + 8 * madeN x + 1) ((madeN x : Int))) - (1 + (dg x (8 + 8 * madeN x + 1 + 1 + 1) (min ((madeN x : Int) - (dg x (8 + 8 * madeN x + 1) ((madeN x : Int)))) 3))) + 1) 4) fl.1 fl.2) (fun v113 s113 R113 => ?_) XT.stop
           obtain ⟨rfl, rfl⟩ := R113
           dsimp only [lcA, lnA]
           refine ⟨inferInstance, ?_⟩
           refine XT.q rfl rfl (Q.add rfl rfl ⟨by omega, by omega⟩) ?_
           refine XT.q rfl rfl (Q.fieldAddr rfl) ?_
           refine XT.st rfl rfl rfl rfl rfl ⟨inferInstance, ?_⟩ XT.stop
           refine XT.done ?_
           exact mtr14 (()) _ _ trivial (.base 18 rfl rfl) inferInstance
          ·skip
           refine XT.qs rfl rfl (Q.ld rfl rfl) ⟨inferInstance, ?_⟩ XT.stop
           refine XT.q rfl rfl (Q.sub rfl rfl ⟨by omega, by omega⟩) ?_
           refine XT.q rfl rfl (Q.sub rfl rfl ⟨by omega, by omega⟩) ?_
           refine XT.q rfl rfl (Q.add rfl rfl ⟨by omega, by omega⟩) ?_
           refine XT.q rfl rfl (Q.min rfl rfl) ?_
           refine XT.qs rfl rfl (Q.ld rfl rfl) ⟨inferInstance, ?_⟩ ?_
           ·skip
            refine XT.q rfl rfl (Q.add rfl rfl ⟨by omega, by omega⟩) ?_
            refine XT.call rfl rfl Tryz.call143 rfl rfl rfl (next_spec vx hx x b10 (8 + 8 * madeN x + 1 + 1 + 1 + 1) pm4 (min ((madeN x : Int) - (dg x (8 + 8 * madeN x + 1) ((madeN x : Int))) - (1 + (dg x (8 + 8 * madeN x + 1 + 1 + 1) (min ((madeN x : Int) - (dg x (8 + 8 * madeN x + 1) ((madeN x : Int)))) 3))) + 1) 4) fl.1 fl.2) (fun v113 s113 R113 => ?_) XT.stop
            obtain ⟨rfl, rfl⟩ := R113
            dsimp only [lcA, lnA]
            refine ⟨inferInstance, ?_⟩
            refine XT.q rfl rfl (Q.add rfl rfl ⟨by omega, by omega⟩) ?_
            refine XT.q rfl rfl (Q.fieldAddr rfl) ?_
            refine XT.st rfl rfl rfl rfl rfl ⟨inferInstance, ?_⟩ XT.stop
            refine XT.done ?_
            exact mtr14 (()) _ _ trivial (.base 18 rfl rfl) inferInstance
           ·skip
            refine XT.call rfl rfl Tryz.call143 rfl rfl rfl (next_spec vx hx x b10 (8 + 8 * madeN x + 1 + 1 + 1 + 1) pm4 (min ((madeN x : Int) - (dg x (8 + 8 * madeN x + 1) ((madeN x : Int))) - (1 + (dg x (8 + 8 * madeN x + 1 + 1 + 1) (min ((madeN x : Int) - (dg x (8 + 8 * madeN x + 1) ((madeN x : Int)))) 3))) + 1) 4) fl.1 fl.2) (fun v113 s113 R113 => ?_) XT.stop
            obtain ⟨rfl, rfl⟩ := R113
            dsimp only [lcA, lnA]
            refine ⟨inferInstance, ?_⟩
            refine XT.qs rfl rfl (Q.ld rfl rfl) ⟨inferInstance, ?_⟩ XT.stop
            refine XT.q rfl rfl (Q.add rfl rfl ⟨by omega, by omega⟩) ?_
            refine XT.q rfl rfl (Q.add rfl rfl ⟨by omega, by omega⟩) ?_
            refine XT.q rfl rfl (Q.fieldAddr rfl) ?_
            refine XT.st rfl rfl rfl rfl rfl ⟨inferInstance, ?_⟩ XT.stop
            refine XT.done ?_
            exact mtr14 (()) _ _ trivial (.base 18 rfl rfl) inferInstance
         ·skip
          refine XT.qs rfl rfl (Q.ld rfl rfl) ⟨inferInstance, ?_⟩ XT.stop
          refine XT.q rfl rfl (Q.sub rfl rfl ⟨by omega, by omega⟩) ?_
          refine XT.q rfl rfl (Q.sub rfl rfl ⟨by omega, by omega⟩) ?_
          refine XT.q rfl rfl (Q.add rfl rfl ⟨by omega, by omega⟩) ?_
          refine XT.q rfl rfl (Q.min rfl rfl) ?_
          refine XT.qs rfl rfl (Q.ld rfl rfl) ⟨inferInstance, ?_⟩ ?_
          ·skip
           refine XT.qs rfl rfl (Q.ld rfl rfl) ⟨inferInstance, ?_⟩ ?_
           ·skip
            refine XT.q rfl rfl (Q.add rfl rfl ⟨by omega, by omega⟩) ?_
            refine XT.call rfl rfl Tryz.call143 rfl rfl rfl (next_spec vx hx x b10 (8 + 8 * madeN x + 1 + 1 + 1 + 1) pm4 (min ((madeN x : Int) - (dg x (8 + 8 * madeN x + 1) ((madeN x : Int))) - (1 + (dg x (8 + 8 * madeN x + 1 + 1 + 1) (min ((madeN x : Int) - (dg x (8 + 8 * madeN x + 1) ((madeN x : Int)))) 3))) + 1) 4) fl.1 fl.2) (fun v113 s113 R113 => ?_) XT.stop
            obtain ⟨rfl, rfl⟩ := R113
            dsimp only [lcA, lnA]
            refine ⟨inferInstance, ?_⟩
            refine XT.q rfl rfl (Q.add rfl rfl ⟨by omega, by omega⟩) ?_
            refine XT.q rfl rfl (Q.fieldAddr rfl) ?_
            refine XT.st rfl rfl rfl rfl rfl ⟨inferInstance, ?_⟩ XT.stop
            refine XT.done ?_
            exact mtr14 (()) _ _ trivial (.base 18 rfl rfl) inferInstance
           ·skip
            refine XT.call rfl rfl Tryz.call143 rfl rfl rfl (next_spec vx hx x b10 (8 + 8 * madeN x + 1 + 1 + 1 + 1) pm4 (min ((madeN x : Int) - (dg x (8 + 8 * madeN x + 1) ((madeN x : Int))) - (1 + (dg x (8 + 8 * madeN x + 1 + 1 + 1) (min ((madeN x : Int) - (dg x (8 + 8 * madeN x + 1) ((madeN x : Int)))) 3))) + 1) 4) fl.1 fl.2) (fun v113 s113 R113 => ?_) XT.stop
            obtain ⟨rfl, rfl⟩ := R113
            dsimp only [lcA, lnA]
            refine ⟨inferInstance, ?_⟩
            refine XT.qs rfl rfl (Q.ld rfl rfl) ⟨inferInstance, ?_⟩ XT.stop
            refine XT.q rfl rfl (Q.add rfl rfl ⟨by omega, by omega⟩) ?_
            refine XT.q rfl rfl (Q.add rfl rfl ⟨by omega, by omega⟩) ?_
            refine XT.q rfl rfl (Q.fieldAddr rfl) ?_
            refine XT.st rfl rfl rfl rfl rfl ⟨inferInstance, ?_⟩ XT.stop
            refine XT.done ?_
            exact mtr14 (()) _ _ trivial (.base 18 rfl rfl) inferInstance
          ·skip
           refine XT.qs rfl rfl (Q.ld rfl rfl) ⟨inferInstance, ?_⟩ ?_
           ·skip
            refine XT.qs rfl rfl (Q.ld rfl rfl) ⟨inferInstance, ?_⟩ ?_
            ·skip
             refine XT.q rfl rfl (Q.add rfl rfl ⟨by omega, by omega⟩) ?_
             refine XT.call rfl rfl Tryz.call143 rfl rfl rfl (next_spec vx hx x b10 (8 + 8 * madeN x + 1 + 1 + 1 + 1) pm4 (min ((madeN x : Int) - (dg x (8 + 8 * madeN x + 1) ((madeN x : Int))) - (1 + (dg x (8 + 8 * madeN x + 1 + 1 + 1) (min ((madeN x : Int) - (dg x (8 + 8 * madeN x + 1) ((madeN x : Int)))) 3))) + 1) 4) fl.1 fl.2) (fun v113 s113 R113 => ?_) XT.stop
             obtain ⟨rfl, rfl⟩ := R113
             dsimp only [lcA, lnA]
             refine ⟨inferInstance, ?_⟩
             refine XT.q rfl rfl (Q.add rfl rfl ⟨by omega, by omega⟩) ?_
             refine XT.q rfl rfl (Q.fieldAddr rfl) ?_
             refine XT.st rfl rfl rfl rfl rfl ⟨inferInstance, ?_⟩ XT.stop
             refine XT.done ?_
             exact mtr14 (()) _ _ trivial (.base 18 rfl rfl) inferInstance
            ·skip
             refine XT.call rfl rfl Tryz.call143 rfl rfl rfl (next_spec vx hx x b10 (8 + 8 * madeN x + 1 + 1 + 1 + 1) pm4 (min ((madeN x : Int) - (dg x (8 + 8 * madeN x + 1) ((madeN x : Int))) - (1 + (dg x (8 + 8 * madeN x + 1 + 1 + 1) (min ((madeN x : Int) - (dg x (8 + 8 * madeN x + 1) ((madeN x : Int)))) 3))) + 1) 4) fl.1 fl.2) (fun v113 s113 R113 => ?_) XT.stop
             obtain ⟨rfl, rfl⟩ := R113
             dsimp only [lcA, lnA]
             refine ⟨inferInstance, ?_⟩
             refine XT.qs rfl rfl (Q.ld rfl rfl) ⟨inferInstance, ?_⟩ XT.stop
             refine XT.q rfl rfl (Q.add rfl rfl ⟨by omega, by omega⟩) ?_
             refine XT.q rfl rfl (Q.add rfl rfl ⟨by omega, by omega⟩) ?_
             refine XT.q rfl rfl (Q.fieldAddr rfl) ?_
             refine XT.st rfl rfl rfl rfl rfl ⟨inferInstance, ?_⟩ XT.stop
             refine XT.done ?_
             exact mtr14 (()) _ _ trivial (.base 18 rfl rfl) inferInstance
           ·skip
            refine XT.call rfl rfl Tryz.call143 rfl rfl rfl (next_spec vx hx x b10 (8 + 8 * madeN x + 1 + 1 + 1 + 1) pm4 (min ((madeN x : Int) - (dg x (8 + 8 * madeN x + 1) ((madeN x : Int))) - (1 + (dg x (8 + 8 * madeN x + 1 + 1 + 1) (min ((madeN x : Int) - (dg x (8 + 8 * madeN x + 1) ((madeN x : Int)))) 3))) + 1) 4) fl.1 fl.2) (fun v113 s113 R113 => ?_) XT.stop
            obtain ⟨rfl, rfl⟩ := R113
            dsimp only [lcA, lnA]
            refine ⟨inferInstance, ?_⟩
            refine XT.qs rfl rfl (Q.ld rfl rfl) ⟨inferInstance, ?_⟩ ?_
            ·skip
             refine XT.qs rfl rfl (Q.ld rfl rfl) ⟨inferInstance, ?_⟩ XT.stop
             refine XT.q rfl rfl (Q.add rfl rfl ⟨by omega, by omega⟩) ?_
             refine XT.q rfl rfl (Q.add rfl rfl ⟨by omega, by omega⟩) ?_
             refine XT.q rfl rfl (Q.fieldAddr rfl) ?_
             refine XT.st rfl rfl rfl rfl rfl ⟨inferInstance, ?_⟩ XT.stop
             refine XT.done ?_
             exact mtr14 (()) _ _ trivial (.base 18 rfl rfl) inferInstance
            ·skip
             refine XT.qs rfl rfl (Q.ld rfl rfl) ⟨inferInstance, ?_⟩ XT.stop
             refine XT.qs rfl rfl (Q.ld rfl rfl) ⟨inferInstance, ?_⟩ XT.stop
             refine XT.q rfl rfl (Q.add rfl rfl ⟨by omega, by omega⟩) ?_
             refine XT.q rfl rfl (Q.add rfl rfl ⟨by omega, by omega⟩) ?_
             refine XT.q rfl rfl (Q.fieldAddr rfl) ?_
             refine XT.st rfl rfl rfl rfl rfl ⟨inferInstance, ?_⟩ XT.stop
             refine XT.done ?_
             exact mtr14 (()) _ _ trivial (.base 18 rfl rfl) inferInstance
   ·skip
    refine XK.skip (XK.seq (XK.region rfl ?_))
    refine XO.q (Q.ldA [_, _, _, _, _, _, _, _] rfl rfl rfl) ?_
    refine XO.st rfl rfl rfl ?_
    refine XO.done ?_
    refine XK.rt [kh, emp] Tryz.func81 Tryz.results81 (.cell [_, _, _, _, _, _, _, _] rfl rfl rfl (.n)) ?_
    exact ⟨vh, _, kh, emp, rfl, rfl, OH, by rw [show (madeD x).jobs = [] from if_neg c1]; exact nJ⟩
 ·intro mtr4
  dsimp only [lcA, lnA] at mtr4
  refine XK.drawn [0, 1, 2, 6, 7, 8, 12, 15, 4, 10, 17, 18, 14, 20, 21, 23, 24] [] [] (.q 0 (.q 1 (.q 2 (.q 6 (.q 7 (.q 8 (.q 12 (.q 15 (.br 3 true (.q 4 (.br 5 true (.br 9 true (.q 10 (.q 17 (.q 18 (.br 11 true (.br 13 true (.q 14 (.br 16 true (.br 19 true (.q 20 (.q 21 (.br 22 true (.q 23 (.q 24 (.br 25 true .done .stop))) .stop))) .stop) .stop)) .stop) .stop)))) .stop) (.br 9 true (.q 10 (.br 5 true (.q 17 (.q 18 (.br 11 true (.br 13 true (.q 14 (.br 16 true (.br 19 true (.q 20 (.q 21 (.br 22 true (.q 23 (.q 24 (.br 25 true .done .stop))) .stop))) .stop) .stop)) .stop) .stop))) .stop)) .stop))) (.br 9 true (.q 10 (.br 3 true (.q 4 (.br 5 true (.q 17 (.q 18 (.br 11 true (.br 13 true (.q 14 (.br 16 true (.br 19 true (.q 20 (.q 21 (.br 22 true (.q 23 (.q 24 (.br 25 true .done .stop))) .stop))) .stop) .stop)) .stop) .stop))) .stop)) .stop)) .stop)))))))))) Tryz.mixed rfl (by kernel_rfl) ?_
  refine XT.q rfl rfl (Q.move rfl) ?_
  refine XT.q rfl rfl (Q.fieldAddr rfl) ?_
  refine XT.q rfl rfl (Q.fieldAddr rfl) ?_
  refine XT.q rfl rfl (Q.move rfl) ?_
  refine XT.q rfl rfl (Q.fieldAddr rfl) ?_
  refine XT.q rfl rfl (Q.fieldAddr rfl) ?_
  refine XT.q rfl rfl (Q.move rfl) ?_
  refine XT.q rfl rfl (Q.move rfl) ?_
  refine XT.qs rfl rfl (Q.ld rfl rfl) ⟨inferInstance, ?_⟩ ?_
  ·skip
   refine XT.q rfl rfl (Q.add rfl rfl ⟨by omega, by omega⟩) ?_
   refine XT.call rfl rfl Tryz.call143 rfl rfl rfl (next_spec vx hx x b10 (0 + 1 + 1 + 1) pz3 ((dg x (0 + 1 + 1) (7)) + 1) f7.1 f7.2) (fun v26 s26 R26 => ?_) ?_
   ·skip
    obtain ⟨rfl, rfl⟩ := R26
    dsimp only [lcA, lnA]
    refine ⟨inferInstance, ?_⟩
    refine XT.qs rfl rfl (Q.ld rfl rfl) ⟨inferInstance, ?_⟩ XT.stop
    refine XT.q rfl rfl (Q.add rfl rfl ⟨by omega, by omega⟩) ?_
    refine XT.q rfl rfl (Q.fieldAddr rfl) ?_
    refine XT.q rfl rfl (Q.fieldAddr rfl) ?_
    refine XT.call rfl rfl Tryz.call143 rfl rfl rfl (next_spec vx hx x b10 (0 + 1 + 1 + 1 + 1) pz4 ((dg x (0 + 1 + 1) (7)) + 1) f7.1 f7.2) (fun v32 s32 R32 => ?_) XT.stop
    obtain ⟨rfl, rfl⟩ := R32
    dsimp only [lcA, lnA]
    refine ⟨inferInstance, ?_⟩
    refine XT.call rfl rfl Tryz.call143 rfl rfl rfl (next_spec vx hx x b10 (0 + 1 + 1 + 1 + 1 + 1) pz5 (2) (by decide) (by decide)) (fun v34 s34 R34 => ?_) XT.stop
    obtain ⟨rfl, rfl⟩ := R34
    dsimp only [lcA, lnA]
    refine ⟨inferInstance, ?_⟩
    refine XT.q rfl rfl (Q.mul rfl rfl ⟨by omega, by omega⟩) ?_
    refine XT.call rfl rfl Tryz.call143 rfl rfl rfl (next_spec vx hx x b10 (0 + 1 + 1 + 1 + 1 + 1 + 1) pz6 (5) (by decide) (by decide)) (fun v37 s37 R37 => ?_) XT.stop
    obtain ⟨rfl, rfl⟩ := R37
    dsimp only [lcA, lnA]
    refine ⟨inferInstance, ?_⟩
    refine XT.st rfl rfl rfl rfl rfl ⟨inferInstance, ?_⟩ XT.stop
    refine XT.q rfl rfl (Q.fieldAddr rfl) ?_
    refine XT.q rfl rfl (Q.fieldAddr rfl) ?_
    refine XT.st rfl rfl rfl rfl rfl ⟨inferInstance, ?_⟩ XT.stop
    refine XT.q rfl rfl (Q.fieldAddr rfl) ?_
    refine XT.q rfl rfl (Q.fieldAddr rfl) ?_
    refine XT.st rfl rfl rfl rfl rfl ⟨inferInstance, ?_⟩ XT.stop
    refine XT.done ?_
    exact mtr4 (()) _ _ trivial (.base 23 rfl rfl) inferInstance
   ·skip
    refine XT.qs rfl rfl (Q.ld rfl rfl) ⟨inferInstance, ?_⟩ XT.stop
    refine XT.q rfl rfl (Q.add rfl rfl ⟨by omega, by omega⟩) ?_
    refine XT.call rfl rfl Tryz.call143 rfl rfl rfl (next_spec vx hx x b10 (0 + 1 + 1 + 1) pz3 ((dg x (0 + 1 + 1) (7)) + 1) f7.1 f7.2) (fun v26 s26 R26 => ?_) XT.stop
    obtain ⟨rfl, rfl⟩ := R26
    dsimp only [lcA, lnA]
    refine ⟨inferInstance, ?_⟩
    refine XT.q rfl rfl (Q.fieldAddr rfl) ?_
    refine XT.q rfl rfl (Q.fieldAddr rfl) ?_
    refine XT.call rfl rfl Tryz.call143 rfl rfl rfl (next_spec vx hx x b10 (0 + 1 + 1 + 1 + 1) pz4 ((dg x (0 + 1 + 1) (7)) + 1) f7.1 f7.2) (fun v32 s32 R32 => ?_) XT.stop
    obtain ⟨rfl, rfl⟩ := R32
    dsimp only [lcA, lnA]
    refine ⟨inferInstance, ?_⟩
    refine XT.call rfl rfl Tryz.call143 rfl rfl rfl (next_spec vx hx x b10 (0 + 1 + 1 + 1 + 1 + 1) pz5 (2) (by decide) (by decide)) (fun v34 s34 R34 => ?_) XT.stop
    obtain ⟨rfl, rfl⟩ := R34
    dsimp only [lcA, lnA]
    refine ⟨inferInstance, ?_⟩
    refine XT.q rfl rfl (Q.mul rfl rfl ⟨by omega, by omega⟩) ?_
    refine XT.call rfl rfl Tryz.call143 rfl rfl rfl (next_spec vx hx x b10 (0 + 1 + 1 + 1 + 1 + 1 + 1) pz6 (5) (by decide) (by decide)) (fun v37 s37 R37 => ?_) XT.stop
    obtain ⟨rfl, rfl⟩ := R37
    dsimp only [lcA, lnA]
    refine ⟨inferInstance, ?_⟩
    refine XT.st rfl rfl rfl rfl rfl ⟨inferInstance, ?_⟩ XT.stop
    refine XT.q rfl rfl (Q.fieldAddr rfl) ?_
    refine XT.q rfl rfl (Q.fieldAddr rfl) ?_
    refine XT.st rfl rfl rfl rfl rfl ⟨inferInstance, ?_⟩ XT.stop
    refine XT.q rfl rfl (Q.fieldAddr rfl) ?_
    refine XT.q rfl rfl (Q.fieldAddr rfl) ?_
    refine XT.st rfl rfl rfl rfl rfl ⟨inferInstance, ?_⟩ XT.stop
    refine XT.done ?_
    exact mtr4 (()) _ _ trivial (.base 23 rfl rfl) inferInstance
  ·skip
   refine XT.qs rfl rfl (Q.ld rfl rfl) ⟨inferInstance, ?_⟩ XT.stop
   refine XT.q rfl rfl (Q.add rfl rfl ⟨by omega, by omega⟩) ?_
   refine XT.qs rfl rfl (Q.ld rfl rfl) ⟨inferInstance, ?_⟩ XT.stop
   refine XT.q rfl rfl (Q.add rfl rfl ⟨by omega, by omega⟩) ?_
   refine XT.call rfl rfl Tryz.call143 rfl rfl rfl (next_spec vx hx x b10 (0 + 1 + 1 + 1) pz3 ((dg x (0 + 1 + 1) (7)) + 1) f7.1 f7.2) (fun v26 s26 R26 => ?_) XT.stop
   obtain ⟨rfl, rfl⟩ := R26
   dsimp only [lcA, lnA]
   refine ⟨inferInstance, ?_⟩
   refine XT.q rfl rfl (Q.fieldAddr rfl) ?_
   refine XT.q rfl rfl (Q.fieldAddr rfl) ?_
   refine XT.call rfl rfl Tryz.call143 rfl rfl rfl (next_spec vx hx x b10 (0 + 1 + 1 + 1 + 1) pz4 ((dg x (0 + 1 + 1) (7)) + 1) f7.1 f7.2) (fun v32 s32 R32 => ?_) XT.stop
   obtain ⟨rfl, rfl⟩ := R32
   dsimp only [lcA, lnA]
   refine ⟨inferInstance, ?_⟩
   refine XT.call rfl rfl Tryz.call143 rfl rfl rfl (next_spec vx hx x b10 (0 + 1 + 1 + 1 + 1 + 1) pz5 (2) (by decide) (by decide)) (fun v34 s34 R34 => ?_) XT.stop
   obtain ⟨rfl, rfl⟩ := R34
   dsimp only [lcA, lnA]
   refine ⟨inferInstance, ?_⟩
   refine XT.q rfl rfl (Q.mul rfl rfl ⟨by omega, by omega⟩) ?_
   refine XT.call rfl rfl Tryz.call143 rfl rfl rfl (next_spec vx hx x b10 (0 + 1 + 1 + 1 + 1 + 1 + 1) pz6 (5) (by decide) (by decide)) (fun v37 s37 R37 => ?_) XT.stop
   obtain ⟨rfl, rfl⟩ := R37
   dsimp only [lcA, lnA]
   refine ⟨inferInstance, ?_⟩
   refine XT.st rfl rfl rfl rfl rfl ⟨inferInstance, ?_⟩ XT.stop
   refine XT.q rfl rfl (Q.fieldAddr rfl) ?_
   refine XT.q rfl rfl (Q.fieldAddr rfl) ?_
   refine XT.st rfl rfl rfl rfl rfl ⟨inferInstance, ?_⟩ XT.stop
   refine XT.q rfl rfl (Q.fieldAddr rfl) ?_
   refine XT.q rfl rfl (Q.fieldAddr rfl) ?_
   refine XT.st rfl rfl rfl rfl rfl ⟨inferInstance, ?_⟩ XT.stop
   refine XT.done ?_
   exact mtr4 (()) _ _ trivial (.base 23 rfl rfl) inferInstance
end Go.X.Ma

set_option linter.unusedSimpArgs false
set_option linter.unusedVariables false
set_option maxRecDepth 20000
namespace Go.X
open Go.Proofs
theorem planned_spec (vx : Value) (hx : PHeap) (x : List UInt8) [jx : Arr vx encU8 1 hx x] : Spec Tryz.prog 31 #[vx] [] [hx] (fun v hs => ∃ vh vj vs vc kh kj K kc, v = .tuple #[.agg #[vh, .int .i64 (Ma.madeD x).store.energy, .int .i64 (Ma.madeD x).store.full, .int .i64 (Ma.madeD x).store.power, .int .i64 (Ma.madeD x).store.fin, vj, .int .i64 (Ma.madeD x).most, .int .i64 (Ma.madeD x).peak], .agg #[vs, vc, .int .i64 (Ma.bestG (Ma.madeD x)).1.cost], .bool (decide ((Ma.bestG (Ma.madeD x)).2 = 0))] ∧ hs = [kh, kj, K, kc] ∧ OArr vh Ma.encHour 6 146 kh (Ma.madeD x).hours ∧ OArr vj Ma.encJob 4 292 kj (Ma.madeD x).jobs ∧ One vs ∧ Arr vs encI 1 K (Ma.bestG (Ma.madeD x)).1.starts ∧ OArr vc encI 1 3 kc (Ma.bestG (Ma.madeD x)).1.charge) := by
 refine Spec.intro (fn := Tryz.f31) (N := 21) Tryz.func31 rfl Tryz.ntmps31 rfl fun B => ?_
 refine XK.seq (XK.region rfl ?_)
 refine XO.alloc fun b2 => ?_
 refine XO.alloc fun b3 => ?_
 refine XO.q (Q.assign rfl) (XO.done (XK.seq (XK.region rfl (XO.q (Q.move rfl) ?_))))
 refine XO.call Tryz.call81 rfl rfl rfl (Ma.Made_spec vx hx x) fun v10 s10 R10 => ?_
 obtain ⟨vh, vj, kh, kj, rfl, rfl, OH, OJ⟩ := R10
 dsimp only [lcA, lnA]
 refine XO.alloc fun b5 => ?_
 refine XO.st rfl rfl rfl ?_
 refine XO.done (XK.seq (XK.region rfl ?_))
 refine XO.q (Q.ldA [_, _, _, _, _, _, _, _] rfl rfl rfl) ?_
 refine XO.call Tryz.call82 rfl rfl rfl (Ma.Best_spec (Ma.madeD x) vh vj kh kj) fun v13 s13 R13 => ?_
 obtain ⟨vs, vc, vp, K, kc, kp, pus, KP, tabs, rfl, rfl, ov, AS, OC, OP, RK, t1, t2⟩ := R13
 dsimp only [lcA, lnA]
 refine XO.q (Q.move rfl) ?_
 refine XO.q (Q.extract rfl rfl) ?_
 refine XO.q (Q.extract rfl rfl) ?_
 refine XO.q (Q.extract rfl rfl) ?_
 refine XO.alloc fun b6 => ?_
 refine XO.st rfl rfl rfl ?_
 refine XO.q (Q.assign rfl) (XO.q (Q.assign rfl) (XO.done (XK.seq ?_)))
 refine XK.drawn [0, 1, 2, 3, 6] [b5, b6] [kh, kj, K, kc] (.q 0 (.q 1 (.q 2 (.q 3 (.br 4 true (.br 5 true (.q 6 .done) .stop) .stop))))) Tryz.mixed rfl (by kernel_rfl) ?_
 refine XT.q rfl rfl (Q.ldA [_, _, _, _, _, _, _, _] rfl rfl rfl) ?_
 refine XT.q rfl rfl (Q.ldA [_, _, _] rfl rfl rfl) ?_
 refine XT.q rfl rfl (Q.move rfl) ?_
 refine XT.q rfl rfl (Q.eql rfl rfl) ?_
 refine XT.st rfl rfl rfl rfl rfl ⟨inferInstance, ?_⟩ XT.stop
 refine XT.st rfl rfl rfl rfl rfl ⟨inferInstance, ?_⟩ XT.stop
 refine XT.q rfl rfl (Q.assign rfl) ?_
 refine XT.done ?_
 refine XK.rt [kh, kj, K, kc] Tryz.func31 Tryz.results31 (.cell [_, _, _, _, _, _, _, _] rfl rfl rfl (.cell [_, _, _] rfl rfl rfl (.t rfl .n))) ?_
 exact ⟨vh, vj, vs, vc, kh, kj, K, kc, rfl, rfl, OH, OJ, ov, AS, OC⟩
end Go.X

/- The readings of a plan's meters: a chain of them is accepted. No condition. -/
set_option linter.unusedVariables false
namespace Go.X
open Ma Me
def readsTo (f : Nat → KRow) : Nat → List MRd
  | 0 => []
  | i + 1 => readsTo f i ++ [⟨1, (i : Nat), (f i).bought⟩, ⟨2, (i : Nat), (f i).sold⟩, ⟨3, (i : Nat), (f i).used⟩]
theorem reads_len (f : Nat → KRow) : ∀ n, (readsTo f n).length = 3 * n
  | 0 => rfl
  | n + 1 => by rw [readsTo, List.length_append, reads_len f n]; simp only [List.length_cons, List.length_nil]; omega
def rdAt (f : Nat → KRow) (k : Nat) : MRd := ⟨((k % 3 + 1 : Nat) : Int), ((k / 3 : Nat) : Int), if k % 3 = 0 then (f (k / 3)).bought else if k % 3 = 1 then (f (k / 3)).sold else (f (k / 3)).used⟩
theorem reads_at (f : Nat → KRow) : ∀ n k, k < 3 * n → (readsTo f n).getD k default = rdAt f k
  | 0, k, h => by omega
  | n + 1, k, h => by
    rw [readsTo, List.getD_eq_getElem?_getD, List.getElem?_append, reads_len]
    split
    · rename_i h1
      rw [← List.getD_eq_getElem?_getD]; exact reads_at f n k h1
    · rename_i h1
      have e : k = 3 * n ∨ k = 3 * n + 1 ∨ k = 3 * n + 2 := by omega
      rcases e with rfl | rfl | rfl
      · rw [show 3 * n - 3 * n = 0 by omega, rdAt, show 3 * n % 3 = 0 by omega, show 3 * n / 3 = n by omega]; rfl
      · rw [show 3 * n + 1 - 3 * n = 1 by omega, rdAt, show (3 * n + 1) % 3 = 1 by omega, show (3 * n + 1) / 3 = n by omega]; rfl
      · rw [show 3 * n + 2 - 3 * n = 2 by omega, rdAt, show (3 * n + 2) % 3 = 2 by omega, show (3 * n + 2) / 3 = n by omega]; rfl
theorem reads_ok {f : Nat → KRow} {n : Nat} (hn : n ≤ 24) (hf : ∀ i, i < n → (0 ≤ (f i).bought ∧ (f i).bought ≤ 1000000) ∧ (0 ≤ (f i).sold ∧ (f i).sold ≤ 1000000) ∧ 0 ≤ (f i).used ∧ (f i).used ≤ 1000000) : RdsOk (readsTo f n) where
  rng := fun k hk => by
    rw [reads_len] at hk
    rw [reads_at f n k hk]
    have h := hf (k / 3) (by omega)
    have hv : 0 ≤ (rdAt f k).value ∧ (rdAt f k).value ≤ 1000000000 := by
      unfold rdAt
      dsimp only
      split
      · omega
      · split <;> omega
    have hm : 0 ≤ (rdAt f k).meter ∧ (rdAt f k).meter ≤ 63 := by unfold rdAt; dsimp only; omega
    have hh : 0 ≤ (rdAt f k).hour ∧ (rdAt f k).hour ≤ 1000000000 := by unfold rdAt; dsimp only; omega
    unfold badRd
    rw [not_or, Decidable.not_not, Decidable.not_not]
    unfold inA
    rw [Bool.not_eq_true', Bool.not_eq_true', List.any_cons, List.any_nil, Bool.or_false, List.any_cons, List.any_cons, List.any_nil, Bool.or_false]
    unfold outP
    simp only [Bool.or_eq_false_iff, decide_eq_false_iff_not]
    omega
  inj := fun a b ha hb h => by
    rw [reads_len] at ha hb
    rw [reads_at f n a ha, reads_at f n b hb] at h
    unfold keyR rdAt at h
    have h1 := (Prod.mk.inj h).1
    have h2 := (Prod.mk.inj h).2
    dsimp only at h1 h2
    omega
def pickM (r : KRow) (m : Int) : Int := if m = 1 then r.bought else if m = 2 then r.sold else if m = 3 then r.used else 0
def sumP (f : Nat → KRow) (m : Int) : Nat → Int
  | 0 => 0
  | i + 1 => sumP f m i + pickM (f i) m
def valM (f : Nat → KRow) (m : Int) (j : Nat) : Int := if (rdAt f j).meter = m then (rdAt f j).value else 0
theorem val_sum (f : Nat → KRow) (m : Int) : ∀ n, sumTo (valM f m) (3 * n) = sumP f m n
  | 0 => rfl
  | n + 1 => by
    rw [show 3 * (n + 1) = 3 * n + 1 + 1 + 1 by omega, sumTo, sumTo, sumTo, val_sum f m n, sumP]
    have e0 : valM f m (3 * n) = if (1 : Int) = m then (f n).bought else 0 := by
      unfold valM rdAt; dsimp only; rw [show 3 * n % 3 = 0 by omega, show 3 * n / 3 = n by omega]; rfl
    have e1 : valM f m (3 * n + 1) = if (2 : Int) = m then (f n).sold else 0 := by
      unfold valM rdAt; dsimp only; rw [show (3 * n + 1) % 3 = 1 by omega, show (3 * n + 1) / 3 = n by omega]; rfl
    have e2 : valM f m (3 * n + 1 + 1) = if (3 : Int) = m then (f n).used else 0 := by
      unfold valM rdAt; dsimp only; rw [show (3 * n + 1 + 1) % 3 = 2 by omega, show (3 * n + 1 + 1) / 3 = n by omega]; rfl
    rw [e0, e1, e2]
    unfold pickM
    split <;> split <;> split <;> (try split) <;> (try split) <;> (try split) <;> omega
theorem sum_reads (f : Nat → KRow) (m : Int) (n : Nat) : sumM (readsTo f n) m (readsTo f n).length = sumP f m n := by
  rw [← val_sum, reads_len]
  unfold sumM
  exact sum_congr fun j hj => by unfold meterV valM; rw [reads_at f n j hj]
theorem sumP_row (f : Nat → KRow) : ∀ n, sumP f 1 n = (sumRow f n).bought ∧ sumP f 2 n = (sumRow f n).sold ∧ sumP f 3 n = (sumRow f n).used
  | 0 => ⟨rfl, rfl, rfl⟩
  | n + 1 => by
    obtain ⟨a, b, c⟩ := sumP_row f n
    simp only [sumP, sumRow, addRow, a, b, c]
    exact ⟨rfl, rfl, rfl⟩
theorem has_reads (f : Nat → KRow) {n : Nat} (hn : 1 ≤ n) (m : Int) : hasM (readsTo f n) m = decide (m = 1 ∨ m = 2 ∨ m = 3) := by
  rw [Bool.eq_iff_iff, decide_eq_true_eq]
  unfold hasM
  rw [List.any_eq_true]
  have at' : ∀ k, k < 3 * n → rdAt f k ∈ readsTo f n := fun k hk => by
    rw [← reads_at f n k hk, List.getD_eq_getElem?_getD, List.getElem?_eq_getElem (by rw [reads_len]; exact hk)]
    exact List.getElem_mem _
  constructor
  · rintro ⟨r, hr, he⟩
    rw [decide_eq_true_eq] at he
    obtain ⟨k, hk, rfl⟩ := List.mem_iff_getElem.1 hr
    have hk2 := hk
    rw [reads_len] at hk2
    have e := reads_at f n k hk2
    rw [List.getD_eq_getElem?_getD, List.getElem?_eq_getElem hk, Option.getD_some] at e
    rw [e] at he
    unfold rdAt at he
    dsimp only at he
    omega
  · rintro (rfl | rfl | rfl)
    · exact ⟨_, at' 0 (by omega), rfl⟩
    · exact ⟨_, at' 1 (by omega), rfl⟩
    · exact ⟨_, at' 2 (by omega), rfl⟩
theorem tab_reads (f : Nat → KRow) {n : Nat} (hn : 1 ≤ n) : tabTo (readsTo f n) 64 = [(1, (sumRow f n).bought), (2, (sumRow f n).sold), (3, (sumRow f n).used)] := by
  have hi : ∀ k, tabTo (readsTo f n) (4 + k) = tabTo (readsTo f n) 4 := fun k => by
    induction k with
    | zero => rfl
    | succ k ih =>
      rw [show 4 + (k + 1) = (4 + k) + 1 by omega, tabTo, if_neg, ih]
      rw [has_reads f hn, decide_eq_true_eq]
      omega
  rw [show 64 = 4 + 60 by rfl, hi 60]
  obtain ⟨a, b, c⟩ := sumP_row f n
  simp only [tabTo, has_reads f hn, sum_reads]
  rw [← a, ← b, ← c]
  rfl
end Go.X

/- The bill of a plan's signed meters. No condition. -/
set_option linter.unusedVariables false
namespace Go.X
open Ma
def priceTo (d : KDay) (n : Nat) : List Int := (List.range 24).map fun i => if i < n then (d.hours.getD i default).buy else 0
theorem price_len (d : KDay) (n : Nat) : (priceTo d n).length = 24 := by rw [priceTo, List.length_map, List.length_range]
theorem price_at (d : KDay) (n : Nat) {i : Nat} (h : i < 24) : (priceTo d n).getD i 0 = if i < n then (d.hours.getD i default).buy else 0 := by
  rw [priceTo, List.getD_eq_getElem?_getD, List.getElem?_map, List.getElem?_range h]; rfl
theorem price_el (d : KDay) (m : Nat) {j : Nat} (h : j < (priceTo d m).length) : (priceTo d m)[j] = if j < m then (d.hours.getD j default).buy else 0 := by simp only [priceTo, List.getElem_map, List.getElem_range]
theorem price_step (d : KDay) {n : Nat} (h : n < 24) : (priceTo d n).set n (d.hours.getD n default).buy = priceTo d (n + 1) := by
  apply List.ext_getElem
  · rw [List.length_set, price_len, price_len]
  · intro i h1 h2
    rw [price_len] at h2
    rw [List.getElem_set, price_el, price_el]
    split
    · rename_i e; subst e; rw [if_pos (by omega)]
    · rename_i e
      by_cases hi : i < n
      · rw [if_pos hi, if_pos (by omega)]
      · rw [if_neg hi, if_neg (by omega)]
def boughtTo (f : Nat → KRow) (n : Nat) : List Int := (List.range n).map fun i => (f i).bought
theorem bought_snoc (f : Nat → KRow) (n : Nat) : boughtTo f (n + 1) = boughtTo f n ++ [(f n).bought] := by
  rw [boughtTo, boughtTo, List.range_succ, List.map_append]; rfl
theorem bought_len (f : Nat → KRow) (n : Nat) : (boughtTo f n).length = n := by rw [boughtTo, List.length_map, List.length_range]
theorem bill_credit (p v : List Int) : Me.creditL ⟨p, 0, [], 100⟩ ⟨v, 50000⟩ = 0 := by
  have h : Me.percentL (⟨p, 0, [], 100⟩ : Me.MTariff) 50000 = 0 := rfl
  unfold Me.creditL
  dsimp only
  rw [h, Int.mul_zero]
  rfl
theorem bought_at (f : Nat → KRow) {n i : Nat} (h : i < n) : (boughtTo f n).getD i 0 = (f i).bought := by
  rw [boughtTo, List.getD_eq_getElem?_getD, List.getElem?_map, List.getElem?_range h]; rfl
theorem energy_bought (f : Nat → KRow) (n : Nat) : Me.energyTo (boughtTo f n) n = (sumRow f n).bought := by
  have e : ∀ k, sumTo (fun i => (f i).bought) k = (sumRow f k).bought := fun k => by
    induction k with
    | zero => rfl
    | succ k ih => rw [sumTo, sumRow, addRow, ih]
  rw [← e n]
  exact sum_congr fun i hi => bought_at f hi
theorem cost_bought (d : KDay) (f : Nat → KRow) {n : Nat} (hn : n ≤ 24) : Me.costTo (priceTo d n) (boughtTo f n) n = sumTo (fun i => (f i).bought * (d.hours.getD i default).buy) n :=
  sum_congr fun i hi => by
    rw [bought_at f hi, show i % 24 = i by omega, price_at d n (by omega), if_pos hi]
theorem plan_cost {d : KDay} {s ch : List Int} {c : Int} (h : formG d ⟨s, ch, c⟩ = (needsL d s, 0)) : ∀ n, n ≤ d.hours.length → sumTo (fun i => (rowA d s ch i).bought * (d.hours.getD i default).buy) n - sumTo (fun i => (rowA d s ch i).sold * (d.hours.getD i default).sell) n = costTo d (needsL d s) ch n
  | 0, _ => rfl
  | n + 1, hn => by
    have ih := plan_cost h n (by omega)
    have r := (row_is h (show n < d.hours.length by omega)).cost
    rw [sumTo, sumTo, r]
    omega
theorem bill_fine {d : KDay} {f : Nat → KRow} {n : Nat} (hn : n ≤ 24) (hd : ∀ i, i < n → 0 ≤ (d.hours.getD i default).buy ∧ (d.hours.getD i default).buy ≤ 1000) (hf : ∀ i, i < n → 0 ≤ (f i).bought ∧ (f i).bought ≤ 100000) :
    Me.makeG ⟨priceTo d n, 0, [], 100⟩ ⟨boughtTo f n, 50000⟩ = (⟨(sumRow f n).bought, sumTo (fun i => (f i).bought * (d.hours.getD i default).buy) n, 0, sumTo (fun i => (f i).bought * (d.hours.getD i default).buy) n⟩, 0) := by
  have tk : Me.TOk11 ⟨priceTo d n, 0, [], 100⟩ := ⟨price_len d n, Nat.zero_le _, fun x hx => by
    obtain ⟨i, hi, rfl⟩ := List.mem_map.1 hx
    split
    · exact hd i ‹_›
    · decide, ⟨Int.le_refl _, by dsimp only; omega⟩, ⟨by dsimp only; omega, by dsimp only; omega⟩, fun i hi => absurd hi (Nat.not_lt_zero i)⟩
  have uk : Me.UOk11 ⟨boughtTo f n, 50000⟩ := ⟨by dsimp only; rw [bought_len]; omega, fun x hx => by
    obtain ⟨i, hi, rfl⟩ := List.mem_map.1 hx
    exact hf i (List.mem_range.1 hi), ⟨by dsimp only; omega, by dsimp only; omega⟩⟩
  have ha : Me.amountL ⟨priceTo d n, 0, [], 100⟩ ⟨boughtTo f n, 50000⟩ = sumTo (fun i => (f i).bought * (d.hours.getD i default).buy) n := by
    unfold Me.amountL
    dsimp only
    rw [bought_len, cost_bought d f hn, Int.zero_add]
  rw [Me.make_fine tk uk, Me.billL, bill_credit, ha]
  dsimp only
  rw [bought_len, energy_bought, Int.sub_zero]
end Go.X

/- What Best returns is accepted, and no possible plan costs less. No condition. -/
set_option linter.unusedVariables false
namespace Go.X.Ma
structure TabsR (d : KDay) (tabs : List (List Int)) : Prop where
  len : tabs.length = (startsL d).length
  tab : ∀ j, j < (startsL d).length → TabOk d (needsL d ((startsL d).getD j default)) (tabs.getD j default)
theorem cost_best {d : KDay} (ok : DayOk d) (b0 : (bestG d).2 = 0) : costG d (bestG d).1 = ((bestG d).1.cost, 0) := by
  have bf := best_form ok b0
  rw [costG, bf, if_neg (by simp)]
  rw [(best_law ok b0).cost]
end Go.X.Ma

/- What TopBilled needs of a best plan. No condition. -/
set_option linter.unusedVariables false
namespace Go.X
open Ma
theorem bought_small {d : KDay} {s ch : List Int} {c : Int} (h : formG d ⟨s, ch, c⟩ = (needsL d s, 0)) {i : Nat} (hi : i < d.hours.length) : (rowA d s ch i).bought ≤ 40 := by
  obtain ⟨po, _, ok, cl, _, _⟩ := plan_rng h
  have o := okAt_iffK.1 (po.ok i hi)
  have m1 := ok.m1
  have e : (rowA d s ch i).bought = max ((needsL d s).getD i default + ch.getD i default) 0 := rfl
  omega
theorem billed_cost {d : KDay} {s ch : List Int} {c : Int} (ok : DayOk d) (h : formG d ⟨s, ch, c⟩ = (needsL d s, 0)) : sumTo (fun i => (rowA d s ch i).bought * (d.hours.getD i default).buy) d.hours.length - sumTo (fun i => (rowA d s ch i).sold * (d.hours.getD i default).sell) d.hours.length + peakTo (needsL d s) ch d.hours.length * d.peak = costL d (needsL d s) ch := by
  rw [plan_cost h _ (Nat.le_refl _), costL, (plan_rng h).2.2.2.1, Int.mul_comm]
theorem best_cost {d : KDay} (ok : DayOk d) {s ch : List Int} {c : Int} (b0 : (bestG d).2 = 0) (hp : (bestG d).1 = ⟨s, ch, c⟩) : formG d ⟨s, ch, c⟩ = (needsL d s, 0) ∧ c = costL d (needsL d s) ch := by
  have h := best_form ok b0
  rw [hp] at h
  refine ⟨h, ?_⟩
  have hc := cost_best ok b0
  rw [hp, cost_yes h] at hc
  exact ((Prod.mk.inj hc).1).symm
end Go.X

/- All that TopBilled needs of the rows of a best plan. No condition. -/
set_option linter.unusedVariables false
namespace Go.X
open Ma
structure Billed (d : KDay) (f : Nat → KRow) (pk : Nat → Int) (c : Int) : Prop where
  n1 : 1 ≤ d.hours.length
  n24 : d.hours.length ≤ 24
  row : ∀ i, i < d.hours.length → (0 ≤ (f i).bought ∧ (f i).bought ≤ 40) ∧ (0 ≤ (f i).sold ∧ (f i).sold ≤ 1000000) ∧ 0 ≤ (f i).used ∧ (f i).used ≤ 1000000
  hour : ∀ i, i < d.hours.length → (0 ≤ (d.hours.getD i default).buy ∧ (d.hours.getD i default).buy ≤ 1000) ∧ 0 ≤ (d.hours.getD i default).sell ∧ (d.hours.getD i default).sell ≤ 1000
  pk0 : pk 0 = 0
  pks : ∀ i, i < d.hours.length → max (pk i) (f i).bought = pk (i + 1)
  pkr : ∀ i, i ≤ d.hours.length → 0 ≤ pk i ∧ pk i ≤ 40
  pd : 0 ≤ d.peak ∧ d.peak ≤ 1000
  cost : sumTo (fun i => (f i).bought * (d.hours.getD i default).buy) d.hours.length - sumTo (fun i => (f i).sold * (d.hours.getD i default).sell) d.hours.length + pk d.hours.length * d.peak = c
theorem billed {d : KDay} {s ch : List Int} {c : Int} (ok : DayOk d) (h : formG d ⟨s, ch, c⟩ = (needsL d s, 0)) (hc : c = costL d (needsL d s) ch) : Billed d (rowA d s ch) (peakTo (needsL d s) ch) c where
  n1 := ok.h1
  n24 := ok.h2
  row := fun i hi => by
    have r := row_is h hi
    have b := bought_small h hi
    have a := r.small.b; have a2 := r.small.d
    have k := ok.hour i hi
    have u := r.used; have l0 := k.l0; have b0 := r.b0; have s0 := r.s0
    omega
  hour := fun i hi => by
    have k := ok.hour i hi
    exact ⟨⟨k.b0, k.b1⟩, k.s0, Int.le_trans k.s1 k.b1⟩
  pk0 := rfl
  pks := fun i hi => by
    have r := row_is h hi
    exact r.peak.symm
  pkr := fun i hi => by
    have q := (plan_rng h).2.2.2.2.1 i hi
    have m := ok.m1; have m0 := q.m0; have m1 := q.m1
    omega
  pd := ⟨ok.p0, ok.p1⟩
  cost := by rw [hc]; exact billed_cost ok h
def soldTo (d : KDay) (f : Nat → KRow) (n : Nat) : Int := sumTo (fun k => (f k).sold * (d.hours.getD k default).sell) n
theorem sold_next (d : KDay) (f : Nat → KRow) (n : Nat) : soldTo d f n + (f n).sold * (d.hours.getD n default).sell = soldTo d f (n + 1) := rfl
section
variable {d : KDay} {f : Nat → KRow} {pk : Nat → Int} {c : Int} (b : Billed d f pk c)
include b
theorem sold_one {i : Nat} (hi : i < d.hours.length) : 0 ≤ (f i).sold * (d.hours.getD i default).sell ∧ (f i).sold * (d.hours.getD i default).sell ≤ 1000000000 := by
  have r := b.row i hi
  have h := b.hour i hi
  have m : (f i).sold * (d.hours.getD i default).sell ≤ 1000000 * 1000 := Int.mul_le_mul r.2.1.2 h.2.2 h.2.1 (by omega)
  exact ⟨Int.mul_nonneg r.2.1.1 h.2.1, by omega⟩
theorem sold_rng : ∀ n, n ≤ d.hours.length → 0 ≤ soldTo d f n ∧ soldTo d f n ≤ n * 1000000000 := fun n hn =>
  ⟨sum_nonneg fun i hi => (sold_one b (by omega)).1, sum_le fun i hi => (sold_one b (by omega)).2⟩
theorem due_rng : 0 ≤ sumTo (fun i => (f i).bought * (d.hours.getD i default).buy) d.hours.length ∧ sumTo (fun i => (f i).bought * (d.hours.getD i default).buy) d.hours.length ≤ d.hours.length * 40000 := by
  have one : ∀ i, i < d.hours.length → 0 ≤ (f i).bought * (d.hours.getD i default).buy ∧ (f i).bought * (d.hours.getD i default).buy ≤ 40000 := fun i hi => by
    have r := b.row i hi
    have h := b.hour i hi
    have m : (f i).bought * (d.hours.getD i default).buy ≤ 40 * 1000 := Int.mul_le_mul r.1.2 h.1.2 h.1.1 (by omega)
    exact ⟨Int.mul_nonneg r.1.1 h.1.1, by omega⟩
  exact ⟨sum_nonneg fun i hi => (one i hi).1, sum_le fun i hi => (one i hi).2⟩
theorem billed_reads : Me.RdsOk (readsTo f d.hours.length) := reads_ok b.n24 fun i hi => by
  have r := b.row i hi
  exact ⟨⟨r.1.1, by omega⟩, r.2.1, r.2.2⟩
theorem billed_table (key : Int) : Me.tableG (Me.links key (readsTo f d.hours.length) (readsTo f d.hours.length).length) = ([(1, (sumRow f d.hours.length).bought), (2, (sumRow f d.hours.length).sold), (3, (sumRow f d.hours.length).used)], 0) := by
  have ok := billed_reads b
  have l24 := b.n24
  have rl := reads_len f d.hours.length
  have ll := Me.links_len key (readsTo f d.hours.length) (readsTo f d.hours.length).length
  have e : Me.checkG 0 (Me.links key (readsTo f d.hours.length) (readsTo f d.hours.length).length) false = (((readsTo f d.hours.length).length : Int), 0) := by
    unfold Me.checkG
    rw [if_neg (by rw [ll]; omega), Me.scan_all, ll]
    intro j hj
    rw [ll] at hj
    unfold Me.chkF
    rw [Me.rds_links, ok.err hj, if_neg (by decide), if_neg (fun h => absurd h.1 (by decide))]
  unfold Me.tableG
  rw [e, if_neg (fun h => h rfl), Me.rds_links, tab_reads f b.n1]
theorem billed_make : Me.makeG ⟨priceTo d d.hours.length, 0, [], 100⟩ ⟨boughtTo f d.hours.length, 50000⟩ = (⟨(sumRow f d.hours.length).bought, sumTo (fun i => (f i).bought * (d.hours.getD i default).buy) d.hours.length, 0, sumTo (fun i => (f i).bought * (d.hours.getD i default).buy) d.hours.length⟩, 0) :=
  bill_fine b.n24 (fun i hi => (b.hour i hi).1) fun i hi => by
    have r := b.row i hi
    exact ⟨r.1.1, by omega⟩
end
end Go.X

set_option linter.unusedSimpArgs false
set_option linter.unusedVariables false
set_option maxRecDepth 20000
namespace Go.X.Me
open Go.Proofs
def encRd (x : MRd) : List Value := [.int .i64 x.meter, .int .i64 x.hour, .int .i64 x.value]
def encLink (x : MLink) : List Value := [.int .i64 x.rd.meter, .int .i64 x.rd.hour, .int .i64 x.rd.value, .int .u64 x.sign]
def encU64 (x : Int) : List Value := [.int .u64 x]
instance : KeyT Tryz.prog 161 encK2 := KeyT.pair Tryz.underlying161 inferInstance inferInstance inferInstance inferInstance
instance : KeyT Tryz.prog 3 encK1 := KeyT.int Tryz.underlying3
theorem Mix_spec (x y : Int) : Spec Tryz.prog 157 #[.int .u64 x, .int .u64 y] [] [] (fun v hs => v = .int .u64 (mixP x y) ∧ hs = []) := by
 refine Spec.intro (fn := Tryz.f157) (N := 19) Tryz.func157 rfl Tryz.ntmps157 rfl fun B => ?_
 refine XK.seq (XK.region rfl (XO.q (Q.assign rfl) (XO.done (XK.seq (XK.region rfl ?_)))))
 refine XO.q (Q.move rfl) (XO.q (Q.move rfl) ?_)
 refine XO.q (Q.xorW rfl rfl) ?_
 refine XO.q (Q.mulW rfl rfl) ?_
 refine XO.q (Q.assign rfl) (XO.done (XK.seq (XK.region rfl (XO.q (Q.move rfl) (XO.q (Q.move rfl) ?_)))))
 refine XO.q (Q.shrW rfl rfl (by omega)) ?_
 refine XO.q (Q.xorW rfl rfl) ?_
 refine XO.q (Q.mulW rfl rfl) ?_
 refine XO.q (Q.assign rfl) (XO.done (XK.seq (XK.region rfl (XO.q (Q.move rfl) (XO.q (Q.move rfl) ?_)))))
 refine XO.q (Q.shrW rfl rfl (by omega)) ?_
 refine XO.q (Q.xorW rfl rfl) ?_
 refine XO.q (Q.assign rfl) (XO.done ?_)
 refine XK.rt [] Tryz.func157 Tryz.results157 (.t rfl .n) ?_
 exact ⟨rfl, rfl⟩
theorem begin_spec (key : Int) : Spec Tryz.prog 91 #[.int .u64 key] [] [] (fun v hs => ∃ b m, v = ptr b 0 ∧ hs = [blk b [.int .u64 key, .int .u64 (mixP key 1), .map (some m)] 309, mapH m encK2 (seenL [])]) := by
 refine Spec.intro (fn := Tryz.f91) (N := 9) Tryz.func91 rfl Tryz.ntmps91 rfl fun B => ?_
 refine XK.seq (XK.region rfl (XO.q (Q.assign rfl) (XO.done (XK.seq (XK.region rfl ?_)))))
 refine XO.q (Q.move rfl) (XO.q (Q.move rfl) ?_)
 refine XO.call Tryz.call157 rfl rfl rfl (Mix_spec _ _) fun v5 s5 R5 => ?_
 obtain ⟨rfl, rfl⟩ := R5
 dsimp only [lcA, lnA]
 refine XO.map encK2 fun b6 => ?_
 refine XO.q (Q.build [_, _, _] (.c 0 1 rfl rfl rfl (.c 1 1 rfl rfl rfl (.c 2 1 rfl rfl rfl (.n _))))) ?_
 refine XO.box rfl fun b8 => ?_
 refine XO.q (Q.assign rfl) (XO.done ?_)
 refine XK.rt [blk b8 [.int .u64 key, .int .u64 (mixP key 1), .map (some b6)] 309, mapH b6 encK2 []] Tryz.func91 Tryz.results91 (.t rfl .n) ?_
 exact ⟨b8, b6, rfl, rfl⟩
def partR (key : Int) (r : MRd) : List Int := [u64 r.meter, u64 r.hour, u64 r.value, key]
def mixTo (last key : Int) (r : MRd) : Nat → Int
 | 0 => last
 | j + 1 => mixP (mixTo last key r j) ((partR key r).getD j default)
theorem mixTo_all (last key : Int) (r : MRd) : mixTo last key r 4 = sigP key last r := rfl
theorem put_spec (b m : Nat) (key last : Int) (rs : List MRd) (r : MRd) : Spec Tryz.prog 92 #[ptr b 0, .agg #[.int .i64 r.meter, .int .i64 r.hour, .int .i64 r.value]] [blk b [.int .u64 key, .int .u64 last, .map (some m)] 309, mapH m encK2 (seenL rs)] []
  (fun v hs => v = .tuple #[.int .u64 (if errR rs r = 0 then sigP key last r else 0), .int .i64 (errR rs r)] ∧ hs = [blk b [.int .u64 key, .int .u64 (if errR rs r = 0 then sigP key last r else last), .map (some m)] 309, mapH m encK2 (seenL (if errR rs r = 0 then rs ++ [r] else rs))]) := by
 have pl : (partR key r).length = 4 := rfl
 refine Spec.intro (fn := Tryz.f92) (N := 72) Tryz.func92 rfl Tryz.ntmps92 rfl fun B => ?_
 refine XK.seq (XK.region rfl ?_)
 refine XO.box rfl fun b3 => ?_
 refine XO.q (Q.assign rfl) (XO.q (Q.assign rfl) (XO.done (XK.seq (XK.seq (XK.region rfl ?_)))))
 refine XO.q (Q.fieldAddr rfl) ?_
 refine XO.q (Q.ld rfl rfl) ?_
 refine XO.lit [_] [_] [r.meter] encI (by rfl) (by rfl) rfl (by rfl) (by exact .c 0 1 rfl rfl rfl (.n _)) (fun _ => rfl) (by rfl) rfl (by infer_instance) rfl fun v11 h11 O11 => ?_
 refine XO.call Tryz.call95 rfl rfl rfl (in_spec11 63 v11 h11 [r.meter]) fun v12 s12 R12 => ?_
 obtain ⟨rfl, rfl⟩ := R12
 dsimp only [lcA, lnA]
 refine XO.q (Q.not rfl) ?_
 refine XO.q (Q.move rfl) ?_
 refine XO.q (Quiet.guardF rfl rfl fun g15 p15 => Q.fieldAddr rfl) ?_
 refine XO.q (Quiet.guardF rfl rfl fun g16 p16 => Q.ld (lzv g16 rfl) rfl) ?_
 refine XO.q (Quiet.guardF rfl rfl fun g17 p17 => Q.fieldAddr rfl) ?_
 refine XO.q (Quiet.guardF rfl rfl fun g18 p18 => Q.ld (lzv g18 rfl) rfl) ?_
 refine XO.lit1 [_, _] [_, _] [r.hour, r.value] encI rfl rfl (by rfl) (by rfl) rfl (by rfl) (fun g19 => by exact .c 0 1 (lzv g19 rfl) rfl rfl (.c 1 1 (lzv g19 rfl) rfl rfl (.n _))) (fun _ => rfl) (by rfl) rfl (fun _ => by infer_instance) rfl (fun v19 h19 O19 => ?_)
 refine XO.gcallF rfl rfl Tryz.call95 rfl (fun g20 => .c rfl (.c (lzv g20 rfl) .n)) rfl (fun g20 p20 => by haveI := O19 g20; exact in_spec11 1000000000 v19 h19 [r.hour, r.value]) ?_
 refine XO.q (Quiet.guardF rfl rfl fun g21 p21 => Q.not (lzv g21 rfl)) ?_
 refine XO.q (Q.or rfl (fun hp => lzv hp rfl)) ?_
 refine XO.done ?_
 refine XK.if rfl (fun c0 => ?_) (fun c0 => ?_)
 ·skip
  refine XK.seq (XK.region rfl (XO.q (Q.assign rfl) (XO.q (Q.assign rfl) (XO.done ?_))))
  refine XK.rt [blk b [.int .u64 key, .int .u64 last, .map (some m)] 309, mapH m encK2 (seenL rs)] Tryz.func92 Tryz.results92 (.t rfl (.t rfl .n)) ?_
  have e : errR rs r = 6 := by rw [errR, if_pos (show badRd r from c0)]
  rw [e]
  exact ⟨rfl, rfl⟩
 ·skip
  refine XK.skip (XK.seq (XK.region rfl ?_))
  refine XO.q (Q.fieldAddr rfl) ?_
  refine XO.q (Q.ld rfl rfl) ?_
  refine XO.q (Q.fieldAddr rfl) ?_
  refine XO.q (Q.ld rfl rfl) ?_
  refine XO.q (Q.build [_, _] (.c 0 1 rfl rfl rfl (.c 1 1 rfl rfl rfl (.n _)))) ?_
  refine XO.alloc fun b6 => ?_
  refine XO.st rfl rfl rfl ?_
  refine XO.done (XK.seq (XK.seq ?_))
  refine XK.drawn [0, 1, 2, 3, 4] [b, b6] [] (.q 0 (.q 1 (.q 2 (.q 3 (.q 4 (.br 5 true .done .stop)))))) Tryz.mixed rfl (by kernel_rfl) ?_
  refine XT.q rfl rfl (Q.move rfl) ?_
  refine XT.q rfl rfl (Q.nilCheck rfl) ?_
  refine XT.q rfl rfl (Q.fieldAddr rfl) ?_
  refine XT.q rfl rfl (Q.ld rfl rfl) ?_
  refine XT.q rfl rfl (Q.ldA [_, _] rfl rfl rfl) ?_
  refine XT.qs rfl rfl (Q.lookup (enc := encK2) _ Tryz.zeroValue4 (keyR r) rfl rfl) ⟨inferInstance, ?_⟩ XT.stop
  rw [get_seen]
  refine XT.done ?_
  refine XK.if rfl (fun c1 => ?_) (fun c1 => ?_)
  ·skip
   refine XK.seq (XK.region rfl (XO.q (Q.assign rfl) (XO.q (Q.assign rfl) (XO.done ?_))))
   refine XK.rt [blk b [.int .u64 key, .int .u64 last, .map (some m)] 309, mapH m encK2 (seenL rs)] Tryz.func92 Tryz.results92 (.t rfl (.t rfl .n)) ?_
   have e : errR rs r = 110 := by rw [errR, if_neg (show ¬ badRd r from c0), if_pos c1]
   rw [e]
   exact ⟨rfl, rfl⟩
  ·skip
   refine XK.skip (XK.seq ?_)
   refine XK.drawn [0, 1, 2, 3, 4] [b, b6] [] (.q 0 (.q 1 (.q 2 (.q 3 (.q 4 (.br 5 false .done .stop)))))) Tryz.mixed rfl (by kernel_rfl) ?_
   refine XT.q rfl rfl (Q.move rfl) ?_
   refine XT.q rfl rfl (Q.nilCheck rfl) ?_
   refine XT.q rfl rfl (Q.fieldAddr rfl) ?_
   refine XT.q rfl rfl (Q.ld rfl rfl) ?_
   refine XT.q rfl rfl (Q.ldA [_, _] rfl rfl rfl) ?_
   refine XT.mapUpdate (enc := encK2) rfl rfl (keyR r) rfl rfl rfl ⟨inferInstance, ?_⟩ XT.stop
   rw [put_seen (Bool.eq_false_iff.2 c1)]
   refine XT.done ?_
   refine XK.seq (XK.seq ?_)
   refine XK.drawn [0, 1, 2, 3, 4, 5, 6, 7, 8, 9, 10, 11, 12, 15, 14] [b3, b] [] (.q 0 (.q 1 (.q 2 (.q 3 (.q 4 (.q 5 (.q 6 (.q 7 (.q 8 (.q 9 (.q 10 (.q 11 (.q 12 (.q 15 (.br 13 true (.q 14 .done) .stop))))))))))))))) Tryz.mixed rfl (by kernel_rfl) ?_
   refine XT.q rfl rfl (Q.fieldAddr rfl) ?_
   refine XT.q rfl rfl (Q.ld rfl rfl) ?_
   refine XT.q rfl rfl (Q.conv rfl) ?_
   refine XT.q rfl rfl (Q.fieldAddr rfl) ?_
   refine XT.q rfl rfl (Q.ld rfl rfl) ?_
   refine XT.q rfl rfl (Q.conv rfl) ?_
   refine XT.q rfl rfl (Q.fieldAddr rfl) ?_
   refine XT.q rfl rfl (Q.ld rfl rfl) ?_
   refine XT.q rfl rfl (Q.conv rfl) ?_
   refine XT.q rfl rfl (Q.move rfl) ?_
   refine XT.q rfl rfl (Q.nilCheck rfl) ?_
   refine XT.q rfl rfl (Q.fieldAddr rfl) ?_
   refine XT.q rfl rfl (Q.ld rfl rfl) ?_
   refine XT.q rfl rfl (Q.move rfl) ?_
   refine XT.lit [_, _, _, _] [_, _, _, _] (partR key r) encU64 rfl rfl (by rfl) (by rfl) rfl (by rfl) (by exact .c 0 1 rfl rfl rfl (.c 1 1 rfl rfl rfl (.c 2 1 rfl rfl rfl (.c 3 1 rfl rfl rfl (.n _))))) (fun _ => rfl) (by rfl) rfl (by infer_instance) rfl (fun v52 h52 O52 => ⟨inferInstance, ?_⟩) XT.stop
   refine XT.q rfl rfl (Q.len rfl) ?_
   refine XT.done ?_
   refine XK.block ?_
   refine XK.while (X := Nat) [8, 54, 55, 56, 57, 58, 59, 60, 61, 62, 63, 64, 65, 66, 67] (fun i => [(54, some (.int .i64 (i : Nat)))]) (fun i => [blk b [.int .u64 key, .int .u64 (mixTo last key r (i)), .map (some m)] 309]) (fun i => i ≤ 4) (fun i => 4 - i) (0) [blk b [.int .u64 key, .int .u64 last, .map (some m)] 309] rfl (by omega) (.c rfl (.base 0 rfl rfl)) ?_
   rintro i hi ih0
   dsimp only [lcA, lnA] at ih0 ⊢
   refine XK.seq (XK.region rfl ?_)
   refine XO.q (Q.lss rfl rfl) ?_
   refine XO.done (XK.seq ?_)
   refine XK.if rfl (fun c2 => ?_) (fun c2 => ?_)
   ·skip
    refine XK.skip (XK.seq (XK.block (XK.seq (XK.region rfl ?_))))
    refine XO.ix rfl rfl (by omega) (by omega) fun i56 => ?_
    refine XO.q (Q.ldE rfl (by first | assumption | omega) rfl) ?_
    refine XO.q (Q.assign rfl) (XO.done (XK.region rfl (XO.q (Q.move rfl) (XO.q (Q.move rfl) ?_))))
    refine XO.q (Q.nilCheck rfl) ?_
    refine XO.q (Q.fieldAddr rfl) ?_
    refine XO.q (Q.ld rfl rfl) ?_
    refine XO.q (Q.move rfl) ?_
    refine XO.call Tryz.call157 rfl rfl rfl (Mix_spec _ _) fun v64 s64 R64 => ?_
    obtain ⟨rfl, rfl⟩ := R64
    dsimp only [lcA, lnA]
    rw [show mixP (mixTo last key r (i)) ((partR key r).getD i default) = (mixTo last key r (i + 1)) from rfl]
    refine XO.q (Q.nilCheck rfl) ?_
    refine XO.q (Q.fieldAddr rfl) ?_
    refine XO.st rfl rfl rfl ?_
    refine XO.done ?_
    refine XK.inBlock ?_
    refine XK.region rfl ?_
    refine XO.q (Q.add rfl rfl ⟨by omega, by omega⟩) ?_
    refine XO.q (Q.move rfl) (XO.done ?_)
    exact ih0 (i + 1) _ _ (by omega) (by first | omega | (dsimp only; omega)) (.c rfl (.base 31 rfl rfl)) inferInstance
   ·skip
    have hi4 : i = 4 := by omega
    subst hi4
    rw [mixTo_all]
    refine XK.exit rfl ?_
    refine XK.seq (XK.region rfl (XO.q (Q.move rfl) ?_))
    refine XO.q (Q.nilCheck rfl) ?_
    refine XO.q (Q.fieldAddr rfl) ?_
    refine XO.q (Q.ld rfl rfl) ?_
    refine XO.q (Q.assign rfl) (XO.q (Q.assign rfl) (XO.done ?_))
    refine XK.rt [blk b [.int .u64 key, .int .u64 (sigP key last r), .map (some m)] 309, mapH m encK2 (seenL (rs ++ [r]))] Tryz.func92 Tryz.results92 (.t rfl (.t rfl .n)) ?_
    have e : errR rs r = 0 := by rw [errR, if_neg (show ¬ badRd r from c0), if_neg c1]
    rw [e, if_pos rfl, if_pos rfl, if_pos rfl]
    exact ⟨rfl, rfl⟩
end Go.X.Me

set_option linter.unusedSimpArgs false
set_option linter.unusedVariables false
set_option maxRecDepth 20000
namespace Go.X.Me
open Go.Proofs
theorem lastS_succ (key : Int) (l : List MRd) (i : Nat) : lastS key l (i + 1) = sigP key (lastS key l i) (l.getD i default) := by rw [lastS]
theorem rds_len (ls : List MLink) : (rdsL ls).length = ls.length := by rw [rdsL, List.length_map]
theorem badRd_rng {r : MRd} (h : ¬ badRd r) : (0 ≤ r.meter ∧ r.meter ≤ 63) ∧ (0 ≤ r.hour ∧ r.hour ≤ 1000000000) ∧ 0 ≤ r.value ∧ r.value ≤ 1000000000 := by
 unfold badRd at h
 simp only [not_or, Classical.not_not] at h
 exact ⟨inA_one.1 h.1, inA_two.1 h.2⟩
theorem errAt_rng {l : List MRd} {i : Nat} (h : errAt l i = 0) : 0 ≤ (l.getD i default).value ∧ (l.getD i default).value ≤ 1000000000 := by
 unfold errAt errR at h
 split at h
 ·cases h
 ·rename_i h2
  exact (badRd_rng h2).2.2
theorem sumM_rng {rs : List MRd} {m : Int} {n : Nat} (h : ∀ j, j < n → 0 ≤ (rs.getD j default).value ∧ (rs.getD j default).value ≤ 1000000000) : 0 ≤ sumM rs m n ∧ sumM rs m n ≤ n * 1000000000 := by
 have h1 : ∀ j, j < n → 0 ≤ meterV rs m j ∧ meterV rs m j ≤ 1000000000 := fun j hj => by
  have := h j hj
  unfold meterV; split <;> omega
 exact ⟨sum_nonneg fun j hj => (h1 j hj).1, sum_le fun j hj => (h1 j hj).2⟩
theorem chk_err {key : Int} {ls : List MLink} {sg : Bool} {i : Nat} (h : chkF key ls sg i = 0) : errAt (rdsL ls) i = 0 := by
 unfold chkF at h
 split at h
 ·rename_i h1; exact absurd h h1
 ·rename_i h1; exact Decidable.of_not_not h1
theorem check_fine {key : Int} {ls : List MLink} {sg : Bool} (h : (checkG key ls sg).2 = 0) : ls.length ≤ 4096 ∧ ∀ j, j < ls.length → chkF key ls sg j = 0 := by
 unfold checkG at h
 split at h
 ·cases h
 ·rename_i h1
  split at h
  ·rename_i i hi
   exfalso
   have key2 : ∀ {n : Nat}, scanTo (chkF key ls sg) n = some i → chkF key ls sg i ≠ 0 := by
    intro n
    induction n with
    | zero => intro h; cases h
    | succ n ih =>
     intro h
     rw [scanTo] at h
     split at h
     ·rename_i j hj; cases h; exact ih hj
     ·split at h
      ·rename_i h3; cases h; exact h3
      ·cases h
   exact key2 hi h
  ·rename_i h2
   exact ⟨by omega, scan_none h2⟩
theorem Sign_spec (key : Int) (l : List MRd) (vl : Value) (hl : PHeap) [jl : Arr vl encRd 3 hl l] : Spec Tryz.prog 39 #[.int .u64 key, vl] [] [hl] (fun v hs => ∃ v1 k1, v = .tuple #[v1, .int .i64 (signG key l).2] ∧ hs = [k1] ∧ OArr v1 encLink 4 240 k1 (signG key l).1) := by
 have ll := jl.le
 have nL : OArr (.slice none 0 0) encLink 4 240 emp ([] : List MLink) := OArr.nil (fun _ => rfl)
 refine Spec.intro (fn := Tryz.f39) (N := 40) Tryz.func39 rfl Tryz.ntmps39 rfl fun B => ?_
 refine XK.seq (XK.region rfl (XO.q (Q.assign rfl) (XO.q (Q.assign rfl) (XO.done (XK.seq ?_)))))
 refine XK.seq (XK.region rfl (XO.q (Q.move rfl) ?_))
 refine XO.len rfl fun l13 => ?_
 refine XO.q (Q.gtr rfl rfl) ?_
 refine XO.done ?_
 refine XK.if rfl (fun c0 => ?_) (fun c0 => ?_)
 ·skip
  refine XK.seq (XK.region rfl (XO.q (Q.assign rfl) (XO.q (Q.assign rfl) (XO.done ?_))))
  refine XK.rt [emp] Tryz.func39 Tryz.results39 (.t rfl (.t rfl .n)) ?_
  have e : signG key l = ([], 2) := by rw [signG, if_pos (by omega)]
  rw [e]
  exact ⟨.slice none 0 0, emp, rfl, rfl, nL⟩
 ·skip
  refine XK.skip (XK.seq (XK.region rfl (XO.q (Q.move rfl) ?_)))
  refine XO.call Tryz.call91 rfl rfl rfl (begin_spec key) fun v16 s16 R16 => ?_
  obtain ⟨bS, mS, rfl, rfl⟩ := R16
  dsimp only [lcA, lnA]
  refine XO.q (Q.assign rfl) (XO.done (XK.seq (XK.region rfl (XO.q (Q.assign rfl) (XO.done ?_)))))
  refine XK.seq (XK.seq (XK.region rfl (XO.q (Q.move rfl) ?_)))
  refine XO.len rfl fun l18 => ?_
  refine XO.q (Q.move rfl) (XO.done (XK.block ?_))
  refine XK.while (X := Nat × Value × PHeap) [4, 5, 7, 9, 10, 11, 19, 20, 21, 22, 23, 24, 25, 26, 27, 28, 29, 30, 31, 32, 33, 34, 35, 36, 37, 38] (fun ⟨i, vo, ko⟩ => [(7, some (vo)), (19, some (.int .i64 (i : Nat)))]) (fun ⟨i, vo, ko⟩ => [blk bS [.int .u64 key, .int .u64 (lastS key l (i)), .map (some mS)] 309, mapH mS encK2 (seenL (l.take i)), ko]) (fun ⟨i, vo, ko⟩ => i ≤ l.length ∧ OArr vo encLink 4 240 ko (links key l i) ∧ ∀ j, j < i → errAt l j = 0) (fun ⟨i, vo, ko⟩ => l.length - i) (0, .slice none 0 0, emp) [blk bS [.int .u64 key, .int .u64 (mixP key 1), .map (some mS)] 309, mapH mS encK2 (seenL []), emp] rfl ⟨by omega, nL, fun j hj => by omega⟩ (.c rfl (.c rfl (.base 0 rfl rfl))) ?_
  rintro ⟨i, vo, ko⟩ ⟨hi, OO, he⟩ ih0
  dsimp only [lcA, lnA] at ih0 ⊢
  have kl := links_len key l i
  refine XK.seq (XK.region rfl ?_)
  refine XO.q (Q.lss rfl rfl) ?_
  refine XO.done (XK.seq ?_)
  refine XK.if rfl (fun c1 => ?_) (fun c1 => ?_)
  ·skip
   refine XK.skip (XK.seq (XK.block (XK.seq (XK.region rfl ?_))))
   refine XO.ix rfl rfl (by omega) (by omega) fun i21 => ?_
   refine XO.q (Q.ldEA [_, _, _] rfl (by first | assumption | omega) rfl rfl) ?_
   refine XO.alloc fun b9 => ?_
   refine XO.st rfl rfl rfl ?_
   refine XO.done (XK.seq (XK.region rfl (XO.q (Q.move rfl) ?_)))
   refine XO.q (Q.ldA [_, _, _] rfl rfl rfl) ?_
   refine XO.call Tryz.call92 rfl rfl rfl (put_spec bS mS key (lastS key l (i)) (l.take i) (l.getD i default)) fun v26 s26 R26 => ?_
   obtain ⟨rfl, rfl⟩ := R26
   dsimp only [lcA, lnA]
   rw [show errR (l.take i) (l.getD i default) = errAt l i from rfl]
   refine XO.q (Q.move rfl) ?_
   refine XO.q (Q.extract rfl rfl) ?_
   refine XO.q (Q.extract rfl rfl) ?_
   refine XO.q (Q.assign rfl) (XO.q (Q.assign rfl) (XO.done (XK.seq (XK.seq (XK.region rfl ?_)))))
   refine XO.q (Q.move rfl) ?_
   refine XO.q (Q.neq rfl rfl) ?_
   refine XO.done ?_
   refine XK.if rfl (fun c2 => ?_) (fun c2 => ?_)
   ·skip
    refine XK.seq (XK.region rfl (XO.q (Q.move rfl) (XO.q (Q.assign rfl) (XO.q (Q.assign rfl) (XO.done ?_)))))
    refine XK.rt [emp] Tryz.func39 Tryz.results39 (.t rfl (.t rfl .n)) ?_
    have e : signG key l = ([], errAt l i) := by rw [signG, if_neg (by omega), scan_here he c2 (by omega)]
    rw [e]
    exact ⟨.slice none 0 0, emp, rfl, rfl, nL⟩
   ·skip
    have ez := Decidable.of_not_not c2
    rw [if_pos ez, if_pos ez, if_pos ez, ← lastS_succ, ← take_snocR (show i < l.length by omega)]
    refine XK.skip (XK.region rfl (XO.q (Q.move rfl) ?_))
    refine XO.q (Q.ldA [_, _, _] rfl rfl rfl) ?_
    refine XO.q (Q.move rfl) ?_
    refine XO.q (Q.build [_, _, _, _] (.c 0 3 rfl rfl rfl (.c 3 1 rfl rfl rfl (.n _)))) ?_
    refine XO.lit [_, _, _, _] [_, _, _, _] [linkAt key l i] encLink (by rfl) (by rfl) rfl (by rfl) (by exact .c 0 4 rfl rfl rfl (.n _)) (fun _ => rfl) (by rfl) rfl (by infer_instance) rfl fun v36 h36 O36 => ?_
    refine XO.append rfl rfl rfl rfl (by first | omega | (simp; omega)) fun v37 h37 O37 => ?_
    refine XO.q (Q.assign rfl) (XO.done ?_)
    refine XK.inBlock ?_
    refine XK.region rfl ?_
    refine XO.q (Q.add rfl rfl ⟨by omega, by omega⟩) ?_
    refine XO.q (Q.move rfl) (XO.done ?_)
    exact ih0 (i + 1, v37, h37) _ _ ⟨by dsimp only; omega, by dsimp only; rw [links_snoc]; exact O37, fun j hj => (by rcases Nat.lt_or_ge j i with h3 | h3; exact he j h3; obtain rfl : j = i := (by dsimp only at hj; omega); exact ez)⟩ (by first | omega | (dsimp only; omega)) (.c rfl (.c rfl (.base 51 rfl rfl))) inferInstance
  ·skip
   refine XK.exit rfl ?_
   refine XK.seq (XK.region rfl (XO.q (Q.move rfl) (XO.q (Q.assign rfl) (XO.q (Q.assign rfl) (XO.done ?_)))))
   refine XK.rt [ko] Tryz.func39 Tryz.results39 (.t rfl (.t rfl .n)) ?_
   have hin : i = l.length := by omega
   subst hin
   have e : signG key l = (links key l l.length, 0) := by rw [signG, if_neg (by omega), scan_all he]
   rw [e]
   exact ⟨vo, ko, rfl, rfl, OO⟩
theorem check_spec (key : Int) (ls : List MLink) (vl : Value) (hl : PHeap) [jl : Arr vl encLink 4 hl ls] (sg : Bool) : Spec Tryz.prog 93 #[.int .u64 key, vl, .bool sg] [] [hl] (fun v hs => v = .tuple #[.int .i64 (checkG key ls sg).1, .int .i64 (checkG key ls sg).2] ∧ hs = []) := by
 have ll := jl.le
 have rl := rds_len ls
 refine Spec.intro (fn := Tryz.f93) (N := 50) Tryz.func93 rfl Tryz.ntmps93 rfl fun B => ?_
 refine XK.seq (XK.region rfl (XO.q (Q.assign rfl) (XO.q (Q.assign rfl) (XO.done (XK.seq ?_)))))
 refine XK.seq (XK.region rfl (XO.q (Q.move rfl) ?_))
 refine XO.len rfl fun l14 => ?_
 refine XO.q (Q.gtr rfl rfl) ?_
 refine XO.done ?_
 refine XK.if rfl (fun c0 => ?_) (fun c0 => ?_)
 ·skip
  refine XK.seq (XK.region rfl (XO.q (Q.assign rfl) (XO.q (Q.assign rfl) (XO.done ?_))))
  refine XK.rt [] Tryz.func93 Tryz.results93 (.t rfl (.t rfl .n)) ?_
  have e : checkG key ls sg = (0, 2) := by rw [checkG, if_pos (by omega)]
  rw [e]
  exact ⟨rfl, rfl⟩
 ·skip
  refine XK.skip (XK.seq (XK.region rfl (XO.q (Q.move rfl) ?_)))
  refine XO.call Tryz.call91 rfl rfl rfl (begin_spec key) fun v17 s17 R17 => ?_
  obtain ⟨bS, mS, rfl, rfl⟩ := R17
  dsimp only [lcA, lnA]
  refine XO.q (Q.assign rfl) (XO.done (XK.seq (XK.seq (XK.region rfl (XO.q (Q.move rfl) ?_)))))
  refine XO.len rfl fun l19 => ?_
  refine XO.q (Q.move rfl) (XO.done (XK.block ?_))
  refine XK.while (X := Nat) [6, 7, 9, 10, 11, 12, 20, 21, 22, 23, 24, 25, 26, 27, 28, 29, 30, 31, 32, 33, 34, 35, 36, 37, 38, 39, 40, 41, 42, 43, 44, 45, 46, 47] (fun i => [(20, some (.int .i64 (i : Nat)))]) (fun i => [blk bS [.int .u64 key, .int .u64 (lastS key (rdsL ls) (i)), .map (some mS)] 309, mapH mS encK2 (seenL ((rdsL ls).take i))]) (fun i => i ≤ ls.length ∧ ∀ j, j < i → (chkF key ls sg (j)) = 0) (fun i => ls.length - i) (0) [blk bS [.int .u64 key, .int .u64 (mixP key 1), .map (some mS)] 309, mapH mS encK2 (seenL [])] rfl ⟨by omega, fun j hj => by omega⟩ (.c rfl (.base 0 rfl rfl)) ?_
  rintro i ⟨hi, he⟩ ih0
  dsimp only [lcA, lnA] at ih0 ⊢
  refine XK.seq (XK.region rfl ?_)
  refine XO.q (Q.lss rfl rfl) ?_
  refine XO.done (XK.seq ?_)
  refine XK.if rfl (fun c1 => ?_) (fun c1 => ?_)
  ·skip
   refine XK.skip (XK.seq (XK.block (XK.seq (XK.region rfl (XO.q (Q.move rfl) ?_)))))
   refine XO.ix rfl rfl (by omega) (by omega) fun i23 => ?_
   refine XO.q (Q.ldEA [_, _, _, _] rfl (by first | assumption | omega) rfl rfl) ?_
   refine XO.alloc fun b10 => ?_
   refine XO.q (Q.assign rfl) ?_
   refine XO.st rfl rfl rfl ?_
   refine XO.done (XK.seq (XK.region rfl (XO.q (Q.move rfl) ?_)))
   refine XO.q (Q.fieldAddr rfl) ?_
   refine XO.q (Q.ldA [_, _, _] rfl rfl rfl) ?_
   refine XO.call Tryz.call92 rfl rfl rfl (put_spec bS mS key (lastS key (rdsL ls) (i)) ((rdsL ls).take i) (ls.getD i default).rd) fun v29 s29 R29 => ?_
   obtain ⟨rfl, rfl⟩ := R29
   dsimp only [lcA, lnA]
   rw [show errR ((rdsL ls).take i) (ls.getD i default).rd = errAt (rdsL ls) i by rw [errAt, rds_at (by omega)]]
   rw [show sigP key (lastS key (rdsL ls) (i)) (ls.getD i default).rd = (lastS key (rdsL ls) (i + 1)) by rw [lastS_succ, rds_at (by omega)]]
   rw [show (rdsL ls).take i ++ [(ls.getD i default).rd] = (rdsL ls).take (i + 1) by rw [take_snocR (by omega), rds_at (by omega)]]
   refine XO.q (Q.move rfl) ?_
   refine XO.q (Q.extract rfl rfl) ?_
   refine XO.q (Q.extract rfl rfl) ?_
   refine XO.q (Q.assign rfl) (XO.q (Q.assign rfl) (XO.done (XK.seq (XK.seq (XK.region rfl ?_)))))
   refine XO.q (Q.move rfl) ?_
   refine XO.q (Q.eql rfl rfl) ?_
   refine XO.q (Q.move rfl) ?_
   refine XO.q (Quiet.guardT rfl rfl fun g35 p35 => Q.move rfl) ?_
   refine XO.q (Q.and rfl (fun hp => lzv hp rfl)) ?_
   refine XO.q (Q.move rfl) ?_
   refine XO.q (Quiet.guardT rfl rfl fun g38 p38 => Q.move rfl) ?_
   refine XO.q (Quiet.guardT rfl rfl fun g39 p39 => Q.fieldAddr rfl) ?_
   refine XO.q (Quiet.guardT rfl rfl fun g40 p40 => Q.ld (lzv g40 rfl) rfl) ?_
   refine XO.q (Quiet.guardT rfl rfl fun g41 p41 => Q.neq (lzv g41 rfl) (lzv g41 rfl)) ?_
   refine XO.q (Q.and rfl (fun hp => lzv hp rfl)) ?_
   refine XO.done ?_
   refine XK.if rfl (fun c2 => ?_) (fun c2 => ?_)
   ·skip
    have c2a := c2.1.1
    have ck : (chkF key ls sg (i)) = 7 := by
     have h2 := c2.2
     rw [if_pos c2a] at h2
     rw [chkF, if_neg (fun h => h c2a), if_pos ⟨c2.1.2, h2⟩]
    refine XK.region rfl (XO.q (Q.assign rfl) (XO.done (XK.seq (XK.region rfl (XO.q (Q.move rfl) ?_)))))
    refine XO.q (Q.neq rfl rfl) ?_
    refine XO.done ?_
    refine XK.if rfl (fun c3 => ?_) (fun c3 => ?_)
    ·skip
     refine XK.seq (XK.region rfl (XO.q (Q.move rfl) (XO.q (Q.move rfl) (XO.q (Q.assign rfl) (XO.q (Q.assign rfl) ?_)))))
     refine XO.done ?_
     refine XK.rt [] Tryz.func93 Tryz.results93 (.t rfl (.t rfl .n)) ?_
     have e : checkG key ls sg = ((i : Int), 7) := by rw [checkG, if_neg (by omega), scan_here he (by rw [ck]; decide) (by omega)]; dsimp only; rw [ck]
     rw [e]
     exact ⟨rfl, rfl⟩
    ·skip
     exact absurd (by decide) c3
   ·skip
    refine XK.skip (XK.seq (XK.region rfl (XO.q (Q.move rfl) ?_)))
    refine XO.q (Q.neq rfl rfl) ?_
    refine XO.done ?_
    refine XK.if rfl (fun c4 => ?_) (fun c4 => ?_)
    ·skip
     have ck : (chkF key ls sg (i)) = errAt (rdsL ls) i := by rw [chkF, if_pos c4]
     refine XK.seq (XK.region rfl (XO.q (Q.move rfl) (XO.q (Q.move rfl) (XO.q (Q.assign rfl) (XO.q (Q.assign rfl) ?_)))))
     refine XO.done ?_
     refine XK.rt [] Tryz.func93 Tryz.results93 (.t rfl (.t rfl .n)) ?_
     have e : checkG key ls sg = ((i : Int), errAt (rdsL ls) i) := by rw [checkG, if_neg (by omega), scan_here he (by rw [ck]; exact c4) (by omega)]; dsimp only; rw [ck]
     rw [e]
     exact ⟨rfl, rfl⟩
    ·skip
     have ez := Decidable.of_not_not c4
     have ck : (chkF key ls sg (i)) = 0 := by
      rw [chkF, if_neg c4, if_neg]
      intro h
      exact c2 ⟨⟨ez, h.1⟩, by rw [if_pos ez]; exact h.2⟩
     rw [if_pos ez, if_pos ez, if_pos ez]
     refine XK.skip ?_
     refine XK.inBlock ?_
     refine XK.region rfl ?_
     refine XO.q (Q.add rfl rfl ⟨by omega, by omega⟩) ?_
     refine XO.q (Q.move rfl) (XO.done ?_)
     exact ih0 (i + 1) _ _ ⟨by omega, fun j hj => (by rcases Nat.lt_or_ge j i with h3 | h3; exact he j h3; obtain rfl : j = i := (by omega); exact ck)⟩ (by first | omega | (dsimp only; omega)) (.c rfl (.base 65 rfl rfl)) inferInstance
  ·skip
   refine XK.exit rfl ?_
   refine XK.seq (XK.region rfl (XO.q (Q.move rfl) ?_))
   refine XO.len rfl fun l49 => ?_
   refine XO.q (Q.assign rfl) (XO.q (Q.assign rfl) (XO.done ?_))
   refine XK.rt [] Tryz.func93 Tryz.results93 (.t rfl (.t rfl .n)) ?_
   have hin : i = ls.length := by omega
   subst hin
   have e : checkG key ls sg = ((ls.length : Int), 0) := by rw [checkG, if_neg (by omega), scan_all he]
   rw [e]
   exact ⟨rfl, rfl⟩
theorem Verify_spec (key : Int) (ls : List MLink) (vl : Value) (hl : PHeap) [jl : Arr vl encLink 4 hl ls] : Spec Tryz.prog 40 #[.int .u64 key, vl] [] [hl] (fun v hs => v = .tuple #[.int .i64 (checkG key ls true).1, .int .i64 (checkG key ls true).2] ∧ hs = []) := by
 refine Spec.intro (fn := Tryz.f40) (N := 11) Tryz.func40 rfl Tryz.ntmps40 rfl fun B => ?_
 refine XK.seq (XK.region rfl (XO.q (Q.assign rfl) (XO.q (Q.assign rfl) (XO.done (XK.seq ?_)))))
 refine XK.region rfl (XO.q (Q.move rfl) (XO.q (Q.move rfl) ?_))
 refine XO.call Tryz.call93 rfl rfl rfl (check_spec key ls vl hl true) fun v8 s8 R8 => ?_
 obtain ⟨rfl, rfl⟩ := R8
 dsimp only [lcA, lnA]
 refine XO.q (Q.extract rfl rfl) ?_
 refine XO.q (Q.extract rfl rfl) ?_
 refine XO.q (Q.assign rfl) (XO.q (Q.assign rfl) (XO.done ?_))
 refine XK.rt [] Tryz.func40 Tryz.results40 (.t rfl (.t rfl .n)) ?_
 exact ⟨rfl, rfl⟩
end Go.X.Me

set_option linter.unusedSimpArgs false
set_option linter.unusedVariables false
set_option maxRecDepth 20000
namespace Go.X.Me
open Go.Proofs
theorem tab_len (rs : List MRd) : ∀ m, (tabTo rs m).length ≤ m
 | 0 => by simp [tabTo]
 | m + 1 => by
  have := tab_len rs m
  rw [tabTo]
  split
  ·rw [List.length_append]; simp; omega
  ·omega
set_option maxHeartbeats 1000000 in
theorem Table_spec (ls : List MLink) (vl : Value) (hl : PHeap) [jl : Arr vl encLink 4 hl ls] : Spec Tryz.prog 41 #[vl] [] [hl] (fun v hs => ∃ v1 k1, v = .tuple #[v1, .int .i64 (tableG ls).2] ∧ hs = [k1] ∧ OArr v1 encP 2 161 k1 (tableG ls).1) := by
 have ll := jl.le
 have rl := rds_len ls
 have nP : OArr (.slice none 0 0) encP 2 161 emp ([] : List (Int × Int)) := OArr.nil (fun _ => rfl)
 refine Spec.intro (fn := Tryz.f41) (N := 56) Tryz.func41 rfl Tryz.ntmps41 rfl fun B => ?_
 refine XK.seq (XK.region rfl (XO.q (Q.assign rfl) (XO.q (Q.assign rfl) (XO.done (XK.seq ?_)))))
 refine XK.seq (XK.region rfl (XO.q (Q.move rfl) ?_))
 refine XO.call Tryz.call93 rfl rfl rfl (check_spec 0 ls vl hl false) fun v15 s15 R15 => ?_
 obtain ⟨rfl, rfl⟩ := R15
 dsimp only [lcA, lnA]
 refine XO.q (Q.move rfl) ?_
 refine XO.q (Q.extract rfl rfl) ?_
 refine XO.q (Q.extract rfl rfl) ?_
 refine XO.q (Q.assign rfl) (XO.q (Q.assign rfl) (XO.done (XK.seq (XK.region rfl (XO.q (Q.move rfl) ?_)))))
 refine XO.q (Q.neq rfl rfl) ?_
 refine XO.done ?_
 refine XK.if rfl (fun c0 => ?_) (fun c0 => ?_)
 ·skip
  refine XK.seq (XK.region rfl (XO.q (Q.move rfl) (XO.q (Q.assign rfl) (XO.q (Q.assign rfl) (XO.done ?_)))))
  refine XK.rt [emp] Tryz.func41 Tryz.results41 (.t rfl (.t rfl .n)) ?_
  have e : tableG ls = ([], (checkG 0 ls false).2) := by rw [tableG, if_pos c0]
  rw [e]
  exact ⟨.slice none 0 0, emp, rfl, rfl, nP⟩
 ·skip
  have cf := check_fine (Decidable.of_not_not c0)
  have vr : ∀ j, j < ls.length → 0 ≤ ((rdsL ls).getD j default).value ∧ ((rdsL ls).getD j default).value ≤ 1000000000 := fun j hj => errAt_rng (chk_err (cf.2 j hj))
  refine XK.skip (XK.seq (XK.region rfl ?_))
  refine XO.map encK1 fun b21 => ?_
  refine XO.q (Q.assign rfl) (XO.done (XK.seq (XK.seq (XK.region rfl (XO.q (Q.move rfl) ?_)))))
  refine XO.len rfl fun l23 => ?_
  refine XO.q (Q.move rfl) (XO.done (XK.block ?_))
  refine XK.while (X := Nat) [8, 24, 25, 26, 27, 28, 29, 30, 31, 32, 33, 34, 35, 36, 37] (fun i => [(24, some (.int .i64 (i : Nat)))]) (fun i => [mapH b21 encK1 (msumTo (rdsL ls) (i))]) (fun i => i ≤ ls.length) (fun i => ls.length - i) (0) [mapH b21 encK1 []] rfl (by omega) (.c rfl (.base 0 rfl rfl)) ?_
  rintro i hi ih0
  dsimp only [lcA, lnA] at ih0 ⊢
  refine XK.seq (XK.region rfl ?_)
  refine XO.q (Q.lss rfl rfl) ?_
  refine XO.done (XK.seq ?_)
  refine XK.if rfl (fun c1 => ?_) (fun c1 => ?_)
  ·skip
   have er := rds_at (ls := ls) (i := i) (by omega)
   have sr := sumM_rng (rs := (rdsL ls)) (m := (ls.getD i default).rd.meter) (n := i) (fun j hj => vr j (by omega))
   have vi := vr i (by omega)
   rw [er] at vi
   refine XK.skip (XK.seq (XK.block (XK.seq (XK.region rfl ?_))))
   refine XO.ix rfl rfl (by omega) (by omega) fun i26 => ?_
   refine XO.q (Q.ldEA [_, _, _, _] rfl (by first | assumption | omega) rfl rfl) ?_
   refine XO.alloc fun b8 => ?_
   refine XO.st rfl rfl rfl ?_
   refine XO.done (XK.region rfl (XO.q (Q.move rfl) ?_))
   refine XO.q (Q.fieldAddr rfl) ?_
   refine XO.q (Q.fieldAddr rfl) ?_
   refine XO.q (Q.ld rfl rfl) ?_
   refine XO.q (Q.lookup (enc := encK1) _ Tryz.zeroValue3 ((ls.getD i default).rd.meter) rfl rfl) ?_
   rw [get_msum0 (by omega)]
   refine XO.q (Q.fieldAddr rfl) ?_
   refine XO.q (Q.fieldAddr rfl) ?_
   refine XO.q (Q.ld rfl rfl) ?_
   refine XO.q (Q.add rfl rfl ⟨by omega, by omega⟩) ?_
   refine XO.mapUpdate (enc := encK1) ((ls.getD i default).rd.meter) rfl rfl rfl ?_
   rw [show putM (ls.getD i default).rd.meter (.int .i64 (sumM (rdsL ls) (ls.getD i default).rd.meter i + (ls.getD i default).rd.value)) (msumTo (rdsL ls) (i)) = (msumTo (rdsL ls) (i + 1)) by rw [msumTo, er]]
   refine XO.done ?_
   refine XK.inBlock ?_
   refine XK.region rfl ?_
   refine XO.q (Q.add rfl rfl ⟨by omega, by omega⟩) ?_
   refine XO.q (Q.move rfl) (XO.done ?_)
   exact ih0 (i + 1) _ _ (by omega) (by first | omega | (dsimp only; omega)) (.c rfl (.base 31 rfl rfl)) inferInstance
  ·skip
   have hin : i = ls.length := by omega
   rw [hin, ← rl]
   clear ih0
   refine XK.exit rfl ?_
   refine XK.seq (XK.region rfl (XO.q (Q.assign rfl) (XO.done (XK.seq (XK.seq ?_)))))
   refine XK.region rfl (XO.q (Q.move rfl) (XO.done (XK.block ?_)))
   refine XK.while (X := Nat × Value × PHeap) [9, 10, 11, 12, 38, 39, 40, 41, 42, 43, 44, 45, 46, 47, 48, 49, 50, 51, 52, 53, 54] (fun ⟨m, vo, ko⟩ => [(9, some (vo)), (38, some (.int .i64 (m : Nat)))]) (fun ⟨m, vo, ko⟩ => [ko]) (fun ⟨m, vo, ko⟩ => m ≤ 64 ∧ OArr vo encP 2 161 ko (tabTo (rdsL ls) m)) (fun ⟨m, vo, ko⟩ => 64 - m) (0, .slice none 0 0, emp) [emp] rfl ⟨by omega, nP⟩ (.c rfl (.c rfl (.base 0 rfl rfl))) ?_
   rintro ⟨m, vo, ko⟩ ⟨hm, OO⟩ ih1
   dsimp only [lcA, lnA] at ih1 ⊢
   refine XK.seq (XK.region rfl ?_)
   refine XO.q (Q.lss rfl rfl) ?_
   refine XO.done (XK.seq ?_)
   refine XK.if rfl (fun c2 => ?_) (fun c2 => ?_)
   ·skip
    have tl := tab_len (rdsL ls) m
    refine XK.skip (XK.seq (XK.block (XK.seq (XK.region rfl (XO.q (Q.move rfl) ?_)))))
    refine XO.q (Q.assign rfl) (XO.done (XK.seq (XK.region rfl (XO.q (Q.move rfl) (XO.q (Q.move rfl) ?_)))))
    refine XO.q (Q.lookup2 (enc := encK1) _ Tryz.zeroValue3 (((m : Nat) : Int)) rfl rfl) ?_
    rw [get_msum0 (by omega), has_some]
    refine XO.q (Q.move rfl) ?_
    refine XO.q (Q.extract rfl rfl) ?_
    refine XO.q (Q.extract rfl rfl) ?_
    refine XO.q (Q.assign rfl) (XO.q (Q.assign rfl) (XO.done (XK.seq (XK.region rfl (XO.q (Q.move rfl) ?_)))))
    refine XO.done ?_
    refine XK.if rfl (fun c3 => ?_) (fun c3 => ?_)
    ·skip
     refine XK.region rfl (XO.q (Q.move rfl) (XO.q (Q.move rfl) (XO.q (Q.move rfl) ?_)))
     refine XO.q (Q.build [_, _] (.c 0 1 rfl rfl rfl (.c 1 1 rfl rfl rfl (.n _)))) ?_
     refine XO.lit [_, _] [_, _] [(((m : Nat) : Int), sumM (rdsL ls) m (rdsL ls).length)] encP (by rfl) (by rfl) rfl (by rfl) (by exact .c 0 2 rfl rfl rfl (.n _)) (fun _ => rfl) (by rfl) rfl (by infer_instance) rfl fun v52 h52 O52 => ?_
     refine XO.append rfl rfl rfl rfl (by first | omega | (simp; omega)) fun v53 h53 O53 => ?_
     refine XO.q (Q.assign rfl) (XO.done ?_)
     refine XK.inBlock ?_
     refine XK.region rfl ?_
     refine XO.q (Q.add rfl rfl ⟨by omega, by omega⟩) ?_
     refine XO.q (Q.move rfl) (XO.done ?_)
     exact ih1 (m + 1, v53, h53) _ _ ⟨by dsimp only; omega, by dsimp only; rw [tabTo, if_pos c3]; exact O53⟩ (by first | omega | (dsimp only; omega)) (.c rfl (.c rfl (.base 44 rfl rfl))) inferInstance
    ·skip
     refine XK.skip ?_
     refine XK.inBlock ?_
     refine XK.region rfl ?_
     refine XO.q (Q.add rfl rfl ⟨by omega, by omega⟩) ?_
     refine XO.q (Q.move rfl) (XO.done ?_)
     exact ih1 (m + 1, vo, ko) _ _ ⟨by dsimp only; omega, by dsimp only; rw [tabTo, if_neg c3]; exact OO⟩ (by first | omega | (dsimp only; omega)) (.c rfl (.c rfl (.base 37 rfl rfl))) inferInstance
   ·skip
    have hm64 : m = 64 := by omega
    subst hm64
    refine XK.exit rfl ?_
    refine XK.seq (XK.region rfl (XO.q (Q.move rfl) (XO.q (Q.assign rfl) (XO.q (Q.assign rfl) (XO.done ?_)))))
    refine XK.rt [ko] Tryz.func41 Tryz.results41 (.t rfl (.t rfl .n)) ?_
    have e : tableG ls = (tabTo (rdsL ls) 64, 0) := by rw [tableG, if_neg c0]
    rw [e]
    exact ⟨vo, ko, rfl, rfl, OO⟩
end Go.X.Me
