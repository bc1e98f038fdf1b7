/- The rules for a region's list of operations, loops and joins with what has changed named. No condition. -/
import Derived.Test.YtfenlpoaphbfgaaX8
set_option linter.unusedSimpArgs false
set_option linter.unusedVariables false
namespace Go.X

/-! ### what a type's table says of its parts -/
inductive Szs (P : Program) : List Field → List (Nat × Nat) → Prop
  | n : Szs P [] []
  | c {f : Field} {fs : List Field} {ps : List (Nat × Nat)} {m : Nat} (h : ∀ w, (sizeOf f.type).run P w = .ok m w) (r : Szs P fs ps) : Szs P (f :: fs) ((f.offset, m) :: ps)
theorem Szs.run {P : Program} {fs : List Field} {ps : List (Nat × Nat)} (h : Szs P fs ps) (w : World) :
    (fs.mapM (fun f => do pure (f.offset, ← sizeOf f.type) : Field → Sem (Nat × Nat))).run P w = .ok ps w := by
  induction h with
  | n => rfl
  | c h r ih =>
    rw [List.mapM_cons, bind_ok (by rw [bind_ok (h w)]; rfl), bind_ok ih]
    rfl
theorem Places.struct {P : Program} {t : TypeId} {fs : List Field} {ps : List (Nat × Nat)} (u : Und P t (.struct fs.toArray)) (h : Szs P fs ps) : Places P t (fun i => ps[i]?) := ⟨by
  intro parts z cells w hz hf
  unfold Instr.build
  rw [bind_ok (hz w), bind_ok (u.pf w)]
  simp only
  have e1 : (fs.toArray.mapM (fun f => do pure (f.offset, ← sizeOf f.type) : Field → Sem (Nat × Nat))).run P w = .ok ps.toArray w := by
    rw [List.mapM_toArray, map_eq_pure_bind, bind_ok (h.run w)]
    rfl
  rw [bind_ok e1]
  simp only [List.getElem?_toArray, hf]
  rfl⟩
theorem Places.array {P : Program} {t el len size : Nat} (u : Und P t (.array len el)) (s : TySize P el size) : Places P t (fun i => some (i * size, size)) := ⟨by
  intro parts z cells w hz hf
  unfold Instr.build
  rw [bind_ok (hz w), bind_ok (u.pf w)]
  simp only
  rw [bind_ok (s.pf w)]
  simp only [hf]
  rfl⟩

/-! ### environments -/
def EnvLe (e' e : Env) : Prop := ∀ a, ERel e a → ERel e' a
def kills : List Nat → Env → Env
  | [], e => e
  | t :: ts, e => (t, none) :: kills ts e
def memN (t : Nat) : List Nat → Bool
  | [] => false
  | s :: ss => match Nat.beq t s with
    | true => true
    | false => memN t ss
def keysIn : Env → List Nat → Bool
  | [], _ => true
  | (t, _) :: e, ks => match memN t ks with
    | true => keysIn e ks
    | false => false
theorem find_kills {ks : List Nat} {e : Env} {t : Nat} {v : Value} (h : find (kills ks e) t = some v) : memN t ks = false ∧ find e t = some v := by
  induction ks with
  | nil => exact ⟨rfl, h⟩
  | cons s ss ih =>
    simp only [kills, find] at h
    split at h
    · cases h
    · rename_i hb
      obtain ⟨h1, h2⟩ := ih h
      exact ⟨by simp only [memN, hb]; exact h1, h2⟩
theorem find_skip {ks : List Nat} {e1 e0 : Env} {t : Nat} (hk : keysIn e1 ks = true) (ht : memN t ks = false) : find (e1 ++ e0) t = find e0 t := by
  induction e1 with
  | nil => rfl
  | cons p e1 ih =>
    obtain ⟨s, v⟩ := p
    simp only [keysIn] at hk
    split at hk
    · rename_i hs
      simp only [List.cons_append, find]
      split
      · rename_i hb
        have := Nat.eq_of_beq_eq_true hb
        subst this
        rw [hs] at ht; cases ht
      · exact ih hk
    · cases hk
theorem EnvLe.base {e e0 : Env} {ks : List Nat} (n : Nat) (hd : e.drop n = e0) (hk : keysIn (e.take n) ks = true) : EnvLe (kills ks e0) e := by
  intro a he t v hv
  obtain ⟨h1, h2⟩ := find_kills hv
  refine he t v ?_
  rw [← List.take_append_drop n e, hd, find_skip hk h1]
  exact h2
theorem EnvLe.c {e e' : Env} {t : Nat} {v : Value} (h : find e t = some v) (r : EnvLe e' e) : EnvLe ((t, some v) :: e') e := by
  intro a he s u hu
  simp only [find] at hu
  split at hu
  · rename_i hb
    have := Nat.eq_of_beq_eq_true hb
    subst this
    simp only [Option.some.injEq] at hu
    subst hu
    exact he _ _ h
  · exact r a he s u hu
theorem EnvLe.refl (e : Env) : EnvLe e e := fun _ h => h

section
variable {c : Cx} {k : List Item} {e : Env} {o r : List PHeap}
/-- A loop: 'ks' the temporaries that it writes, 'up' what the live ones of them hold at the head, 'oc' the heaps that it changes; x stands for all that changes. -/
theorem XK.rounds {X : Type} (ks : List Nat) (up : X → Env) (oc : X → List PHeap) (ok : List PHeap) (I : X → Prop) (μ : X → Nat) (x0 : X) {body : Code} (h0 : I x0)
    (henv : EnvLe (up x0 ++ kills ks e) e) (hmem : Wk o (oc x0 ++ ok))
    (round : ∀ x, I x → (∀ x' e' o', I x' → μ x' < μ x → EnvLe (up x' ++ kills ks e) e' → Wk o' (oc x' ++ ok) → XK c (.inLoop body :: k) e' o' r) →
      XK c (.code body :: .inLoop body :: k) (up x ++ kills ks e) (oc x ++ ok) r) :
    XK c (.code (.loop body) :: k) e o r :=
  XK.loop (fun x => up x ++ kills ks e) (fun x => oc x ++ ok) (fun _ => r) I μ x0 h0 henv (fun D w => hmem.sepD) fun x hI ih =>
    round x hI fun x' e' o' hI' hlt he hw => XK.weaken (ih x' hI' hlt) he (fun D w => hw.sepD)
/-- Ways that meet again: 'k' is proved once. -/
theorem XK.join {X : Type} (ks : List Nat) (up : X → Env) (oc : X → List PHeap) (ok : List PHeap) (I : X → Prop) {it : Item}
    (cont : ∀ x, I x → XK c k (up x ++ kills ks e) (oc x ++ ok) r)
    (first : (∀ x e' o', I x → EnvLe (up x ++ kills ks e) e' → Wk o' (oc x ++ ok) → XK c k e' o' r) → XK c (it :: k) e o r) : XK c (it :: k) e o r :=
  first fun x e' o' hI he hw => XK.weaken (cont x hI) he (fun D w => hw.sepD)
theorem XK.drop {o' : List PHeap} [p : Wk o o'] (h : XK c k e o' r) : XK c k e o r := XK.weaken h (fun _ h => h) (fun D w => p.sepD)
end
section
variable {c : Cx} {ops : Array Oper} {rest : List Oper} {k : List Item} {e : Env} {o r : List PHeap} {d : Nat} {dd : Option Tmp} {ty : TypeId} {pos : String} {aft : Array Edge}
variable {α : Type} {enc : α → List Value} {sz : Nat} {h : PHeap} {xs : List α} {v : Value}
theorem XO.weaken {e' : Env} {o' : List PHeap} (h : XO c ops rest k e' o' r) (he : EnvLe e' e) (hm : ∀ D w, Sep (D :: o) (c.B :: r) w → Sep (D :: o') (c.B :: r) w) : XO c ops rest k e o r :=
  fun j hj hok D ds a w cs ha h1 hD h2 => h j hj hok D ds a w cs ha (he a h1) hD (hm D w h2)
theorem XO.drop {o' : List PHeap} [p : Wk o o'] (h : XO c ops rest k e o' r) : XO c ops rest k e o r := XO.weaken h (EnvLe.refl e) (fun D w => p.sepD)
theorem XO.ix {t el : TypeId} [u : Und c.P t (.slice el)] [z : TySize c.P el sz] {x y : Operand} {kk : IntKind} {n : Int} {i : Nat} (hx : ev e x = some v) (hy : ev e y = some (.int kk n))
    [s : Arr v enc sz h xs] [ix : Idx n i] (h0 : 0 ≤ n) (h1 : n < xs.length) (hn : i < xs.length → XO c ops rest k ((d, some (pat v sz i 0)) :: e) o r) :
    XO c ops (⟨some d, .indexAddr t x y, ty, pos, aft, none⟩ :: rest) k e o r :=
  XO.q (Q.ix hx hy h0 h1) (hn (by have := ix.pf h0; omega))
theorem XO.append {t0 t1 el el1 : TypeId} [u : Und c.P t0 (.slice el)] [u1 : Und c.P t1 (.slice el1)] [z : TySize c.P el sz] {zs : List Value} [zz : Zero c.P el zs] {by' : Nat} [tb : TyBytes c.P el by']
    {x y : Operand} {v2 : Value} {h2 : PHeap} {ys : List α} {o1 : List PHeap} (hx : ev e x = some v) (hy : ev e y = some v2) [s : OArr v enc sz el h xs] [t : Take h o o1] [s2 : Arr v2 enc sz h2 ys] [m : InM h2 o1 (c.B :: r)]
    (hzs : zs.length = sz) (hby : Nat.ble by' 128 = true) (hn : xs.length + ys.length ≤ 68719476736) (hnx : ∀ v' h', OArr v' enc sz el h' (xs ++ ys) → XO c ops rest k ((d, some v') :: e) (h' :: o1) r) :
    XO c ops (⟨some d, .call ⟨.builtin .append, #[x, y], #[t0, t1]⟩, ty, pos, aft, none⟩ :: rest) k e o r :=
  XO.s (Stp.append hx hy hzs hby hn) fun v' _ ⟨h', hO, h2⟩ => by subst h2; exact hnx v' h' hO
theorem XO.make {t el : TypeId} [u : Und c.P t (.slice el)] [z : TySize c.P el sz] {zs : List Value} [zz : Zero c.P el zs] {by' : Nat} [tb : TyBytes c.P el by'] {x y : Operand} {kk k' : IntKind} {n n' : Int} {i : Nat}
    (enc : α → List Value) (x0 : α) (hx : ev e x = some (.int kk n)) (hy : ev e y = some (.int k' n')) (hnn : n = n') [ix : Idx n i] (h0 : 0 ≤ n) (h1 : n ≤ 68719476736)
    (henc : ∀ x, (enc x).length = sz) (hz : enc x0 = zs) (hsz : Nat.blt 0 sz = true) (hby : Nat.ble by' 128 = true) (ho : Ones (enc x0))
    (hnx : ∀ v' h', OArr v' enc sz el h' (List.replicate i x0) → XO c ops rest k ((d, some v') :: e) (h' :: o) r) :
    XO c ops (⟨some d, .makeSlice t x y, ty, pos, aft, none⟩ :: rest) k e o r :=
  XO.s (Stp.make enc x0 hx hy hnn h0 h1 henc hz hsz hby ho) fun v' _ ⟨h', hO, h2⟩ => by subst h2; exact hnx v' h' hO
theorem XO.lit {t el : TypeId} [u : Und c.P t (.slice el)] [z : TySize c.P el sz] {zs : List Value} [zz : Zero c.P el zs] {n : Nat} {l : List (Nat × Operand)} (zl cs : List Value) (xs : List α) (enc : α → List Value)
    (hzs : zs.length = sz) (hsz : Nat.blt 0 sz = true) (hn : Nat.ble (n * sz) 16777216 = true) (hzl : (List.replicate n zs).flatten = zl) (hf : Fill e (fun i => some (i * sz, sz)) l zl cs)
    (henc : ∀ x, (enc x).length = sz) (hcs : xs.flatMap enc = cs) (hxn : xs.length = n) (ho : Ones cs) (hle : Nat.ble n 16777216 = true)
    (hnx : ∀ v' h', OArr v' enc sz el h' xs → XO c ops rest k ((d, some v') :: e) (h' :: o) r) :
    XO c ops (⟨some d, .buildSlice t n l.toArray, ty, pos, aft, none⟩ :: rest) k e o r :=
  XO.m (Makes.lit cs hzs hsz hn (by rw [hzl]; exact hf)) fun b => hnx _ _ (OArr.lit xs enc henc hcs hxn ho hle)
theorem XO.cut {t el : TypeId} [u : Und c.P t (.slice el)] [z : TySize c.P el sz] {x : Operand} {lo hi : Option Operand} {i j : Nat} (hx : ev e x = some v) [s : Arr v enc sz h xs]
    (hlo : Bd e 0 lo i) (hhi : Bd e xs.length hi j) (hij : i ≤ j) (hj : j ≤ xs.length) (hnx : ∀ v', Arr v' enc sz h ((xs.drop i).take (j - i)) → XO c ops rest k ((d, some v') :: e) o r) :
    XO c ops (⟨some d, .slice t x lo hi none, ty, pos, aft, none⟩ :: rest) k e o r :=
  XO.s (Stp.cut hx hlo hhi hij hj) fun v' _ ⟨hA, h2⟩ => by subst h2; exact hnx v' hA
theorem XO.stE [Inhabited α] {t n T : TypeId} [z : TySize c.P t n] {x y : Operand} {i kk : Nat} {o1 : List PHeap} {u : Value} {us : List Value} (x' : α) (hx : ev e x = some (pat v sz i kk)) (hy : ev e y = some u)
    [hc : Cells u us] [ho : Ones us] (hl : us.length = n) [s : OArr v enc sz T h xs] [tk : Take h o o1] (hi : i < xs.length)
    (hx' : enc x' = (enc (xs.getD i default)).take kk ++ us ++ (enc (xs.getD i default)).drop (kk + n)) (hk : Nat.ble (kk + n) sz = true)
    (hnx : ∀ h', OArr v enc sz T h' (xs.set i x') → XO c ops rest k e (h' :: o1) r) :
    XO c ops (⟨none, .store t x y, ty, pos, aft, none⟩ :: rest) k e o r :=
  XO.s0 (Stp.stE x' hx hy hl hi hx' hk) fun v' _ ⟨h', hO, h2⟩ => by subst h2; exact hnx h' hO
end

/-! ### the usual elements -/
def encI (n : Int) : List Value := [.int .i64 n]
def encB (b : Bool) : List Value := [.bool b]
def encU8 (n : UInt8) : List Value := [.int .u8 n.toNat]
def encV (v : Value) : List Value := [v]
end Go.X
