/- The rules in a region that draws its order. No condition. -/
import Derived.Test.YtfenlpoaphbfgaaX11
set_option linter.unusedSimpArgs false
set_option linter.unusedVariables false
namespace Go.X
section
variable {c : Cx} {ops : Array Oper} {fl : List Nat} {f : List PHeap} {k : List Item} {e : Env} {o r : List PHeap} {i0 : Nat} {bb : Bool} {tt uu : Plan} {d : Nat} {ty : TypeId} {pos : String} {aft : Array Edge}
variable {α : Type} {enc : α → List Value} {sz : Nat} {h : PHeap} {xs : List α} {v : Value}
theorem XT.qs {op : Op} {g : Option (Nat × Bool)} {v : Value} (hi : ops[i0]? = some ⟨some d, op, ty, pos, aft, g⟩) (hok : okOper c.N ⟨some d, op, ty, pos, aft, g⟩ = true)
    (q : Quiet c.P ops ⟨some d, op, ty, pos, aft, g⟩ e o (c.B :: r) v) (hn : Keeps bb f o ∧ XT c ops fl f k r tt ((d, some v) :: e) o) (hu : XT c ops fl f k r uu e o) : XT c ops fl f k r (.br i0 bb tt uu) e o :=
  XT.s hi hok q.stp (fun _ _ ⟨hv, ho⟩ => by subst hv ho; exact hn) hu
theorem XT.ix {t el : TypeId} [u : Und c.P t (.slice el)] [z : TySize c.P el sz] {x y : Operand} {kk : IntKind} {n : Int} {i : Nat} (hi : ops[i0]? = some ⟨some d, .indexAddr t x y, ty, pos, aft, none⟩)
    (hok : okOper c.N ⟨some d, .indexAddr t x y, ty, pos, aft, none⟩ = true) (hx : ev e x = some v) (hy : ev e y = some (.int kk n))
    [s : Arr v enc sz h xs] [ix : Idx n i] (h0 : 0 ≤ n) (h1 : n < xs.length) (hn : i < xs.length → XT c ops fl f k r tt ((d, some (pat v sz i 0)) :: e) o) : XT c ops fl f k r (.q i0 tt) e o :=
  XT.q hi hok (Q.ix hx hy h0 h1) (hn (by have := ix.pf h0; omega))
theorem XT.append {t0 t1 el el1 : TypeId} [u : Und c.P t0 (.slice el)] [u1 : Und c.P t1 (.slice el1)] [z : TySize c.P el sz] {zs : List Value} [zz : Zero c.P el zs] {by' : Nat} [tb : TyBytes c.P el by']
    {x y : Operand} {v2 : Value} {h2 : PHeap} {ys : List α} {o1 : List PHeap} (hi : ops[i0]? = some ⟨some d, .call ⟨.builtin .append, #[x, y], #[t0, t1]⟩, ty, pos, aft, none⟩)
    (hok : okOper c.N ⟨some d, .call ⟨.builtin .append, #[x, y], #[t0, t1]⟩, ty, pos, aft, none⟩ = true) (hx : ev e x = some v) (hy : ev e y = some v2) [s : OArr v enc sz el h xs] [t : Take h o o1] [s2 : Arr v2 enc sz h2 ys] [m : InM h2 o1 (c.B :: r)]
    (hzs : zs.length = sz) (hby : Nat.ble by' 128 = true) (hn : xs.length + ys.length ≤ 68719476736)
    (hnx : ∀ v' h', OArr v' enc sz el h' (xs ++ ys) → Keeps bb f (h' :: o1) ∧ XT c ops fl f k r tt ((d, some v') :: e) (h' :: o1)) (hu : XT c ops fl f k r uu e o) : XT c ops fl f k r (.br i0 bb tt uu) e o :=
  XT.s hi hok (Stp.append hx hy hzs hby hn) (fun v' _ ⟨h', hO, h2⟩ => by subst h2; exact hnx v' h' hO) hu
theorem XT.make {t el : TypeId} [u : Und c.P t (.slice el)] [z : TySize c.P el sz] {zs : List Value} [zz : Zero c.P el zs] {by' : Nat} [tb : TyBytes c.P el by'] {x y : Operand} {kk k' : IntKind} {n n' : Int} {i : Nat}
    (enc : α → List Value) (x0 : α) (hi : ops[i0]? = some ⟨some d, .makeSlice t x y, ty, pos, aft, none⟩) (hok : okOper c.N ⟨some d, .makeSlice t x y, ty, pos, aft, none⟩ = true)
    (hx : ev e x = some (.int kk n)) (hy : ev e y = some (.int k' n')) (hnn : n = n') [ix : Idx n i] (h0 : 0 ≤ n) (h1 : n ≤ 68719476736)
    (henc : ∀ x, (enc x).length = sz) (hz : enc x0 = zs) (hsz : Nat.blt 0 sz = true) (hby : Nat.ble by' 128 = true) (ho : Ones (enc x0))
    (hnx : ∀ v' h', OArr v' enc sz el h' (List.replicate i x0) → Keeps bb f (h' :: o) ∧ XT c ops fl f k r tt ((d, some v') :: e) (h' :: o)) (hu : XT c ops fl f k r uu e o) : XT c ops fl f k r (.br i0 bb tt uu) e o :=
  XT.s hi hok (Stp.make enc x0 hx hy hnn h0 h1 henc hz hsz hby ho) (fun v' _ ⟨h', hO, h2⟩ => by subst h2; exact hnx v' h' hO) hu
theorem XT.lit {t el : TypeId} [u : Und c.P t (.slice el)] [z : TySize c.P el sz] {zs : List Value} [zz : Zero c.P el zs] {n : Nat} {l : List (Nat × Operand)} (zl cs : List Value) (xs : List α) (enc : α → List Value)
    (hi : ops[i0]? = some ⟨some d, .buildSlice t n l.toArray, ty, pos, aft, none⟩) (hok : okOper c.N ⟨some d, .buildSlice t n l.toArray, ty, pos, aft, none⟩ = true)
    (hzs : zs.length = sz) (hsz : Nat.blt 0 sz = true) (hn : Nat.ble (n * sz) 16777216 = true) (hzl : (List.replicate n zs).flatten = zl) (hf : Fill e (fun i => some (i * sz, sz)) l zl cs)
    (henc : ∀ x, (enc x).length = sz) (hcs : xs.flatMap enc = cs) (hxn : xs.length = n) (ho : Ones cs) (hle : Nat.ble n 16777216 = true)
    (hnx : ∀ v' h', OArr v' enc sz el h' xs → Keeps bb f (h' :: o) ∧ XT c ops fl f k r tt ((d, some v') :: e) (h' :: o)) (hu : XT c ops fl f k r uu e o) : XT c ops fl f k r (.br i0 bb tt uu) e o :=
  XT.s hi hok ((Makes.lit cs hzs hsz hn (by rw [hzl]; exact hf)).stp _ _) (fun v' o' ⟨b, hv, ho'⟩ => by subst hv ho'; exact hnx _ _ (OArr.lit xs enc henc hcs hxn ho hle)) hu
theorem XT.alloc {t : TypeId} {zs : List Value} [z : Zero c.P t zs] (hi : ops[i0]? = some ⟨some d, .alloc t, ty, pos, aft, none⟩) (hok : okOper c.N ⟨some d, .alloc t, ty, pos, aft, none⟩ = true)
    (hn : ∀ b, Keeps bb f (blk b zs t :: o) ∧ XT c ops fl f k r tt ((d, some (ptr b 0)) :: e) (blk b zs t :: o)) (hu : XT c ops fl f k r uu e o) : XT c ops fl f k r (.br i0 bb tt uu) e o :=
  XT.s hi hok (Makes.alloc.stp _ _) (fun v' o' ⟨b, hv, ho'⟩ => by subst hv ho'; exact hn b) hu
theorem XT.box {t : TypeId} {x : Operand} {v : Value} {cs : List Value} (hi : ops[i0]? = some ⟨some d, .box t x, ty, pos, aft, none⟩) (hok : okOper c.N ⟨some d, .box t x, ty, pos, aft, none⟩ = true) (hx : ev e x = some v) [hc : Cells v cs]
    (hn : ∀ b, Keeps bb f (blk b cs t :: o) ∧ XT c ops fl f k r tt ((d, some (ptr b 0)) :: e) (blk b cs t :: o)) (hu : XT c ops fl f k r uu e o) : XT c ops fl f k r (.br i0 bb tt uu) e o :=
  XT.s hi hok ((Makes.box hx).stp _ _) (fun v' o' ⟨b, hv, ho'⟩ => by subst hv ho'; exact hn b) hu
theorem XT.st {t : TypeId} {n : Nat} [s : TySize c.P t n] {x y : Operand} {b i : Nat} {v : Value} {vs : List Value} {o' : List PHeap} (hi : ops[i0]? = some ⟨none, .store t x y, ty, pos, aft, none⟩) (hok : okOper c.N ⟨none, .store t x y, ty, pos, aft, none⟩ = true)
    (hx : ev e x = some (ptr b i)) (hy : ev e y = some v) [hc : Cells v vs] [ho : Ones vs] (hl : vs.length = n) [u : Upd b i vs o o'] (hn : Keeps bb f o' ∧ XT c ops fl f k r tt e o') (hu : XT c ops fl f k r uu e o) :
    XT c ops fl f k r (.br i0 bb tt uu) e o := XT.s0 hi hok (Stp.st hx hy hl) (fun _ _ ⟨_, h2⟩ => by subst h2; exact hn) hu
theorem XT.stE [Inhabited α] {t n T : TypeId} [z : TySize c.P t n] {x y : Operand} {i kk : Nat} {o1 : List PHeap} {u : Value} {us : List Value} (x' : α) (hi0 : ops[i0]? = some ⟨none, .store t x y, ty, pos, aft, none⟩)
    (hok : okOper c.N ⟨none, .store t x y, ty, pos, aft, none⟩ = true) (hx : ev e x = some (pat v sz i kk)) (hy : ev e y = some u)
    [hc : Cells u us] [ho : Ones us] (hl : us.length = n) [s : OArr v enc sz T h xs] [tk : Take h o o1] (hi : i < xs.length)
    (hx' : enc x' = (enc (xs.getD i default)).take kk ++ us ++ (enc (xs.getD i default)).drop (kk + n)) (hk : Nat.ble (kk + n) sz = true)
    (hnx : ∀ h', OArr v enc sz T h' (xs.set i x') → Keeps bb f (h' :: o1) ∧ XT c ops fl f k r tt e (h' :: o1)) (hu : XT c ops fl f k r uu e o) : XT c ops fl f k r (.br i0 bb tt uu) e o :=
  XT.s0 hi0 hok (Stp.stE x' hx hy hl hi hx' hk) (fun v' _ ⟨h', hO, h2⟩ => by subst h2; exact hnx h' hO) hu
theorem XT.call {g : FuncId} {x : Operand} {l : List Operand} {tys : Array TypeId} {fst vs cap A : List Value} {Hm Hr : List PHeap} {R : Value → List PHeap → Prop} {o1 : List PHeap}
    (hi : ops[i0]? = some ⟨some d, .call ⟨.value x, l.toArray, tys⟩, ty, pos, aft, none⟩) (hok : okOper c.N ⟨some d, .call ⟨.value x, l.toArray, tys⟩, ty, pos, aft, none⟩ = true)
    (hc : ∀ args w, (callFunc g args).run c.P w = .ok (.enter g args) w) (hx : ev e x = some (.func (.func g) fst.toArray cap.toArray)) (hl : evs e l = some vs) (hA : fst ++ vs ++ cap = A)
    (hS : Spec c.P g A.toArray Hm Hr R) [t : Takes Hm o o1] [al : AllIn Hr o1 (c.B :: r)] (h : ∀ v hs, R v hs → Keeps bb f (hs ++ o1) ∧ XT c ops fl f k r tt ((d, some v) :: e) (hs ++ o1)) (hu : XT c ops fl f k r uu e o) :
    XT c ops fl f k r (.br i0 bb tt uu) e o := XT.s hi hok (Stp.call hc hx hl hA hS) (fun v o2 ⟨hs, hR, h2⟩ => by subst h2; exact h v hs hR) hu
theorem XT.callB {g : FuncId} {x : Operand} {l : List Operand} {tys : Array TypeId} {fst vs cap A : List Value} {Hr : List PHeap} {R : Value → List PHeap → Prop} {o1 : List PHeap} (b : Nat) {cs : List Value} {T : TypeId} [hb : HasL b o cs T]
    [t : Take (blk b cs T) o o1] (hi : ops[i0]? = some ⟨some d, .call ⟨.value x, l.toArray, tys⟩, ty, pos, aft, none⟩) (hok : okOper c.N ⟨some d, .call ⟨.value x, l.toArray, tys⟩, ty, pos, aft, none⟩ = true)
    (hc : ∀ args w, (callFunc g args).run c.P w = .ok (.enter g args) w) (hx : ev e x = some (.func (.func g) fst.toArray cap.toArray)) (hl : evs e l = some vs) (hA : fst ++ vs ++ cap = A)
    (hS : Spec c.P g A.toArray [blk b cs T] Hr R) [al : AllIn Hr o1 (c.B :: r)] (h : ∀ v hs, R v hs → Keeps bb f (hs ++ o1) ∧ XT c ops fl f k r tt ((d, some v) :: e) (hs ++ o1)) (hu : XT c ops fl f k r uu e o) :
    XT c ops fl f k r (.br i0 bb tt uu) e o :=
  XT.s hi hok (Stp.call (Hm := [blk b cs T]) (o1 := o1) (t := ⟨t.pf⟩) hc hx hl hA hS) (fun v o2 ⟨hs, hR, h2⟩ => by subst h2; exact h v hs hR) hu
end
end Go.X
