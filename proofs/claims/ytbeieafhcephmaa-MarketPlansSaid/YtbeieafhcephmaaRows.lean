/-
  No cell of these rows narrows 'for every input' (looked for: loops, veiled, ifaces, maps, wideKeys, modest, calm, conditions, laid).
  DERIVED. THE GIVEN ROWS OF THIS SEAT. 6 by the template 'for every input the law returns true; each argument reads behind the call as it read before'; 0 by the template 'total and deterministic' (their statements: YtbeieafhcephmaaTotals.lean).
  GIVEN WITH THE SEED: the statements are not yours to turn. If you find one false, say at which input.
  Laid BY PROGRAM, IN A SANDBOX (cutbox-rows.mjs): the forced cells as the released guide's own fill.sh prints them over the translation d462b8ecbbc29ad9… (all of the seat's roots in one cut). By AI agents, Wed Nov 11 2026. No macro, syntax, notation, axiom, sorry.
-/
import Derived.Test.YtbeieafhcephmaaChecked
import GoSem.Claim
import GoSem.ClaimJoined
import GoSem.ClaimMapViews
import Derived.JoinedTies
import Derived.KernelRfl
namespace Go.Proofs.Ytbeieafhcephmaa
/- THE CELL 'sum', in the pinned program and in every row, IS THE sha256 OF THE DUMP (.gsa) THAT YtbeieafhcephmaaProg.lean LOADS. Nothing in Lean hashes anything: it is a label: what it is worth is what the hold of that sum in a sandbox is worth. -/
noncomputable def Try.pinned : Pinned := { name := "ytbeieafhcephmaa", sum := "d462b8ecbbc29ad97151f48421339d1991304015653286982bdc7946aab751e1", checked := Try.checked }
namespace Rows
def none {H : Type} : Left H := { results := [], args := [] }

/-- 'switchgearlaw10.MarketGrows': WHATEVER THE INPUT: true; the input reads as it did. -/
def marketGrowsSpec : ChangeSpec := { name := "marketGrows", fn := fun _ => fun
  | [d1, d2, d3, d4] => { results := [.lit (.bool true)], args := [d1, d2, d3, d4] }
  | _ => none }
def marketGrowsRow : OpenClaim := { program := "ytbeieafhcephmaa", sum := "d462b8ecbbc29ad97151f48421339d1991304015653286982bdc7946aab751e1", func := "switchgear/switchgearlaw10.MarketGrows", spec := "marketGrows", unfollowed := true, recurses := true, apart := false }
def MarketGrowsSaid : Prop := marketGrowsRow.holds Try.pinned (OpenSpec.ofChange marketGrowsSpec)

/-- ITS FALSE NEIGHBOUR: 'it returns false'. Refute it at one input. -/
def marketGrowsWrong : ChangeSpec := { name := "marketGrows", fn := fun _ => fun
  | [d1, d2, d3, d4] => { results := [.lit (.bool false)], args := [d1, d2, d3, d4] }
  | _ => none }
def MarketGrowsWrongFalsely : Prop := marketGrowsRow.holds Try.pinned (OpenSpec.ofChange marketGrowsWrong)

/-- 'switchgearlaw10.MarketOffers': WHATEVER THE INPUT: true; the input reads as it did. -/
def marketOffersSpec : ChangeSpec := { name := "marketOffers", fn := fun _ => fun
  | [d1, d2, d3, d4] => { results := [.lit (.bool true)], args := [d1, d2, d3, d4] }
  | _ => none }
def marketOffersRow : OpenClaim := { program := "ytbeieafhcephmaa", sum := "d462b8ecbbc29ad97151f48421339d1991304015653286982bdc7946aab751e1", func := "switchgear/switchgearlaw10.MarketOffers", spec := "marketOffers", unfollowed := true, recurses := true, apart := false }
def MarketOffersSaid : Prop := marketOffersRow.holds Try.pinned (OpenSpec.ofChange marketOffersSpec)

/-- ITS FALSE NEIGHBOUR: 'it returns false'. Refute it at one input. -/
def marketOffersWrong : ChangeSpec := { name := "marketOffers", fn := fun _ => fun
  | [d1, d2, d3, d4] => { results := [.lit (.bool false)], args := [d1, d2, d3, d4] }
  | _ => none }
def MarketOffersWrongFalsely : Prop := marketOffersRow.holds Try.pinned (OpenSpec.ofChange marketOffersWrong)

/-- 'switchgearlaw10.MarketLeast': WHATEVER THE INPUT: true; the input reads as it did. -/
def marketLeastSpec : ChangeSpec := { name := "marketLeast", fn := fun _ => fun
  | [d1, d2, d3] => { results := [.lit (.bool true)], args := [d1, d2, d3] }
  | _ => none }
def marketLeastRow : OpenClaim := { program := "ytbeieafhcephmaa", sum := "d462b8ecbbc29ad97151f48421339d1991304015653286982bdc7946aab751e1", func := "switchgear/switchgearlaw10.MarketLeast", spec := "marketLeast", unfollowed := true, recurses := true, apart := false }
def MarketLeastSaid : Prop := marketLeastRow.holds Try.pinned (OpenSpec.ofChange marketLeastSpec)

/-- ITS FALSE NEIGHBOUR: 'it returns false'. Refute it at one input. -/
def marketLeastWrong : ChangeSpec := { name := "marketLeast", fn := fun _ => fun
  | [d1, d2, d3] => { results := [.lit (.bool false)], args := [d1, d2, d3] }
  | _ => none }
def MarketLeastWrongFalsely : Prop := marketLeastRow.holds Try.pinned (OpenSpec.ofChange marketLeastWrong)

/-- 'switchgearlaw10.MarketDelivered': WHATEVER THE INPUT: true; the input reads as it did. -/
def marketDeliveredSpec : ChangeSpec := { name := "marketDelivered", fn := fun _ => fun
  | [d1, d2, d3, d4, d5, d6, d7] => { results := [.lit (.bool true)], args := [d1, d2, d3, d4, d5, d6, d7] }
  | _ => none }
def marketDeliveredRow : OpenClaim := { program := "ytbeieafhcephmaa", sum := "d462b8ecbbc29ad97151f48421339d1991304015653286982bdc7946aab751e1", func := "switchgear/switchgearlaw10.MarketDelivered", spec := "marketDelivered", unfollowed := true, recurses := true, apart := false }
def MarketDeliveredSaid : Prop := marketDeliveredRow.holds Try.pinned (OpenSpec.ofChange marketDeliveredSpec)

/-- ITS FALSE NEIGHBOUR: 'it returns false'. Refute it at one input. -/
def marketDeliveredWrong : ChangeSpec := { name := "marketDelivered", fn := fun _ => fun
  | [d1, d2, d3, d4, d5, d6, d7] => { results := [.lit (.bool false)], args := [d1, d2, d3, d4, d5, d6, d7] }
  | _ => none }
def MarketDeliveredWrongFalsely : Prop := marketDeliveredRow.holds Try.pinned (OpenSpec.ofChange marketDeliveredWrong)

/-- 'switchgearlaw10.MarketBalance': WHATEVER THE INPUT: true; the input reads as it did. -/
def marketBalanceSpec : ChangeSpec := { name := "marketBalance", fn := fun _ => fun
  | [d1, d2, d3] => { results := [.lit (.bool true)], args := [d1, d2, d3] }
  | _ => none }
def marketBalanceRow : OpenClaim := { program := "ytbeieafhcephmaa", sum := "d462b8ecbbc29ad97151f48421339d1991304015653286982bdc7946aab751e1", func := "switchgear/switchgearlaw10.MarketBalance", spec := "marketBalance", unfollowed := true, recurses := true, apart := false }
def MarketBalanceSaid : Prop := marketBalanceRow.holds Try.pinned (OpenSpec.ofChange marketBalanceSpec)

/-- ITS FALSE NEIGHBOUR: 'it returns false'. Refute it at one input. -/
def marketBalanceWrong : ChangeSpec := { name := "marketBalance", fn := fun _ => fun
  | [d1, d2, d3] => { results := [.lit (.bool false)], args := [d1, d2, d3] }
  | _ => none }
def MarketBalanceWrongFalsely : Prop := marketBalanceRow.holds Try.pinned (OpenSpec.ofChange marketBalanceWrong)

/-- 'switchgearlaw10.MarketPlans': WHATEVER THE INPUT: true; the input reads as it did. -/
def marketPlansSpec : ChangeSpec := { name := "marketPlans", fn := fun _ => fun
  | [d1, d2, d3, d4] => { results := [.lit (.bool true)], args := [d1, d2, d3, d4] }
  | _ => none }
def marketPlansRow : OpenClaim := { program := "ytbeieafhcephmaa", sum := "d462b8ecbbc29ad97151f48421339d1991304015653286982bdc7946aab751e1", func := "switchgear/switchgearlaw10.MarketPlans", spec := "marketPlans", unfollowed := true, recurses := true, apart := false }
def MarketPlansSaid : Prop := marketPlansRow.holds Try.pinned (OpenSpec.ofChange marketPlansSpec)

/-- ITS FALSE NEIGHBOUR: 'it returns false'. Refute it at one input. -/
def marketPlansWrong : ChangeSpec := { name := "marketPlans", fn := fun _ => fun
  | [d1, d2, d3, d4] => { results := [.lit (.bool false)], args := [d1, d2, d3, d4] }
  | _ => none }
def MarketPlansWrongFalsely : Prop := marketPlansRow.holds Try.pinned (OpenSpec.ofChange marketPlansWrong)

/- THE SECOND FORM. 'bulk': how many values and letters a reading holds, each counted each time it is reached (what is shared counts as often as it is met; a slice's spare places count too). A statement '..UptoSaid' is the law's where the arguments, and the package variables that the reading takes, are together of bulk at most 1048576: NARROWER than '..Said'. Prove '..Said' where nothing that the law and all that it calls make is longer than what came in: it says more and counts as full. Else prove '..UptoSaid'. A law counts once. -/
mutual
def uptoBulk {H : Type} : DataW H → Nat
  | .lit (.string bytes) => bytes.length + 1
  | .lit _ => 1
  | .nil => 1
  | .ptr d => uptoBulk d + 1
  | .slice elems spare => uptoBulkAll elems + uptoBulkAll spare + 1
  | .agg parts => uptoBulkAll parts + 1
  | .iface _ d => uptoBulk d + 1
  | .map entries => uptoBulkEntries entries + 1
  | .held _ => 1
def uptoBulkAll {H : Type} : List (DataW H) → Nat
  | [] => 0
  | d :: r => uptoBulk d + uptoBulkAll r
def uptoBulkEntries {H : Type} : List (Lit × DataW H) → Nat
  | [] => 0
  | x :: r => uptoBulkEntry x + uptoBulkEntries r
def uptoBulkEntry {H : Type} : Lit × DataW H → Nat
  | (.string bytes, d) => bytes.length + uptoBulk d + 1
  | (_, d) => uptoBulk d + 1
 end
def uptoSmall : (H : Type) → List (DataW H) → Bool := fun _ ds => decide (uptoBulkAll ds ≤ 1048576)
def OpenSpec.upto (s : _root_.Go.ChangeSpec) : _root_.Go.OpenSpec := { _root_.Go.OpenSpec.ofChange s with cond := some uptoSmall }

/-- 'switchgearlaw10.MarketGrows', WHERE WHAT IT READS IS OF BULK AT MOST 1048576: true; the input reads as it did. -/
def marketGrowsUptoRow : OpenClaim := { program := "ytbeieafhcephmaa", sum := "d462b8ecbbc29ad97151f48421339d1991304015653286982bdc7946aab751e1", func := "switchgear/switchgearlaw10.MarketGrows", spec := "marketGrows", unfollowed := true, recurses := true, apart := false, narrowed := true }
def MarketGrowsUptoSaid : Prop := marketGrowsUptoRow.holds Try.pinned (OpenSpec.upto marketGrowsSpec)

/-- 'switchgearlaw10.MarketOffers', WHERE WHAT IT READS IS OF BULK AT MOST 1048576: true; the input reads as it did. -/
def marketOffersUptoRow : OpenClaim := { program := "ytbeieafhcephmaa", sum := "d462b8ecbbc29ad97151f48421339d1991304015653286982bdc7946aab751e1", func := "switchgear/switchgearlaw10.MarketOffers", spec := "marketOffers", unfollowed := true, recurses := true, apart := false, narrowed := true }
def MarketOffersUptoSaid : Prop := marketOffersUptoRow.holds Try.pinned (OpenSpec.upto marketOffersSpec)

/-- 'switchgearlaw10.MarketLeast', WHERE WHAT IT READS IS OF BULK AT MOST 1048576: true; the input reads as it did. -/
def marketLeastUptoRow : OpenClaim := { program := "ytbeieafhcephmaa", sum := "d462b8ecbbc29ad97151f48421339d1991304015653286982bdc7946aab751e1", func := "switchgear/switchgearlaw10.MarketLeast", spec := "marketLeast", unfollowed := true, recurses := true, apart := false, narrowed := true }
def MarketLeastUptoSaid : Prop := marketLeastUptoRow.holds Try.pinned (OpenSpec.upto marketLeastSpec)

/-- 'switchgearlaw10.MarketDelivered', WHERE WHAT IT READS IS OF BULK AT MOST 1048576: true; the input reads as it did. -/
def marketDeliveredUptoRow : OpenClaim := { program := "ytbeieafhcephmaa", sum := "d462b8ecbbc29ad97151f48421339d1991304015653286982bdc7946aab751e1", func := "switchgear/switchgearlaw10.MarketDelivered", spec := "marketDelivered", unfollowed := true, recurses := true, apart := false, narrowed := true }
def MarketDeliveredUptoSaid : Prop := marketDeliveredUptoRow.holds Try.pinned (OpenSpec.upto marketDeliveredSpec)

/-- 'switchgearlaw10.MarketBalance', WHERE WHAT IT READS IS OF BULK AT MOST 1048576: true; the input reads as it did. -/
def marketBalanceUptoRow : OpenClaim := { program := "ytbeieafhcephmaa", sum := "d462b8ecbbc29ad97151f48421339d1991304015653286982bdc7946aab751e1", func := "switchgear/switchgearlaw10.MarketBalance", spec := "marketBalance", unfollowed := true, recurses := true, apart := false, narrowed := true }
def MarketBalanceUptoSaid : Prop := marketBalanceUptoRow.holds Try.pinned (OpenSpec.upto marketBalanceSpec)

/-- 'switchgearlaw10.MarketPlans', WHERE WHAT IT READS IS OF BULK AT MOST 1048576: true; the input reads as it did. -/
def marketPlansUptoRow : OpenClaim := { program := "ytbeieafhcephmaa", sum := "d462b8ecbbc29ad97151f48421339d1991304015653286982bdc7946aab751e1", func := "switchgear/switchgearlaw10.MarketPlans", spec := "marketPlans", unfollowed := true, recurses := true, apart := false, narrowed := true }
def MarketPlansUptoSaid : Prop := marketPlansUptoRow.holds Try.pinned (OpenSpec.upto marketPlansSpec)

end Rows
end Go.Proofs.Ytbeieafhcephmaa
