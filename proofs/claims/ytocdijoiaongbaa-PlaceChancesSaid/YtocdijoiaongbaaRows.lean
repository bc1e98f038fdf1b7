/-
  No cell of these rows narrows 'for every input' (looked for: loops, veiled, ifaces, maps, wideKeys, modest, calm, conditions, laid).
  DERIVED. THE GIVEN ROWS OF THIS SEAT. 5 by the template 'for every input the law returns true; each argument reads behind the call as it read before'; 0 by the template 'total and deterministic' (their statements: YtocdijoiaongbaaTotals.lean).
  GIVEN WITH THE SEED: the statements are not yours to turn. If you find one false, say at which input.
  Laid BY PROGRAM, IN A SANDBOX (cutbox-rows.mjs): the forced cells as the released guide's own fill.sh prints them over the translation 99adf2f5f948710e… (all of the seat's roots in one cut). By AI agents, Wed Nov 11 2026. No macro, syntax, notation, axiom, sorry.
-/
import Derived.Test.YtocdijoiaongbaaChecked
import GoSem.Claim
import GoSem.ClaimJoined
import GoSem.ClaimMapViews
import Derived.JoinedTies
import Derived.KernelRfl
namespace Go.Proofs.Ytocdijoiaongbaa
/- THE CELL 'sum', in the pinned program and in every row, IS THE sha256 OF THE DUMP (.gsa) THAT YtocdijoiaongbaaProg.lean LOADS. Nothing in Lean hashes anything: it is a label: what it is worth is what the hold of that sum in a sandbox is worth. -/
noncomputable def Try.pinned : Pinned := { name := "ytocdijoiaongbaa", sum := "99adf2f5f948710ed657b3215d1cbb4c5ce6138fb83f832b63cd1dbdb7c9e6f1", checked := Try.checked }
namespace Rows
def none {H : Type} : Left H := { results := [], args := [] }

/-- 'switchgearlaw09.PlaceDraws': WHATEVER THE INPUT: true; the input reads as it did. -/
def placeDrawsSpec : ChangeSpec := { name := "placeDraws", fn := fun _ => fun
  | [d1, d2] => { results := [.lit (.bool true)], args := [d1, d2] }
  | _ => none }
def placeDrawsRow : OpenClaim := { program := "ytocdijoiaongbaa", sum := "99adf2f5f948710ed657b3215d1cbb4c5ce6138fb83f832b63cd1dbdb7c9e6f1", func := "switchgear/switchgearlaw09.PlaceDraws", spec := "placeDraws", unfollowed := true, recurses := true, plainKeys := false, apart := false }
def PlaceDrawsSaid : Prop := placeDrawsRow.holds Try.pinned (OpenSpec.ofChange placeDrawsSpec)

/-- ITS FALSE NEIGHBOUR: 'it returns false'. Refute it at one input. -/
def placeDrawsWrong : ChangeSpec := { name := "placeDraws", fn := fun _ => fun
  | [d1, d2] => { results := [.lit (.bool false)], args := [d1, d2] }
  | _ => none }
def PlaceDrawsWrongFalsely : Prop := placeDrawsRow.holds Try.pinned (OpenSpec.ofChange placeDrawsWrong)

/-- 'switchgearlaw09.PlaceWorth': WHATEVER THE INPUT: true; the input reads as it did. -/
def placeWorthSpec : ChangeSpec := { name := "placeWorth", fn := fun _ => fun
  | [d1, d2, d3] => { results := [.lit (.bool true)], args := [d1, d2, d3] }
  | _ => none }
def placeWorthRow : OpenClaim := { program := "ytocdijoiaongbaa", sum := "99adf2f5f948710ed657b3215d1cbb4c5ce6138fb83f832b63cd1dbdb7c9e6f1", func := "switchgear/switchgearlaw09.PlaceWorth", spec := "placeWorth", unfollowed := true, recurses := true, plainKeys := false, apart := false }
def PlaceWorthSaid : Prop := placeWorthRow.holds Try.pinned (OpenSpec.ofChange placeWorthSpec)

/-- ITS FALSE NEIGHBOUR: 'it returns false'. Refute it at one input. -/
def placeWorthWrong : ChangeSpec := { name := "placeWorth", fn := fun _ => fun
  | [d1, d2, d3] => { results := [.lit (.bool false)], args := [d1, d2, d3] }
  | _ => none }
def PlaceWorthWrongFalsely : Prop := placeWorthRow.holds Try.pinned (OpenSpec.ofChange placeWorthWrong)

/-- 'switchgearlaw09.PlaceLess': WHATEVER THE INPUT: true; the input reads as it did. -/
def placeLessSpec : ChangeSpec := { name := "placeLess", fn := fun _ => fun
  | [d1, d2] => { results := [.lit (.bool true)], args := [d1, d2] }
  | _ => none }
def placeLessRow : OpenClaim := { program := "ytocdijoiaongbaa", sum := "99adf2f5f948710ed657b3215d1cbb4c5ce6138fb83f832b63cd1dbdb7c9e6f1", func := "switchgear/switchgearlaw09.PlaceLess", spec := "placeLess", unfollowed := true, recurses := true, plainKeys := false, apart := false }
def PlaceLessSaid : Prop := placeLessRow.holds Try.pinned (OpenSpec.ofChange placeLessSpec)

/-- ITS FALSE NEIGHBOUR: 'it returns false'. Refute it at one input. -/
def placeLessWrong : ChangeSpec := { name := "placeLess", fn := fun _ => fun
  | [d1, d2] => { results := [.lit (.bool false)], args := [d1, d2] }
  | _ => none }
def PlaceLessWrongFalsely : Prop := placeLessRow.holds Try.pinned (OpenSpec.ofChange placeLessWrong)

/-- 'switchgearlaw09.PlaceChances': WHATEVER THE INPUT: true; the input reads as it did. -/
def placeChancesSpec : ChangeSpec := { name := "placeChances", fn := fun _ => fun
  | [d1, d2, d3, d4] => { results := [.lit (.bool true)], args := [d1, d2, d3, d4] }
  | _ => none }
def placeChancesRow : OpenClaim := { program := "ytocdijoiaongbaa", sum := "99adf2f5f948710ed657b3215d1cbb4c5ce6138fb83f832b63cd1dbdb7c9e6f1", func := "switchgear/switchgearlaw09.PlaceChances", spec := "placeChances", unfollowed := true, recurses := true, plainKeys := false, apart := false }
def PlaceChancesSaid : Prop := placeChancesRow.holds Try.pinned (OpenSpec.ofChange placeChancesSpec)

/-- ITS FALSE NEIGHBOUR: 'it returns false'. Refute it at one input. -/
def placeChancesWrong : ChangeSpec := { name := "placeChances", fn := fun _ => fun
  | [d1, d2, d3, d4] => { results := [.lit (.bool false)], args := [d1, d2, d3, d4] }
  | _ => none }
def PlaceChancesWrongFalsely : Prop := placeChancesRow.holds Try.pinned (OpenSpec.ofChange placeChancesWrong)

/-- 'switchgearlaw09.PlaceGrows': WHATEVER THE INPUT: true; the input reads as it did. -/
def placeGrowsSpec : ChangeSpec := { name := "placeGrows", fn := fun _ => fun
  | [d1, d2, d3, d4] => { results := [.lit (.bool true)], args := [d1, d2, d3, d4] }
  | _ => none }
def placeGrowsRow : OpenClaim := { program := "ytocdijoiaongbaa", sum := "99adf2f5f948710ed657b3215d1cbb4c5ce6138fb83f832b63cd1dbdb7c9e6f1", func := "switchgear/switchgearlaw09.PlaceGrows", spec := "placeGrows", unfollowed := true, recurses := true, plainKeys := false, apart := false }
def PlaceGrowsSaid : Prop := placeGrowsRow.holds Try.pinned (OpenSpec.ofChange placeGrowsSpec)

/-- ITS FALSE NEIGHBOUR: 'it returns false'. Refute it at one input. -/
def placeGrowsWrong : ChangeSpec := { name := "placeGrows", fn := fun _ => fun
  | [d1, d2, d3, d4] => { results := [.lit (.bool false)], args := [d1, d2, d3, d4] }
  | _ => none }
def PlaceGrowsWrongFalsely : Prop := placeGrowsRow.holds Try.pinned (OpenSpec.ofChange placeGrowsWrong)

/- THE SECOND FORM. 'bulk': how many values and letters a reading holds, each counted each time it is reached (what is shared counts as often as it is met; a slice's spare places count too). A statement '..UptoSaid' is the law's where the arguments, and the package variables that the reading takes, are together of bulk at most 1048576: NARROWER than '..Said'. Prove '..Said' where nothing that the law and all that it calls make is longer than what came in: it says more and counts as full. Else prove '..UptoSaid'. A law counts once. -/
mutual
def uptoBulk {H : Type} : DataW H → Nat
  | .lit (.string bytes) => bytes.length + 1
  | .lit _ => 1
  | .nil => 1
  | .ptr d => uptoBulk d + 1
  | .slice elems spare => uptoBulkAll elems + uptoBulkAll spare + 1
  | .agg parts => uptoBulkAll parts + 1
  | .iface _ d => uptoBulk d + 1
  | .map entries => uptoBulkEntries entries + 1
  | .held _ => 1
def uptoBulkAll {H : Type} : List (DataW H) → Nat
  | [] => 0
  | d :: r => uptoBulk d + uptoBulkAll r
def uptoBulkEntries {H : Type} : List (Lit × DataW H) → Nat
  | [] => 0
  | x :: r => uptoBulkEntry x + uptoBulkEntries r
def uptoBulkEntry {H : Type} : Lit × DataW H → Nat
  | (.string bytes, d) => bytes.length + uptoBulk d + 1
  | (_, d) => uptoBulk d + 1
 end
def uptoSmall : (H : Type) → List (DataW H) → Bool := fun _ ds => decide (uptoBulkAll ds ≤ 1048576)
def OpenSpec.upto (s : _root_.Go.ChangeSpec) : _root_.Go.OpenSpec := { _root_.Go.OpenSpec.ofChange s with cond := some uptoSmall }

/-- 'switchgearlaw09.PlaceDraws', WHERE WHAT IT READS IS OF BULK AT MOST 1048576: true; the input reads as it did. -/
def placeDrawsUptoRow : OpenClaim := { program := "ytocdijoiaongbaa", sum := "99adf2f5f948710ed657b3215d1cbb4c5ce6138fb83f832b63cd1dbdb7c9e6f1", func := "switchgear/switchgearlaw09.PlaceDraws", spec := "placeDraws", unfollowed := true, recurses := true, plainKeys := false, apart := false, narrowed := true }
def PlaceDrawsUptoSaid : Prop := placeDrawsUptoRow.holds Try.pinned (OpenSpec.upto placeDrawsSpec)

/-- 'switchgearlaw09.PlaceWorth', WHERE WHAT IT READS IS OF BULK AT MOST 1048576: true; the input reads as it did. -/
def placeWorthUptoRow : OpenClaim := { program := "ytocdijoiaongbaa", sum := "99adf2f5f948710ed657b3215d1cbb4c5ce6138fb83f832b63cd1dbdb7c9e6f1", func := "switchgear/switchgearlaw09.PlaceWorth", spec := "placeWorth", unfollowed := true, recurses := true, plainKeys := false, apart := false, narrowed := true }
def PlaceWorthUptoSaid : Prop := placeWorthUptoRow.holds Try.pinned (OpenSpec.upto placeWorthSpec)

/-- 'switchgearlaw09.PlaceLess', WHERE WHAT IT READS IS OF BULK AT MOST 1048576: true; the input reads as it did. -/
def placeLessUptoRow : OpenClaim := { program := "ytocdijoiaongbaa", sum := "99adf2f5f948710ed657b3215d1cbb4c5ce6138fb83f832b63cd1dbdb7c9e6f1", func := "switchgear/switchgearlaw09.PlaceLess", spec := "placeLess", unfollowed := true, recurses := true, plainKeys := false, apart := false, narrowed := true }
def PlaceLessUptoSaid : Prop := placeLessUptoRow.holds Try.pinned (OpenSpec.upto placeLessSpec)

/-- 'switchgearlaw09.PlaceChances', WHERE WHAT IT READS IS OF BULK AT MOST 1048576: true; the input reads as it did. -/
def placeChancesUptoRow : OpenClaim := { program := "ytocdijoiaongbaa", sum := "99adf2f5f948710ed657b3215d1cbb4c5ce6138fb83f832b63cd1dbdb7c9e6f1", func := "switchgear/switchgearlaw09.PlaceChances", spec := "placeChances", unfollowed := true, recurses := true, plainKeys := false, apart := false, narrowed := true }
def PlaceChancesUptoSaid : Prop := placeChancesUptoRow.holds Try.pinned (OpenSpec.upto placeChancesSpec)

/-- 'switchgearlaw09.PlaceGrows', WHERE WHAT IT READS IS OF BULK AT MOST 1048576: true; the input reads as it did. -/
def placeGrowsUptoRow : OpenClaim := { program := "ytocdijoiaongbaa", sum := "99adf2f5f948710ed657b3215d1cbb4c5ce6138fb83f832b63cd1dbdb7c9e6f1", func := "switchgear/switchgearlaw09.PlaceGrows", spec := "placeGrows", unfollowed := true, recurses := true, plainKeys := false, apart := false, narrowed := true }
def PlaceGrowsUptoSaid : Prop := placeGrowsUptoRow.holds Try.pinned (OpenSpec.upto placeGrowsSpec)

end Rows
end Go.Proofs.Ytocdijoiaongbaa
