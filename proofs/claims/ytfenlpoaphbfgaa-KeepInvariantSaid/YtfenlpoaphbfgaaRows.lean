/-
  No cell of these rows narrows 'for every input' (looked for: loops, veiled, ifaces, maps, wideKeys, modest, calm, conditions, laid).
  DERIVED. THE GIVEN ROWS OF THIS SEAT. 7 by the template 'for every input the law returns true; each argument reads behind the call as it read before'; 0 by the template 'total and deterministic' (their statements: YtfenlpoaphbfgaaTotals.lean).
  GIVEN WITH THE SEED: the statements are not yours to turn. If you find one false, say at which input.
  Laid BY PROGRAM, IN A SANDBOX (cutbox-rows.mjs): the forced cells as the released guide's own fill.sh prints them over the translation 45cdb2c449ab9d61… (all of the seat's roots in one cut). By AI agents, Wed Nov 11 2026. No macro, syntax, notation, axiom, sorry.
-/
import Derived.Test.YtfenlpoaphbfgaaChecked
import GoSem.Claim
import GoSem.ClaimJoined
import GoSem.ClaimMapViews
import Derived.JoinedTies
import Derived.KernelRfl
namespace Go.Proofs.Ytfenlpoaphbfgaa
/- THE CELL 'sum', in the pinned program and in every row, IS THE sha256 OF THE DUMP (.gsa) THAT YtfenlpoaphbfgaaProg.lean LOADS. Nothing in Lean hashes anything: it is a label: what it is worth is what the hold of that sum in a sandbox is worth. -/
noncomputable def Try.pinned : Pinned := { name := "ytfenlpoaphbfgaa", sum := "45cdb2c449ab9d614d13cd8494f459d248d954c0a6d62fe0f48d33b7702429c1", checked := Try.checked }
namespace Rows
def none {H : Type} : Left H := { results := [], args := [] }

/-- 'switchgearlaw08.KeepMakes': WHATEVER THE INPUT: true; the input reads as it did. -/
def keepMakesSpec : ChangeSpec := { name := "keepMakes", fn := fun _ => fun
  | [d1, d2, d3] => { results := [.lit (.bool true)], args := [d1, d2, d3] }
  | _ => none }
def keepMakesRow : OpenClaim := { program := "ytfenlpoaphbfgaa", sum := "45cdb2c449ab9d614d13cd8494f459d248d954c0a6d62fe0f48d33b7702429c1", func := "switchgear/switchgearlaw08.KeepMakes", spec := "keepMakes", unfollowed := true, recurses := true, apart := false }
def KeepMakesSaid : Prop := keepMakesRow.holds Try.pinned (OpenSpec.ofChange keepMakesSpec)

/-- ITS FALSE NEIGHBOUR: 'it returns false'. Refute it at one input. -/
def keepMakesWrong : ChangeSpec := { name := "keepMakes", fn := fun _ => fun
  | [d1, d2, d3] => { results := [.lit (.bool false)], args := [d1, d2, d3] }
  | _ => none }
def KeepMakesWrongFalsely : Prop := keepMakesRow.holds Try.pinned (OpenSpec.ofChange keepMakesWrong)

/-- 'switchgearlaw08.KeepProducts': WHATEVER THE INPUT: true; the input reads as it did. -/
def keepProductsSpec : ChangeSpec := { name := "keepProducts", fn := fun _ => fun
  | [d1, d2, d3] => { results := [.lit (.bool true)], args := [d1, d2, d3] }
  | _ => none }
def keepProductsRow : OpenClaim := { program := "ytfenlpoaphbfgaa", sum := "45cdb2c449ab9d614d13cd8494f459d248d954c0a6d62fe0f48d33b7702429c1", func := "switchgear/switchgearlaw08.KeepProducts", spec := "keepProducts", unfollowed := true, recurses := true, apart := false }
def KeepProductsSaid : Prop := keepProductsRow.holds Try.pinned (OpenSpec.ofChange keepProductsSpec)

/-- ITS FALSE NEIGHBOUR: 'it returns false'. Refute it at one input. -/
def keepProductsWrong : ChangeSpec := { name := "keepProducts", fn := fun _ => fun
  | [d1, d2, d3] => { results := [.lit (.bool false)], args := [d1, d2, d3] }
  | _ => none }
def KeepProductsWrongFalsely : Prop := keepProductsRow.holds Try.pinned (OpenSpec.ofChange keepProductsWrong)

/-- 'switchgearlaw08.KeepGreatest': WHATEVER THE INPUT: true; the input reads as it did. -/
def keepGreatestSpec : ChangeSpec := { name := "keepGreatest", fn := fun _ => fun
  | [d1, d2, d3, d4] => { results := [.lit (.bool true)], args := [d1, d2, d3, d4] }
  | _ => none }
def keepGreatestRow : OpenClaim := { program := "ytfenlpoaphbfgaa", sum := "45cdb2c449ab9d614d13cd8494f459d248d954c0a6d62fe0f48d33b7702429c1", func := "switchgear/switchgearlaw08.KeepGreatest", spec := "keepGreatest", unfollowed := true, recurses := true, apart := false }
def KeepGreatestSaid : Prop := keepGreatestRow.holds Try.pinned (OpenSpec.ofChange keepGreatestSpec)

/-- ITS FALSE NEIGHBOUR: 'it returns false'. Refute it at one input. -/
def keepGreatestWrong : ChangeSpec := { name := "keepGreatest", fn := fun _ => fun
  | [d1, d2, d3, d4] => { results := [.lit (.bool false)], args := [d1, d2, d3, d4] }
  | _ => none }
def KeepGreatestWrongFalsely : Prop := keepGreatestRow.holds Try.pinned (OpenSpec.ofChange keepGreatestWrong)

/-- 'switchgearlaw08.KeepGames': WHATEVER THE INPUT: true; the input reads as it did. -/
def keepGamesSpec : ChangeSpec := { name := "keepGames", fn := fun _ => fun
  | [d1, d2, d3, d4, d5, d6] => { results := [.lit (.bool true)], args := [d1, d2, d3, d4, d5, d6] }
  | _ => none }
def keepGamesRow : OpenClaim := { program := "ytfenlpoaphbfgaa", sum := "45cdb2c449ab9d614d13cd8494f459d248d954c0a6d62fe0f48d33b7702429c1", func := "switchgear/switchgearlaw08.KeepGames", spec := "keepGames", unfollowed := true, recurses := true, apart := false }
def KeepGamesSaid : Prop := keepGamesRow.holds Try.pinned (OpenSpec.ofChange keepGamesSpec)

/-- ITS FALSE NEIGHBOUR: 'it returns false'. Refute it at one input. -/
def keepGamesWrong : ChangeSpec := { name := "keepGames", fn := fun _ => fun
  | [d1, d2, d3, d4, d5, d6] => { results := [.lit (.bool false)], args := [d1, d2, d3, d4, d5, d6] }
  | _ => none }
def KeepGamesWrongFalsely : Prop := keepGamesRow.holds Try.pinned (OpenSpec.ofChange keepGamesWrong)

/-- 'switchgearlaw08.KeepSmall': WHATEVER THE INPUT: true; the input reads as it did. -/
def keepSmallSpec : ChangeSpec := { name := "keepSmall", fn := fun _ => fun
  | [] => { results := [.lit (.bool true)], args := [] }
  | _ => none }
def keepSmallRow : OpenClaim := { program := "ytfenlpoaphbfgaa", sum := "45cdb2c449ab9d614d13cd8494f459d248d954c0a6d62fe0f48d33b7702429c1", func := "switchgear/switchgearlaw08.KeepSmall", spec := "keepSmall", unfollowed := true, recurses := true, apart := false }
def KeepSmallSaid : Prop := keepSmallRow.holds Try.pinned (OpenSpec.ofChange keepSmallSpec)

/-- ITS FALSE NEIGHBOUR: 'it returns false'. Refute it at one input. -/
def keepSmallWrong : ChangeSpec := { name := "keepSmall", fn := fun _ => fun
  | [] => { results := [.lit (.bool false)], args := [] }
  | _ => none }
def KeepSmallWrongFalsely : Prop := keepSmallRow.holds Try.pinned (OpenSpec.ofChange keepSmallWrong)

/-- 'switchgearlaw08.KeepPlays': WHATEVER THE INPUT: true; the input reads as it did. -/
def keepPlaysSpec : ChangeSpec := { name := "keepPlays", fn := fun _ => fun
  | [d1, d2, d3] => { results := [.lit (.bool true)], args := [d1, d2, d3] }
  | _ => none }
def keepPlaysRow : OpenClaim := { program := "ytfenlpoaphbfgaa", sum := "45cdb2c449ab9d614d13cd8494f459d248d954c0a6d62fe0f48d33b7702429c1", func := "switchgear/switchgearlaw08.KeepPlays", spec := "keepPlays", unfollowed := true, recurses := true, apart := false }
def KeepPlaysSaid : Prop := keepPlaysRow.holds Try.pinned (OpenSpec.ofChange keepPlaysSpec)

/-- ITS FALSE NEIGHBOUR: 'it returns false'. Refute it at one input. -/
def keepPlaysWrong : ChangeSpec := { name := "keepPlays", fn := fun _ => fun
  | [d1, d2, d3] => { results := [.lit (.bool false)], args := [d1, d2, d3] }
  | _ => none }
def KeepPlaysWrongFalsely : Prop := keepPlaysRow.holds Try.pinned (OpenSpec.ofChange keepPlaysWrong)

/-- 'switchgearlaw08.KeepInvariant': WHATEVER THE INPUT: true; the input reads as it did. -/
def keepInvariantSpec : ChangeSpec := { name := "keepInvariant", fn := fun _ => fun
  | [d1, d2, d3, d4, d5] => { results := [.lit (.bool true)], args := [d1, d2, d3, d4, d5] }
  | _ => none }
def keepInvariantRow : OpenClaim := { program := "ytfenlpoaphbfgaa", sum := "45cdb2c449ab9d614d13cd8494f459d248d954c0a6d62fe0f48d33b7702429c1", func := "switchgear/switchgearlaw08.KeepInvariant", spec := "keepInvariant", unfollowed := true, recurses := true, apart := false }
def KeepInvariantSaid : Prop := keepInvariantRow.holds Try.pinned (OpenSpec.ofChange keepInvariantSpec)

/-- ITS FALSE NEIGHBOUR: 'it returns false'. Refute it at one input. -/
def keepInvariantWrong : ChangeSpec := { name := "keepInvariant", fn := fun _ => fun
  | [d1, d2, d3, d4, d5] => { results := [.lit (.bool false)], args := [d1, d2, d3, d4, d5] }
  | _ => none }
def KeepInvariantWrongFalsely : Prop := keepInvariantRow.holds Try.pinned (OpenSpec.ofChange keepInvariantWrong)

/- THE SECOND FORM. 'bulk': how many values and letters a reading holds, each counted each time it is reached (what is shared counts as often as it is met; a slice's spare places count too). A statement '..UptoSaid' is the law's where the arguments, and the package variables that the reading takes, are together of bulk at most 1048576: NARROWER than '..Said'. Prove '..Said' where nothing that the law and all that it calls make is longer than what came in: it says more and counts as full. Else prove '..UptoSaid'. A law counts once. -/
mutual
def uptoBulk {H : Type} : DataW H → Nat
  | .lit (.string bytes) => bytes.length + 1
  | .lit _ => 1
  | .nil => 1
  | .ptr d => uptoBulk d + 1
  | .slice elems spare => uptoBulkAll elems + uptoBulkAll spare + 1
  | .agg parts => uptoBulkAll parts + 1
  | .iface _ d => uptoBulk d + 1
  | .map entries => uptoBulkEntries entries + 1
  | .held _ => 1
def uptoBulkAll {H : Type} : List (DataW H) → Nat
  | [] => 0
  | d :: r => uptoBulk d + uptoBulkAll r
def uptoBulkEntries {H : Type} : List (Lit × DataW H) → Nat
  | [] => 0
  | x :: r => uptoBulkEntry x + uptoBulkEntries r
def uptoBulkEntry {H : Type} : Lit × DataW H → Nat
  | (.string bytes, d) => bytes.length + uptoBulk d + 1
  | (_, d) => uptoBulk d + 1
 end
def uptoSmall : (H : Type) → List (DataW H) → Bool := fun _ ds => decide (uptoBulkAll ds ≤ 1048576)
def OpenSpec.upto (s : _root_.Go.ChangeSpec) : _root_.Go.OpenSpec := { _root_.Go.OpenSpec.ofChange s with cond := some uptoSmall }

/-- 'switchgearlaw08.KeepMakes', WHERE WHAT IT READS IS OF BULK AT MOST 1048576: true; the input reads as it did. -/
def keepMakesUptoRow : OpenClaim := { program := "ytfenlpoaphbfgaa", sum := "45cdb2c449ab9d614d13cd8494f459d248d954c0a6d62fe0f48d33b7702429c1", func := "switchgear/switchgearlaw08.KeepMakes", spec := "keepMakes", unfollowed := true, recurses := true, apart := false, narrowed := true }
def KeepMakesUptoSaid : Prop := keepMakesUptoRow.holds Try.pinned (OpenSpec.upto keepMakesSpec)

/-- 'switchgearlaw08.KeepProducts', WHERE WHAT IT READS IS OF BULK AT MOST 1048576: true; the input reads as it did. -/
def keepProductsUptoRow : OpenClaim := { program := "ytfenlpoaphbfgaa", sum := "45cdb2c449ab9d614d13cd8494f459d248d954c0a6d62fe0f48d33b7702429c1", func := "switchgear/switchgearlaw08.KeepProducts", spec := "keepProducts", unfollowed := true, recurses := true, apart := false, narrowed := true }
def KeepProductsUptoSaid : Prop := keepProductsUptoRow.holds Try.pinned (OpenSpec.upto keepProductsSpec)

/-- 'switchgearlaw08.KeepGreatest', WHERE WHAT IT READS IS OF BULK AT MOST 1048576: true; the input reads as it did. -/
def keepGreatestUptoRow : OpenClaim := { program := "ytfenlpoaphbfgaa", sum := "45cdb2c449ab9d614d13cd8494f459d248d954c0a6d62fe0f48d33b7702429c1", func := "switchgear/switchgearlaw08.KeepGreatest", spec := "keepGreatest", unfollowed := true, recurses := true, apart := false, narrowed := true }
def KeepGreatestUptoSaid : Prop := keepGreatestUptoRow.holds Try.pinned (OpenSpec.upto keepGreatestSpec)

/-- 'switchgearlaw08.KeepGames', WHERE WHAT IT READS IS OF BULK AT MOST 1048576: true; the input reads as it did. -/
def keepGamesUptoRow : OpenClaim := { program := "ytfenlpoaphbfgaa", sum := "45cdb2c449ab9d614d13cd8494f459d248d954c0a6d62fe0f48d33b7702429c1", func := "switchgear/switchgearlaw08.KeepGames", spec := "keepGames", unfollowed := true, recurses := true, apart := false, narrowed := true }
def KeepGamesUptoSaid : Prop := keepGamesUptoRow.holds Try.pinned (OpenSpec.upto keepGamesSpec)

/-- 'switchgearlaw08.KeepSmall', WHERE WHAT IT READS IS OF BULK AT MOST 1048576: true; the input reads as it did. -/
def keepSmallUptoRow : OpenClaim := { program := "ytfenlpoaphbfgaa", sum := "45cdb2c449ab9d614d13cd8494f459d248d954c0a6d62fe0f48d33b7702429c1", func := "switchgear/switchgearlaw08.KeepSmall", spec := "keepSmall", unfollowed := true, recurses := true, apart := false, narrowed := true }
def KeepSmallUptoSaid : Prop := keepSmallUptoRow.holds Try.pinned (OpenSpec.upto keepSmallSpec)

/-- 'switchgearlaw08.KeepPlays', WHERE WHAT IT READS IS OF BULK AT MOST 1048576: true; the input reads as it did. -/
def keepPlaysUptoRow : OpenClaim := { program := "ytfenlpoaphbfgaa", sum := "45cdb2c449ab9d614d13cd8494f459d248d954c0a6d62fe0f48d33b7702429c1", func := "switchgear/switchgearlaw08.KeepPlays", spec := "keepPlays", unfollowed := true, recurses := true, apart := false, narrowed := true }
def KeepPlaysUptoSaid : Prop := keepPlaysUptoRow.holds Try.pinned (OpenSpec.upto keepPlaysSpec)

/-- 'switchgearlaw08.KeepInvariant', WHERE WHAT IT READS IS OF BULK AT MOST 1048576: true; the input reads as it did. -/
def keepInvariantUptoRow : OpenClaim := { program := "ytfenlpoaphbfgaa", sum := "45cdb2c449ab9d614d13cd8494f459d248d954c0a6d62fe0f48d33b7702429c1", func := "switchgear/switchgearlaw08.KeepInvariant", spec := "keepInvariant", unfollowed := true, recurses := true, apart := false, narrowed := true }
def KeepInvariantUptoSaid : Prop := keepInvariantUptoRow.holds Try.pinned (OpenSpec.upto keepInvariantSpec)

end Rows
end Go.Proofs.Ytfenlpoaphbfgaa
