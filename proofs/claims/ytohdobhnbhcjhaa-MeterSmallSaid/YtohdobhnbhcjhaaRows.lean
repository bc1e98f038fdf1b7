/-
  No cell of these rows narrows 'for every input' (looked for: loops, veiled, ifaces, maps, wideKeys, modest, calm, conditions, laid).
  DERIVED. THE GIVEN ROWS OF THIS SEAT. 7 by the template 'for every input the law returns true; each argument reads behind the call as it read before'; 0 by the template 'total and deterministic' (their statements: YtohdobhnbhcjhaaTotals.lean).
  GIVEN WITH THE SEED: the statements are not yours to turn. If you find one false, say at which input.
  Laid BY PROGRAM, IN A SANDBOX (cutbox-rows.mjs): the forced cells as the released guide's own fill.sh prints them over the translation a6172b0aa7bac281… (all of the seat's roots in one cut). By AI agents, Wed Nov 11 2026. No macro, syntax, notation, axiom, sorry.
-/
import Derived.Test.YtohdobhnbhcjhaaChecked
import GoSem.Claim
import GoSem.ClaimJoined
import GoSem.ClaimMapViews
import Derived.JoinedTies
import Derived.KernelRfl
namespace Go.Proofs.Ytohdobhnbhcjhaa
/- THE CELL 'sum', in the pinned program and in every row, IS THE sha256 OF THE DUMP (.gsa) THAT YtohdobhnbhcjhaaProg.lean LOADS. Nothing in Lean hashes anything: it is a label: what it is worth is what the hold of that sum in a sandbox is worth. -/
noncomputable def Try.pinned : Pinned := { name := "ytohdobhnbhcjhaa", sum := "a6172b0aa7bac28149316f79733315732fa0dd911519b24c500f82f809171e83", checked := Try.checked }
namespace Rows
def none {H : Type} : Left H := { results := [], args := [] }

/-- 'switchgearlaw11.MeterPays': WHATEVER THE INPUT: true; the input reads as it did. -/
def meterPaysSpec : ChangeSpec := { name := "meterPays", fn := fun _ => fun
  | [d1, d2, d3, d4, d5, d6, d7, d8] => { results := [.lit (.bool true)], args := [d1, d2, d3, d4, d5, d6, d7, d8] }
  | _ => none }
def meterPaysRow : OpenClaim := { program := "ytohdobhnbhcjhaa", sum := "a6172b0aa7bac28149316f79733315732fa0dd911519b24c500f82f809171e83", func := "switchgear/switchgearlaw11.MeterPays", spec := "meterPays", unfollowed := true, recurses := true, plainKeys := false, apart := false }
def MeterPaysSaid : Prop := meterPaysRow.holds Try.pinned (OpenSpec.ofChange meterPaysSpec)

/-- ITS FALSE NEIGHBOUR: 'it returns false'. Refute it at one input. -/
def meterPaysWrong : ChangeSpec := { name := "meterPays", fn := fun _ => fun
  | [d1, d2, d3, d4, d5, d6, d7, d8] => { results := [.lit (.bool false)], args := [d1, d2, d3, d4, d5, d6, d7, d8] }
  | _ => none }
def MeterPaysWrongFalsely : Prop := meterPaysRow.holds Try.pinned (OpenSpec.ofChange meterPaysWrong)

/-- 'switchgearlaw11.MeterRepairs': WHATEVER THE INPUT: true; the input reads as it did. -/
def meterRepairsSpec : ChangeSpec := { name := "meterRepairs", fn := fun _ => fun
  | [d1, d2, d3, d4, d5] => { results := [.lit (.bool true)], args := [d1, d2, d3, d4, d5] }
  | _ => none }
def meterRepairsRow : OpenClaim := { program := "ytohdobhnbhcjhaa", sum := "a6172b0aa7bac28149316f79733315732fa0dd911519b24c500f82f809171e83", func := "switchgear/switchgearlaw11.MeterRepairs", spec := "meterRepairs", unfollowed := true, recurses := true, plainKeys := false, apart := false }
def MeterRepairsSaid : Prop := meterRepairsRow.holds Try.pinned (OpenSpec.ofChange meterRepairsSpec)

/-- ITS FALSE NEIGHBOUR: 'it returns false'. Refute it at one input. -/
def meterRepairsWrong : ChangeSpec := { name := "meterRepairs", fn := fun _ => fun
  | [d1, d2, d3, d4, d5] => { results := [.lit (.bool false)], args := [d1, d2, d3, d4, d5] }
  | _ => none }
def MeterRepairsWrongFalsely : Prop := meterRepairsRow.holds Try.pinned (OpenSpec.ofChange meterRepairsWrong)

/-- 'switchgearlaw11.MeterBills': WHATEVER THE INPUT: true; the input reads as it did. -/
def meterBillsSpec : ChangeSpec := { name := "meterBills", fn := fun _ => fun
  | [d1, d2] => { results := [.lit (.bool true)], args := [d1, d2] }
  | _ => none }
def meterBillsRow : OpenClaim := { program := "ytohdobhnbhcjhaa", sum := "a6172b0aa7bac28149316f79733315732fa0dd911519b24c500f82f809171e83", func := "switchgear/switchgearlaw11.MeterBills", spec := "meterBills", unfollowed := true, recurses := true, plainKeys := false, apart := false }
def MeterBillsSaid : Prop := meterBillsRow.holds Try.pinned (OpenSpec.ofChange meterBillsSpec)

/-- ITS FALSE NEIGHBOUR: 'it returns false'. Refute it at one input. -/
def meterBillsWrong : ChangeSpec := { name := "meterBills", fn := fun _ => fun
  | [d1, d2] => { results := [.lit (.bool false)], args := [d1, d2] }
  | _ => none }
def MeterBillsWrongFalsely : Prop := meterBillsRow.holds Try.pinned (OpenSpec.ofChange meterBillsWrong)

/-- 'switchgearlaw11.MeterSigned': WHATEVER THE INPUT: true; the input reads as it did. -/
def meterSignedSpec : ChangeSpec := { name := "meterSigned", fn := fun _ => fun
  | [d1, d2, d3, d4, d5] => { results := [.lit (.bool true)], args := [d1, d2, d3, d4, d5] }
  | _ => none }
def meterSignedRow : OpenClaim := { program := "ytohdobhnbhcjhaa", sum := "a6172b0aa7bac28149316f79733315732fa0dd911519b24c500f82f809171e83", func := "switchgear/switchgearlaw11.MeterSigned", spec := "meterSigned", unfollowed := true, recurses := true, plainKeys := false, apart := false }
def MeterSignedSaid : Prop := meterSignedRow.holds Try.pinned (OpenSpec.ofChange meterSignedSpec)

/-- ITS FALSE NEIGHBOUR: 'it returns false'. Refute it at one input. -/
def meterSignedWrong : ChangeSpec := { name := "meterSigned", fn := fun _ => fun
  | [d1, d2, d3, d4, d5] => { results := [.lit (.bool false)], args := [d1, d2, d3, d4, d5] }
  | _ => none }
def MeterSignedWrongFalsely : Prop := meterSignedRow.holds Try.pinned (OpenSpec.ofChange meterSignedWrong)

/-- 'switchgearlaw11.MeterChains': WHATEVER THE INPUT: true; the input reads as it did. -/
def meterChainsSpec : ChangeSpec := { name := "meterChains", fn := fun _ => fun
  | [d1, d2, d3, d4] => { results := [.lit (.bool true)], args := [d1, d2, d3, d4] }
  | _ => none }
def meterChainsRow : OpenClaim := { program := "ytohdobhnbhcjhaa", sum := "a6172b0aa7bac28149316f79733315732fa0dd911519b24c500f82f809171e83", func := "switchgear/switchgearlaw11.MeterChains", spec := "meterChains", unfollowed := true, recurses := true, plainKeys := false, apart := false }
def MeterChainsSaid : Prop := meterChainsRow.holds Try.pinned (OpenSpec.ofChange meterChainsSpec)

/-- ITS FALSE NEIGHBOUR: 'it returns false'. Refute it at one input. -/
def meterChainsWrong : ChangeSpec := { name := "meterChains", fn := fun _ => fun
  | [d1, d2, d3, d4] => { results := [.lit (.bool false)], args := [d1, d2, d3, d4] }
  | _ => none }
def MeterChainsWrongFalsely : Prop := meterChainsRow.holds Try.pinned (OpenSpec.ofChange meterChainsWrong)

/-- 'switchgearlaw11.MeterSmall': WHATEVER THE INPUT: true; the input reads as it did. -/
def meterSmallSpec : ChangeSpec := { name := "meterSmall", fn := fun _ => fun
  | [] => { results := [.lit (.bool true)], args := [] }
  | _ => none }
def meterSmallRow : OpenClaim := { program := "ytohdobhnbhcjhaa", sum := "a6172b0aa7bac28149316f79733315732fa0dd911519b24c500f82f809171e83", func := "switchgear/switchgearlaw11.MeterSmall", spec := "meterSmall", unfollowed := true, recurses := true, plainKeys := false, apart := false }
def MeterSmallSaid : Prop := meterSmallRow.holds Try.pinned (OpenSpec.ofChange meterSmallSpec)

/-- ITS FALSE NEIGHBOUR: 'it returns false'. Refute it at one input. -/
def meterSmallWrong : ChangeSpec := { name := "meterSmall", fn := fun _ => fun
  | [] => { results := [.lit (.bool false)], args := [] }
  | _ => none }
def MeterSmallWrongFalsely : Prop := meterSmallRow.holds Try.pinned (OpenSpec.ofChange meterSmallWrong)

/-- 'switchgearlaw11.MeterNamed': WHATEVER THE INPUT: true; the input reads as it did. -/
def meterNamedSpec : ChangeSpec := { name := "meterNamed", fn := fun _ => fun
  | [d1, d2, d3] => { results := [.lit (.bool true)], args := [d1, d2, d3] }
  | _ => none }
def meterNamedRow : OpenClaim := { program := "ytohdobhnbhcjhaa", sum := "a6172b0aa7bac28149316f79733315732fa0dd911519b24c500f82f809171e83", func := "switchgear/switchgearlaw11.MeterNamed", spec := "meterNamed", unfollowed := true, recurses := true, plainKeys := false, apart := false }
def MeterNamedSaid : Prop := meterNamedRow.holds Try.pinned (OpenSpec.ofChange meterNamedSpec)

/-- ITS FALSE NEIGHBOUR: 'it returns false'. Refute it at one input. -/
def meterNamedWrong : ChangeSpec := { name := "meterNamed", fn := fun _ => fun
  | [d1, d2, d3] => { results := [.lit (.bool false)], args := [d1, d2, d3] }
  | _ => none }
def MeterNamedWrongFalsely : Prop := meterNamedRow.holds Try.pinned (OpenSpec.ofChange meterNamedWrong)

/- THE SECOND FORM. 'bulk': how many values and letters a reading holds, each counted each time it is reached (what is shared counts as often as it is met; a slice's spare places count too). A statement '..UptoSaid' is the law's where the arguments, and the package variables that the reading takes, are together of bulk at most 1048576: NARROWER than '..Said'. Prove '..Said' where nothing that the law and all that it calls make is longer than what came in: it says more and counts as full. Else prove '..UptoSaid'. A law counts once. -/
mutual
def uptoBulk {H : Type} : DataW H → Nat
  | .lit (.string bytes) => bytes.length + 1
  | .lit _ => 1
  | .nil => 1
  | .ptr d => uptoBulk d + 1
  | .slice elems spare => uptoBulkAll elems + uptoBulkAll spare + 1
  | .agg parts => uptoBulkAll parts + 1
  | .iface _ d => uptoBulk d + 1
  | .map entries => uptoBulkEntries entries + 1
  | .held _ => 1
def uptoBulkAll {H : Type} : List (DataW H) → Nat
  | [] => 0
  | d :: r => uptoBulk d + uptoBulkAll r
def uptoBulkEntries {H : Type} : List (Lit × DataW H) → Nat
  | [] => 0
  | x :: r => uptoBulkEntry x + uptoBulkEntries r
def uptoBulkEntry {H : Type} : Lit × DataW H → Nat
  | (.string bytes, d) => bytes.length + uptoBulk d + 1
  | (_, d) => uptoBulk d + 1
 end
def uptoSmall : (H : Type) → List (DataW H) → Bool := fun _ ds => decide (uptoBulkAll ds ≤ 1048576)
def OpenSpec.upto (s : _root_.Go.ChangeSpec) : _root_.Go.OpenSpec := { _root_.Go.OpenSpec.ofChange s with cond := some uptoSmall }

/-- 'switchgearlaw11.MeterPays', WHERE WHAT IT READS IS OF BULK AT MOST 1048576: true; the input reads as it did. -/
def meterPaysUptoRow : OpenClaim := { program := "ytohdobhnbhcjhaa", sum := "a6172b0aa7bac28149316f79733315732fa0dd911519b24c500f82f809171e83", func := "switchgear/switchgearlaw11.MeterPays", spec := "meterPays", unfollowed := true, recurses := true, plainKeys := false, apart := false, narrowed := true }
def MeterPaysUptoSaid : Prop := meterPaysUptoRow.holds Try.pinned (OpenSpec.upto meterPaysSpec)

/-- 'switchgearlaw11.MeterRepairs', WHERE WHAT IT READS IS OF BULK AT MOST 1048576: true; the input reads as it did. -/
def meterRepairsUptoRow : OpenClaim := { program := "ytohdobhnbhcjhaa", sum := "a6172b0aa7bac28149316f79733315732fa0dd911519b24c500f82f809171e83", func := "switchgear/switchgearlaw11.MeterRepairs", spec := "meterRepairs", unfollowed := true, recurses := true, plainKeys := false, apart := false, narrowed := true }
def MeterRepairsUptoSaid : Prop := meterRepairsUptoRow.holds Try.pinned (OpenSpec.upto meterRepairsSpec)

/-- 'switchgearlaw11.MeterBills', WHERE WHAT IT READS IS OF BULK AT MOST 1048576: true; the input reads as it did. -/
def meterBillsUptoRow : OpenClaim := { program := "ytohdobhnbhcjhaa", sum := "a6172b0aa7bac28149316f79733315732fa0dd911519b24c500f82f809171e83", func := "switchgear/switchgearlaw11.MeterBills", spec := "meterBills", unfollowed := true, recurses := true, plainKeys := false, apart := false, narrowed := true }
def MeterBillsUptoSaid : Prop := meterBillsUptoRow.holds Try.pinned (OpenSpec.upto meterBillsSpec)

/-- 'switchgearlaw11.MeterSigned', WHERE WHAT IT READS IS OF BULK AT MOST 1048576: true; the input reads as it did. -/
def meterSignedUptoRow : OpenClaim := { program := "ytohdobhnbhcjhaa", sum := "a6172b0aa7bac28149316f79733315732fa0dd911519b24c500f82f809171e83", func := "switchgear/switchgearlaw11.MeterSigned", spec := "meterSigned", unfollowed := true, recurses := true, plainKeys := false, apart := false, narrowed := true }
def MeterSignedUptoSaid : Prop := meterSignedUptoRow.holds Try.pinned (OpenSpec.upto meterSignedSpec)

/-- 'switchgearlaw11.MeterChains', WHERE WHAT IT READS IS OF BULK AT MOST 1048576: true; the input reads as it did. -/
def meterChainsUptoRow : OpenClaim := { program := "ytohdobhnbhcjhaa", sum := "a6172b0aa7bac28149316f79733315732fa0dd911519b24c500f82f809171e83", func := "switchgear/switchgearlaw11.MeterChains", spec := "meterChains", unfollowed := true, recurses := true, plainKeys := false, apart := false, narrowed := true }
def MeterChainsUptoSaid : Prop := meterChainsUptoRow.holds Try.pinned (OpenSpec.upto meterChainsSpec)

/-- 'switchgearlaw11.MeterSmall', WHERE WHAT IT READS IS OF BULK AT MOST 1048576: true; the input reads as it did. -/
def meterSmallUptoRow : OpenClaim := { program := "ytohdobhnbhcjhaa", sum := "a6172b0aa7bac28149316f79733315732fa0dd911519b24c500f82f809171e83", func := "switchgear/switchgearlaw11.MeterSmall", spec := "meterSmall", unfollowed := true, recurses := true, plainKeys := false, apart := false, narrowed := true }
def MeterSmallUptoSaid : Prop := meterSmallUptoRow.holds Try.pinned (OpenSpec.upto meterSmallSpec)

/-- 'switchgearlaw11.MeterNamed', WHERE WHAT IT READS IS OF BULK AT MOST 1048576: true; the input reads as it did. -/
def meterNamedUptoRow : OpenClaim := { program := "ytohdobhnbhcjhaa", sum := "a6172b0aa7bac28149316f79733315732fa0dd911519b24c500f82f809171e83", func := "switchgear/switchgearlaw11.MeterNamed", spec := "meterNamed", unfollowed := true, recurses := true, plainKeys := false, apart := false, narrowed := true }
def MeterNamedUptoSaid : Prop := meterNamedUptoRow.holds Try.pinned (OpenSpec.upto meterNamedSpec)

end Rows
end Go.Proofs.Ytohdobhnbhcjhaa
