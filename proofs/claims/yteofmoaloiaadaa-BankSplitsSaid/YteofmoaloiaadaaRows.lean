/-
  No cell of these rows narrows 'for every input' (looked for: loops, veiled, ifaces, maps, wideKeys, modest, calm, conditions, laid).
  DERIVED. THE GIVEN ROWS OF THIS SEAT. 9 by the template 'for every input the law returns true; each argument reads behind the call as it read before'; 0 by the template 'total and deterministic' (their statements: YteofmoaloiaadaaTotals.lean).
  GIVEN WITH THE SEED: the statements are not yours to turn. If you find one false, say at which input.
  Laid BY PROGRAM, IN A SANDBOX (cutbox-rows.mjs): the forced cells as the released guide's own fill.sh prints them over the translation d9809b8b957555da… (all of the seat's roots in one cut). By AI agents, Wed Nov 11 2026. No macro, syntax, notation, axiom, sorry.
-/
import Derived.Test.YteofmoaloiaadaaChecked
import GoSem.Claim
import GoSem.ClaimJoined
import GoSem.ClaimMapViews
import Derived.JoinedTies
import Derived.KernelRfl
namespace Go.Proofs.Yteofmoaloiaadaa
/- THE CELL 'sum', in the pinned program and in every row, IS THE sha256 OF THE DUMP (.gsa) THAT YteofmoaloiaadaaProg.lean LOADS. Nothing in Lean hashes anything: it is a label: what it is worth is what the hold of that sum in a sandbox is worth. -/
noncomputable def Try.pinned : Pinned := { name := "yteofmoaloiaadaa", sum := "d9809b8b957555daaf3f22bf13d7556e3172528097112474faf7cc0349280cd3", checked := Try.checked }
namespace Rows
def none {H : Type} : Left H := { results := [], args := [] }

/-- 'switchgearlaw06.BankWorst': WHATEVER THE INPUT: true; the input reads as it did. -/
def bankWorstSpec : ChangeSpec := { name := "bankWorst", fn := fun _ => fun
  | [d1, d2, d3, d4] => { results := [.lit (.bool true)], args := [d1, d2, d3, d4] }
  | _ => none }
def bankWorstRow : OpenClaim := { program := "yteofmoaloiaadaa", sum := "d9809b8b957555daaf3f22bf13d7556e3172528097112474faf7cc0349280cd3", func := "switchgear/switchgearlaw06.BankWorst", spec := "bankWorst", unfollowed := true, recurses := true, apart := false }
def BankWorstSaid : Prop := bankWorstRow.holds Try.pinned (OpenSpec.ofChange bankWorstSpec)

/-- ITS FALSE NEIGHBOUR: 'it returns false'. Refute it at one input. -/
def bankWorstWrong : ChangeSpec := { name := "bankWorst", fn := fun _ => fun
  | [d1, d2, d3, d4] => { results := [.lit (.bool false)], args := [d1, d2, d3, d4] }
  | _ => none }
def BankWorstWrongFalsely : Prop := bankWorstRow.holds Try.pinned (OpenSpec.ofChange bankWorstWrong)

/-- 'switchgearlaw06.BankHolds': WHATEVER THE INPUT: true; the input reads as it did. -/
def bankHoldsSpec : ChangeSpec := { name := "bankHolds", fn := fun _ => fun
  | [d1, d2, d3, d4] => { results := [.lit (.bool true)], args := [d1, d2, d3, d4] }
  | _ => none }
def bankHoldsRow : OpenClaim := { program := "yteofmoaloiaadaa", sum := "d9809b8b957555daaf3f22bf13d7556e3172528097112474faf7cc0349280cd3", func := "switchgear/switchgearlaw06.BankHolds", spec := "bankHolds", unfollowed := true, recurses := true, apart := false }
def BankHoldsSaid : Prop := bankHoldsRow.holds Try.pinned (OpenSpec.ofChange bankHoldsSpec)

/-- ITS FALSE NEIGHBOUR: 'it returns false'. Refute it at one input. -/
def bankHoldsWrong : ChangeSpec := { name := "bankHolds", fn := fun _ => fun
  | [d1, d2, d3, d4] => { results := [.lit (.bool false)], args := [d1, d2, d3, d4] }
  | _ => none }
def BankHoldsWrongFalsely : Prop := bankHoldsRow.holds Try.pinned (OpenSpec.ofChange bankHoldsWrong)

/-- 'switchgearlaw06.BankNoWorse': WHATEVER THE INPUT: true; the input reads as it did. -/
def bankNoWorseSpec : ChangeSpec := { name := "bankNoWorse", fn := fun _ => fun
  | [d1, d2, d3, d4] => { results := [.lit (.bool true)], args := [d1, d2, d3, d4] }
  | _ => none }
def bankNoWorseRow : OpenClaim := { program := "yteofmoaloiaadaa", sum := "d9809b8b957555daaf3f22bf13d7556e3172528097112474faf7cc0349280cd3", func := "switchgear/switchgearlaw06.BankNoWorse", spec := "bankNoWorse", unfollowed := true, recurses := true, apart := false }
def BankNoWorseSaid : Prop := bankNoWorseRow.holds Try.pinned (OpenSpec.ofChange bankNoWorseSpec)

/-- ITS FALSE NEIGHBOUR: 'it returns false'. Refute it at one input. -/
def bankNoWorseWrong : ChangeSpec := { name := "bankNoWorse", fn := fun _ => fun
  | [d1, d2, d3, d4] => { results := [.lit (.bool false)], args := [d1, d2, d3, d4] }
  | _ => none }
def BankNoWorseWrongFalsely : Prop := bankNoWorseRow.holds Try.pinned (OpenSpec.ofChange bankNoWorseWrong)

/-- 'switchgearlaw06.BankEnough': WHATEVER THE INPUT: true; the input reads as it did. -/
def bankEnoughSpec : ChangeSpec := { name := "bankEnough", fn := fun _ => fun
  | [d1, d2, d3, d4] => { results := [.lit (.bool true)], args := [d1, d2, d3, d4] }
  | _ => none }
def bankEnoughRow : OpenClaim := { program := "yteofmoaloiaadaa", sum := "d9809b8b957555daaf3f22bf13d7556e3172528097112474faf7cc0349280cd3", func := "switchgear/switchgearlaw06.BankEnough", spec := "bankEnough", unfollowed := true, recurses := true, apart := false }
def BankEnoughSaid : Prop := bankEnoughRow.holds Try.pinned (OpenSpec.ofChange bankEnoughSpec)

/-- ITS FALSE NEIGHBOUR: 'it returns false'. Refute it at one input. -/
def bankEnoughWrong : ChangeSpec := { name := "bankEnough", fn := fun _ => fun
  | [d1, d2, d3, d4] => { results := [.lit (.bool false)], args := [d1, d2, d3, d4] }
  | _ => none }
def BankEnoughWrongFalsely : Prop := bankEnoughRow.holds Try.pinned (OpenSpec.ofChange bankEnoughWrong)

/-- 'switchgearlaw06.BankMonotone': WHATEVER THE INPUT: true; the input reads as it did. -/
def bankMonotoneSpec : ChangeSpec := { name := "bankMonotone", fn := fun _ => fun
  | [d1, d2, d3, d4, d5, d6] => { results := [.lit (.bool true)], args := [d1, d2, d3, d4, d5, d6] }
  | _ => none }
def bankMonotoneRow : OpenClaim := { program := "yteofmoaloiaadaa", sum := "d9809b8b957555daaf3f22bf13d7556e3172528097112474faf7cc0349280cd3", func := "switchgear/switchgearlaw06.BankMonotone", spec := "bankMonotone", unfollowed := true, recurses := true, apart := false }
def BankMonotoneSaid : Prop := bankMonotoneRow.holds Try.pinned (OpenSpec.ofChange bankMonotoneSpec)

/-- ITS FALSE NEIGHBOUR: 'it returns false'. Refute it at one input. -/
def bankMonotoneWrong : ChangeSpec := { name := "bankMonotone", fn := fun _ => fun
  | [d1, d2, d3, d4, d5, d6] => { results := [.lit (.bool false)], args := [d1, d2, d3, d4, d5, d6] }
  | _ => none }
def BankMonotoneWrongFalsely : Prop := bankMonotoneRow.holds Try.pinned (OpenSpec.ofChange bankMonotoneWrong)

/-- 'switchgearlaw06.BankBalance': WHATEVER THE INPUT: true; the input reads as it did. -/
def bankBalanceSpec : ChangeSpec := { name := "bankBalance", fn := fun _ => fun
  | [d1, d2, d3] => { results := [.lit (.bool true)], args := [d1, d2, d3] }
  | _ => none }
def bankBalanceRow : OpenClaim := { program := "yteofmoaloiaadaa", sum := "d9809b8b957555daaf3f22bf13d7556e3172528097112474faf7cc0349280cd3", func := "switchgear/switchgearlaw06.BankBalance", spec := "bankBalance", unfollowed := true, recurses := true, apart := false }
def BankBalanceSaid : Prop := bankBalanceRow.holds Try.pinned (OpenSpec.ofChange bankBalanceSpec)

/-- ITS FALSE NEIGHBOUR: 'it returns false'. Refute it at one input. -/
def bankBalanceWrong : ChangeSpec := { name := "bankBalance", fn := fun _ => fun
  | [d1, d2, d3] => { results := [.lit (.bool false)], args := [d1, d2, d3] }
  | _ => none }
def BankBalanceWrongFalsely : Prop := bankBalanceRow.holds Try.pinned (OpenSpec.ofChange bankBalanceWrong)

/-- 'switchgearlaw06.BankRuns': WHATEVER THE INPUT: true; the input reads as it did. -/
def bankRunsSpec : ChangeSpec := { name := "bankRuns", fn := fun _ => fun
  | [d1, d2, d3] => { results := [.lit (.bool true)], args := [d1, d2, d3] }
  | _ => none }
def bankRunsRow : OpenClaim := { program := "yteofmoaloiaadaa", sum := "d9809b8b957555daaf3f22bf13d7556e3172528097112474faf7cc0349280cd3", func := "switchgear/switchgearlaw06.BankRuns", spec := "bankRuns", unfollowed := true, recurses := true, apart := false }
def BankRunsSaid : Prop := bankRunsRow.holds Try.pinned (OpenSpec.ofChange bankRunsSpec)

/-- ITS FALSE NEIGHBOUR: 'it returns false'. Refute it at one input. -/
def bankRunsWrong : ChangeSpec := { name := "bankRuns", fn := fun _ => fun
  | [d1, d2, d3] => { results := [.lit (.bool false)], args := [d1, d2, d3] }
  | _ => none }
def BankRunsWrongFalsely : Prop := bankRunsRow.holds Try.pinned (OpenSpec.ofChange bankRunsWrong)

/-- 'switchgearlaw06.BankSmall': WHATEVER THE INPUT: true; the input reads as it did. -/
def bankSmallSpec : ChangeSpec := { name := "bankSmall", fn := fun _ => fun
  | [] => { results := [.lit (.bool true)], args := [] }
  | _ => none }
def bankSmallRow : OpenClaim := { program := "yteofmoaloiaadaa", sum := "d9809b8b957555daaf3f22bf13d7556e3172528097112474faf7cc0349280cd3", func := "switchgear/switchgearlaw06.BankSmall", spec := "bankSmall", unfollowed := true, recurses := true, apart := false }
def BankSmallSaid : Prop := bankSmallRow.holds Try.pinned (OpenSpec.ofChange bankSmallSpec)

/-- ITS FALSE NEIGHBOUR: 'it returns false'. Refute it at one input. -/
def bankSmallWrong : ChangeSpec := { name := "bankSmall", fn := fun _ => fun
  | [] => { results := [.lit (.bool false)], args := [] }
  | _ => none }
def BankSmallWrongFalsely : Prop := bankSmallRow.holds Try.pinned (OpenSpec.ofChange bankSmallWrong)

/-- 'switchgearlaw06.BankSplits': WHATEVER THE INPUT: true; the input reads as it did. -/
def bankSplitsSpec : ChangeSpec := { name := "bankSplits", fn := fun _ => fun
  | [d1, d2, d3, d4, d5, d6] => { results := [.lit (.bool true)], args := [d1, d2, d3, d4, d5, d6] }
  | _ => none }
def bankSplitsRow : OpenClaim := { program := "yteofmoaloiaadaa", sum := "d9809b8b957555daaf3f22bf13d7556e3172528097112474faf7cc0349280cd3", func := "switchgear/switchgearlaw06.BankSplits", spec := "bankSplits", inPlace := ["slices.overlaps[switchgear/bank.Span]"], unfollowed := true, recurses := true, apart := false }
def BankSplitsSaid : Prop := bankSplitsRow.holds Try.pinned (OpenSpec.ofChange bankSplitsSpec)

/-- ITS FALSE NEIGHBOUR: 'it returns false'. Refute it at one input. -/
def bankSplitsWrong : ChangeSpec := { name := "bankSplits", fn := fun _ => fun
  | [d1, d2, d3, d4, d5, d6] => { results := [.lit (.bool false)], args := [d1, d2, d3, d4, d5, d6] }
  | _ => none }
def BankSplitsWrongFalsely : Prop := bankSplitsRow.holds Try.pinned (OpenSpec.ofChange bankSplitsWrong)

/- THE SECOND FORM. 'bulk': how many values and letters a reading holds, each counted each time it is reached (what is shared counts as often as it is met; a slice's spare places count too). A statement '..UptoSaid' is the law's where the arguments, and the package variables that the reading takes, are together of bulk at most 1048576: NARROWER than '..Said'. Prove '..Said' where nothing that the law and all that it calls make is longer than what came in: it says more and counts as full. Else prove '..UptoSaid'. A law counts once. -/
mutual
def uptoBulk {H : Type} : DataW H → Nat
  | .lit (.string bytes) => bytes.length + 1
  | .lit _ => 1
  | .nil => 1
  | .ptr d => uptoBulk d + 1
  | .slice elems spare => uptoBulkAll elems + uptoBulkAll spare + 1
  | .agg parts => uptoBulkAll parts + 1
  | .iface _ d => uptoBulk d + 1
  | .map entries => uptoBulkEntries entries + 1
  | .held _ => 1
def uptoBulkAll {H : Type} : List (DataW H) → Nat
  | [] => 0
  | d :: r => uptoBulk d + uptoBulkAll r
def uptoBulkEntries {H : Type} : List (Lit × DataW H) → Nat
  | [] => 0
  | x :: r => uptoBulkEntry x + uptoBulkEntries r
def uptoBulkEntry {H : Type} : Lit × DataW H → Nat
  | (.string bytes, d) => bytes.length + uptoBulk d + 1
  | (_, d) => uptoBulk d + 1
 end
def uptoSmall : (H : Type) → List (DataW H) → Bool := fun _ ds => decide (uptoBulkAll ds ≤ 1048576)
def OpenSpec.upto (s : _root_.Go.ChangeSpec) : _root_.Go.OpenSpec := { _root_.Go.OpenSpec.ofChange s with cond := some uptoSmall }

/-- 'switchgearlaw06.BankWorst', WHERE WHAT IT READS IS OF BULK AT MOST 1048576: true; the input reads as it did. -/
def bankWorstUptoRow : OpenClaim := { program := "yteofmoaloiaadaa", sum := "d9809b8b957555daaf3f22bf13d7556e3172528097112474faf7cc0349280cd3", func := "switchgear/switchgearlaw06.BankWorst", spec := "bankWorst", unfollowed := true, recurses := true, apart := false, narrowed := true }
def BankWorstUptoSaid : Prop := bankWorstUptoRow.holds Try.pinned (OpenSpec.upto bankWorstSpec)

/-- 'switchgearlaw06.BankHolds', WHERE WHAT IT READS IS OF BULK AT MOST 1048576: true; the input reads as it did. -/
def bankHoldsUptoRow : OpenClaim := { program := "yteofmoaloiaadaa", sum := "d9809b8b957555daaf3f22bf13d7556e3172528097112474faf7cc0349280cd3", func := "switchgear/switchgearlaw06.BankHolds", spec := "bankHolds", unfollowed := true, recurses := true, apart := false, narrowed := true }
def BankHoldsUptoSaid : Prop := bankHoldsUptoRow.holds Try.pinned (OpenSpec.upto bankHoldsSpec)

/-- 'switchgearlaw06.BankNoWorse', WHERE WHAT IT READS IS OF BULK AT MOST 1048576: true; the input reads as it did. -/
def bankNoWorseUptoRow : OpenClaim := { program := "yteofmoaloiaadaa", sum := "d9809b8b957555daaf3f22bf13d7556e3172528097112474faf7cc0349280cd3", func := "switchgear/switchgearlaw06.BankNoWorse", spec := "bankNoWorse", unfollowed := true, recurses := true, apart := false, narrowed := true }
def BankNoWorseUptoSaid : Prop := bankNoWorseUptoRow.holds Try.pinned (OpenSpec.upto bankNoWorseSpec)

/-- 'switchgearlaw06.BankEnough', WHERE WHAT IT READS IS OF BULK AT MOST 1048576: true; the input reads as it did. -/
def bankEnoughUptoRow : OpenClaim := { program := "yteofmoaloiaadaa", sum := "d9809b8b957555daaf3f22bf13d7556e3172528097112474faf7cc0349280cd3", func := "switchgear/switchgearlaw06.BankEnough", spec := "bankEnough", unfollowed := true, recurses := true, apart := false, narrowed := true }
def BankEnoughUptoSaid : Prop := bankEnoughUptoRow.holds Try.pinned (OpenSpec.upto bankEnoughSpec)

/-- 'switchgearlaw06.BankMonotone', WHERE WHAT IT READS IS OF BULK AT MOST 1048576: true; the input reads as it did. -/
def bankMonotoneUptoRow : OpenClaim := { program := "yteofmoaloiaadaa", sum := "d9809b8b957555daaf3f22bf13d7556e3172528097112474faf7cc0349280cd3", func := "switchgear/switchgearlaw06.BankMonotone", spec := "bankMonotone", unfollowed := true, recurses := true, apart := false, narrowed := true }
def BankMonotoneUptoSaid : Prop := bankMonotoneUptoRow.holds Try.pinned (OpenSpec.upto bankMonotoneSpec)

/-- 'switchgearlaw06.BankBalance', WHERE WHAT IT READS IS OF BULK AT MOST 1048576: true; the input reads as it did. -/
def bankBalanceUptoRow : OpenClaim := { program := "yteofmoaloiaadaa", sum := "d9809b8b957555daaf3f22bf13d7556e3172528097112474faf7cc0349280cd3", func := "switchgear/switchgearlaw06.BankBalance", spec := "bankBalance", unfollowed := true, recurses := true, apart := false, narrowed := true }
def BankBalanceUptoSaid : Prop := bankBalanceUptoRow.holds Try.pinned (OpenSpec.upto bankBalanceSpec)

/-- 'switchgearlaw06.BankRuns', WHERE WHAT IT READS IS OF BULK AT MOST 1048576: true; the input reads as it did. -/
def bankRunsUptoRow : OpenClaim := { program := "yteofmoaloiaadaa", sum := "d9809b8b957555daaf3f22bf13d7556e3172528097112474faf7cc0349280cd3", func := "switchgear/switchgearlaw06.BankRuns", spec := "bankRuns", unfollowed := true, recurses := true, apart := false, narrowed := true }
def BankRunsUptoSaid : Prop := bankRunsUptoRow.holds Try.pinned (OpenSpec.upto bankRunsSpec)

/-- 'switchgearlaw06.BankSmall', WHERE WHAT IT READS IS OF BULK AT MOST 1048576: true; the input reads as it did. -/
def bankSmallUptoRow : OpenClaim := { program := "yteofmoaloiaadaa", sum := "d9809b8b957555daaf3f22bf13d7556e3172528097112474faf7cc0349280cd3", func := "switchgear/switchgearlaw06.BankSmall", spec := "bankSmall", unfollowed := true, recurses := true, apart := false, narrowed := true }
def BankSmallUptoSaid : Prop := bankSmallUptoRow.holds Try.pinned (OpenSpec.upto bankSmallSpec)

/-- 'switchgearlaw06.BankSplits', WHERE WHAT IT READS IS OF BULK AT MOST 1048576: true; the input reads as it did. -/
def bankSplitsUptoRow : OpenClaim := { program := "yteofmoaloiaadaa", sum := "d9809b8b957555daaf3f22bf13d7556e3172528097112474faf7cc0349280cd3", func := "switchgear/switchgearlaw06.BankSplits", spec := "bankSplits", inPlace := ["slices.overlaps[switchgear/bank.Span]"], unfollowed := true, recurses := true, apart := false, narrowed := true }
def BankSplitsUptoSaid : Prop := bankSplitsUptoRow.holds Try.pinned (OpenSpec.upto bankSplitsSpec)

end Rows
end Go.Proofs.Yteofmoaloiaadaa
