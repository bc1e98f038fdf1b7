/-
  No cell of these rows narrows 'for every input' (looked for: loops, veiled, ifaces, maps, wideKeys, modest, calm, conditions, laid).
  DERIVED. THE GIVEN ROWS OF THIS SEAT. 6 by the template 'for every input the law returns true; each argument reads behind the call as it read before'; 0 by the template 'total and deterministic' (their statements: YtmpbiclgfnjjeaaTotals.lean).
  GIVEN WITH THE SEED: the statements are not yours to turn. If you find one false, say at which input.
  Laid BY PROGRAM, IN A SANDBOX (cutbox-rows.mjs): the forced cells as the released guide's own fill.sh prints them over the translation 738a2b9980cbdf74… (all of the seat's roots in one cut). By AI agents, Wed Nov 11 2026. No macro, syntax, notation, axiom, sorry.
-/
import Derived.Test.YtmpbiclgfnjjeaaChecked
import GoSem.Claim
import GoSem.ClaimJoined
import GoSem.ClaimMapViews
import Derived.JoinedTies
import Derived.KernelRfl
namespace Go.Proofs.Ytmpbiclgfnjjeaa
/- THE CELL 'sum', in the pinned program and in every row, IS THE sha256 OF THE DUMP (.gsa) THAT YtmpbiclgfnjjeaaProg.lean LOADS. Nothing in Lean hashes anything: it is a label: what it is worth is what the hold of that sum in a sandbox is worth. -/
noncomputable def Try.pinned : Pinned := { name := "ytmpbiclgfnjjeaa", sum := "738a2b9980cbdf74aad18aa08d1a23e1ea8d5c92b96b423a0e96a50efa28a2d7", checked := Try.checked }
namespace Rows
def none {H : Type} : Left H := { results := [], args := [] }

/-- 'switchgearlaw07.HeatFlows': WHATEVER THE INPUT: true; the input reads as it did. -/
def heatFlowsSpec : ChangeSpec := { name := "heatFlows", fn := fun _ => fun
  | [d1, d2, d3, d4, d5] => { results := [.lit (.bool true)], args := [d1, d2, d3, d4, d5] }
  | _ => none }
def heatFlowsRow : OpenClaim := { program := "ytmpbiclgfnjjeaa", sum := "738a2b9980cbdf74aad18aa08d1a23e1ea8d5c92b96b423a0e96a50efa28a2d7", func := "switchgear/switchgearlaw07.HeatFlows", spec := "heatFlows", unfollowed := true, recurses := true, apart := false }
def HeatFlowsSaid : Prop := heatFlowsRow.holds Try.pinned (OpenSpec.ofChange heatFlowsSpec)

/-- ITS FALSE NEIGHBOUR: 'it returns false'. Refute it at one input. -/
def heatFlowsWrong : ChangeSpec := { name := "heatFlows", fn := fun _ => fun
  | [d1, d2, d3, d4, d5] => { results := [.lit (.bool false)], args := [d1, d2, d3, d4, d5] }
  | _ => none }
def HeatFlowsWrongFalsely : Prop := heatFlowsRow.holds Try.pinned (OpenSpec.ofChange heatFlowsWrong)

/-- 'switchgearlaw07.HeatBalance': WHATEVER THE INPUT: true; the input reads as it did. -/
def heatBalanceSpec : ChangeSpec := { name := "heatBalance", fn := fun _ => fun
  | [d1, d2, d3] => { results := [.lit (.bool true)], args := [d1, d2, d3] }
  | _ => none }
def heatBalanceRow : OpenClaim := { program := "ytmpbiclgfnjjeaa", sum := "738a2b9980cbdf74aad18aa08d1a23e1ea8d5c92b96b423a0e96a50efa28a2d7", func := "switchgear/switchgearlaw07.HeatBalance", spec := "heatBalance", unfollowed := true, recurses := true, apart := false }
def HeatBalanceSaid : Prop := heatBalanceRow.holds Try.pinned (OpenSpec.ofChange heatBalanceSpec)

/-- ITS FALSE NEIGHBOUR: 'it returns false'. Refute it at one input. -/
def heatBalanceWrong : ChangeSpec := { name := "heatBalance", fn := fun _ => fun
  | [d1, d2, d3] => { results := [.lit (.bool false)], args := [d1, d2, d3] }
  | _ => none }
def HeatBalanceWrongFalsely : Prop := heatBalanceRow.holds Try.pinned (OpenSpec.ofChange heatBalanceWrong)

/-- 'switchgearlaw07.HeatMonotone': WHATEVER THE INPUT: true; the input reads as it did. -/
def heatMonotoneSpec : ChangeSpec := { name := "heatMonotone", fn := fun _ => fun
  | [d1, d2, d3, d4, d5] => { results := [.lit (.bool true)], args := [d1, d2, d3, d4, d5] }
  | _ => none }
def heatMonotoneRow : OpenClaim := { program := "ytmpbiclgfnjjeaa", sum := "738a2b9980cbdf74aad18aa08d1a23e1ea8d5c92b96b423a0e96a50efa28a2d7", func := "switchgear/switchgearlaw07.HeatMonotone", spec := "heatMonotone", unfollowed := true, recurses := true, apart := false }
def HeatMonotoneSaid : Prop := heatMonotoneRow.holds Try.pinned (OpenSpec.ofChange heatMonotoneSpec)

/-- ITS FALSE NEIGHBOUR: 'it returns false'. Refute it at one input. -/
def heatMonotoneWrong : ChangeSpec := { name := "heatMonotone", fn := fun _ => fun
  | [d1, d2, d3, d4, d5] => { results := [.lit (.bool false)], args := [d1, d2, d3, d4, d5] }
  | _ => none }
def HeatMonotoneWrongFalsely : Prop := heatMonotoneRow.holds Try.pinned (OpenSpec.ofChange heatMonotoneWrong)

/-- 'switchgearlaw07.HeatHolds': WHATEVER THE INPUT: true; the input reads as it did. -/
def heatHoldsSpec : ChangeSpec := { name := "heatHolds", fn := fun _ => fun
  | [d1, d2, d3, d4, d5, d6, d7, d8] => { results := [.lit (.bool true)], args := [d1, d2, d3, d4, d5, d6, d7, d8] }
  | _ => none }
def heatHoldsRow : OpenClaim := { program := "ytmpbiclgfnjjeaa", sum := "738a2b9980cbdf74aad18aa08d1a23e1ea8d5c92b96b423a0e96a50efa28a2d7", func := "switchgear/switchgearlaw07.HeatHolds", spec := "heatHolds", unfollowed := true, recurses := true, apart := false }
def HeatHoldsSaid : Prop := heatHoldsRow.holds Try.pinned (OpenSpec.ofChange heatHoldsSpec)

/-- ITS FALSE NEIGHBOUR: 'it returns false'. Refute it at one input. -/
def heatHoldsWrong : ChangeSpec := { name := "heatHolds", fn := fun _ => fun
  | [d1, d2, d3, d4, d5, d6, d7, d8] => { results := [.lit (.bool false)], args := [d1, d2, d3, d4, d5, d6, d7, d8] }
  | _ => none }
def HeatHoldsWrongFalsely : Prop := heatHoldsRow.holds Try.pinned (OpenSpec.ofChange heatHoldsWrong)

/-- 'switchgearlaw07.HeatSmall': WHATEVER THE INPUT: true; the input reads as it did. -/
def heatSmallSpec : ChangeSpec := { name := "heatSmall", fn := fun _ => fun
  | [] => { results := [.lit (.bool true)], args := [] }
  | _ => none }
def heatSmallRow : OpenClaim := { program := "ytmpbiclgfnjjeaa", sum := "738a2b9980cbdf74aad18aa08d1a23e1ea8d5c92b96b423a0e96a50efa28a2d7", func := "switchgear/switchgearlaw07.HeatSmall", spec := "heatSmall", unfollowed := true, recurses := true, apart := false }
def HeatSmallSaid : Prop := heatSmallRow.holds Try.pinned (OpenSpec.ofChange heatSmallSpec)

/-- ITS FALSE NEIGHBOUR: 'it returns false'. Refute it at one input. -/
def heatSmallWrong : ChangeSpec := { name := "heatSmall", fn := fun _ => fun
  | [] => { results := [.lit (.bool false)], args := [] }
  | _ => none }
def HeatSmallWrongFalsely : Prop := heatSmallRow.holds Try.pinned (OpenSpec.ofChange heatSmallWrong)

/-- 'switchgearlaw07.HeatInside': WHATEVER THE INPUT: true; the input reads as it did. -/
def heatInsideSpec : ChangeSpec := { name := "heatInside", fn := fun _ => fun
  | [d1, d2, d3, d4, d5, d6, d7] => { results := [.lit (.bool true)], args := [d1, d2, d3, d4, d5, d6, d7] }
  | _ => none }
def heatInsideRow : OpenClaim := { program := "ytmpbiclgfnjjeaa", sum := "738a2b9980cbdf74aad18aa08d1a23e1ea8d5c92b96b423a0e96a50efa28a2d7", func := "switchgear/switchgearlaw07.HeatInside", spec := "heatInside", unfollowed := true, recurses := true, apart := false }
def HeatInsideSaid : Prop := heatInsideRow.holds Try.pinned (OpenSpec.ofChange heatInsideSpec)

/-- ITS FALSE NEIGHBOUR: 'it returns false'. Refute it at one input. -/
def heatInsideWrong : ChangeSpec := { name := "heatInside", fn := fun _ => fun
  | [d1, d2, d3, d4, d5, d6, d7] => { results := [.lit (.bool false)], args := [d1, d2, d3, d4, d5, d6, d7] }
  | _ => none }
def HeatInsideWrongFalsely : Prop := heatInsideRow.holds Try.pinned (OpenSpec.ofChange heatInsideWrong)

/- THE SECOND FORM. 'bulk': how many values and letters a reading holds, each counted each time it is reached (what is shared counts as often as it is met; a slice's spare places count too). A statement '..UptoSaid' is the law's where the arguments, and the package variables that the reading takes, are together of bulk at most 1048576: NARROWER than '..Said'. Prove '..Said' where nothing that the law and all that it calls make is longer than what came in: it says more and counts as full. Else prove '..UptoSaid'. A law counts once. -/
mutual
def uptoBulk {H : Type} : DataW H → Nat
  | .lit (.string bytes) => bytes.length + 1
  | .lit _ => 1
  | .nil => 1
  | .ptr d => uptoBulk d + 1
  | .slice elems spare => uptoBulkAll elems + uptoBulkAll spare + 1
  | .agg parts => uptoBulkAll parts + 1
  | .iface _ d => uptoBulk d + 1
  | .map entries => uptoBulkEntries entries + 1
  | .held _ => 1
def uptoBulkAll {H : Type} : List (DataW H) → Nat
  | [] => 0
  | d :: r => uptoBulk d + uptoBulkAll r
def uptoBulkEntries {H : Type} : List (Lit × DataW H) → Nat
  | [] => 0
  | x :: r => uptoBulkEntry x + uptoBulkEntries r
def uptoBulkEntry {H : Type} : Lit × DataW H → Nat
  | (.string bytes, d) => bytes.length + uptoBulk d + 1
  | (_, d) => uptoBulk d + 1
 end
def uptoSmall : (H : Type) → List (DataW H) → Bool := fun _ ds => decide (uptoBulkAll ds ≤ 1048576)
def OpenSpec.upto (s : _root_.Go.ChangeSpec) : _root_.Go.OpenSpec := { _root_.Go.OpenSpec.ofChange s with cond := some uptoSmall }

/-- 'switchgearlaw07.HeatFlows', WHERE WHAT IT READS IS OF BULK AT MOST 1048576: true; the input reads as it did. -/
def heatFlowsUptoRow : OpenClaim := { program := "ytmpbiclgfnjjeaa", sum := "738a2b9980cbdf74aad18aa08d1a23e1ea8d5c92b96b423a0e96a50efa28a2d7", func := "switchgear/switchgearlaw07.HeatFlows", spec := "heatFlows", unfollowed := true, recurses := true, apart := false, narrowed := true }
def HeatFlowsUptoSaid : Prop := heatFlowsUptoRow.holds Try.pinned (OpenSpec.upto heatFlowsSpec)

/-- 'switchgearlaw07.HeatBalance', WHERE WHAT IT READS IS OF BULK AT MOST 1048576: true; the input reads as it did. -/
def heatBalanceUptoRow : OpenClaim := { program := "ytmpbiclgfnjjeaa", sum := "738a2b9980cbdf74aad18aa08d1a23e1ea8d5c92b96b423a0e96a50efa28a2d7", func := "switchgear/switchgearlaw07.HeatBalance", spec := "heatBalance", unfollowed := true, recurses := true, apart := false, narrowed := true }
def HeatBalanceUptoSaid : Prop := heatBalanceUptoRow.holds Try.pinned (OpenSpec.upto heatBalanceSpec)

/-- 'switchgearlaw07.HeatMonotone', WHERE WHAT IT READS IS OF BULK AT MOST 1048576: true; the input reads as it did. -/
def heatMonotoneUptoRow : OpenClaim := { program := "ytmpbiclgfnjjeaa", sum := "738a2b9980cbdf74aad18aa08d1a23e1ea8d5c92b96b423a0e96a50efa28a2d7", func := "switchgear/switchgearlaw07.HeatMonotone", spec := "heatMonotone", unfollowed := true, recurses := true, apart := false, narrowed := true }
def HeatMonotoneUptoSaid : Prop := heatMonotoneUptoRow.holds Try.pinned (OpenSpec.upto heatMonotoneSpec)

/-- 'switchgearlaw07.HeatHolds', WHERE WHAT IT READS IS OF BULK AT MOST 1048576: true; the input reads as it did. -/
def heatHoldsUptoRow : OpenClaim := { program := "ytmpbiclgfnjjeaa", sum := "738a2b9980cbdf74aad18aa08d1a23e1ea8d5c92b96b423a0e96a50efa28a2d7", func := "switchgear/switchgearlaw07.HeatHolds", spec := "heatHolds", unfollowed := true, recurses := true, apart := false, narrowed := true }
def HeatHoldsUptoSaid : Prop := heatHoldsUptoRow.holds Try.pinned (OpenSpec.upto heatHoldsSpec)

/-- 'switchgearlaw07.HeatSmall', WHERE WHAT IT READS IS OF BULK AT MOST 1048576: true; the input reads as it did. -/
def heatSmallUptoRow : OpenClaim := { program := "ytmpbiclgfnjjeaa", sum := "738a2b9980cbdf74aad18aa08d1a23e1ea8d5c92b96b423a0e96a50efa28a2d7", func := "switchgear/switchgearlaw07.HeatSmall", spec := "heatSmall", unfollowed := true, recurses := true, apart := false, narrowed := true }
def HeatSmallUptoSaid : Prop := heatSmallUptoRow.holds Try.pinned (OpenSpec.upto heatSmallSpec)

/-- 'switchgearlaw07.HeatInside', WHERE WHAT IT READS IS OF BULK AT MOST 1048576: true; the input reads as it did. -/
def heatInsideUptoRow : OpenClaim := { program := "ytmpbiclgfnjjeaa", sum := "738a2b9980cbdf74aad18aa08d1a23e1ea8d5c92b96b423a0e96a50efa28a2d7", func := "switchgear/switchgearlaw07.HeatInside", spec := "heatInside", unfollowed := true, recurses := true, apart := false, narrowed := true }
def HeatInsideUptoSaid : Prop := heatInsideUptoRow.holds Try.pinned (OpenSpec.upto heatInsideSpec)

end Rows
end Go.Proofs.Ytmpbiclgfnjjeaa
