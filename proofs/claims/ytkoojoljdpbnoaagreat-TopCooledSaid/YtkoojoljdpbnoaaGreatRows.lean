/-
  No cell of these rows narrows 'for every input' (looked for: loops, veiled, ifaces, maps, wideKeys, modest, calm, conditions, laid).
  DERIVED. THE GIVEN ROWS OF THIS SEAT. 6 by the template 'for every input the law returns true; each argument reads behind the call as it read before'; 0 by the template 'total and deterministic' (their statements: YtkoojoljdpbnoaaGreatTotals.lean).
  GIVEN WITH THE SEED: the statements are not yours to turn. If you find one false, say at which input.
  Laid BY PROGRAM, IN A SANDBOX (cutbox-rows.mjs): the forced cells as the released guide's own fill.sh prints them over the translation 1e85457c943cb244… (all of the seat's roots in one cut). By AI agents, Wed Nov 11 2026. No macro, syntax, notation, axiom, sorry.
-/
import Derived.Test.YtkoojoljdpbnoaaGreatChecked
import GoSem.Claim
import GoSem.ClaimJoined
import GoSem.ClaimMapViews
import Derived.JoinedTies
import Derived.KernelRfl
namespace Go.Proofs.YtkoojoljdpbnoaaGreat
/- THE CELL 'sum', in the pinned program and in every row, IS THE sha256 OF THE DUMP (.gsa) THAT YtkoojoljdpbnoaaGreatProg.lean LOADS. Nothing in Lean hashes anything: it is a label: what it is worth is what the hold of that sum in a sandbox is worth. -/
noncomputable def Tryz.pinned : Pinned := { name := "ytkoojoljdpbnoaagreat", sum := "1e85457c943cb24497898c386d7f2f57f1158dfcbbe028b81a54aff842317619", checked := Tryz.checked }
namespace Rows
def none {H : Type} : Left H := { results := [], args := [] }

/-- 'switchgeartop.TopCooled': WHATEVER THE INPUT: true; the input reads as it did. -/
def topCooledSpec : ChangeSpec := { name := "topCooled", fn := fun _ => fun
  | [d1, d2, d3, d4] => { results := [.lit (.bool true)], args := [d1, d2, d3, d4] }
  | _ => none }
def topCooledRow : OpenClaim := { program := "ytkoojoljdpbnoaagreat", sum := "1e85457c943cb24497898c386d7f2f57f1158dfcbbe028b81a54aff842317619", func := "switchgear/switchgeartop.TopCooled", spec := "topCooled", unfollowed := true, recurses := true, plainKeys := false, apart := false }
def TopCooledSaid : Prop := topCooledRow.holds Tryz.pinned (OpenSpec.ofChange topCooledSpec)

/-- ITS FALSE NEIGHBOUR: 'it returns false'. Refute it at one input. -/
def topCooledWrong : ChangeSpec := { name := "topCooled", fn := fun _ => fun
  | [d1, d2, d3, d4] => { results := [.lit (.bool false)], args := [d1, d2, d3, d4] }
  | _ => none }
def TopCooledWrongFalsely : Prop := topCooledRow.holds Tryz.pinned (OpenSpec.ofChange topCooledWrong)

/-- 'switchgeartop.TopBoxed': WHATEVER THE INPUT: true; the input reads as it did. -/
def topBoxedSpec : ChangeSpec := { name := "topBoxed", fn := fun _ => fun
  | [d1, d2, d3, d4, d5, d6] => { results := [.lit (.bool true)], args := [d1, d2, d3, d4, d5, d6] }
  | _ => none }
def topBoxedRow : OpenClaim := { program := "ytkoojoljdpbnoaagreat", sum := "1e85457c943cb24497898c386d7f2f57f1158dfcbbe028b81a54aff842317619", func := "switchgear/switchgeartop.TopBoxed", spec := "topBoxed", unfollowed := true, recurses := true, plainKeys := false, apart := false }
def TopBoxedSaid : Prop := topBoxedRow.holds Tryz.pinned (OpenSpec.ofChange topBoxedSpec)

/-- ITS FALSE NEIGHBOUR: 'it returns false'. Refute it at one input. -/
def topBoxedWrong : ChangeSpec := { name := "topBoxed", fn := fun _ => fun
  | [d1, d2, d3, d4, d5, d6] => { results := [.lit (.bool false)], args := [d1, d2, d3, d4, d5, d6] }
  | _ => none }
def TopBoxedWrongFalsely : Prop := topBoxedRow.holds Tryz.pinned (OpenSpec.ofChange topBoxedWrong)

/-- 'switchgeartop.TopCapped': WHATEVER THE INPUT: true; the input reads as it did. -/
def topCappedSpec : ChangeSpec := { name := "topCapped", fn := fun _ => fun
  | [d1, d2, d3, d4] => { results := [.lit (.bool true)], args := [d1, d2, d3, d4] }
  | _ => none }
def topCappedRow : OpenClaim := { program := "ytkoojoljdpbnoaagreat", sum := "1e85457c943cb24497898c386d7f2f57f1158dfcbbe028b81a54aff842317619", func := "switchgear/switchgeartop.TopCapped", spec := "topCapped", unfollowed := true, recurses := true, plainKeys := false, apart := false }
def TopCappedSaid : Prop := topCappedRow.holds Tryz.pinned (OpenSpec.ofChange topCappedSpec)

/-- ITS FALSE NEIGHBOUR: 'it returns false'. Refute it at one input. -/
def topCappedWrong : ChangeSpec := { name := "topCapped", fn := fun _ => fun
  | [d1, d2, d3, d4] => { results := [.lit (.bool false)], args := [d1, d2, d3, d4] }
  | _ => none }
def TopCappedWrongFalsely : Prop := topCappedRow.holds Tryz.pinned (OpenSpec.ofChange topCappedWrong)

/-- 'switchgeartop.TopRides': WHATEVER THE INPUT: true; the input reads as it did. -/
def topRidesSpec : ChangeSpec := { name := "topRides", fn := fun _ => fun
  | [d1, d2, d3, d4, d5, d6, d7, d8, d9] => { results := [.lit (.bool true)], args := [d1, d2, d3, d4, d5, d6, d7, d8, d9] }
  | _ => none }
def topRidesRow : OpenClaim := { program := "ytkoojoljdpbnoaagreat", sum := "1e85457c943cb24497898c386d7f2f57f1158dfcbbe028b81a54aff842317619", func := "switchgear/switchgeartop.TopRides", spec := "topRides", unfollowed := true, recurses := true, plainKeys := false, apart := false }
def TopRidesSaid : Prop := topRidesRow.holds Tryz.pinned (OpenSpec.ofChange topRidesSpec)

/-- ITS FALSE NEIGHBOUR: 'it returns false'. Refute it at one input. -/
def topRidesWrong : ChangeSpec := { name := "topRides", fn := fun _ => fun
  | [d1, d2, d3, d4, d5, d6, d7, d8, d9] => { results := [.lit (.bool false)], args := [d1, d2, d3, d4, d5, d6, d7, d8, d9] }
  | _ => none }
def TopRidesWrongFalsely : Prop := topRidesRow.holds Tryz.pinned (OpenSpec.ofChange topRidesWrong)

/-- 'switchgeartop.TopNamed': WHATEVER THE INPUT: true; the input reads as it did. -/
def topNamedSpec : ChangeSpec := { name := "topNamed", fn := fun _ => fun
  | [d1, d2, d3] => { results := [.lit (.bool true)], args := [d1, d2, d3] }
  | _ => none }
def topNamedRow : OpenClaim := { program := "ytkoojoljdpbnoaagreat", sum := "1e85457c943cb24497898c386d7f2f57f1158dfcbbe028b81a54aff842317619", func := "switchgear/switchgeartop.TopNamed", spec := "topNamed", unfollowed := true, recurses := true, plainKeys := false, apart := false }
def TopNamedSaid : Prop := topNamedRow.holds Tryz.pinned (OpenSpec.ofChange topNamedSpec)

/-- ITS FALSE NEIGHBOUR: 'it returns false'. Refute it at one input. -/
def topNamedWrong : ChangeSpec := { name := "topNamed", fn := fun _ => fun
  | [d1, d2, d3] => { results := [.lit (.bool false)], args := [d1, d2, d3] }
  | _ => none }
def TopNamedWrongFalsely : Prop := topNamedRow.holds Tryz.pinned (OpenSpec.ofChange topNamedWrong)

/-- 'switchgeartop.TopBilled': WHATEVER THE INPUT: true; the input reads as it did. -/
def topBilledSpec : ChangeSpec := { name := "topBilled", fn := fun _ => fun
  | [d1, d2] => { results := [.lit (.bool true)], args := [d1, d2] }
  | _ => none }
def topBilledRow : OpenClaim := { program := "ytkoojoljdpbnoaagreat", sum := "1e85457c943cb24497898c386d7f2f57f1158dfcbbe028b81a54aff842317619", func := "switchgear/switchgeartop.TopBilled", spec := "topBilled", unfollowed := true, recurses := true, plainKeys := false, apart := false }
def TopBilledSaid : Prop := topBilledRow.holds Tryz.pinned (OpenSpec.ofChange topBilledSpec)

/-- ITS FALSE NEIGHBOUR: 'it returns false'. Refute it at one input. -/
def topBilledWrong : ChangeSpec := { name := "topBilled", fn := fun _ => fun
  | [d1, d2] => { results := [.lit (.bool false)], args := [d1, d2] }
  | _ => none }
def TopBilledWrongFalsely : Prop := topBilledRow.holds Tryz.pinned (OpenSpec.ofChange topBilledWrong)

/- THE SECOND FORM. 'bulk': how many values and letters a reading holds, each counted each time it is reached (what is shared counts as often as it is met; a slice's spare places count too). A statement '..UptoSaid' is the law's where the arguments, and the package variables that the reading takes, are together of bulk at most 1048576: NARROWER than '..Said'. Prove '..Said' where nothing that the law and all that it calls make is longer than what came in: it says more and counts as full. Else prove '..UptoSaid'. A law counts once. -/
mutual
def uptoBulk {H : Type} : DataW H → Nat
  | .lit (.string bytes) => bytes.length + 1
  | .lit _ => 1
  | .nil => 1
  | .ptr d => uptoBulk d + 1
  | .slice elems spare => uptoBulkAll elems + uptoBulkAll spare + 1
  | .agg parts => uptoBulkAll parts + 1
  | .iface _ d => uptoBulk d + 1
  | .map entries => uptoBulkEntries entries + 1
  | .held _ => 1
def uptoBulkAll {H : Type} : List (DataW H) → Nat
  | [] => 0
  | d :: r => uptoBulk d + uptoBulkAll r
def uptoBulkEntries {H : Type} : List (Lit × DataW H) → Nat
  | [] => 0
  | x :: r => uptoBulkEntry x + uptoBulkEntries r
def uptoBulkEntry {H : Type} : Lit × DataW H → Nat
  | (.string bytes, d) => bytes.length + uptoBulk d + 1
  | (_, d) => uptoBulk d + 1
 end
def uptoSmall : (H : Type) → List (DataW H) → Bool := fun _ ds => decide (uptoBulkAll ds ≤ 1048576)
def OpenSpec.upto (s : _root_.Go.ChangeSpec) : _root_.Go.OpenSpec := { _root_.Go.OpenSpec.ofChange s with cond := some uptoSmall }

/-- 'switchgeartop.TopCooled', WHERE WHAT IT READS IS OF BULK AT MOST 1048576: true; the input reads as it did. -/
def topCooledUptoRow : OpenClaim := { program := "ytkoojoljdpbnoaagreat", sum := "1e85457c943cb24497898c386d7f2f57f1158dfcbbe028b81a54aff842317619", func := "switchgear/switchgeartop.TopCooled", spec := "topCooled", unfollowed := true, recurses := true, plainKeys := false, apart := false, narrowed := true }
def TopCooledUptoSaid : Prop := topCooledUptoRow.holds Tryz.pinned (OpenSpec.upto topCooledSpec)

/-- 'switchgeartop.TopBoxed', WHERE WHAT IT READS IS OF BULK AT MOST 1048576: true; the input reads as it did. -/
def topBoxedUptoRow : OpenClaim := { program := "ytkoojoljdpbnoaagreat", sum := "1e85457c943cb24497898c386d7f2f57f1158dfcbbe028b81a54aff842317619", func := "switchgear/switchgeartop.TopBoxed", spec := "topBoxed", unfollowed := true, recurses := true, plainKeys := false, apart := false, narrowed := true }
def TopBoxedUptoSaid : Prop := topBoxedUptoRow.holds Tryz.pinned (OpenSpec.upto topBoxedSpec)

/-- 'switchgeartop.TopCapped', WHERE WHAT IT READS IS OF BULK AT MOST 1048576: true; the input reads as it did. -/
def topCappedUptoRow : OpenClaim := { program := "ytkoojoljdpbnoaagreat", sum := "1e85457c943cb24497898c386d7f2f57f1158dfcbbe028b81a54aff842317619", func := "switchgear/switchgeartop.TopCapped", spec := "topCapped", unfollowed := true, recurses := true, plainKeys := false, apart := false, narrowed := true }
def TopCappedUptoSaid : Prop := topCappedUptoRow.holds Tryz.pinned (OpenSpec.upto topCappedSpec)

/-- 'switchgeartop.TopRides', WHERE WHAT IT READS IS OF BULK AT MOST 1048576: true; the input reads as it did. -/
def topRidesUptoRow : OpenClaim := { program := "ytkoojoljdpbnoaagreat", sum := "1e85457c943cb24497898c386d7f2f57f1158dfcbbe028b81a54aff842317619", func := "switchgear/switchgeartop.TopRides", spec := "topRides", unfollowed := true, recurses := true, plainKeys := false, apart := false, narrowed := true }
def TopRidesUptoSaid : Prop := topRidesUptoRow.holds Tryz.pinned (OpenSpec.upto topRidesSpec)

/-- 'switchgeartop.TopNamed', WHERE WHAT IT READS IS OF BULK AT MOST 1048576: true; the input reads as it did. -/
def topNamedUptoRow : OpenClaim := { program := "ytkoojoljdpbnoaagreat", sum := "1e85457c943cb24497898c386d7f2f57f1158dfcbbe028b81a54aff842317619", func := "switchgear/switchgeartop.TopNamed", spec := "topNamed", unfollowed := true, recurses := true, plainKeys := false, apart := false, narrowed := true }
def TopNamedUptoSaid : Prop := topNamedUptoRow.holds Tryz.pinned (OpenSpec.upto topNamedSpec)

/-- 'switchgeartop.TopBilled', WHERE WHAT IT READS IS OF BULK AT MOST 1048576: true; the input reads as it did. -/
def topBilledUptoRow : OpenClaim := { program := "ytkoojoljdpbnoaagreat", sum := "1e85457c943cb24497898c386d7f2f57f1158dfcbbe028b81a54aff842317619", func := "switchgear/switchgeartop.TopBilled", spec := "topBilled", unfollowed := true, recurses := true, plainKeys := false, apart := false, narrowed := true }
def TopBilledUptoSaid : Prop := topBilledUptoRow.holds Tryz.pinned (OpenSpec.upto topBilledSpec)

end Rows
end Go.Proofs.YtkoojoljdpbnoaaGreat
